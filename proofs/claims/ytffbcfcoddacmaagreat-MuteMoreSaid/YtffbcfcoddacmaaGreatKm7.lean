/- What the claim stands on, part 7. Of own lemmas only those that it reaches. -/
import Derived.Test.YtffbcfcoddacmaaGreatKm6
set_option linter.unusedVariables false
set_option linter.unusedSimpArgs false
set_option maxHeartbeats 2000000
set_option maxRecDepth 100000
namespace Go.Proofs.YtffbcfcoddacmaaGreat
open Go Go.X Go.Rex
structure Sil where
  id : Int
  ver : Int
  start : Int
  stop : Int
  mv : Value
  ms : List Mt
  bd : Bd
def silC (s : Sil) : List Value := [.int .i64 s.id, .int .i64 s.ver, .int .u64 s.start, .int .u64 s.stop, s.mv, .bool s.bd.all, .float .f64 s.bd.lo, .float .f64 s.bd.hi]
theorem silC_len (s : Sil) : (silC s).length = 8 := rfl
theorem silC_one {M : Nat → Prop} {w : World} {s : Sil} (h : SlM M w s.mv s.ms) : ((Value.agg (silC s).toArray).cells.toList.all fun x => x.oneCell') = true := by
  obtain ⟨ad, c, e⟩ := h.shape
  show (silC s).all _ = true
  unfold silC
  rw [e]; rfl
theorem ruC_one {M : Nat → Prop} {w : World} {r : Ru} (h : r.Ok M w) : ((Value.agg (ruC r).toArray).cells.toList.all fun x => x.oneCell') = true := by
  obtain ⟨ad, c, e⟩ := h.s.shape
  obtain ⟨ad2, c2, e2⟩ := h.t.shape
  obtain ⟨ad3, c3, e3⟩ := h.e.shape
  show (ruC r).all _ = true
  unfold ruC
  rw [e, e2, e3]; rfl
theorem alC_one {M : Nat → Prop} {w : World} {a : Al} (h : AlOk M w a) : ((Value.agg (alC a).toArray).cells.toList.all fun x => x.oneCell') = true := by
  obtain ⟨ad, c, e⟩ := h.l.shape
  show (alC a).all _ = true
  unfold alC
  rw [e]; rfl
noncomputable def silHolds (now : Int) (t : Al) (s : Sil) : Bool := decide (stateS now s.start s.stop = 2) && ((s.ms.all fun m => holdsM m t.ls) && inBd s.bd t.val)
noncomputable def silS (now : Int) (t : Al) (l : List Sil) : List Int := (l.filter (silHolds now t)).map (·.id)
theorem silS_snoc {l : List Sil} {k : Nat} {s : Sil} (h : l[k]? = some s) (now : Int) (t : Al) : silS now t (l.take (k + 1)) = silS now t (l.take k) ++ (if silHolds now t s = true then [s.id] else []) := by
  have hk := (List.getElem?_eq_some_iff.1 h).1
  unfold silS
  rw [List.take_succ_eq_append_getElem hk, (List.getElem?_eq_some_iff.1 h).2, List.filter_append, List.map_append]
  by_cases e : silHolds now t s = true <;> simp [e]
theorem silS_len (now : Int) (t : Al) (l : List Sil) : (silS now t l).length ≤ l.length := by unfold silS; rw [List.length_map]; exact List.length_filter_le _ _
noncomputable def mutOf (r : Ru) (t : Al) (l : List Al) : List Int := (l.filter fun s => mutesS r s t).map (·.id)
theorem mutOf_snoc {l : List Al} {k : Nat} {s : Al} (h : l[k]? = some s) (r : Ru) (t : Al) : mutOf r t (l.take (k + 1)) = mutOf r t (l.take k) ++ (if mutesS r s t = true then [s.id] else []) := by
  have hk := (List.getElem?_eq_some_iff.1 h).1
  unfold mutOf
  rw [List.take_succ_eq_append_getElem hk, (List.getElem?_eq_some_iff.1 h).2, List.filter_append, List.map_append]
  by_cases e : mutesS r s t = true <;> simp [e]
theorem mutOf_len (r : Ru) (t : Al) (l : List Al) : (mutOf r t l).length ≤ l.length := by unfold mutOf; rw [List.length_map]; exact List.length_filter_le _ _
noncomputable def mutS (t : Al) (l : List Al) (rs : List Ru) : List Int := rs.flatMap fun r => mutOf r t l
theorem mutS_snoc {rs : List Ru} {k : Nat} {r : Ru} (h : rs[k]? = some r) (t : Al) (l : List Al) : mutS t l (rs.take (k + 1)) = mutS t l (rs.take k) ++ mutOf r t l := by
  have hk := (List.getElem?_eq_some_iff.1 h).1
  unfold mutS
  rw [List.take_succ_eq_append_getElem hk, (List.getElem?_eq_some_iff.1 h).2, List.flatMap_append]
  simp
theorem mutS_len (t : Al) (l : List Al) : ∀ rs : List Ru, (mutS t l rs).length ≤ rs.length * l.length
  | [] => by simp [mutS]
  | r :: rs => by
    have h1 := mutS_len t l rs
    have h2 := mutOf_len r t l
    unfold mutS at h1 ⊢
    rw [List.flatMap_cons, List.length_append, List.length_cons, Nat.add_mul]
    omega
structure PlainIn (w : World) (t : Al) (sils : List Sil) (vs : Value) (als : List Al) (va : Value) (rs : List Ru) (vr : Value) : Prop where
  t : AlOk No w t
  s : Sl No w vs 8 sils.length (sils.flatMap silC)
  sm : ∀ s ∈ sils, SlM No w s.mv s.ms
  a : Sl No w va 3 als.length (als.flatMap alC)
  al : ∀ a ∈ als, AlOk No w a
  r : Sl No w vr 6 rs.length (rs.flatMap ruC)
  rl : ∀ r ∈ rs, r.Ok No w
  n1 : sils.length ≤ 1000
  n2 : als.length ≤ 1000
  n3 : rs.length ≤ 1000
theorem PlainIn.mod {w w' : World} {t : Al} {sils : List Sil} {vs : Value} {als : List Al} {va : Value} {rs : List Ru} {vr : Value} (h : PlainIn w t sils vs als va rs vr) (hg : Grow w w') : PlainIn w' t sils vs als va rs vr :=
  ⟨h.t.mod hg, h.s.mod hg, fun s hs => (h.sm s hs).mod hg, h.a.mod hg, fun a ha => (h.al a ha).mod hg, h.r.mod hg, fun r hr => (h.rl r hr).mod hg, h.n1, h.n2, h.n3⟩
theorem plainX_ok (now : Int) (t : Al) (sils : List Sil) (vs : Value) (als : List Al) (va : Value) (rs : List Ru) (vr : Value) (w : World) (h : PlainIn w t sils vs als va rs vr) :
    Fx Tryz.prog 55 [.int .u64 now, .agg (alC t).toArray, vs, va, vr] w (fun u w' => ∃ v1 v2, u = .tuple #[v1, v2] ∧ Row w' 3 1 v1 (mkRow (silS now t sils)).length (ints (mkRow (silS now t sils))) ∧ Row w' 3 1 v2 (mkRow (mutS t als rs)).length (ints (mkRow (mutS t als rs))) ∧ (Fresh w.heap.size v1 ∧ Fresh w.heap.size v2) ∧ Grow w w') := by
  obtain ⟨ads, cs, rfl⟩ := h.s.shape
  obtain ⟨ada, ca, rfl⟩ := h.a.shape
  obtain ⟨adr, cr, rfl⟩ := h.r.shape
  obtain ⟨adt, ct, htv⟩ := h.t.l.shape
  have hn1 := h.n1
  have hn2 := h.n2
  have hn3 := h.n3
  refine enter Tryz.func55 rfl rfl rfl _ (Pick.sub (l := [0, 1, 2, 3, 4]) (.cons rfl (.cons rfl (.cons rfl (.cons rfl (.cons rfl .nil)))))) ?_
  refine RK.seq ?_
  refine RK.region ?_
  refine RL.op (.free rfl) rfl rfl (Does.box rfl) ?_
  rintro _ w6 ⟨b6, rfl, hn6⟩
  have hB6 : Blk w6 b6 32 [.int .i64 t.id, t.v, .float .f64 t.val] := hn6.blk
  iterate 2 refine RL.p rfl rfl ?_
  refine RL.done ?_
  refine RK.seq ?_
  refine RK.region ?_
  iterate 2 refine RL.p rfl rfl ?_
  refine RL.done ?_
  iterate 2 refine RK.seq ?_
  refine RK.region ?_
  refine RL.p rfl rfl ?_
  refine RL.q (.free rfl) rfl rfl (Yld.lenSl u96 rfl) ?_
  refine RL.p rfl rfl ?_
  refine RL.done ?_
  refine RK.block ?_
  refine RK.loop (fun s : Nat × Value => [(0, .int .u64 now), (3, .slice ada als.length ca), (4, .slice adr rs.length cr), (6, pp b6), (12, s.2), (13, .slice none 0 0), (20, .slice ads sils.length cs), (21, .int .i64 (sils.length : Int)), (22, .int .i64 (s.1 : Int))]) (fun s w' => Row w' 3 1 s.2 (silS now t (sils.take s.1)).length (ints (silS now t (sils.take s.1))) ∧ Fresh w6.heap.size s.2 ∧ Grow w6 w' ∧ s.1 ≤ sils.length) (fun s => sils.length - s.1) (0, .slice none 0 0) ⟨rfl, rfl, rfl, rfl, rfl, rfl, rfl, rfl, rfl, trivial⟩ ⟨by simpa [silS] using Row.nil _ _ _, fun b e => by simp [Value.ownBlock] at e, Mod.refl _ _, by simp⟩ (fun s w' hI ih => ?_)
  obtain ⟨k, u⟩ := s
  obtain ⟨hr, hf, hg, hk⟩ := hI
  simp only at hr hf hk
  refine RK.seq ?_
  refine RK.region ?_
  refine RL.p rfl rfl ?_
  refine RL.done ?_
  refine RK.seq ?_
  first | refine RK.condD rfl (fun h23 => ?_) (fun h23 => ?_) | refine RK.condN rfl (fun h23 => ?_) (fun h23 => ?_) | refine RK.cond rfl (fun h23 => ?_) (fun h23 => ?_)
  · obtain ⟨s, hs⟩ : ∃ s, sils[k]? = some s := ⟨sils[k]'(by omega), List.getElem?_eq_getElem (by omega)⟩
    have h1 := h.mod (hn6.grow.trans hg)
    obtain ⟨b1, o1, c1', he1, _, _, hc1⟩ := h1.s.elem silC_len hs
    cases he1
    have hsm := h1.sm s (List.mem_of_getElem? hs)
    have hsn := silS_snoc hs now t
    have hsl := silS_len now t (sils.take k)
    have hsl2 : (sils.take k).length ≤ k := by simp; omega
    refine RK.skip ?_
    refine RK.seq ?_
    refine RK.block ?_
    refine RK.seq ?_
    refine RK.region ?_
    refine RL.q (.free rfl) rfl rfl (Yld.indexAddrN u96 i95 rfl rfl (by omega)) ?_
    refine RL.q (.free rfl) rfl rfl (Yld.loadN (cs := silC s) a95 rfl (atN (fun q z hq => hc1 q z hq))) ?_
    refine RL.op (.free rfl) rfl rfl (Does.alloc i95) ?_
    rintro _ w1 ⟨b15, rfl, hn15⟩
    refine RL.op' (.free rfl) rfl (Does.storeN i95 rfl rfl rfl (silC_one hsm) hn15.blk (Nat.le_refl 8)) ?_
    rintro _ w2 ⟨hb2, hm2, _⟩
    have hg2' : Grow w' w2 := hn15.grow.then hm2 (fun y hy e => by have e' : y = b15 := e; have := hn15.at_; omega)
    have hg2 := hg.trans hg2'
    have hB2 : Blk w2 b15 95 [.int .i64 s.id, .int .i64 s.ver, .int .u64 s.start, .int .u64 s.stop, s.mv, .bool s.bd.all, .float .f64 s.bd.lo, .float .f64 s.bd.hi] := hb2
    have hB6b := hB6.mod hg2 (fun h => h)
    refine RL.done ?_
    refine RK.seq ?_
    refine RK.region ?_
    refine RL.p rfl rfl ?_
    refine RL.q (.free rfl) rfl rfl (Yld.fieldAddr fo95_2 rfl) ?_
    refine RL.q (.free rfl) rfl rfl (Yld.load p36 rfl (at1 (hB2.cell rfl))) ?_
    refine RL.q (.free rfl) rfl rfl (Yld.fieldAddr fo95_3 rfl) ?_
    refine RL.q (.free rfl) rfl rfl (Yld.load p36 rfl (at1 (hB2.cell rfl))) ?_
    refine RL.op (.free rfl) rfl rfl (Does.call rfl e109 (state_ok now s.start s.stop _)) ?_
    rintro _ _ ⟨rfl, rfl⟩
    iterate 2 refine RL.p rfl rfl ?_
    first | refine RL.splitD (d := 33) rfl rfl (fun h32 => ?_) (fun h32 => ?_) | refine RL.splitN (d := 33) rfl rfl (fun h32 => ?_) (fun h32 => ?_) | refine RL.split (d := 33) rfl rfl (fun h32 => ?_) (fun h32 => ?_)
    · refine RL.q (.yes rfl rfl rfl) rfl rfl (Yld.fieldAddr fo95_4 rfl) ?_
      refine RL.q (.yes rfl rfl rfl) rfl rfl (Yld.load p51 rfl (at1 (hB2.cell rfl))) ?_
      refine RL.q (.yes rfl rfl rfl) rfl rfl (Yld.fieldAddr fo32_1 rfl) ?_
      refine RL.q (.yes rfl rfl rfl) rfl rfl (Yld.load p26 rfl (at1 (hB6b.cell rfl))) ?_
      refine RL.op (.yes rfl rfl rfl) rfl rfl (Does.call rfl e90 (allM_ok holdsM s.ms (fun m _ => matchHolds_ok m) No No t.ls h.t.z _ _ _ (hsm.mod hg2') (h.t.l.mod (hn6.grow.trans hg2)))) ?_
      rintro _ w3 ⟨rfl, hg3⟩
      have hg23 := hg2.trans hg3
      have hB3 := hB2.mod hg3 (fun h => h)
      have hB6c := hB6b.mod hg3 (fun h => h)
      iterate 2 refine RL.p rfl rfl ?_
      first | refine RL.splitD (d := 40) rfl rfl (fun h39 => ?_) (fun h39 => ?_) | refine RL.splitN (d := 40) rfl rfl (fun h39 => ?_) (fun h39 => ?_) | refine RL.split (d := 40) rfl rfl (fun h39 => ?_) (fun h39 => ?_)
      · refine RL.q (.yes rfl rfl rfl) rfl rfl (Yld.fieldAddr fo95_5 rfl) ?_
        refine RL.q (.yes rfl rfl rfl) rfl rfl (Yld.loadN (cs := bdC s.bd) a86 rfl (atN (fldN hB3 5 3))) ?_
        refine RL.q (.yes rfl rfl rfl) rfl rfl (Yld.fieldAddr fo32_2 rfl) ?_
        refine RL.q (.yes rfl rfl rfl) rfl rfl (Yld.load p23 rfl (at1 (hB6c.cell rfl))) ?_
        refine RL.op (.yes rfl rfl rfl) rfl rfl (Does.call rfl e110 (in_band_ok s.bd t.val _)) ?_
        rintro _ w4 ⟨rfl, hg4⟩
        have hg24 := hg23.trans hg4
        have hr4 := hr.mod ((hg2'.trans hg3).trans hg4) (fun _ _ h => h)
        refine RL.p rfl rfl ?_
        refine RL.done ?_
        first | refine RK.condD rfl (fun h46 => ?_) (fun h46 => ?_) | refine RK.condN rfl (fun h46 => ?_) (fun h46 => ?_) | refine RK.cond rfl (fun h46 => ?_) (fun h46 => ?_)
        · have hyes : silHolds now t s = true := by unfold silHolds; rw [decide_eq_true h32, h39, h46]; rfl
          refine RK.region ?_
          refine RL.p rfl rfl ?_
          refine RL.q (.free rfl) rfl rfl (Yld.fieldAddr fo95_0 rfl) ?_
          refine RL.q (.free rfl) rfl rfl (Yld.load p3 rfl (at1 ((hB3.mod hg4 (fun h => h)).cell rfl))) ?_
          refine RL.op (.free rfl) rfl rfl (Does.slice1 u22 i3 rfl rfl rfl rfl rfl) ?_
          rintro _ w5 ⟨b7, rfl, hn7⟩
          refine RL.op (.free rfl) rfl rfl (Does.append u22 i3 rfl rfl rfl rfl rfl (hr4.mod hn7.grow (fun _ _ h => h)) (Sl.new hn7 1 1 rfl (by omega) (fun h => h)) (rfl) (by omega)) ?_
          rintro z8 w8 ⟨hr8, hm8, hu8⟩
          have hs7 := hn7.grow.size
          have hs4 := hg24.size
          refine RL.p rfl rfl ?_
          refine RL.done ?_
          refine RK.inBlock ?_
          refine RK.region ?_
          refine RL.p rfl rfl ?_
          refine RL.re (d := 52) rfl rfl (succ_i64 (by omega)) ?_
          refine RL.p rfl rfl ?_
          refine RL.done ?_
          exact RK.back (ih (k + 1, z8) _ ⟨by
              simp only
              rw [hsn, if_pos hyes]
              have e1 : ints (silS now t (sils.take k) ++ [s.id]) = ints (silS now t (sils.take k)) ++ (Value.int .i64 s.id).cells.toList := by simp [ints, Value.cells]
              rw [e1, List.length_append]; exact hr8, fun b e => by
              rcases hu8 with h1 | h1
              · exact hf b (h1 ▸ e)
              · rw [h1] at e; cases e; omega, (hg24.trans hn7.grow).then hm8 (fun b hb e => by have := hf b e; omega), by simp only; omega⟩ (by simp only; omega)) ⟨rfl, rfl, rfl, rfl, rfl, rfl, rfl, rfl, rfl, trivial⟩
        · have hnos : silHolds now t s = false := by unfold silHolds; rw [decide_eq_true h32, h39, show inBd s.bd t.val = false by simpa using h46]; rfl
          refine RK.skip ?_
          refine RK.inBlock ?_
          refine RK.region ?_
          refine RL.p rfl rfl ?_
          refine RL.re (d := 52) rfl rfl (succ_i64 (by omega)) ?_
          refine RL.p rfl rfl ?_
          refine RL.done ?_
          exact RK.back (ih (k + 1, u) _ ⟨by simp only; rw [hsn, if_neg (by simp [hnos]), List.append_nil]; exact hr4, hf, hg24, by simp only; omega⟩ (by simp only; omega)) ⟨rfl, rfl, rfl, rfl, rfl, rfl, rfl, rfl, rfl, trivial⟩
      · have hnos : silHolds now t s = false := by unfold silHolds; rw [show (s.ms.all fun m => holdsM m t.ls) = false by simpa only [Bool.not_eq_true] using h39]; simp
        iterate 5 refine RL.no (.no rfl rfl rfl rfl) rfl rfl ?_
        refine RL.p rfl rfl ?_
        refine RL.done ?_
        refine RK.condF rfl ?_
        refine RK.skip ?_
        refine RK.inBlock ?_
        refine RK.region ?_
        refine RL.p rfl rfl ?_
        refine RL.re (d := 52) rfl rfl (succ_i64 (by omega)) ?_
        refine RL.p rfl rfl ?_
        refine RL.done ?_
        exact RK.back (ih (k + 1, u) _ ⟨by simp only; rw [hsn, if_neg (by simp [hnos]), List.append_nil]; exact hr.mod (hg2'.trans hg3) (fun _ _ h => h), hf, hg23, by simp only; omega⟩ (by simp only; omega)) ⟨rfl, rfl, rfl, rfl, rfl, rfl, rfl, rfl, rfl, trivial⟩
    · have hnos : silHolds now t s = false := by unfold silHolds; rw [decide_eq_false h32]; rfl
      iterate 5 refine RL.no (.no rfl rfl rfl rfl) rfl rfl ?_
      iterate 2 refine RL.p rfl rfl ?_
      iterate 5 refine RL.no (.no rfl rfl rfl rfl) rfl rfl ?_
      refine RL.p rfl rfl ?_
      refine RL.done ?_
      refine RK.condF rfl ?_
      refine RK.skip ?_
      refine RK.inBlock ?_
      refine RK.region ?_
      refine RL.p rfl rfl ?_
      refine RL.re (d := 52) rfl rfl (succ_i64 (by omega)) ?_
      refine RL.p rfl rfl ?_
      refine RL.done ?_
      exact RK.back (ih (k + 1, u) _ ⟨by simp only; rw [hsn, if_neg (by simp [hnos]), List.append_nil]; exact hr.mod hg2' (fun _ _ h => h), hf, hg2, by simp only; omega⟩ (by simp only; omega)) ⟨rfl, rfl, rfl, rfl, rfl, rfl, rfl, rfl, rfl, trivial⟩
  · have ek : sils.take k = sils := List.take_of_length_le (by omega)
    rw [ek] at hr
    clear ih
    generalize hS : silS now t sils = S at *
    have hSl : S.length ≤ 1000 := by have := silS_len now t sils; rw [hS] at this; omega
    refine RK.exit rfl ?_
    iterate 2 refine RK.seq ?_
    refine RK.region ?_
    refine RL.p rfl rfl ?_
    refine RL.q (.free rfl) rfl rfl (Yld.lenSl u91 rfl) ?_
    refine RL.p rfl rfl ?_
    refine RL.done ?_
    refine RK.block ?_
    refine RK.loop (fun s : Nat × Value => [(3, .slice ada als.length ca), (4, .slice adr rs.length cr), (6, pp b6), (12, u), (13, s.2), (53, .slice adr rs.length cr), (54, .int .i64 (rs.length : Int)), (55, .int .i64 (s.1 : Int))]) (fun s w2 => Row w2 3 1 s.2 (mutS t als (rs.take s.1)).length (ints (mutS t als (rs.take s.1))) ∧ Fresh w'.heap.size s.2 ∧ Grow w' w2 ∧ s.1 ≤ rs.length) (fun s => rs.length - s.1) (0, .slice none 0 0) ⟨rfl, rfl, rfl, rfl, rfl, rfl, rfl, rfl, trivial⟩ ⟨by simpa [mutS] using Row.nil _ _ _, fun b e => by simp [Value.ownBlock] at e, Mod.refl _ _, by simp⟩ (fun s w2 hI ih => ?_)
    obtain ⟨k2, u2⟩ := s
    obtain ⟨hr2, hf2, hg2, hk2⟩ := hI
    simp only at hr2 hf2 hk2
    refine RK.seq ?_
    refine RK.region ?_
    refine RL.p rfl rfl ?_
    refine RL.done ?_
    refine RK.seq ?_
    first | refine RK.condD rfl (fun h56 => ?_) (fun h56 => ?_) | refine RK.condN rfl (fun h56 => ?_) (fun h56 => ?_) | refine RK.cond rfl (fun h56 => ?_) (fun h56 => ?_)
    · obtain ⟨r, hrk⟩ : ∃ r, rs[k2]? = some r := ⟨rs[k2]'(by omega), List.getElem?_eq_getElem (by omega)⟩
      have h1 := h.mod ((hn6.grow.trans hg).trans hg2)
      obtain ⟨b1, o1, c1', he1, _, _, hc1⟩ := h1.r.elem ruC_len hrk
      cases he1
      have hro := h1.rl r (List.mem_of_getElem? hrk)
      have hsn := mutS_snoc hrk t als
      have hsl := mutS_len t als (rs.take k2)
      have hsl1 : (rs.take k2).length ≤ 1000 := by simp; omega
      have hsl2 : (mutS t als (rs.take k2)).length ≤ 1000000 := Nat.le_trans hsl (Nat.mul_le_mul hsl1 hn2)
      refine RK.skip ?_
      refine RK.seq ?_
      refine RK.block ?_
      refine RK.seq ?_
      refine RK.region ?_
      refine RL.q (.free rfl) rfl rfl (Yld.indexAddrN u91 i89 rfl rfl (by omega)) ?_
      refine RL.q (.free rfl) rfl rfl (Yld.loadN (cs := ruC r) a89 rfl (atN (fun q z hq => hc1 q z hq))) ?_
      refine RL.op (.free rfl) rfl rfl (Does.alloc i89) ?_
      rintro _ w3 ⟨b17, rfl, hn17⟩
      refine RL.op' (.free rfl) rfl (Does.storeN i89 rfl rfl rfl (ruC_one hro) hn17.blk (Nat.le_refl 6)) ?_
      rintro _ w4 ⟨hb4, hm4, _⟩
      have hg24 : Grow w2 w4 := hn17.grow.then hm4 (fun y hy e => by have e' : y = b17 := e; have := hn17.at_; omega)
      have hg4 := hg2.trans hg24
      have hro4 := hro.mod hg24
      have hr4 := hr2.mod hg24 (fun _ _ h => h)
      refine RL.done ?_
      refine RK.seq ?_
      refine RK.region ?_
      refine RL.p rfl rfl ?_
      refine RL.q (.free rfl) rfl rfl (Yld.lenSl u58 rfl) ?_
      refine RL.p rfl rfl ?_
      refine RL.done ?_
      refine RK.block ?_
      refine RK.loop (fun s : Nat × Value => [(3, .slice ada als.length ca), (4, .slice (some ⟨b1, o1, none⟩) rs.length cr), (6, pp b6), (12, u), (13, s.2), (17, pp b17), (53, .slice (some ⟨b1, o1, none⟩) rs.length cr), (54, .int .i64 (rs.length : Int)), (55, .int .i64 (k2 : Int)), (59, .slice ada als.length ca), (60, .int .i64 (als.length : Int)), (61, .int .i64 (s.1 : Int))]) (fun s w5 => Row w5 3 1 s.2 (mutS t als (rs.take k2) ++ mutOf r t (als.take s.1)).length (ints (mutS t als (rs.take k2) ++ mutOf r t (als.take s.1))) ∧ Fresh w'.heap.size s.2 ∧ Grow w' w5 ∧ s.1 ≤ als.length ∧ Blk w5 b17 89 (ruC r) ∧ (∀ b, s.2.ownBlock = some b → b ≠ b17) ∧ w4.heap.size ≤ w5.heap.size) (fun s => als.length - s.1) (0, u2) ⟨rfl, rfl, rfl, rfl, rfl, rfl, rfl, rfl, rfl, rfl, rfl, rfl, trivial⟩ ⟨by simpa [mutOf] using hr4, hf2, hg4, by simp, hb4, fun b hb => by have h8 := hr2.lt hb; have := hn17.at_; omega, Nat.le_refl _⟩ (fun s w5 hI3 ih3 => ?_)
      obtain ⟨j, u5⟩ := s
      obtain ⟨hr5, hf5, hg5, hj, hb5, hu17, hsz5⟩ := hI3
      simp only at hr5 hf5 hj hu17
      have hb17 := hb4.lt
      refine RK.seq ?_
      refine RK.region ?_
      refine RL.p rfl rfl ?_
      refine RL.done ?_
      refine RK.seq ?_
      first | refine RK.condD rfl (fun h62 => ?_) (fun h62 => ?_) | refine RK.condN rfl (fun h62 => ?_) (fun h62 => ?_) | refine RK.cond rfl (fun h62 => ?_) (fun h62 => ?_)
      · obtain ⟨a, haj⟩ : ∃ a, als[j]? = some a := ⟨als[j]'(by omega), List.getElem?_eq_getElem (by omega)⟩
        have h5 := h.mod ((hn6.grow.trans hg).trans hg5)
        obtain ⟨b2, o2, c2', he2, _, _, hc2⟩ := h5.a.elem alC_len haj
        cases he2
        have hao := h5.al a (List.mem_of_getElem? haj)
        have hmn := mutOf_snoc haj r t
        have hml := mutOf_len r t (als.take j)
        have hml2 : (als.take j).length ≤ 1000 := by simp; omega
        refine RK.skip ?_
        refine RK.seq ?_
        refine RK.block ?_
        refine RK.seq ?_
        refine RK.region ?_
        refine RL.q (.free rfl) rfl rfl (Yld.indexAddrN u58 i32 rfl rfl (by omega)) ?_
        refine RL.q (.free rfl) rfl rfl (Yld.loadN (cs := alC a) a32 rfl (atN (fun q z hq => hc2 q z hq))) ?_
        refine RL.op (.free rfl) rfl rfl (Does.alloc i32) ?_
        rintro _ w7 ⟨b19, rfl, hn19⟩
        refine RL.op' (.free rfl) rfl (Does.storeN i32 rfl rfl rfl (alC_one hao) hn19.blk (Nat.le_refl 3)) ?_
        rintro _ w8 ⟨hb8, hm8, _⟩
        have hg58 : Grow w5 w8 := hn19.grow.then hm8 (fun y hy e => by have e' : y = b19 := e; have := hn19.at_; omega)
        have hg8 := hg5.trans hg58
        have hB8 : Blk w8 b19 32 [.int .i64 a.id, a.v, .float .f64 a.val] := hb8
        refine RL.done ?_
        refine RK.seq ?_
        refine RK.region ?_
        refine RL.q (.free rfl) rfl rfl (Yld.loadN (cs := ruC r) a89 rfl (atN (blk0' (hb5.mod hg58 (fun h => h))))) ?_
        refine RL.q (.free rfl) rfl rfl (Yld.loadN (cs := alC a) a32 rfl (atN (blk0' hb8))) ?_
        refine RL.q (.free rfl) rfl rfl (Yld.loadN (cs := alC t) a32 rfl (atN (blk0' (hB6.mod (hg.trans hg8) (fun h => h))))) ?_
        refine RL.op (.free rfl) rfl rfl (Does.call rfl e111 (mutes_ok No No No r a t _ ((h5.rl r (List.mem_of_getElem? hrk)).mod hg58) (hao.mod hg58) (h.t.mod ((hn6.grow.trans hg).trans hg8)))) ?_
        rintro _ w9 ⟨rfl, hg9⟩
        have hg59 := hg58.trans hg9
        have hg49 := hg5.trans hg59
        refine RL.done ?_
        first | refine RK.condD rfl (fun h68 => ?_) (fun h68 => ?_) | refine RK.condN rfl (fun h68 => ?_) (fun h68 => ?_) | refine RK.cond rfl (fun h68 => ?_) (fun h68 => ?_)
        · refine RK.region ?_
          refine RL.p rfl rfl ?_
          refine RL.q (.free rfl) rfl rfl (Yld.fieldAddr fo32_0 rfl) ?_
          refine RL.q (.free rfl) rfl rfl (Yld.load p3 rfl (at1 ((hB8.mod hg9 (fun h => h)).cell rfl))) ?_
          refine RL.op (.free rfl) rfl rfl (Does.slice1 u22 i3 rfl rfl rfl rfl rfl) ?_
          rintro _ w10 ⟨b7, rfl, hn7⟩
          refine RL.op (.free rfl) rfl rfl (Does.append u22 i3 rfl rfl rfl rfl rfl ((hr5.mod hg59 (fun _ _ h => h)).mod hn7.grow (fun _ _ h => h)) (Sl.new hn7 1 1 rfl (by omega) (fun h => h)) (rfl) (by rw [List.length_append]; omega)) ?_
          rintro z11 w11 ⟨hr11, hm11, hu11⟩
          have hs7 := hn7.grow.size
          have hs4 := hg49.size
          have hs59 := hg59.size
          refine RL.p rfl rfl ?_
          refine RL.done ?_
          refine RK.inBlock ?_
          refine RK.region ?_
          refine RL.p rfl rfl ?_
          refine RL.re (d := 74) rfl rfl (succ_i64 (by omega)) ?_
          refine RL.p rfl rfl ?_
          refine RL.done ?_
          exact RK.back (ih3 (j + 1, z11) _ ⟨by
              simp only
              rw [hmn, if_pos h68, ← List.append_assoc]
              have e1 : ints ((mutS t als (rs.take k2) ++ mutOf r t (als.take j)) ++ [a.id]) = ints (mutS t als (rs.take k2) ++ mutOf r t (als.take j)) ++ (Value.int .i64 a.id).cells.toList := by simp [ints, Value.cells]
              rw [e1, List.length_append]; exact hr11, fun b e => by
              rcases hu11 with h1 | h1
              · exact hf5 b (h1 ▸ e)
              · rw [h1] at e; cases e; omega, (hg49.trans hn7.grow).then hm11 (fun b hb e => by have := hf5 b e; omega), by simp only; omega, ((hb5.mod hg59 (fun h => h)).mod hn7.grow (fun h => h)).mod hm11 (fun e => hu17 _ e rfl), fun b e => by
              rcases hu11 with h1 | h1
              · exact hu17 b (h1 ▸ e)
              · rw [h1] at e; cases e; omega, by have := hm11.size; omega⟩ (by simp only; omega)) ⟨rfl, rfl, rfl, rfl, rfl, rfl, rfl, rfl, rfl, rfl, rfl, rfl, trivial⟩
        · refine RK.skip ?_
          refine RK.inBlock ?_
          refine RK.region ?_
          refine RL.p rfl rfl ?_
          refine RL.re (d := 74) rfl rfl (succ_i64 (by omega)) ?_
          refine RL.p rfl rfl ?_
          refine RL.done ?_
          exact RK.back (ih3 (j + 1, u5) _ ⟨by simp only; rw [hmn, if_neg (by simpa using h68), List.append_nil]; exact hr5.mod hg59 (fun _ _ h => h), hf5, hg49, by simp only; omega, hb5.mod hg59 (fun h => h), hu17, by have := hg59.size; omega⟩ (by simp only; omega)) ⟨rfl, rfl, rfl, rfl, rfl, rfl, rfl, rfl, rfl, rfl, rfl, rfl, trivial⟩
      · have ej : als.take j = als := List.take_of_length_le (by omega)
        rw [ej, ← hsn] at hr5
        refine RK.exit rfl ?_
        refine RK.inBlock ?_
        refine RK.region ?_
        refine RL.p rfl rfl ?_
        refine RL.re (d := 75) rfl rfl (succ_i64 (by omega)) ?_
        refine RL.p rfl rfl ?_
        refine RL.done ?_
        exact RK.back (ih (k2 + 1, u5) _ ⟨hr5, hf5, hg5, by simp only; omega⟩ (by simp only; omega)) ⟨rfl, rfl, rfl, rfl, rfl, rfl, rfl, rfl, trivial⟩
    · have ek2 : rs.take k2 = rs := List.take_of_length_le (by omega)
      rw [ek2] at hr2
      have hml := mutS_len t als rs
      have hml2 : (mutS t als rs).length ≤ 1000000 := Nat.le_trans hml (Nat.mul_le_mul hn3 hn2)
      refine RK.exit rfl ?_
      refine RK.seq ?_
      refine RK.region ?_
      refine RL.p rfl rfl ?_
      refine RL.op (.free rfl) rfl rfl (Does.call rfl e112 (make_ok No S u _ (Sl.own (hr.mod hg2 (fun _ _ h => h)) (fun _ _ h => h)) (by omega))) ?_
      rintro z1 w4 ⟨hr4, hf4, hg4⟩
      refine RL.p rfl rfl ?_
      refine RL.op (.free rfl) rfl rfl (Does.call rfl e112 (make_ok No (mutS t als rs) u2 _ (Sl.own (hr2.mod hg4 (fun _ _ h => h)) (fun _ _ h => h)) (by omega))) ?_
      rintro z2 w5 ⟨hr5, hf5, hg5⟩
      have hq2 := ((hn6.grow.trans hg).trans hg2).size
      have hq4 := hg4.size
      iterate 2 refine RL.p rfl rfl ?_
      refine RL.done ?_
      refine RK.ret_of Tryz.func55 (res2 rfl rfl rfl) ?_ _
      exact ⟨_, rfl, _, _, rfl, hr4.mod hg5 (fun _ _ h => h), hr5, ⟨fun b e => by have := hf4 b e; omega, fun b e => by have := hf5 b e; omega⟩, (((hn6.grow.trans hg).trans hg2).trans hg4).trans hg5⟩
theorem plain_ok (now : Int) (t : Al) (sils : List Sil) (vs : Value) (als : List Al) (va : Value) (rs : List Ru) (vr : Value) (w : World) (h : PlainIn w t sils vs als va rs vr) :
    Fx Tryz.prog 55 [.int .u64 now, .agg (alC t).toArray, vs, va, vr] w (fun u w' => ∃ v1 v2, u = .tuple #[v1, v2] ∧ Row w' 3 1 v1 (mkRow (silS now t sils)).length (ints (mkRow (silS now t sils))) ∧ Row w' 3 1 v2 (mkRow (mutS t als rs)).length (ints (mkRow (mutS t als rs))) ∧ Grow w w') := by
  refine Calls.mono (plainX_ok now t sils vs als va rs vr w h) ?_
  rintro e w' ⟨u, he, v1, v2, h1, h2, h3, h4, h5⟩
  exact ⟨u, he, v1, v2, h1, h2, h3, h5⟩
end Go.Proofs.YtffbcfcoddacmaaGreat
set_option linter.unusedVariables false
set_option linter.unusedSimpArgs false
set_option maxHeartbeats 2000000
set_option maxRecDepth 100000
namespace Go.Proofs.YtffbcfcoddacmaaGreat
open Go Go.X Go.Rex
def sevT : ByteArray := ⟨#[115, 101, 118]⟩
def critT : ByteArray := ⟨#[99, 114, 105, 116]⟩
def warnT : ByteArray := ⟨#[119, 97, 114, 110]⟩
def cwT : ByteArray := ⟨#[99, 114, 105, 116, 124, 119, 97, 114, 110]⟩
def mSrc : Mt := ⟨1, sevT, critT⟩
def mTgt : Mt := ⟨3, sevT, cwT⟩
def lsOf (s : ByteArray) : List Lab := [⟨sevT, s⟩]
def cwR : Rx := .node 3 (.cons (.node 2 (.cons (.set [0, 34359738368, 0, 0]) (.cons (.set [0, 1125899906842624, 0, 0]) (.cons (.set [0, 2199023255552, 0, 0]) (.cons (.set [0, 4503599627370496, 0, 0]) .nil))))) (.cons (.node 2 (.cons (.set [0, 36028797018963968, 0, 0]) (.cons (.set [0, 8589934592, 0, 0]) (.cons (.set [0, 1125899906842624, 0, 0]) (.cons (.set [0, 70368744177664, 0, 0]) .nil))))) .nil))
theorem cw_parse : parseS cwT = some cwR := by kernel_rfl
theorem mSrc_is : isM mSrc = true := by kernel_rfl
theorem mSrc_large : largeM mSrc = false := by kernel_rfl
theorem mTgt_is : isM mTgt = true := by kernel_rfl
theorem mTgt_large : largeM mTgt = false := by kernel_rfl
theorem getL_of (s : ByteArray) : getL (lsOf s) sevT = s := by unfold getL lsOf; simp
theorem src_crit : holdsM mSrc (lsOf critT) = true := by
  unfold holdsM
  rw [mSrc_is, mSrc_large]
  simp [mSrc, getL_of]
theorem src_warn : holdsM mSrc (lsOf warnT) = false := by
  have hne : ¬ warnT = critT := by decide
  unfold holdsM
  rw [mSrc_is, mSrc_large]
  simp [mSrc, getL_of, hne]
theorem tgt_warn : holdsM mTgt (lsOf warnT) = true := by
  have ht : takesS cwT warnT = true := by
    unfold takesS
    rw [cw_parse]
    simp only
    rw [takes_iff]
    have hs : ∀ t i, decide (i < warnT.size) && inB t (b8 warnT i) = true → HS warnT t i := fun t i h => by
      simp only [Bool.and_eq_true, decide_eq_true_eq] at h
      exact h
    show Lg (HS warnT) cwR true 0 4
    unfold cwR
    simp only [Lg, Nat.reduceEqDiff, if_true, if_false, Bool.false_eq_true, true_and]
    refine .inr (.inl ⟨1, ⟨hs _ _ (by kernel_rfl), rfl⟩, 2, ⟨hs _ _ (by kernel_rfl), rfl⟩, 3, ⟨hs _ _ (by kernel_rfl), rfl⟩, 4, ⟨hs _ _ (by kernel_rfl), rfl⟩, rfl⟩)
  unfold holdsM
  rw [mTgt_is, mTgt_large]
  simp [mTgt, getL_of, ht]
theorem of18_ok (id : Int) (s : ByteArray) (w : World) : Fx Tryz.prog 53 [.int .i64 id, .string s] w (fun u w' => ∃ b, u = .agg (alC ⟨id, lsOf s, 0, .slice (some ⟨b, 0, none⟩) 1 1⟩).toArray ∧ SlL No w' (.slice (some ⟨b, 0, none⟩) 1 1) (lsOf s) ∧ Grow w w') := by
  refine enter Tryz.func53 rfl rfl rfl _ (Pick.sub (l := [0, 1]) (.cons rfl (.cons rfl .nil))) ?_
  refine RK.seq ?_
  refine RK.region ?_
  refine RL.op (.free rfl) rfl rfl (Does.alloc i32) ?_
  rintro _ w1 ⟨b4, rfl, hn4⟩
  refine RL.done ?_
  refine RK.seq ?_
  refine RK.region ?_
  iterate 2 refine RL.p rfl rfl ?_
  refine RL.q (.free rfl) rfl rfl (Yld.build (v := .agg #[.string sevT, .string s]) rfl (fun w => by kernel_rfl)) ?_
  refine RL.op (.free rfl) rfl rfl (Does.slice1 u26 i46 rfl rfl rfl rfl rfl) ?_
  rintro _ w2 ⟨b5, rfl, hn5⟩
  have hB4 := hn4.blk.mod hn5.grow (fun h => h)
  refine RL.q (.free rfl) rfl rfl (Yld.build (v := .agg #[.int .i64 id, .slice (some ⟨b5, 0, none⟩) 1 1, .float .f64 0]) rfl (fun w => by kernel_rfl)) ?_
  refine RL.op' (.free rfl) rfl (Does.storeN i32 rfl rfl rfl rfl hB4 (Nat.le_refl 3)) ?_
  rintro _ w3 ⟨hb3, hm3, _⟩
  have hs4 := hn4.at_
  have hs5 := hn5.at_
  have hs6 := hn4.size
  have hne : ¬ b5 = b4 := by omega
  refine RL.done ?_
  refine RK.ret_of Tryz.func53 (resC (cs := alC ⟨id, lsOf s, 0, .slice (some ⟨b5, 0, none⟩) 1 1⟩) rfl rfl a32 hb3) ?_ _
  exact ⟨_, rfl, b5, rfl, (Sl.new (M := (· = b4)) hn5 2 1 rfl (by omega) hne).mod hm3 |>.noM, (hn4.grow.trans hn5.grow).then hm3 (fun y hy e => by have e' : y = b4 := e; omega)⟩
def critRu (b1 b2 : Nat) : Ru := ⟨.slice (some ⟨b1, 0, none⟩) 1 1, .slice (some ⟨b2, 0, none⟩) 1 1, .slice none 0 0, [mSrc], [mTgt], ⟨true, 0, 0⟩, []⟩
theorem critical_ok (w : World) : Fx Tryz.prog 54 [] w (fun u w' => ∃ b1 b2, u = .agg (ruC (critRu b1 b2)).toArray ∧ (critRu b1 b2).Ok No w' ∧ Grow w w') := by
  refine enter Tryz.func54 rfl rfl rfl _ (Pick.sub (l := []) .nil) ?_
  refine RK.seq ?_
  refine RK.region ?_
  refine RL.op (.free rfl) rfl rfl (Does.alloc i89) ?_
  rintro _ w1 ⟨b0, rfl, hn0⟩
  refine RL.done ?_
  refine RK.seq ?_
  refine RK.region ?_
  refine RL.q (.free rfl) rfl rfl (Yld.build (v := .agg (mtC mSrc).toArray) rfl (fun w => by kernel_rfl)) ?_
  refine RL.op (.free rfl) rfl rfl (Does.slice1 u51 i50 rfl rfl rfl rfl rfl) ?_
  rintro _ w2 ⟨b1, rfl, hn1⟩
  refine RL.q (.free rfl) rfl rfl (Yld.build (v := .agg (mtC mTgt).toArray) rfl (fun w => by kernel_rfl)) ?_
  refine RL.op (.free rfl) rfl rfl (Does.slice1 u51 i50 rfl rfl rfl rfl rfl) ?_
  rintro _ w3 ⟨b2, rfl, hn2⟩
  have hB0 := (hn0.blk.mod hn1.grow (fun h => h)).mod hn2.grow (fun h => h)
  refine RL.q (.free rfl) rfl rfl (Yld.build (v := .agg (bdC ⟨true, 0, 0⟩).toArray) rfl (fun w => by kernel_rfl)) ?_
  refine RL.q (.free rfl) rfl rfl (Yld.build (v := .agg (ruC (critRu b1 b2)).toArray) rfl (fun w => by kernel_rfl)) ?_
  refine RL.op' (.free rfl) rfl (Does.storeN i89 rfl rfl rfl rfl hB0 (Nat.le_refl 6)) ?_
  rintro _ w4 ⟨hb4, hm4, _⟩
  have hs0 := hn0.at_
  have hs1 := hn1.at_
  have hs2 := hn2.at_
  have hs3 := hn0.size
  have hs4 := hn1.size
  refine RL.done ?_
  refine RK.ret_of Tryz.func54 (resC (cs := ruC (critRu b1 b2)) rfl rfl a89 hb4) ?_ _
  exact ⟨_, rfl, b1, b2, rfl, ⟨((Sl.new (M := (· = b0)) hn1 3 1 rfl (by omega) (by omega)).mod (Mod.any' hn2.grow)).mod hm4 |>.noM, ((Sl.new (M := (· = b0)) hn2 3 1 rfl (by omega) (by omega)).mod hm4).noM, Sl.nil _ _ _ _ _⟩, ((hn0.grow.trans hn1.grow).trans hn2.grow).then hm4 (fun y hy e => by have e' : y = b0 := e; omega)⟩
theorem may0 : mayB ⟨true, 0, 0⟩ = true := by kernel_rfl
theorem in0 (v : Nat) : inBd ⟨true, 0, 0⟩ v = true := by unfold inBd; rw [may0]; rfl
theorem list1 {m : Mt} (h : isM m = true) : listM [m] = true := listM_yes (by simp) fun i hi => by
  obtain rfl : i = 0 := by simpa using hi
  rw [okM_0 rfl]; exact h
theorem crit_works (b1 b2 : Nat) : worksRu (critRu b1 b2) = true := by
  have h1 : isRu (critRu b1 b2) = true := by
    refine isRu_yes (by simp [critRu]) (by simp [critRu]) (list1 mSrc_is) (list1 mTgt_is) may0 (by simp [critRu]) fun i hi => ?_
    simp [critRu] at hi
  have h2 : largeRu (critRu b1 b2) = false := by
    unfold largeRu anyL
    simp [critRu, mSrc_large, mTgt_large]
  unfold worksRu
  rw [h1, h2]; rfl
theorem crit_target (b1 b2 : Nat) : targetS (critRu b1 b2) (lsOf warnT) = true := by
  unfold targetS
  rw [crit_works]
  simp [critRu, tgt_warn]
theorem crit_source (b1 b2 : Nat) (v : Nat) : sourceS (critRu b1 b2) (lsOf critT) v = true := by
  unfold sourceS
  rw [crit_works]
  simp [critRu, src_crit, in0]
theorem crit_source2 (b1 b2 : Nat) (v : Nat) : sourceS (critRu b1 b2) (lsOf warnT) v = false := by
  unfold sourceS
  simp [critRu, src_warn]
theorem crit_yes (b1 b2 : Nat) (i j : Int) (v v' : Value) : mutesS (critRu b1 b2) ⟨i, lsOf critT, 0, v⟩ ⟨j, lsOf warnT, 0, v'⟩ = true := by
  unfold mutesS
  simp only
  rw [crit_target, crit_source, crit_source2]
  have : keyT (critRu b1 b2).eq (lsOf critT) = keyT (critRu b1 b2).eq (lsOf warnT) := rfl
  simp [this]
theorem crit_no (b1 b2 : Nat) (i j : Int) (v v' : Value) (s : ByteArray) : mutesS (critRu b1 b2) ⟨i, lsOf s, 0, v⟩ ⟨j, lsOf critT, 0, v'⟩ = false := by
  unfold mutesS
  simp only
  rw [crit_source]
  simp
theorem crit_no2 (b1 b2 : Nat) (i j : Int) (v v' : Value) (s : ByteArray) : mutesS (critRu b1 b2) ⟨i, lsOf warnT, 0, v⟩ ⟨j, lsOf s, 0, v'⟩ = false := by
  unfold mutesS
  simp only
  rw [crit_source2]
  simp
theorem runs_mut2 (b1 b2 : Nat) (v1 v2 v3 : Value) : mkRow (mutS ⟨2, lsOf warnT, 0, v2⟩ [⟨1, lsOf critT, 0, v1⟩, ⟨2, lsOf warnT, 0, v2⟩, ⟨3, lsOf critT, 0, v3⟩] [critRu b1 b2]) = [1, 3] := by
  have h : mutS ⟨2, lsOf warnT, 0, v2⟩ [⟨1, lsOf critT, 0, v1⟩, ⟨2, lsOf warnT, 0, v2⟩, ⟨3, lsOf critT, 0, v3⟩] [critRu b1 b2] = [1, 3] := by
    unfold mutS mutOf
    simp only [List.flatMap_cons, List.flatMap_nil, List.append_nil, List.filter_cons, List.filter_nil, crit_yes, crit_no2, if_true, Bool.false_eq_true, if_false, List.map_cons, List.map_nil]
  rw [h]
  exact mkRow_id (by simp [Ris])
theorem runs_mut1 (b1 b2 : Nat) (v1 v2 v3 : Value) : mkRow (mutS ⟨1, lsOf critT, 0, v1⟩ [⟨1, lsOf critT, 0, v1⟩, ⟨2, lsOf warnT, 0, v2⟩, ⟨3, lsOf critT, 0, v3⟩] [critRu b1 b2]) = [] := by
  have h : mutS ⟨1, lsOf critT, 0, v1⟩ [⟨1, lsOf critT, 0, v1⟩, ⟨2, lsOf warnT, 0, v2⟩, ⟨3, lsOf critT, 0, v3⟩] [critRu b1 b2] = [] := by
    unfold mutS mutOf
    simp only [List.flatMap_cons, List.flatMap_nil, List.append_nil, List.filter_cons, List.filter_nil, crit_no, Bool.false_eq_true, if_false, List.map_nil]
  rw [h]
  exact mkRow_id (by simp [Ris])
theorem runs_sil (v2 vm : Value) : mkRow (silS 5 ⟨2, lsOf warnT, 0, v2⟩ [⟨9, 0, 5, 6, vm, [mTgt], ⟨true, 0, 0⟩⟩]) = [9] := by
  have h : silHolds 5 ⟨2, lsOf warnT, 0, v2⟩ ⟨9, 0, 5, 6, vm, [mTgt], ⟨true, 0, 0⟩⟩ = true := by
    unfold silHolds
    simp [stateS, tgt_warn, in0]
  have h2 : silS 5 ⟨2, lsOf warnT, 0, v2⟩ [⟨9, 0, 5, 6, vm, [mTgt], ⟨true, 0, 0⟩⟩] = [9] := by
    unfold silS
    simp [h]
  rw [h2]
  exact mkRow_id (by simp [Ris])
theorem lsOf_z {s : ByteArray} (h : s.size ≤ 100000) : ∀ x ∈ lsOf s, x.value.size ≤ 100000 := fun x hx => by
  simp only [lsOf, List.mem_singleton] at hx
  subst hx; exact h
theorem mruns_ok (w : World) : Fx Tryz.prog 10 [] w (fun u w' => u = .bool true ∧ Grow w w') := by
  refine enter Tryz.func10 rfl rfl rfl _ (Pick.sub (l := []) .nil) ?_
  refine RK.seq ?_
  refine RK.region ?_
  refine RL.p rfl rfl ?_
  refine RL.done ?_
  refine RK.seq ?_
  refine RK.region ?_
  refine RL.op (.free rfl) rfl rfl (Does.call rfl e53 (of18_ok 1 critT _)) ?_
  rintro _ w1 ⟨c1, rfl, hs1, hg1⟩
  refine RL.op (.free rfl) rfl rfl (Does.call rfl e53 (of18_ok 2 warnT _)) ?_
  rintro _ w2 ⟨c2, rfl, hs2, hg2⟩
  refine RL.op (.free rfl) rfl rfl (Does.call rfl e53 (of18_ok 3 critT _)) ?_
  rintro _ w3 ⟨c3, rfl, hs3, hg3⟩
  refine RL.op (.free rfl) rfl rfl (Does.bslice (el := 32) ([.int .i64 1, .slice (some ⟨c1, 0, none⟩) 1 1, .float .f64 0, .int .i64 2, .slice (some ⟨c2, 0, none⟩) 1 1, .float .f64 0, .int .i64 3, .slice (some ⟨c3, 0, none⟩) 1 1, .float .f64 0]) rfl (fun w => by kernel_rfl)) ?_
  rintro _ w4 ⟨b4, rfl, hn4⟩
  refine RL.p rfl rfl ?_
  refine RL.done ?_
  refine RK.seq ?_
  refine RK.region ?_
  refine RL.op (.free rfl) rfl rfl (Does.call rfl e54 (critical_ok _)) ?_
  rintro _ w5 ⟨b1, b2, rfl, hru, hg5⟩
  refine RL.op (.free rfl) rfl rfl (Does.slice1 u91 i89 rfl rfl rfl rfl rfl) ?_
  rintro _ w6 ⟨b6, rfl, hn6⟩
  have hAl : Sl No w4 (.slice (some ⟨b4, 0, none⟩) 3 3) 3 3 ([(⟨1, lsOf critT, 0, .slice (some ⟨c1, 0, none⟩) 1 1⟩ : Al), ⟨2, lsOf warnT, 0, .slice (some ⟨c2, 0, none⟩) 1 1⟩, ⟨3, lsOf critT, 0, .slice (some ⟨c3, 0, none⟩) 1 1⟩].flatMap alC) := Sl.new hn4 3 3 rfl (by omega) (fun h => h)
  have hg46 := hg5.trans hn6.grow
  have hRu : Sl No w6 (.slice (some ⟨b6, 0, none⟩) 1 1) 6 1 ([critRu b1 b2].flatMap ruC) := Sl.new hn6 6 1 rfl (by omega) (fun h => h)
  have hP0 : PlainIn w6 ⟨1, lsOf critT, 0, .slice (some ⟨c1, 0, none⟩) 1 1⟩ [] (.slice none 0 0) [(⟨1, lsOf critT, 0, .slice (some ⟨c1, 0, none⟩) 1 1⟩ : Al), ⟨2, lsOf warnT, 0, .slice (some ⟨c2, 0, none⟩) 1 1⟩, ⟨3, lsOf critT, 0, .slice (some ⟨c3, 0, none⟩) 1 1⟩] (.slice (some ⟨b4, 0, none⟩) 3 3) [critRu b1 b2] (.slice (some ⟨b6, 0, none⟩) 1 1) := by
      have h1 : AlOk No w6 ⟨1, lsOf critT, 0, .slice (some ⟨c1, 0, none⟩) 1 1⟩ := ⟨hs1.mod (((hg2.trans hg3).trans hn4.grow).trans hg46), lsOf_z (by decide)⟩
      have h2 : AlOk No w6 ⟨2, lsOf warnT, 0, .slice (some ⟨c2, 0, none⟩) 1 1⟩ := ⟨hs2.mod ((hg3.trans hn4.grow).trans hg46), lsOf_z (by decide)⟩
      have h3 : AlOk No w6 ⟨3, lsOf critT, 0, .slice (some ⟨c3, 0, none⟩) 1 1⟩ := ⟨hs3.mod (hn4.grow.trans hg46), lsOf_z (by decide)⟩
      refine ⟨h1, Sl.nil _ _ _ _ _, by simp, hAl.mod hg46, fun a ha => ?_, hRu, fun r hr => ?_, by simp, by simp, by simp⟩
      · simp only [List.mem_cons, List.not_mem_nil, or_false] at ha
        rcases ha with rfl | rfl | rfl
        · exact h1
        · exact h2
        · exact h3
      · simp only [List.mem_singleton] at hr; subst hr; exact hru.mod hn6.grow
  obtain ⟨x1, x2, x3, hx, _, _, hca⟩ := hP0.a.elem alC_len (k := 1) rfl
  cases hx
  obtain ⟨y1, y2, y3, hy, _, _, hcr⟩ := hP0.r.elem ruC_len (k := 0) rfl
  cases hy
  obtain ⟨z1, z2, z3, hz, _, _, hcb⟩ := hP0.a.elem alC_len (k := 0) rfl
  cases hz
  refine RL.p rfl rfl ?_
  refine RL.done ?_
  refine RK.seq ?_
  refine RK.drawM No [(0, false), (1, false), (2, false), (3, false), (4, false), (5, false), (6, false), (7, false), (8, false), (10, false), (11, false), (9, true), (12, true), (13, false), (14, false), (15, false), (16, false), (17, false)] [] mixed (by kernel_rfl) ?_
  refine DL.p rfl rfl rfl ?_
  refine DL.qf rfl (.free rfl) rfl rfl (Yld.indexAddr u58 i32 rfl rfl (by omega) (by omega)) ?_
  refine DL.q rfl (.free rfl) rfl rfl rfl (Yld.loadN (cs := alC ⟨2, lsOf warnT, 0, .slice (some ⟨c2, 0, none⟩) 1 1⟩) a32 rfl (atNM (fun q z hq => by simpa using hca q z hq) (fun h => h))) (Mod.drew _ _) ?_
  refine DL.p rfl rfl rfl ?_
  refine DL.qf rfl (.free rfl) rfl rfl (Yld.indexAddr u91 i89 rfl rfl (by omega) (by omega)) ?_
  refine DL.qf rfl (.free rfl) rfl rfl (Yld.fieldAddr fo89_1 rfl) ?_
  refine DL.q rfl (.free rfl) rfl rfl rfl (Yld.load p51 rfl (atM (by have := hcr 1 _ rfl; simpa using this) (fun h => h))) (Mod.drew _ _) ?_
  refine DL.qf rfl (.free rfl) rfl rfl (Yld.build (v := .agg (bdC ⟨true, 0, 0⟩).toArray) rfl (fun w => by kernel_rfl)) ?_
  refine DL.qf rfl (.free rfl) rfl rfl (Yld.build (v := .agg (silC ⟨9, 0, 5, 6, .slice (some ⟨b2, 0, none⟩) 1 1, [mTgt], ⟨true, 0, 0⟩⟩).toArray) rfl (fun w => by kernel_rfl)) ?_
  iterate 2 refine DL.p rfl rfl rfl ?_
  refine DL.op rfl (.free rfl) rfl rfl (Does.slice1 u96 i95 rfl rfl rfl rfl rfl) ?_
  rintro _ w7 ⟨b7, rfl, hn7⟩
  have hd7 := (Mod.drew No w6).trans hn7.grow
  refine ⟨hd7, ?_⟩
  have hP1 := hP0.mod hd7
  have hP2 : PlainIn w7 ⟨2, lsOf warnT, 0, .slice (some ⟨c2, 0, none⟩) 1 1⟩ [⟨9, 0, 5, 6, .slice (some ⟨b2, 0, none⟩) 1 1, [mTgt], ⟨true, 0, 0⟩⟩] (.slice (some ⟨b7, 0, none⟩) 1 1) _ _ _ _ := ⟨hP1.al _ (by simp), Sl.new hn7 8 1 rfl (by omega) (fun h => h), fun s hs => by
      simp only [List.mem_singleton] at hs
      subst hs
      exact (hru.mod hn6.grow).t.mod hd7, hP1.a, hP1.al, hP1.r, hP1.rl, by simp, hP1.n2, hP1.n3⟩
  refine DL.op rfl (.free rfl) rfl rfl (Does.call rfl e55 (plain_ok 5 _ _ _ _ _ _ _ _ hP2)) ?_
  rintro _ w8 ⟨v1, v2, rfl, hr1, hr2, hg8⟩
  have hd8 := hd7.trans hg8
  refine ⟨hd8, ?_⟩
  rw [runs_sil] at hr1
  rw [runs_mut2] at hr2
  have hQ0 := hP0.mod hd8
  iterate 5 refine DL.p rfl rfl rfl ?_
  refine DL.done ?_
  refine RK.seq ?_
  refine RK.region ?_
  refine RL.p rfl rfl ?_
  refine RL.q (.free rfl) rfl rfl (Yld.indexAddr u58 i32 rfl rfl (by omega) (by omega)) ?_
  refine RL.q (.free rfl) rfl rfl (Yld.loadN (cs := alC ⟨1, lsOf critT, 0, .slice (some ⟨c1, 0, none⟩) 1 1⟩) a32 rfl (atN (fun q z hq => by simpa using hd8.cell (hcb q z hq) (fun h => h)))) ?_
  iterate 2 refine RL.p rfl rfl ?_
  refine RL.op (.free rfl) rfl rfl (Does.call rfl e55 (plain_ok 5 _ _ _ _ _ _ _ _ hQ0)) ?_
  rintro _ w9 ⟨v3, v4, rfl, hr3, hr4, hg9⟩
  rw [runs_mut1] at hr4
  obtain ⟨ad4, c4, rfl⟩ := hr4.slice
  iterate 5 refine RL.p rfl rfl ?_
  refine RL.done ?_
  refine RK.seq ?_
  refine RK.region ?_
  refine RL.p rfl rfl ?_
  refine RL.op (.free rfl) rfl rfl (Does.slice1 u22 i3 rfl rfl rfl rfl rfl) ?_
  rintro _ w10 ⟨b10, rfl, hn10⟩
  have hg810 := hg9.trans hn10.grow
  refine RL.op (.free rfl) rfl rfl (Does.call rfl e29 (sameInts_ok No [9] [9] _ _ _ (Sl.own (hr1.mod hg810 (fun _ _ h => h)) (fun _ _ h => h)) (Sl.new hn10 1 1 rfl (by omega) (fun h => h)))) ?_
  rintro _ w11 ⟨rfl, hg11⟩
  refine RL.p rfl rfl ?_
  refine RL.knownT (d := 41) rfl rfl (by simp) ?_
  refine RL.q (.yes rfl rfl rfl) rfl rfl (Yld.pure rfl) ?_
  refine RL.op (.yes rfl rfl rfl) rfl rfl (Does.bslice (el := 3) ([.int .i64 1, .int .i64 3]) rfl (fun w => by kernel_rfl)) ?_
  rintro _ w12 ⟨b12, rfl, hn12⟩
  have hg812 := (hg810.trans hg11).trans hn12.grow
  refine RL.op (.yes rfl rfl rfl) rfl rfl (Does.call rfl e29 (sameInts_ok No [1, 3] [1, 3] _ _ _ (Sl.own (hr2.mod hg812 (fun _ _ h => h)) (fun _ _ h => h)) (Sl.new hn12 1 2 rfl (by omega) (fun h => h)))) ?_
  rintro _ w13 ⟨rfl, hg13⟩
  iterate 2 refine RL.p rfl rfl ?_
  refine RL.knownT (d := 46) rfl rfl (by simp) ?_
  refine RL.q (.yes rfl rfl rfl) rfl rfl (Yld.pure rfl) ?_
  refine RL.q (.yes rfl rfl rfl) rfl rfl (Yld.lenSl u22 rfl) ?_
  refine RL.q (.yes rfl rfl rfl) rfl rfl (Yld.pure rfl) ?_
  iterate 2 refine RL.p rfl rfl ?_
  refine RL.done ?_
  refine RK.ret_of Tryz.func10 (res1 rfl rfl) ?_ _
  exact ⟨_, rfl, rfl, (((((hg1.trans hg2).trans hg3).trans hn4.grow).trans hg46).trans hd8).trans (hg812.trans hg13)⟩
end Go.Proofs.YtffbcfcoddacmaaGreat
set_option linter.unusedVariables false
set_option linter.unusedSimpArgs false
set_option maxHeartbeats 2000000
set_option maxRecDepth 100000
namespace Go.Proofs.YtffbcfcoddacmaaGreat
open Go Go.X Go.Rex
structure Ad where
  id : Int
  labs : List Int
  v : Value
  val : Nat
def adC (d : Ad) : List Value := [.int .i64 d.id, d.v, .float .f64 d.val]
theorem adC_len (d : Ad) : (adC d).length = 3 := rfl
structure Ad.Ok (w : World) (d : Ad) : Prop where
  s : Sl No w d.v 1 d.labs.length (ints d.labs)
  r : ∀ x ∈ d.labs, -9223372036854775808 ≤ x ∧ x ≤ 9223372036854775807
theorem Ad.Ok.mod {w w' : World} {d : Ad} (h : d.Ok w) (hg : Grow w w') : d.Ok w' := ⟨h.s.mod hg, h.r⟩
def adP (d : Ad) : Int × List Lab × Nat := (d.id, labelsS d.labs, d.val)
theorem labelsS_z (l : List Int) : ∀ x ∈ labelsS l, x.value.size ≤ 100000 := fun x hx => by
  have h := (raw_ok l).1.vl x (mem_isort.1 hx)
  simp only [vlL, List.mem_cons, List.not_mem_nil, or_false] at h
  rcases h with h | h | h | h | h | h | h <;> rw [h] <;> decide
theorem al_z {al : List Al} {ds : List Ad} (h : al.map pub = ds.map adP) : ∀ a ∈ al, ∀ x ∈ a.ls, x.value.size ≤ 100000 := fun a ha => by
  have h1 : pub a ∈ ds.map adP := h ▸ List.mem_map_of_mem (f := pub) ha
  obtain ⟨d, _, e⟩ := List.mem_map.1 h1
  have e2 : labelsS d.labs = a.ls := congrArg (fun p => p.2.1) e
  exact e2 ▸ labelsS_z d.labs
theorem alerts18X_ok (ds : List Ad) (vd : Value) (w : World) (hd : Sl No w vd 3 ds.length (ds.flatMap adC)) (hds : ∀ d ∈ ds, d.Ok w) :
    Fx Tryz.prog 56 [vd] w (fun u w' => ∃ al : List Al, al.map pub = (ds.take 16).map adP ∧ Row w' 32 3 u al.length (al.flatMap alC) ∧ (∀ a ∈ al, AlOk (fun b => u.ownBlock = some b) w' a) ∧ Fresh w.heap.size u ∧ Grow w w') := by
  obtain ⟨ad, c, rfl⟩ := hd.shape
  have hbig := hd.big
  refine enter Tryz.func56 rfl rfl rfl _ (Pick.sub (l := [0]) (.cons rfl .nil)) ?_
  refine RK.seq ?_
  refine RK.region ?_
  refine RL.p rfl rfl ?_
  refine RL.done ?_
  refine RK.seq ?_
  refine RK.region ?_
  refine RL.p rfl rfl ?_
  refine RL.done ?_
  iterate 2 refine RK.seq ?_
  refine RK.region ?_
  refine RL.p rfl rfl ?_
  refine RL.done ?_
  refine RK.block ?_
  refine RK.loop (fun s : Nat × Value => [(0, .slice ad ds.length c), (3, s.2), (4, .int .i64 (s.1 : Int))]) (fun s w' => (∃ al : List Al, al.map pub = (ds.take s.1).map adP ∧ Row w' 32 3 s.2 al.length (al.flatMap alC) ∧ (∀ a ∈ al, SlL (fun b => s.2.ownBlock = some b) w' a.v a.ls)) ∧ Fresh w.heap.size s.2 ∧ Grow w w' ∧ s.1 ≤ ds.length ∧ s.1 ≤ 16) (fun s => ds.length - s.1) (0, .slice none 0 0) ⟨rfl, rfl, rfl, trivial⟩ ⟨⟨[], by simp, Row.nil _ _ _, by simp⟩, fun b e => by simp [Value.ownBlock] at e, Mod.refl _ _, by simp, by simp⟩ (fun s w' hI ih => ?_)
  obtain ⟨k, u⟩ := s
  obtain ⟨⟨al, hal, hr, hsl⟩, hf, hg, hk, hk16⟩ := hI
  simp only at hal hr hsl hf hk hk16
  have hlen : al.length ≤ 16 := by have := congrArg List.length hal; simp at this; omega
  iterate 2 refine RK.seq ?_
  refine RK.region ?_
  iterate 2 refine RL.p rfl rfl ?_
  refine RL.q (.free rfl) rfl rfl (Yld.lenSl u100 rfl) ?_
  iterate 2 refine RL.p rfl rfl ?_
  first | refine RL.splitD (d := 9) rfl rfl (fun h8 => ?_) (fun h8 => ?_) | refine RL.splitN (d := 9) rfl rfl (fun h8 => ?_) (fun h8 => ?_) | refine RL.split (d := 9) rfl rfl (fun h8 => ?_) (fun h8 => ?_)
  · iterate 2 refine RL.q (.yes rfl rfl rfl) rfl rfl (Yld.pure rfl) ?_
    refine RL.p rfl rfl ?_
    refine RL.done ?_
    first | refine RK.condD rfl (fun h11 => ?_) (fun h11 => ?_) | refine RK.condN rfl (fun h11 => ?_) (fun h11 => ?_) | refine RK.cond rfl (fun h11 => ?_) (fun h11 => ?_)
    · obtain ⟨d, hdk⟩ : ∃ d, ds[k]? = some d := ⟨ds[k]'(by omega), List.getElem?_eq_getElem (by omega)⟩
      obtain ⟨b1, o1, c1', he1, _, _, hc1⟩ := hd.elem adC_len hdk
      cases he1
      have hdo := hds d (List.mem_of_getElem? hdk)
      have hb1 : ¬ w.heap.size ≤ b1 := by have := World.block_lt_of_cell? w _ (hc1 0 _ rfl); simp only at this; omega
      have hsz0 := hg.size
      refine RK.skip ?_
      refine RK.seq ?_
      refine RK.block ?_
      refine RK.drawM (fun b => w.heap.size ≤ b) [(0, false), (1, false), (2, false), (3, false), (4, false), (5, false), (6, false), (7, false), (8, false), (9, false), (10, false), (12, false), (13, false), (14, false), (15, false), (16, false), (11, true), (17, false), (18, true), (19, true), (20, false)] [] mixed (by kernel_rfl) ?_
      iterate 3 refine DL.p rfl rfl rfl ?_
      refine DL.qf rfl (.free rfl) rfl rfl (Yld.indexAddrN u100 i98 rfl rfl (by omega)) ?_
      refine DL.qf rfl (.free rfl) rfl rfl (Yld.fieldAddr fo98_0 rfl) ?_
      refine DL.q rfl (.free rfl) rfl rfl rfl (Yld.load p3 rfl (atM (hg.cell (hc1 0 _ rfl) (fun h => h)) (hb1))) (Mod.drew _ _) ?_
      iterate 2 refine DL.p rfl rfl rfl ?_
      refine DL.qf rfl (.free rfl) rfl rfl (Yld.indexAddrN u100 i98 rfl rfl (by omega)) ?_
      refine DL.qf rfl (.free rfl) rfl rfl (Yld.fieldAddr fo98_1 rfl) ?_
      refine DL.q rfl (.free rfl) rfl rfl rfl (Yld.load p22 rfl (atM (hg.cell (hc1 1 _ rfl) (fun h => h)) (hb1))) (Mod.drew _ _) ?_
      iterate 2 refine DL.p rfl rfl rfl ?_
      refine DL.qf rfl (.free rfl) rfl rfl (Yld.indexAddrN u100 i98 rfl rfl (by omega)) ?_
      refine DL.qf rfl (.free rfl) rfl rfl (Yld.fieldAddr fo98_2 rfl) ?_
      refine DL.q rfl (.free rfl) rfl rfl rfl (Yld.load p23 rfl (atM (hg.cell (hc1 2 _ rfl) (fun h => h)) (hb1))) (Mod.drew _ _) ?_
      refine DL.op rfl (.free rfl) rfl rfl (Does.call rfl e17 (labels_ok No d.labs d.v _ ((hdo.mod hg).s.mod (Mod.drew _ _)) hdo.r)) ?_
      rintro _ w3 ⟨ad3, c3, rfl, hr3, hf3, hg3⟩
      have hd3 := (Mod.drew No w').trans hg3
      refine ⟨Mod.any' hd3, ?_⟩
      refine DL.qf rfl (.free rfl) rfl rfl (Yld.build (v := .agg #[.int .i64 d.id, .slice ad3 (labelsS d.labs).length c3, .float .f64 d.val]) rfl (fun w => by kernel_rfl)) ?_
      refine DL.op rfl (.free rfl) rfl rfl (Does.slice1 u58 i32 rfl rfl rfl rfl rfl) ?_
      rintro _ w7 ⟨b7, rfl, hn7⟩
      refine ⟨Mod.any' (hd3.trans hn7.grow), ?_⟩
      refine DL.op rfl (.free rfl) rfl rfl (Does.append u58 i32 rfl rfl rfl rfl rfl ((hr.mod (hd3.trans hn7.grow) (fun _ _ h => h))) (Sl.new hn7 3 1 rfl (by omega) (fun h => h)) (rfl) (by omega)) ?_
      rintro z5 w5 ⟨hr5, hm5, hu5⟩
      have hgd7 := hd3.trans hn7.grow
      have hs3 := hg3.size
      have hs7 := hn7.grow.size
      have hm05 : Mod (fun b => u.ownBlock = some b) w' w5 := (Mod.any' hgd7).trans hm5
      have hg05 : Grow w w5 := (hg.trans hgd7).then hm5 (fun b hb e => by have := hf b e; omega)
      refine ⟨hm05.mono (fun b _ e => hf b e), ?_⟩
      have hp1 : ∀ b, z5.ownBlock = some b → u.ownBlock = some b ∨ w3.heap.size ≤ b := fun b e => by
          rcases hu5 with h1 | h1
          · exact .inl (h1 ▸ e)
          · rw [h1] at e; cases e; right; omega
      have hp0 : ∀ b, z5.ownBlock = some b → u.ownBlock = some b ∨ w'.heap.size ≤ b := fun b e => (hp1 b e).imp (fun h => h) (fun h => by simp only [World.drew] at hs3; omega)
      have hnew : SlL (fun b => u.ownBlock = some b) w3 (.slice ad3 (labelsS d.labs).length c3) (labelsS d.labs) := Sl.own hr3 (fun b e e2 => by have h1 := hf3 b e; have h2 := hr.lt e2; simp only [World.drew] at h1; omega)
      refine DL.p rfl rfl rfl ?_
      refine DL.done ?_
      refine RK.inBlock ?_
      refine RK.region ?_
      iterate 2 refine RL.p rfl rfl ?_
      refine RL.re (d := 14) rfl rfl (succ_i64 (by omega)) ?_
      refine RL.p rfl rfl ?_
      refine RL.done ?_
      exact RK.back (ih (k + 1, z5) _ ⟨⟨al ++ [⟨d.id, labelsS d.labs, d.val, .slice ad3 (labelsS d.labs).length c3⟩], by
          simp only
          rw [List.map_append, hal, List.take_succ_eq_append_getElem (by omega), (List.getElem?_eq_some_iff.1 hdk).2, List.map_append]
          rfl, by
          simp only
          rw [List.flatMap_append, List.length_append]
          exact hr5, fun a ha => by
          rcases List.mem_append.1 ha with h1 | h1
          · exact (hsl a h1).pass (by omega) hm05 hp0
          · simp only [List.mem_singleton] at h1; subst h1
            exact hnew.pass (by omega) ((Mod.any' hn7.grow).trans hm5) hp1⟩, fun b e => by
          rcases hu5 with h1 | h1
          · exact hf b (h1 ▸ e)
          · rw [h1] at e; cases e; have := hg.size; simp only [World.drew] at hs3; omega, hg05, by simp only; omega, by simp only; omega⟩ (by simp only; omega)) ⟨rfl, rfl, rfl, trivial⟩
    · have hk : ds.take 16 = ds.take k := by rw [show k = 16 by omega]
      refine RK.exit rfl ?_
      refine RK.seq ?_
      refine RK.region ?_
      iterate 2 refine RL.p rfl rfl ?_
      refine RL.done ?_
      refine RK.ret_of Tryz.func56 (res1 rfl rfl) ?_ _
      exact ⟨_, rfl, al, by rw [hk]; exact hal, hr, fun a ha => ⟨hsl a ha, al_z hal a ha⟩, hf, hg⟩
  · have hk : ds.take 16 = ds.take k := by rw [List.take_of_length_le (by omega), List.take_of_length_le (by omega)]
    iterate 2 refine RL.no (.no rfl rfl rfl rfl) rfl rfl ?_
    refine RL.p rfl rfl ?_
    refine RL.done ?_
    refine RK.condF rfl ?_
    refine RK.exit rfl ?_
    refine RK.seq ?_
    refine RK.region ?_
    iterate 2 refine RL.p rfl rfl ?_
    refine RL.done ?_
    refine RK.ret_of Tryz.func56 (res1 rfl rfl) ?_ _
    exact ⟨_, rfl, al, by rw [hk]; exact hal, hr, fun a ha => ⟨hsl a ha, al_z hal a ha⟩, hf, hg⟩
theorem AlOk.noM {M : Nat → Prop} {w : World} {a : Al} (h : AlOk M w a) : AlOk No w a := ⟨h.l.noM, h.z⟩
theorem alerts18_ok (ds : List Ad) (vd : Value) (w : World) (hd : Sl No w vd 3 ds.length (ds.flatMap adC)) (hds : ∀ d ∈ ds, d.Ok w) :
    Fx Tryz.prog 56 [vd] w (fun u w' => ∃ al : List Al, al.map pub = (ds.take 16).map adP ∧ Row w' 32 3 u al.length (al.flatMap alC) ∧ (∀ a ∈ al, AlOk No w' a) ∧ Fresh w.heap.size u ∧ Grow w w') := by
  refine Calls.mono (alerts18X_ok ds vd w hd hds) ?_
  rintro e w' ⟨u, he, al, h1, h2, h3, h4, h5⟩
  exact ⟨u, he, al, h1, h2, fun a ha => (h3 a ha).noM, h4, h5⟩
end Go.Proofs.YtffbcfcoddacmaaGreat
set_option linter.unusedVariables false
set_option linter.unusedSimpArgs false
set_option maxHeartbeats 2000000
set_option maxRecDepth 100000
namespace Go.Proofs.YtffbcfcoddacmaaGreat
open Go Go.X Go.Rex
def noB (b : Nat) : Bool := FloatKind.f64.format.order b b != some .eq
def ltF (a b : Nat) : Bool := FloatKind.f64.format.order a b == some .lt
structure Bn where
  k : Int
  lo : Nat
  hi : Nat
def bnC (b : Bn) : List Value := [.int .i64 b.k, .float .f64 b.lo, .float .f64 b.hi]
def bandOf (b : Bn) : Bd := if b.k.tmod 3 = 0 then ⟨true, 0, 0⟩ else if noB b.lo = true then ⟨true, 0, 0⟩ else if noB b.hi = true then ⟨true, 0, 0⟩ else if ltF b.hi b.lo = true then ⟨false, b.hi, b.lo⟩ else ⟨false, b.lo, b.hi⟩
theorem band_ok (b : Bn) (w : World) : Fx Tryz.prog 113 [.agg (bnC b).toArray] w (fun u w' => u = .agg (bdC (bandOf b)).toArray ∧ Grow w w') := by
  refine enter Tryz.func113 rfl rfl rfl _ (Pick.sub (l := [0]) (.cons rfl .nil)) ?_
  refine RK.seq ?_
  refine RK.region ?_
  refine RL.op (.free rfl) rfl rfl (Does.box rfl) ?_
  rintro _ w1 ⟨b1, rfl, hn1⟩
  refine RL.op (.free rfl) rfl rfl (Does.alloc i86) ?_
  rintro _ w2 ⟨b2, rfl, hn2⟩
  have hB1 : Blk w2 b1 110 [.int .i64 b.k, .float .f64 b.lo, .float .f64 b.hi] := hn1.blk.mod hn2.grow (fun h => h)
  refine RL.done ?_
  refine RK.seq ?_
  refine RK.region ?_
  refine RL.q (.free rfl) rfl rfl (Yld.fieldAddr fo110_1 rfl) ?_
  refine RL.q (.free rfl) rfl rfl (Yld.load p23 rfl (at1 (hB1.cell rfl))) ?_
  refine RL.q (.free rfl) rfl rfl (Yld.fieldAddr fo110_2 rfl) ?_
  refine RL.q (.free rfl) rfl rfl (Yld.load p23 rfl (at1 (hB1.cell rfl))) ?_
  refine RL.q (.free rfl) rfl rfl (Yld.build (v := .agg #[.bool false, .float .f64 b.lo, .float .f64 b.hi]) rfl (fun w => by kernel_rfl)) ?_
  refine RL.op (.free rfl) rfl rfl (Does.alloc i86) ?_
  rintro _ w3 ⟨b3, rfl, hn3⟩
  refine RL.op' (.free rfl) rfl (Does.storeN i86 rfl rfl rfl rfl hn3.blk (Nat.le_refl 3)) ?_
  rintro _ w4 ⟨hb4, hm4, _⟩
  have hs1 := hn1.at_
  have hs2 := hn2.at_
  have hs3 := hn3.at_
  have hz1 := hn1.size
  have hz2 := hn2.size
  have hne23 : ¬ b2 = b3 := by omega
  have hne13 : ¬ b1 = b3 := by omega
  have hg4 : Grow w w4 := ((hn1.grow.trans hn2.grow).trans hn3.grow).then hm4 (fun y hy e => by have e' : y = b3 := e; omega)
  have hB2 := (hn2.blk.mod hn3.grow (fun h => h)).mod hm4 hne23
  have hB3 : Blk w4 b3 86 [.bool false, .float .f64 b.lo, .float .f64 b.hi] := hb4
  refine RL.done ?_
  iterate 2 refine RK.seq ?_
  refine RK.region ?_
  refine RL.q (.free rfl) rfl rfl (Yld.fieldAddr fo110_0 rfl) ?_
  refine RL.q (.free rfl) rfl rfl (Yld.load p3 rfl (at1 (((hB1.mod hn3.grow (fun h => h)).mod hm4 hne13).cell rfl))) ?_
  refine RL.q (.free rfl) rfl rfl (Yld.rem rfl rfl (by omega)) ?_
  iterate 2 refine RL.p rfl rfl ?_
  first | refine RL.splitD (d := 13) rfl rfl (fun h12 => ?_) (fun h12 => ?_) | refine RL.splitN (d := 13) rfl rfl (fun h12 => ?_) (fun h12 => ?_) | refine RL.split (d := 13) rfl rfl (fun h12 => ?_) (fun h12 => ?_)
  · iterate 5 refine RL.no (.no rfl rfl rfl rfl) rfl rfl ?_
    iterate 2 refine RL.p rfl rfl ?_
    iterate 5 refine RL.no (.no rfl rfl rfl rfl) rfl rfl ?_
    refine RL.p rfl rfl ?_
    refine RL.done ?_
    refine RK.condT rfl ?_
    refine RK.seq ?_
    refine RK.region ?_
    refine RL.q (.free rfl) rfl rfl (Yld.build (v := .agg (bdC ⟨true, 0, 0⟩).toArray) rfl (fun w => by kernel_rfl)) ?_
    refine RL.op' (.free rfl) rfl (Does.storeN i86 rfl rfl rfl rfl hB2 (Nat.le_refl 3)) ?_
    rintro _ w9 ⟨hb9, hm9, _⟩
    refine RL.done ?_
    refine RK.ret_of Tryz.func113 (resC (cs := bdC (bandOf b)) rfl rfl a86 (by rw [show bandOf b = ⟨true, 0, 0⟩ by unfold bandOf; rw [if_pos h12]]; exact hb9)) ?_ _
    exact ⟨_, rfl, rfl, hg4.then hm9 (fun y hy e => by have e' : y = b2 := e; omega)⟩
  · refine RL.q (.yes rfl rfl rfl) rfl rfl (Yld.fieldAddr fo86_1 rfl) ?_
    refine RL.q (.yes rfl rfl rfl) rfl rfl (Yld.load p23 rfl (at1 (hB3.cell rfl))) ?_
    refine RL.q (.yes rfl rfl rfl) rfl rfl (Yld.fieldAddr fo86_1 rfl) ?_
    refine RL.q (.yes rfl rfl rfl) rfl rfl (Yld.load p23 rfl (at1 (hB3.cell rfl))) ?_
    refine RL.q (.yes rfl rfl rfl) rfl rfl (Yld.pure rfl) ?_
    iterate 2 refine RL.p rfl rfl ?_
    first | refine RL.splitD (d := 20) rfl rfl (fun h18 => ?_) (fun h18 => ?_) | refine RL.splitN (d := 20) rfl rfl (fun h18 => ?_) (fun h18 => ?_) | refine RL.split (d := 20) rfl rfl (fun h18 => ?_) (fun h18 => ?_)
    · have e18 : noB b.lo = true := by unfold noB; simpa using h18
      iterate 5 refine RL.no (.no rfl rfl rfl rfl) rfl rfl ?_
      refine RL.p rfl rfl ?_
      refine RL.done ?_
      refine RK.condT rfl ?_
      refine RK.seq ?_
      refine RK.region ?_
      refine RL.q (.free rfl) rfl rfl (Yld.build (v := .agg (bdC ⟨true, 0, 0⟩).toArray) rfl (fun w => by kernel_rfl)) ?_
      refine RL.op' (.free rfl) rfl (Does.storeN i86 rfl rfl rfl rfl hB2 (Nat.le_refl 3)) ?_
      rintro _ w9 ⟨hb9, hm9, _⟩
      refine RL.done ?_
      refine RK.ret_of Tryz.func113 (resC (cs := bdC (bandOf b)) rfl rfl a86 (by rw [show bandOf b = ⟨true, 0, 0⟩ by unfold bandOf; rw [if_neg h12, if_pos e18]]; exact hb9)) ?_ _
      exact ⟨_, rfl, rfl, hg4.then hm9 (fun y hy e => by have e' : y = b2 := e; omega)⟩
    · have e18 : ¬ noB b.lo = true := by unfold noB; simpa using h18
      refine RL.q (.yes rfl rfl rfl) rfl rfl (Yld.fieldAddr fo86_2 rfl) ?_
      refine RL.q (.yes rfl rfl rfl) rfl rfl (Yld.load p23 rfl (at1 (hB3.cell rfl))) ?_
      refine RL.q (.yes rfl rfl rfl) rfl rfl (Yld.fieldAddr fo86_2 rfl) ?_
      refine RL.q (.yes rfl rfl rfl) rfl rfl (Yld.load p23 rfl (at1 (hB3.cell rfl))) ?_
      refine RL.q (.yes rfl rfl rfl) rfl rfl (Yld.pure rfl) ?_
      refine RL.p rfl rfl ?_
      refine RL.done ?_
      first | refine RK.condD rfl (fun h25 => ?_) (fun h25 => ?_) | refine RK.condN rfl (fun h25 => ?_) (fun h25 => ?_) | refine RK.cond rfl (fun h25 => ?_) (fun h25 => ?_)
      · have e25 : noB b.hi = true := by unfold noB; simpa using h25
        refine RK.seq ?_
        refine RK.region ?_
        refine RL.q (.free rfl) rfl rfl (Yld.build (v := .agg (bdC ⟨true, 0, 0⟩).toArray) rfl (fun w => by kernel_rfl)) ?_
        refine RL.op' (.free rfl) rfl (Does.storeN i86 rfl rfl rfl rfl hB2 (Nat.le_refl 3)) ?_
        rintro _ w9 ⟨hb9, hm9, _⟩
        refine RL.done ?_
        refine RK.ret_of Tryz.func113 (resC (cs := bdC (bandOf b)) rfl rfl a86 (by rw [show bandOf b = ⟨true, 0, 0⟩ by unfold bandOf; rw [if_neg h12, if_neg e18, if_pos e25]]; exact hb9)) ?_ _
        exact ⟨_, rfl, rfl, hg4.then hm9 (fun y hy e => by have e' : y = b2 := e; omega)⟩
      · have e25 : ¬ noB b.hi = true := by unfold noB; simpa using h25
        refine RK.skip ?_
        iterate 2 refine RK.seq ?_
        refine RK.region ?_
        refine RL.q (.free rfl) rfl rfl (Yld.fieldAddr fo86_2 rfl) ?_
        refine RL.q (.free rfl) rfl rfl (Yld.load p23 rfl (at1 (hB3.cell rfl))) ?_
        refine RL.q (.free rfl) rfl rfl (Yld.fieldAddr fo86_1 rfl) ?_
        refine RL.q (.free rfl) rfl rfl (Yld.load p23 rfl (at1 (hB3.cell rfl))) ?_
        refine RL.p rfl rfl ?_
        refine RL.done ?_
        first | refine RK.condD rfl (fun h32 => ?_) (fun h32 => ?_) | refine RK.condN rfl (fun h32 => ?_) (fun h32 => ?_) | refine RK.cond rfl (fun h32 => ?_) (fun h32 => ?_)
        · have e32 : ltF b.hi b.lo = true := by unfold ltF; simpa using h32
          refine RK.region ?_
          refine RL.q (.free rfl) rfl rfl (Yld.fieldAddr fo86_2 rfl) ?_
          refine RL.q (.free rfl) rfl rfl (Yld.load p23 rfl (at1 (hB3.cell rfl))) ?_
          refine RL.q (.free rfl) rfl rfl (Yld.fieldAddr fo86_1 rfl) ?_
          refine RL.q (.free rfl) rfl rfl (Yld.load p23 rfl (at1 (hB3.cell rfl))) ?_
          refine RL.q (.free rfl) rfl rfl (Yld.fieldAddr fo86_1 rfl) ?_
          refine RL.op' (.free rfl) rfl (Does.store i23 rfl rfl rfl hB3 (.s .z)) ?_
          rintro _ w5 ⟨hb5, hm5, _⟩
          refine RL.q (.free rfl) rfl rfl (Yld.fieldAddr fo86_2 rfl) ?_
          refine RL.op' (.free rfl) rfl (Does.store i23 rfl rfl rfl hb5 (.s (.s .z))) ?_
          rintro _ w6 ⟨hb6, hm6, _⟩
          refine RL.done ?_
          refine RK.seq ?_
          refine RK.region ?_
          refine RL.q (.free rfl) rfl rfl (Yld.loadN (cs := bdC ⟨false, b.hi, b.lo⟩) a86 rfl (atN (blk0' hb6))) ?_
          refine RL.op' (.free rfl) rfl (Does.storeN i86 rfl rfl rfl rfl ((hB2.mod hm5 hne23).mod hm6 hne23) (Nat.le_refl 3)) ?_
          rintro _ w9 ⟨hb9, hm9, _⟩
          refine RL.done ?_
          refine RK.ret_of Tryz.func113 (resC (cs := bdC (bandOf b)) rfl rfl a86 (by rw [show bandOf b = ⟨false, b.hi, b.lo⟩ by unfold bandOf; rw [if_neg h12, if_neg e18, if_neg e25, if_pos e32]]; exact hb9)) ?_ _
          exact ⟨_, rfl, rfl, ((hg4.then hm5 (fun y hy e => by have e' : y = b3 := e; omega)).then hm6 (fun y hy e => by have e' : y = b3 := e; omega)).then hm9 (fun y hy e => by have e' : y = b2 := e; omega)⟩
        · have e32 : ¬ ltF b.hi b.lo = true := by unfold ltF; simpa using h32
          refine RK.skip ?_
          refine RK.seq ?_
          refine RK.region ?_
          refine RL.q (.free rfl) rfl rfl (Yld.loadN (cs := bdC ⟨false, b.lo, b.hi⟩) a86 rfl (atN (blk0' hB3))) ?_
          refine RL.op' (.free rfl) rfl (Does.storeN i86 rfl rfl rfl rfl hB2 (Nat.le_refl 3)) ?_
          rintro _ w9 ⟨hb9, hm9, _⟩
          refine RL.done ?_
          refine RK.ret_of Tryz.func113 (resC (cs := bdC (bandOf b)) rfl rfl a86 (by rw [show bandOf b = ⟨false, b.lo, b.hi⟩ by unfold bandOf; rw [if_neg h12, if_neg e18, if_neg e25, if_neg e32]]; exact hb9)) ?_ _
          exact ⟨_, rfl, rfl, hg4.then hm9 (fun y hy e => by have e' : y = b2 := e; omega)⟩
structure Rd where
  sv : Value
  tv : Value
  ev : Value
  src : List Dm
  tgt : List Dm
  bn : Bn
  eq : List Int
def rdC (r : Rd) : List Value := [r.sv, r.tv, .int .i64 r.bn.k, .float .f64 r.bn.lo, .float .f64 r.bn.hi, r.ev]
theorem rdC_len (r : Rd) : (rdC r).length = 6 := rfl
structure Rd.Ok (w : World) (r : Rd) : Prop where
  s : Sl No w r.sv 3 r.src.length (r.src.flatMap dmC)
  t : Sl No w r.tv 3 r.tgt.length (r.tgt.flatMap dmC)
  e : Sl No w r.ev 1 r.eq.length (ints r.eq)
theorem Rd.Ok.mod {w w' : World} {r : Rd} (h : r.Ok w) (hg : Grow w w') : r.Ok w' := ⟨h.s.mod hg, h.t.mod hg, h.e.mod hg⟩
def enL : List ByteArray := [⟨#[90, 111, 110, 101, 57]⟩, ⟨#[95, 120]⟩, ⟨#[104, 111, 115, 116]⟩, ⟨#[106, 111, 98]⟩, ⟨#[115, 101, 118]⟩]
def hasN (l : List Int) (nm : ByteArray) : Bool := (l.take 9).any fun n => decide (nmS n = nm)
def eqF (l : List Int) : List ByteArray → List ByteArray → List ByteArray
  | [], out => out
  | nm :: ns, out => if out.length < 4 then eqF l ns (if hasN l nm = true then out ++ [nm] else out) else out
def eqOf (l : List Int) : List ByteArray := eqF l enL []
def ruOf (r : Rd) (v1 v2 v3 : Value) : Ru := ⟨v1, v2, v3, matsS r.src true, matsS r.tgt true, bandOf r.bn, eqOf r.eq⟩
theorem en_get : ∀ q, q < 5 → (enL.map Value.string).toArray[q]? = some (.string (enL.getD q ByteArray.empty)) := by
  intro q hq
  rcases q with _ | _ | _ | _ | _ | q <;> first | rfl | omega
theorem en_drop {i : Nat} (h : i < 5) : enL.drop i = enL.getD i ByteArray.empty :: enL.drop (i + 1) := by
  rcases i with _ | _ | _ | _ | _ | i <;> first | rfl | omega
theorem hasN_no {l : List Int} {nm : ByteArray} (h : ∀ (q : Nat) (z : Int), q < 9 → l[q]? = some z → nmS z ≠ nm) : hasN l nm = false := by
  unfold hasN
  rw [List.any_eq_false]
  intro z hz
  obtain ⟨q, hq⟩ := List.getElem?_of_mem hz
  have hq9 : q < 9 := by have := (List.getElem?_eq_some_iff.1 hq).1; simp at this; omega
  rw [List.getElem?_take_of_lt hq9] at hq
  simpa using h q z hq9 hq
theorem hasN_yes {l : List Int} {nm : ByteArray} {q : Nat} {z : Int} (hq : q < 9) (hz : l[q]? = some z) (h : nmS z = nm) : hasN l nm = true := by
  unfold hasN
  rw [List.any_eq_true]
  exact ⟨z, List.mem_of_getElem? (by rw [List.getElem?_take_of_lt hq]; exact hz), by simpa using h⟩
theorem rule62_ok (r : Rd) (w : World) (hr : r.Ok w) : Fx Tryz.prog 62 [.agg (rdC r).toArray] w (fun u w' => ∃ v1 v2 v3, u = .agg (ruC (ruOf r v1 v2 v3)).toArray ∧ (ruOf r v1 v2 v3).Ok (fun b => b < w.heap.size) w' ∧ Grow w w') := by
  obtain ⟨ade, ce, hve⟩ := hr.e.shape
  have hbig := hr.e.big
  refine enter Tryz.func62 rfl rfl rfl _ (Pick.sub (l := [0]) (.cons rfl .nil)) ?_
  refine RK.seq ?_
  refine RK.region ?_
  refine RL.op (.free rfl) rfl rfl (Does.box rfl) ?_
  rintro _ w1 ⟨b1, rfl, hn1⟩
  refine RL.op (.free rfl) rfl rfl (Does.alloc i89) ?_
  rintro _ w2 ⟨b2, rfl, hn2⟩
  have hB1 : Blk w2 b1 112 [r.sv, r.tv, .int .i64 r.bn.k, .float .f64 r.bn.lo, .float .f64 r.bn.hi, .slice ade r.eq.length ce] := by have := hn1.blk.mod hn2.grow (fun h => h); rw [← hve]; exact this
  have hg02 := hn1.grow.trans hn2.grow
  have hro := hr.mod hg02
  refine RL.done ?_
  refine RK.seq ?_
  refine RK.cutS (fun b3 : Nat => [(1, pp b1), (2, pp b2), (3, pp b3)]) (fun b3 w3 => ∃ v1 v2, w2.heap.size ≤ b3 ∧ Blk w3 b3 89 [v1, v2, .bool (bandOf r.bn).all, .float .f64 (bandOf r.bn).lo, .float .f64 (bandOf r.bn).hi, .slice none 0 0] ∧ SlM (fun b => b = b3 ∨ b < w2.heap.size) w3 v1 (matsS r.src true) ∧ SlM (fun b => b = b3 ∨ b < w2.heap.size) w3 v2 (matsS r.tgt true) ∧ Grow w2 w3) (fun b3 w3 hQ => ?_) (fun hj => ?_)
  · obtain ⟨v1, v2, hb3, hB3, hs1, hs2, hg3⟩ := hQ
    have hg03 := hg02.trans hg3
    have hlt3 := hB3.lt
    have hlt2 := hn2.blk.lt
    have hat2 := hn2.at_
    have hat1 := hn1.at_
    have hz1 := hn1.size
    have hz2 := hn2.size
    have hne2 : ¬ b2 = b3 := by omega
    have hne1 : ¬ b1 = b3 := by omega
    obtain ⟨ad8, c8, rfl⟩ := hs1.shape
    obtain ⟨ad9, c9, rfl⟩ := hs2.shape
    iterate 2 refine RK.seq ?_
    refine RK.region ?_
    refine RL.p rfl rfl ?_
    refine RL.done ?_
    refine RK.block ?_
    refine RK.loop (fun s : Nat × List ByteArray × Value => [(1, pp b1), (2, pp b2), (3, pp b3), (4, .int .i64 (s.1 : Int))]) (fun s w' => Blk w' b3 89 [.slice ad8 (matsS r.src true).length c8, .slice ad9 (matsS r.tgt true).length c9, .bool (bandOf r.bn).all, .float .f64 (bandOf r.bn).lo, .float .f64 (bandOf r.bn).hi, s.2.2] ∧ Row w' 9 1 s.2.2 s.2.1.length (strsV s.2.1) ∧ Fresh w3.heap.size s.2.2 ∧ Mod (· = b3) w3 w' ∧ s.1 ≤ 5 ∧ s.2.1.length ≤ 4 ∧ eqF r.eq (enL.drop s.1) s.2.1 = eqOf r.eq) (fun s => 5 - s.1) (0, [], .slice none 0 0) ⟨rfl, rfl, rfl, rfl, trivial⟩ ⟨hB3, by simpa [strsV] using Row.nil _ _ _, fun b e => by simp [Value.ownBlock] at e, Mod.refl _ _, by simp, by simp, rfl⟩ (fun s w4 hI ih => ?_)
    obtain ⟨i, out, u⟩ := s
    obtain ⟨hB4, hr4, hf4, hm4, hi, hl4, hst⟩ := hI
    simp only at hB4 hr4 hf4 hi hl4 hst
    obtain ⟨adu, cu, rfl, hcu⟩ := hr4.cap
    iterate 2 refine RK.seq ?_
    refine RK.region ?_
    iterate 3 refine RL.p rfl rfl ?_
    first | refine RL.splitD (d := 19) rfl rfl (fun h18 => ?_) (fun h18 => ?_) | refine RL.splitN (d := 19) rfl rfl (fun h18 => ?_) (fun h18 => ?_) | refine RL.split (d := 19) rfl rfl (fun h18 => ?_) (fun h18 => ?_)
    · refine RL.q (.yes rfl rfl rfl) rfl rfl (Yld.fieldAddr fo89_3 rfl) ?_
      refine RL.q (.yes rfl rfl rfl) rfl rfl (Yld.load p87 rfl (at1 (hB4.cell rfl))) ?_
      refine RL.q (.yes rfl rfl rfl) rfl rfl (Yld.lenSl u87 rfl) ?_
      refine RL.q (.yes rfl rfl rfl) rfl rfl (Yld.pure rfl) ?_
      refine RL.p rfl rfl ?_
      refine RL.done ?_
      first | refine RK.condD rfl (fun h23 => ?_) (fun h23 => ?_) | refine RK.condN rfl (fun h23 => ?_) (fun h23 => ?_) | refine RK.cond rfl (fun h23 => ?_) (fun h23 => ?_)
      · rw [en_drop (by omega)] at hst
        unfold eqF at hst
        rw [if_pos (by omega)] at hst
        have hC1 := (hB1.mod hg3 (fun h => h)).mod hm4 hne1
        have hs4 := hm4.size
        refine RK.skip ?_
        refine RK.seq ?_
        refine RK.block ?_
        refine RK.seq ?_
        refine RK.region ?_
        refine RL.q (.free rfl) rfl rfl (Yld.build (v := .agg (enL.map Value.string).toArray) rfl (fun w => by kernel_rfl)) ?_
        refine RL.p rfl rfl ?_
        refine RL.q (.free rfl) rfl rfl (Yld.idxArr Tryz.underlying169 i9 p9 rfl rfl (by omega) (en_get i (by omega))) ?_
        refine RL.p rfl rfl ?_
        refine RL.done ?_
        refine RK.seq ?_
        refine RK.region ?_
        refine RL.p rfl rfl ?_
        refine RL.done ?_
        refine RK.block ?_
        refine RK.loop (fun j : Nat => [(1, pp b1), (2, pp b2), (3, pp b3), (4, .int .i64 (i : Int)), (5, .string (enL.getD i ByteArray.empty)), (6, .int .i64 (j : Int))]) (fun j w' => w4 = w' ∧ j ≤ r.eq.length ∧ j ≤ 9 ∧ ∀ (q : Nat) (z : Int), q < j → r.eq[q]? = some z → nmS z ≠ (enL.getD i ByteArray.empty)) (fun j => r.eq.length - j) 0 ⟨rfl, rfl, rfl, rfl, rfl, rfl, trivial⟩ ⟨rfl, by omega, by omega, fun q z h => by omega⟩ (fun j w' hI2 ih2 => ?_)
        obtain ⟨rfl, hj, hj9, hall⟩ := hI2
        iterate 2 refine RK.seq ?_
        refine RK.region ?_
        refine RL.p rfl rfl ?_
        refine RL.q (.free rfl) rfl rfl (Yld.fieldAddr fo112_3 rfl) ?_
        refine RL.q (.free rfl) rfl rfl (Yld.load p22 rfl (at1 (hC1.cell rfl))) ?_
        refine RL.q (.free rfl) rfl rfl (Yld.lenSl u22 rfl) ?_
        iterate 2 refine RL.p rfl rfl ?_
        first | refine RL.splitD (d := 35) rfl rfl (fun h34 => ?_) (fun h34 => ?_) | refine RL.splitN (d := 35) rfl rfl (fun h34 => ?_) (fun h34 => ?_) | refine RL.split (d := 35) rfl rfl (fun h34 => ?_) (fun h34 => ?_)
        · iterate 2 refine RL.q (.yes rfl rfl rfl) rfl rfl (Yld.pure rfl) ?_
          refine RL.p rfl rfl ?_
          refine RL.done ?_
          first | refine RK.condD rfl (fun h37 => ?_) (fun h37 => ?_) | refine RK.condN rfl (fun h37 => ?_) (fun h37 => ?_) | refine RK.cond rfl (fun h37 => ?_) (fun h37 => ?_)
          · obtain ⟨z, hz⟩ : ∃ z, r.eq[j]? = some z := ⟨r.eq[j]'(by omega), List.getElem?_eq_getElem (by omega)⟩
            have hre : Sl (· = b3) w4 (.slice ade r.eq.length ce) 1 r.eq.length (ints r.eq) := ((hve ▸ hr.e).off (M' := (· = b3)) (by omega) (fun b hb e => by have e' : b = b3 := e; omega)).mod (Mod.any' hg03) |>.mod hm4
            obtain ⟨b9, o9, c9', he9, _, _, hc9⟩ := hre.elem1 (k := j) (u := .int .i64 z) (by simp [hz])
            cases he9
            refine RK.skip ?_
            refine RK.seq ?_
            refine RK.block ?_
            refine RK.seq ?_
            refine RK.region ?_
            refine RL.q (.free rfl) rfl rfl (Yld.fieldAddr fo112_3 rfl) ?_
            refine RL.q (.free rfl) rfl rfl (Yld.load p22 rfl (at1 (hC1.cell rfl))) ?_
            refine RL.p rfl rfl ?_
            refine RL.q (.free rfl) rfl rfl (Yld.indexAddrN u22 i3 rfl rfl (by omega)) ?_
            refine RL.q (.free rfl) rfl rfl (Yld.load p3 rfl (at1 (hc9 j (.int .i64 z) (by simp [hz])))) ?_
            refine RL.op (.free rfl) rfl rfl (Does.call rfl e69 (nmK_ok _ _)) ?_
            rintro _ _ ⟨rfl, rfl⟩
            iterate 2 refine RL.p rfl rfl ?_
            refine RL.done ?_
            first | refine RK.condD rfl (fun h48 => ?_) (fun h48 => ?_) | refine RK.condN rfl (fun h48 => ?_) (fun h48 => ?_) | refine RK.cond rfl (fun h48 => ?_) (fun h48 => ?_)
            · have hyes := hasN_yes (l := r.eq) (by omega) hz h48
              rw [if_pos hyes] at hst
              refine RK.seq ?_
              refine RK.region ?_
              refine RL.q (.free rfl) rfl rfl (Yld.fieldAddr fo89_3 rfl) ?_
              refine RL.q (.free rfl) rfl rfl (Yld.load p87 rfl (at1 (hB4.cell rfl))) ?_
              refine RL.p rfl rfl ?_
              refine RL.op (.free rfl) rfl rfl (Does.slice1 u87 i9 rfl rfl rfl rfl rfl) ?_
              rintro _ w5 ⟨b10, rfl, hn10⟩
              refine RL.op (.free rfl) rfl rfl (Does.append u87 i9 rfl rfl rfl rfl rfl (hr4.mod hn10.grow (fun _ _ h => h)) (Sl.new hn10 1 1 rfl (by omega) (fun h => h)) (rfl) (by omega)) ?_
              rintro z6 w6 ⟨hr6, hm6, hu6⟩
              have hs10 := hn10.grow.size
              have hun : ¬ (Value.slice adu out.length cu).ownBlock = some b3 := fun e => by have := hf4 b3 e; omega
              have hB6 := (hB4.mod hn10.grow (fun h => h)).mod hm6 hun
              have hf6 : Fresh w3.heap.size z6 := fun b e => by
                  rcases hu6 with h1 | h1
                  · exact hf4 b (h1 ▸ e)
                  · rw [h1] at e; cases e; omega
              obtain ⟨ad10, c10, rfl⟩ := hr6.slice
              refine RL.q (.free rfl) rfl rfl (Yld.fieldAddr fo89_3 rfl) ?_
              refine RL.op' (.free rfl) rfl (Does.store i87 rfl rfl rfl hB6 (.s (.s (.s (.s (.s .z)))))) ?_
              rintro _ w7 ⟨hb7, hm7, _⟩
              refine RL.done ?_
              refine RK.exit rfl ?_
              refine RK.inBlock ?_
              refine RK.region ?_
              iterate 2 refine RL.p rfl rfl ?_
              refine RL.re (d := 26) rfl rfl (succ_i64 (by omega)) ?_
              refine RL.p rfl rfl ?_
              refine RL.done ?_
              exact RK.back (ih (i + 1, out ++ [(enL.getD i ByteArray.empty)], _) _ ⟨hb7, by
                  simp only
                  have e1 : strsV (out ++ [(enL.getD i ByteArray.empty)]) = strsV out ++ (Value.string (enL.getD i ByteArray.empty)).cells.toList := by simp [strsV, Value.cells]
                  rw [e1, List.length_append]
                  exact hr6.mod hm7 (fun b e e2 => by have e' : b = b3 := e2; have := hf6 b e; omega), hf6, ((hm4.then hn10.grow (fun _ _ h => h.elim)).then hm6 (fun b hb e => by have := hf4 b e; omega)).trans hm7, by simp only; omega, by simp only; rw [List.length_append]; simp; omega, hst⟩ (by simp only; omega)) ⟨rfl, rfl, rfl, rfl, trivial⟩
            · refine RK.skip ?_
              refine RK.inBlock ?_
              refine RK.region ?_
              iterate 2 refine RL.p rfl rfl ?_
              refine RL.re (d := 40) rfl rfl (succ_i64 (by omega)) ?_
              refine RL.p rfl rfl ?_
              refine RL.done ?_
              exact RK.back (ih2 (j + 1) _ ⟨rfl, by omega, by omega, fun q y hq hy => by by_cases e : q = j; (subst e; rw [hz] at hy; cases hy; exact h48); exact hall q y (by omega) hy⟩ (by omega)) ⟨rfl, rfl, rfl, rfl, rfl, rfl, trivial⟩
          · have hno : hasN r.eq (enL.getD i ByteArray.empty) = false := hasN_no (fun q z hq hz => hall q z (by omega) hz)
            rw [if_neg (by rw [hno]; simp)] at hst
            refine RK.exit rfl ?_
            refine RK.inBlock ?_
            refine RK.region ?_
            iterate 2 refine RL.p rfl rfl ?_
            refine RL.re (d := 26) rfl rfl (succ_i64 (by omega)) ?_
            refine RL.p rfl rfl ?_
            refine RL.done ?_
            exact RK.back (ih (i + 1, out, _) _ ⟨hB4, hr4, hf4, hm4, by simp only; omega, hl4, hst⟩ (by simp only; omega)) ⟨rfl, rfl, rfl, rfl, trivial⟩
        · have hall9 := hall
          have hno : hasN r.eq (enL.getD i ByteArray.empty) = false := hasN_no (fun q z hq hz => hall q z (by have := (List.getElem?_eq_some_iff.1 hz).1; omega) hz)
          rw [if_neg (by rw [hno]; simp)] at hst
          iterate 2 refine RL.no (.no rfl rfl rfl rfl) rfl rfl ?_
          refine RL.p rfl rfl ?_
          refine RL.done ?_
          refine RK.condF rfl ?_
          refine RK.exit rfl ?_
          refine RK.inBlock ?_
          refine RK.region ?_
          iterate 2 refine RL.p rfl rfl ?_
          refine RL.re (d := 26) rfl rfl (succ_i64 (by omega)) ?_
          refine RL.p rfl rfl ?_
          refine RL.done ?_
          exact RK.back (ih (i + 1, out, _) _ ⟨hB4, hr4, hf4, hm4, by simp only; omega, hl4, hst⟩ (by simp only; omega)) ⟨rfl, rfl, rfl, rfl, trivial⟩
      · have hfin : out = eqOf r.eq := by rw [← hst, en_drop (by omega)]; unfold eqF; rw [if_neg (by omega)]
        have hC2 : Blk w4 b2 89 _ := (hn2.blk.mod hg3 (fun h => h)).mod hm4 hne2
        subst hfin
        refine RK.exit rfl ?_
        refine RK.seq ?_
        refine RK.region ?_
        refine RL.q (.free rfl) rfl rfl (Yld.loadN (cs := ruC (ruOf r (.slice ad8 (matsS r.src true).length c8) (.slice ad9 (matsS r.tgt true).length c9) (.slice adu (eqOf r.eq).length cu))) a89 rfl (atN (blk0' hB4))) ?_
        refine RL.op' (.free rfl) rfl (Does.storeN i89 rfl rfl rfl rfl hC2 (Nat.le_refl 6)) ?_
        rintro _ w9 ⟨hb9, hm9, _⟩
        have hm9' : Mod (fun b => b = b3 ∨ b < w2.heap.size) w4 w9 := hm9.mono fun b _ e => .inr (by have e' : b = b2 := e; omega)
        refine RL.done ?_
        refine RK.ret_of Tryz.func62 (resC (cs := ruC (ruOf r (.slice ad8 (matsS r.src true).length c8) (.slice ad9 (matsS r.tgt true).length c9) (.slice adu (eqOf r.eq).length cu))) rfl rfl a89 hb9) ?_ _
        exact ⟨_, rfl, _, _, _, rfl, ⟨((hs1.mod (hm4.mono fun b _ e => .inl e)).mod hm9').off (by omega) (fun b _ e => .inr (by have e' : b < w.heap.size := e; omega)), ((hs2.mod (hm4.mono fun b _ e => .inl e)).mod hm9').off (by omega) (fun b _ e => .inr (by have e' : b < w.heap.size := e; omega)), ((Sl.own (M := fun b => b = b2 ∨ b < w.heap.size) hr4 (fun b e e2 => by have := hf4 b e; have := hg3.size; omega)).mod (hm9.mono fun b _ e => .inl e)).off (by omega) (fun b _ e => .inr e)⟩, (hg03.then hm4 (fun y hy e => by have e' : y = b3 := e; omega)).then hm9 (fun y hy e => by have e' : y = b2 := e; omega)⟩
    · have hfin : out = eqOf r.eq := by rw [← hst, show i = 5 by omega]; rfl
      have hC2 : Blk w4 b2 89 _ := (hn2.blk.mod hg3 (fun h => h)).mod hm4 hne2
      subst hfin
      iterate 4 refine RL.no (.no rfl rfl rfl rfl) rfl rfl ?_
      refine RL.p rfl rfl ?_
      refine RL.done ?_
      refine RK.condF rfl ?_
      refine RK.exit rfl ?_
      refine RK.seq ?_
      refine RK.region ?_
      refine RL.q (.free rfl) rfl rfl (Yld.loadN (cs := ruC (ruOf r (.slice ad8 (matsS r.src true).length c8) (.slice ad9 (matsS r.tgt true).length c9) (.slice adu (eqOf r.eq).length cu))) a89 rfl (atN (blk0' hB4))) ?_
      refine RL.op' (.free rfl) rfl (Does.storeN i89 rfl rfl rfl rfl hC2 (Nat.le_refl 6)) ?_
      rintro _ w9 ⟨hb9, hm9, _⟩
      have hm9' : Mod (fun b => b = b3 ∨ b < w2.heap.size) w4 w9 := hm9.mono fun b _ e => .inr (by have e' : b = b2 := e; omega)
      refine RL.done ?_
      refine RK.ret_of Tryz.func62 (resC (cs := ruC (ruOf r (.slice ad8 (matsS r.src true).length c8) (.slice ad9 (matsS r.tgt true).length c9) (.slice adu (eqOf r.eq).length cu))) rfl rfl a89 hb9) ?_ _
      exact ⟨_, rfl, _, _, _, rfl, ⟨((hs1.mod (hm4.mono fun b _ e => .inl e)).mod hm9').off (by omega) (fun b _ e => .inr (by have e' : b < w.heap.size := e; omega)), ((hs2.mod (hm4.mono fun b _ e => .inl e)).mod hm9').off (by omega) (fun b _ e => .inr (by have e' : b < w.heap.size := e; omega)), ((Sl.own (M := fun b => b = b2 ∨ b < w.heap.size) hr4 (fun b e e2 => by have := hf4 b e; have := hg3.size; omega)).mod (hm9.mono fun b _ e => .inl e)).off (by omega) (fun b _ e => .inr e)⟩, (hg03.then hm4 (fun y hy e => by have e' : y = b3 := e; omega)).then hm9 (fun y hy e => by have e' : y = b2 := e; omega)⟩
  · refine RK.drawT No (.op 0 false (.op 1 false (.op 3 false (.op 4 false (.op 6 false (.op 7 false (.fork 2 (.fork 5 (.fork 8 (.op 9 false (.op 10 true (.op 11 true .nil))) 10 (.op 8 true (.op 9 false (.op 11 true .nil)))) 10 (.op 5 true (.op 8 true (.op 9 false (.op 11 true .nil))))) 10 (.op 2 true (.op 5 true (.op 8 true (.op 9 false (.op 11 true .nil)))))))))))) [] mixed (by kernel_rfl) ?_
    refine DT.qf rfl (.free rfl) rfl rfl (Yld.fieldAddr fo112_0 rfl) ?_
    refine DT.q rfl (.free rfl) rfl rfl rfl (Yld.load p73 rfl (atM (hB1.cell rfl) (fun h => h))) (Mod.drew _ _) ?_
    refine DT.qf rfl (.free rfl) rfl rfl (Yld.fieldAddr fo112_1 rfl) ?_
    refine DT.q rfl (.free rfl) rfl rfl rfl (Yld.load p73 rfl (atM (hB1.cell rfl) (fun h => h))) (Mod.drew _ _) ?_
    refine DT.qf rfl (.free rfl) rfl rfl (Yld.fieldAddr fo112_2 rfl) ?_
    refine DT.q rfl (.free rfl) rfl rfl rfl (Yld.loadN (cs := bnC r.bn) a110 rfl (atNM (fldN hB1 2 3) (fun h => h))) (Mod.drew _ _) ?_
    refine DT.fork ?_ ?_
    · refine DT.op rfl (.free rfl) rfl rfl (Does.call rfl e46 (mats_ok No r.src true _ _ (hro.s.mod (Mod.drew _ _)))) ?_
      rintro z1 w3 ⟨hr1, hf1, hg3⟩
      have hd3 := (Mod.drew No w2).trans hg3
      refine ⟨hd3, ?_⟩
      refine DT.fork ?_ ?_
      · refine DT.op rfl (.free rfl) rfl rfl (Does.call rfl e46 (mats_ok No r.tgt true _ _ (hro.t.mod hd3))) ?_
        rintro z2 w4 ⟨hr2, hf2, hg4⟩
        have hd4 := hd3.trans hg4
        refine ⟨hd4, ?_⟩
        obtain ⟨ad8, c8, rfl⟩ := hr1.slice
        obtain ⟨ad9, c9, rfl⟩ := hr2.slice
        refine DT.fork ?_ ?_
        · refine DT.op rfl (.free rfl) rfl rfl (Does.call rfl e113 (band_ok r.bn _)) ?_
          rintro _ w5 ⟨rfl, hg5⟩
          refine ⟨hd4.trans hg5, ?_⟩
          refine DT.qf rfl (.free rfl) rfl rfl (Yld.build (v := .agg #[.slice ad8 (matsS r.src true).length c8, .slice ad9 (matsS r.tgt true).length c9, .bool (bandOf r.bn).all, .float .f64 (bandOf r.bn).lo, .float .f64 (bandOf r.bn).hi, .slice none 0 0]) rfl (fun w => by kernel_rfl)) ?_
          refine DT.op rfl (.free rfl) rfl rfl (Does.alloc i89) ?_
          rintro _ w6 ⟨b3, rfl, hn3⟩
          have gpre := (hd4.trans hg5).trans hn3.grow
          refine ⟨gpre, ?_⟩
          have hsz := hn3.at_
          have hs5 := (hd4.trans hg5).size
          have hs35 := (hg4.trans hg5).size
          have hs45 := hg5.size
          have hle : w2.heap.size ≤ b3 := by omega
          have hP3 := hn3.blk
          have hA := hr1.mod ((hg4.trans hg5).trans hn3.grow) (fun _ _ h => h)
          have hBB := hr2.mod (hg5.trans hn3.grow) (fun _ _ h => h)
          have hneA : ∀ b, (Value.slice ad8 (matsS r.src true).length c8).ownBlock = some b → ¬ (b = b3 ∨ b < w2.heap.size) := fun b e e2 => by have := hr1.lt (b := b) e; have := hf1 b e; have : w2.drew.heap.size = w2.heap.size := rfl; omega
          have hneB : ∀ b, (Value.slice ad9 (matsS r.tgt true).length c9).ownBlock = some b → ¬ (b = b3 ∨ b < w2.heap.size) := fun b e e2 => by have := hr2.lt (b := b) e; have := hf2 b e; have := hd3.size; omega
          refine DT.op' rfl (.free rfl) rfl (Does.storeN i89 rfl rfl rfl rfl hP3 (Nat.le_refl 6)) ?_
          rintro _ w7 ⟨hb7, hm7, _⟩
          have hg7 : Grow w2 w7 := gpre.then hm7 (fun y hy e => by have e' : y = b3 := e; omega)
          refine ⟨hg7, ?_⟩
          refine DT.done ?_
          exact RK.back (hj b3 _ ⟨_, _, hle, hb7, (Sl.own hA hneA).mod (hm7.mono fun b _ e => .inl e), (Sl.own hBB hneB).mod (hm7.mono fun b _ e => .inl e), hg7⟩) ⟨rfl, rfl, rfl, trivial⟩
        · refine DT.op rfl (.free rfl) rfl rfl (Does.alloc i89) ?_
          rintro _ w5 ⟨b3, rfl, hn3⟩
          refine ⟨hd4.trans hn3.grow, ?_⟩
          refine DT.op rfl (.free rfl) rfl rfl (Does.call rfl e113 (band_ok r.bn _)) ?_
          rintro _ w6 ⟨rfl, hg5⟩
          have gpre := (hd4.trans hn3.grow).trans hg5
          refine ⟨gpre, ?_⟩
          have hsz := hn3.at_
          have hs5 := hd4.size
          have hs35 := hg4.size
          have hle : w2.heap.size ≤ b3 := by omega
          have hP3 := hn3.blk.mod hg5 (fun h => h)
          have hA := hr1.mod ((hg4.trans hn3.grow).trans hg5) (fun _ _ h => h)
          have hBB := hr2.mod (hn3.grow.trans hg5) (fun _ _ h => h)
          have hneA : ∀ b, (Value.slice ad8 (matsS r.src true).length c8).ownBlock = some b → ¬ (b = b3 ∨ b < w2.heap.size) := fun b e e2 => by have := hr1.lt (b := b) e; have := hf1 b e; have : w2.drew.heap.size = w2.heap.size := rfl; omega
          have hneB : ∀ b, (Value.slice ad9 (matsS r.tgt true).length c9).ownBlock = some b → ¬ (b = b3 ∨ b < w2.heap.size) := fun b e e2 => by have := hr2.lt (b := b) e; have := hf2 b e; have := hd3.size; omega
          refine DT.qf rfl (.free rfl) rfl rfl (Yld.build (v := .agg #[.slice ad8 (matsS r.src true).length c8, .slice ad9 (matsS r.tgt true).length c9, .bool (bandOf r.bn).all, .float .f64 (bandOf r.bn).lo, .float .f64 (bandOf r.bn).hi, .slice none 0 0]) rfl (fun w => by kernel_rfl)) ?_
          refine DT.op' rfl (.free rfl) rfl (Does.storeN i89 rfl rfl rfl rfl hP3 (Nat.le_refl 6)) ?_
          rintro _ w7 ⟨hb7, hm7, _⟩
          have hg7 : Grow w2 w7 := gpre.then hm7 (fun y hy e => by have e' : y = b3 := e; omega)
          refine ⟨hg7, ?_⟩
          refine DT.done ?_
          exact RK.back (hj b3 _ ⟨_, _, hle, hb7, (Sl.own hA hneA).mod (hm7.mono fun b _ e => .inl e), (Sl.own hBB hneB).mod (hm7.mono fun b _ e => .inl e), hg7⟩) ⟨rfl, rfl, rfl, trivial⟩
      · refine DT.op rfl (.free rfl) rfl rfl (Does.alloc i89) ?_
        rintro _ w4 ⟨b3, rfl, hn3⟩
        have hd4 := hd3.trans hn3.grow
        refine ⟨hd4, ?_⟩
        refine DT.op rfl (.free rfl) rfl rfl (Does.call rfl e46 (mats_ok No r.tgt true _ _ (hro.t.mod hd4))) ?_
        rintro z2 w5 ⟨hr2, hf2, hg4⟩
        refine ⟨hd4.trans hg4, ?_⟩
        obtain ⟨ad8, c8, rfl⟩ := hr1.slice
        obtain ⟨ad9, c9, rfl⟩ := hr2.slice
        refine DT.op rfl (.free rfl) rfl rfl (Does.call rfl e113 (band_ok r.bn _)) ?_
        rintro _ w6 ⟨rfl, hg5⟩
        have gpre := (hd4.trans hg4).trans hg5
        refine ⟨gpre, ?_⟩
        have hsz := hn3.at_
        have hsz2 := hn3.size
        have hs5 := hd3.size
        have hle : w2.heap.size ≤ b3 := by omega
        have hP3 := hn3.blk.mod (hg4.trans hg5) (fun h => h)
        have hA := hr1.mod ((hn3.grow.trans hg4).trans hg5) (fun _ _ h => h)
        have hBB := hr2.mod hg5 (fun _ _ h => h)
        have hneA : ∀ b, (Value.slice ad8 (matsS r.src true).length c8).ownBlock = some b → ¬ (b = b3 ∨ b < w2.heap.size) := fun b e e2 => by have := hr1.lt (b := b) e; have := hf1 b e; have : w2.drew.heap.size = w2.heap.size := rfl; omega
        have hneB : ∀ b, (Value.slice ad9 (matsS r.tgt true).length c9).ownBlock = some b → ¬ (b = b3 ∨ b < w2.heap.size) := fun b e e2 => by have := hf2 b e; have := hd4.size; omega
        refine DT.qf rfl (.free rfl) rfl rfl (Yld.build (v := .agg #[.slice ad8 (matsS r.src true).length c8, .slice ad9 (matsS r.tgt true).length c9, .bool (bandOf r.bn).all, .float .f64 (bandOf r.bn).lo, .float .f64 (bandOf r.bn).hi, .slice none 0 0]) rfl (fun w => by kernel_rfl)) ?_
        refine DT.op' rfl (.free rfl) rfl (Does.storeN i89 rfl rfl rfl rfl hP3 (Nat.le_refl 6)) ?_
        rintro _ w7 ⟨hb7, hm7, _⟩
        have hg7 : Grow w2 w7 := gpre.then hm7 (fun y hy e => by have e' : y = b3 := e; omega)
        refine ⟨hg7, ?_⟩
        refine DT.done ?_
        exact RK.back (hj b3 _ ⟨_, _, hle, hb7, (Sl.own hA hneA).mod (hm7.mono fun b _ e => .inl e), (Sl.own hBB hneB).mod (hm7.mono fun b _ e => .inl e), hg7⟩) ⟨rfl, rfl, rfl, trivial⟩
    · refine DT.op rfl (.free rfl) rfl rfl (Does.alloc i89) ?_
      rintro _ w3 ⟨b3, rfl, hn3⟩
      have hd3 := (Mod.drew No w2).trans hn3.grow
      refine ⟨hd3, ?_⟩
      refine DT.op rfl (.free rfl) rfl rfl (Does.call rfl e46 (mats_ok No r.src true _ _ (hro.s.mod hd3))) ?_
      rintro z1 w4 ⟨hr1, hf1, hg3⟩
      have hd4 := hd3.trans hg3
      refine ⟨hd4, ?_⟩
      refine DT.op rfl (.free rfl) rfl rfl (Does.call rfl e46 (mats_ok No r.tgt true _ _ (hro.t.mod hd4))) ?_
      rintro z2 w5 ⟨hr2, hf2, hg4⟩
      refine ⟨hd4.trans hg4, ?_⟩
      obtain ⟨ad8, c8, rfl⟩ := hr1.slice
      obtain ⟨ad9, c9, rfl⟩ := hr2.slice
      refine DT.op rfl (.free rfl) rfl rfl (Does.call rfl e113 (band_ok r.bn _)) ?_
      rintro _ w6 ⟨rfl, hg5⟩
      have gpre := (hd4.trans hg4).trans hg5
      refine ⟨gpre, ?_⟩
      have hsz := hn3.at_
      have hsz2 := hn3.size
      have hs5 : w2.drew.heap.size = w2.heap.size := rfl
      have hs6 := hg3.size
      have hle : w2.heap.size ≤ b3 := by omega
      have hP3 := hn3.blk.mod ((hg3.trans hg4).trans hg5) (fun h => h)
      have hA := hr1.mod (hg4.trans hg5) (fun _ _ h => h)
      have hBB := hr2.mod hg5 (fun _ _ h => h)
      have hneA : ∀ b, (Value.slice ad8 (matsS r.src true).length c8).ownBlock = some b → ¬ (b = b3 ∨ b < w2.heap.size) := fun b e e2 => by have := hf1 b e; omega
      have hneB : ∀ b, (Value.slice ad9 (matsS r.tgt true).length c9).ownBlock = some b → ¬ (b = b3 ∨ b < w2.heap.size) := fun b e e2 => by have := hf2 b e; have := hd4.size; omega
      refine DT.qf rfl (.free rfl) rfl rfl (Yld.build (v := .agg #[.slice ad8 (matsS r.src true).length c8, .slice ad9 (matsS r.tgt true).length c9, .bool (bandOf r.bn).all, .float .f64 (bandOf r.bn).lo, .float .f64 (bandOf r.bn).hi, .slice none 0 0]) rfl (fun w => by kernel_rfl)) ?_
      refine DT.op' rfl (.free rfl) rfl (Does.storeN i89 rfl rfl rfl rfl hP3 (Nat.le_refl 6)) ?_
      rintro _ w7 ⟨hb7, hm7, _⟩
      have hg7 : Grow w2 w7 := gpre.then hm7 (fun y hy e => by have e' : y = b3 := e; omega)
      refine ⟨hg7, ?_⟩
      refine DT.done ?_
      exact RK.back (hj b3 _ ⟨_, _, hle, hb7, (Sl.own hA hneA).mod (hm7.mono fun b _ e => .inl e), (Sl.own hBB hneB).mod (hm7.mono fun b _ e => .inl e), hg7⟩) ⟨rfl, rfl, rfl, trivial⟩
end Go.Proofs.YtffbcfcoddacmaaGreat
set_option linter.unusedVariables false
set_option linter.unusedSimpArgs false
set_option maxHeartbeats 2000000
set_option maxRecDepth 100000
namespace Go.Proofs.YtffbcfcoddacmaaGreat
open Go Go.X Go.Rex
theorem Ru.Ok.off {M M' : Nat → Prop} {w : World} {r : Ru} (h : r.Ok M w) (hM : ∀ b, b < w.heap.size → M' b → M b) : r.Ok M' w := ⟨h.s.off (by omega) hM, h.t.off (by omega) hM, h.e.off (by omega) hM⟩
theorem Ru.Ok.pass {M M' : Nat → Prop} {w w' : World} {r : Ru} (h : r.Ok M w) (hm : Mod M w w') (hM : ∀ b, M' b → M b ∨ w.heap.size ≤ b) : r.Ok M' w' := ⟨h.s.pass (by omega) hm hM, h.t.pass (by omega) hm hM, h.e.pass (by omega) hm hM⟩
theorem Ru.Ok.noM {M : Nat → Prop} {w : World} {r : Ru} (h : r.Ok M w) : r.Ok No w := ⟨h.s.noM, h.t.noM, h.e.noM⟩
abbrev RuP := List Mt × List Mt × Bd × List ByteArray
def ruP (r : Ru) : RuP := (r.src, r.tgt, r.bd, r.eq)
def rdP (d : Rd) : RuP := (matsS d.src true, matsS d.tgt true, bandOf d.bn, eqOf d.eq)
theorem rules18_ok (ds : List Rd) (vd : Value) (w : World) (hd : Sl No w vd 6 ds.length (ds.flatMap rdC)) (hds : ∀ d ∈ ds, d.Ok w) :
    Fx Tryz.prog 58 [vd] w (fun u w' => ∃ rl : List Ru, rl.map ruP = (ds.take 6).map rdP ∧ Row w' 89 6 u rl.length (rl.flatMap ruC) ∧ (∀ r ∈ rl, r.Ok No w') ∧ Fresh w.heap.size u ∧ Grow w w') := by
  obtain ⟨ad, c, rfl⟩ := hd.shape
  have hbig := hd.big
  refine enter Tryz.func58 rfl rfl rfl _ (Pick.sub (l := [0]) (.cons rfl .nil)) ?_
  refine RK.seq ?_
  refine RK.region ?_
  refine RL.p rfl rfl ?_
  refine RL.done ?_
  refine RK.seq ?_
  refine RK.region ?_
  refine RL.p rfl rfl ?_
  refine RL.done ?_
  iterate 2 refine RK.seq ?_
  refine RK.region ?_
  refine RL.p rfl rfl ?_
  refine RL.done ?_
  refine RK.block ?_
  refine RK.loop (fun s : Nat × Value => [(0, .slice ad ds.length c), (3, s.2), (4, .int .i64 (s.1 : Int))]) (fun s w' => (∃ rl : List Ru, rl.map ruP = (ds.take s.1).map rdP ∧ Row w' 89 6 s.2 rl.length (rl.flatMap ruC) ∧ (∀ r ∈ rl, r.Ok (fun b => s.2.ownBlock = some b) w')) ∧ Fresh w.heap.size s.2 ∧ Grow w w' ∧ s.1 ≤ ds.length ∧ s.1 ≤ 6) (fun s => ds.length - s.1) (0, .slice none 0 0) ⟨rfl, rfl, rfl, trivial⟩ ⟨⟨[], by simp, Row.nil _ _ _, by simp⟩, fun b e => by simp [Value.ownBlock] at e, Mod.refl _ _, by simp, by simp⟩ (fun s w' hI ih => ?_)
  obtain ⟨k, u⟩ := s
  obtain ⟨⟨rl, hal, hr, hok⟩, hf, hg, hk, hk16⟩ := hI
  simp only at hal hr hok hf hk hk16
  have hlen : rl.length ≤ 6 := by have := congrArg List.length hal; simp at this; omega
  iterate 2 refine RK.seq ?_
  refine RK.region ?_
  iterate 2 refine RL.p rfl rfl ?_
  refine RL.q (.free rfl) rfl rfl (Yld.lenSl u101 rfl) ?_
  iterate 2 refine RL.p rfl rfl ?_
  first | refine RL.splitD (d := 9) rfl rfl (fun h8 => ?_) (fun h8 => ?_) | refine RL.splitN (d := 9) rfl rfl (fun h8 => ?_) (fun h8 => ?_) | refine RL.split (d := 9) rfl rfl (fun h8 => ?_) (fun h8 => ?_)
  · iterate 2 refine RL.q (.yes rfl rfl rfl) rfl rfl (Yld.pure rfl) ?_
    refine RL.p rfl rfl ?_
    refine RL.done ?_
    first | refine RK.condD rfl (fun h11 => ?_) (fun h11 => ?_) | refine RK.condN rfl (fun h11 => ?_) (fun h11 => ?_) | refine RK.cond rfl (fun h11 => ?_) (fun h11 => ?_)
    · obtain ⟨d, hdk⟩ : ∃ d, ds[k]? = some d := ⟨ds[k]'(by omega), List.getElem?_eq_getElem (by omega)⟩
      obtain ⟨b1, o1, c1', he1, _, _, hc1⟩ := hd.elem rdC_len hdk
      cases he1
      have hdo := hds d (List.mem_of_getElem? hdk)
      have hsz0 := hg.size
      refine RK.skip ?_
      refine RK.seq ?_
      refine RK.block ?_
      refine RK.region ?_
      iterate 3 refine RL.p rfl rfl ?_
      refine RL.q (.free rfl) rfl rfl (Yld.indexAddrN u101 i112 rfl rfl (by omega)) ?_
      refine RL.q (.free rfl) rfl rfl (Yld.loadN (cs := rdC d) a112 rfl (atN (fun q z hq => hg.cell (hc1 q z hq) (fun h => h)))) ?_
      refine RL.op (.free rfl) rfl rfl (Does.call rfl e62 (rule62_ok d _ (hdo.mod hg))) ?_
      rintro _ w3 ⟨x1, x2, x3, rfl, hok3, hg3⟩
      refine RL.op (.free rfl) rfl rfl (Does.slice1 u91 i89 rfl rfl rfl rfl rfl) ?_
      rintro _ w7 ⟨b7, rfl, hn7⟩
      refine RL.op (.free rfl) rfl rfl (Does.append u91 i89 rfl rfl rfl rfl rfl ((hr.mod (hg3.trans hn7.grow) (fun _ _ h => h))) (Sl.new hn7 6 1 rfl (by omega) (fun h => h)) (ruC_one hok3) (by omega)) ?_
      rintro z5 w5 ⟨hr5, hm5, hu5⟩
      have hgd7 := hg3.trans hn7.grow
      have hs3 := hg3.size
      have hs7 := hn7.grow.size
      have hm05 : Mod (fun b => u.ownBlock = some b) w' w5 := (Mod.any' hgd7).trans hm5
      have hg05 : Grow w w5 := (hg.trans hgd7).then hm5 (fun b hb e => by have := hf b e; omega)
      have hp1 : ∀ b, z5.ownBlock = some b → u.ownBlock = some b ∨ w3.heap.size ≤ b := fun b e => by
          rcases hu5 with h1 | h1
          · exact .inl (h1 ▸ e)
          · rw [h1] at e; cases e; right; omega
      have hp0 : ∀ b, z5.ownBlock = some b → u.ownBlock = some b ∨ w'.heap.size ≤ b := fun b e => (hp1 b e).imp (fun h => h) (fun h => by omega)
      have hnew := hok3.off (M' := fun b => u.ownBlock = some b) (fun b _ e => hr.lt e)
      refine RL.p rfl rfl ?_
      refine RL.done ?_
      refine RK.inBlock ?_
      refine RK.region ?_
      iterate 2 refine RL.p rfl rfl ?_
      refine RL.re (d := 14) rfl rfl (succ_i64 (by omega)) ?_
      refine RL.p rfl rfl ?_
      refine RL.done ?_
      exact RK.back (ih (k + 1, z5) _ ⟨⟨rl ++ [ruOf d x1 x2 x3], by
          simp only
          rw [List.map_append, hal, List.take_succ_eq_append_getElem (by omega), (List.getElem?_eq_some_iff.1 hdk).2, List.map_append]
          rfl, by
          simp only
          rw [List.flatMap_append, List.length_append]
          exact hr5, fun a ha => by
          rcases List.mem_append.1 ha with h1 | h1
          · exact (hok a h1).pass hm05 hp0
          · simp only [List.mem_singleton] at h1; subst h1
            exact hnew.pass ((Mod.any' hn7.grow).trans hm5) hp1⟩, fun b e => by
          rcases hu5 with h1 | h1
          · exact hf b (h1 ▸ e)
          · rw [h1] at e; cases e; omega, hg05, by simp only; omega, by simp only; omega⟩ (by simp only; omega)) ⟨rfl, rfl, rfl, trivial⟩
    · have hk : ds.take 6 = ds.take k := by rw [show k = 6 by omega]
      refine RK.exit rfl ?_
      refine RK.seq ?_
      refine RK.region ?_
      iterate 2 refine RL.p rfl rfl ?_
      refine RL.done ?_
      refine RK.ret_of Tryz.func58 (res1 rfl rfl) ?_ _
      exact ⟨_, rfl, rl, by rw [hk]; exact hal, hr, fun a ha => (hok a ha).noM, hf, hg⟩
  · have hk : ds.take 6 = ds.take k := by rw [List.take_of_length_le (by omega), List.take_of_length_le (by omega)]
    iterate 2 refine RL.no (.no rfl rfl rfl rfl) rfl rfl ?_
    refine RL.p rfl rfl ?_
    refine RL.done ?_
    refine RK.condF rfl ?_
    refine RK.exit rfl ?_
    refine RK.seq ?_
    refine RK.region ?_
    iterate 2 refine RL.p rfl rfl ?_
    refine RL.done ?_
    refine RK.ret_of Tryz.func58 (res1 rfl rfl) ?_ _
    exact ⟨_, rfl, rl, by rw [hk]; exact hal, hr, fun a ha => (hok a ha).noM, hf, hg⟩
structure Sd where
  id : Int
  ver : Int
  start : Int
  stop : Int
  mv : Value
  ms : List Dm
  bn : Bn
def sdC (s : Sd) : List Value := [.int .i64 s.id, .int .i64 s.ver, .int .u64 s.start, .int .u64 s.stop, s.mv, .int .i64 s.bn.k, .float .f64 s.bn.lo, .float .f64 s.bn.hi]
theorem sdC_len (s : Sd) : (sdC s).length = 8 := rfl
theorem sdN {w : World} {b o : Nat} {d : Sd} (h : ∀ j u, (sdC d)[j]? = some u → w.cell? ⟨b, o + j, none⟩ = some u) : ∀ q z, (bnC d.bn)[q]? = some z → w.cell? ⟨b, o + 5 + q, none⟩ = some z := fun q z hq => by
  have hq3 := (List.getElem?_eq_some_iff.1 hq).1
  have hq3' : q < 3 := hq3
  have h5 : (sdC d)[5 + q]? = some z := by rcases q with _ | _ | _ | q <;> first | exact hq | omega
  rw [Nat.add_assoc]
  exact h _ z h5
abbrev SilP := Int × Int × Int × Int × List Mt × Bd
def silP (s : Sil) : SilP := (s.id, s.ver, s.start, s.stop, s.ms, s.bd)
def sdP (d : Sd) : SilP := (d.id, d.ver, d.start, d.stop, matsS d.ms true, bandOf d.bn)
theorem sils18_ok (ds : List Sd) (vd : Value) (w : World) (hd : Sl No w vd 8 ds.length (ds.flatMap sdC)) (hds : ∀ d ∈ ds, Sl No w d.mv 3 d.ms.length (d.ms.flatMap dmC)) :
    Fx Tryz.prog 57 [vd] w (fun u w' => ∃ sl : List Sil, sl.map silP = (ds.take 12).map sdP ∧ Row w' 95 8 u sl.length (sl.flatMap silC) ∧ (∀ s ∈ sl, SlM No w' s.mv s.ms) ∧ Fresh w.heap.size u ∧ Grow w w') := by
  obtain ⟨ad, c, rfl⟩ := hd.shape
  have hbig := hd.big
  refine enter Tryz.func57 rfl rfl rfl _ (Pick.sub (l := [0]) (.cons rfl .nil)) ?_
  refine RK.seq ?_
  refine RK.region ?_
  refine RL.p rfl rfl ?_
  refine RL.done ?_
  refine RK.seq ?_
  refine RK.region ?_
  refine RL.p rfl rfl ?_
  refine RL.done ?_
  iterate 2 refine RK.seq ?_
  refine RK.region ?_
  refine RL.p rfl rfl ?_
  refine RL.done ?_
  refine RK.block ?_
  refine RK.loop (fun s : Nat × Value => [(0, .slice ad ds.length c), (3, s.2), (4, .int .i64 (s.1 : Int))]) (fun s w' => (∃ sl : List Sil, sl.map silP = (ds.take s.1).map sdP ∧ Row w' 95 8 s.2 sl.length (sl.flatMap silC) ∧ (∀ x ∈ sl, SlM (fun b => s.2.ownBlock = some b) w' x.mv x.ms)) ∧ Fresh w.heap.size s.2 ∧ Grow w w' ∧ s.1 ≤ ds.length ∧ s.1 ≤ 12) (fun s => ds.length - s.1) (0, .slice none 0 0) ⟨rfl, rfl, rfl, trivial⟩ ⟨⟨[], by simp, Row.nil _ _ _, by simp⟩, fun b e => by simp [Value.ownBlock] at e, Mod.refl _ _, by simp, by simp⟩ (fun s w' hI ih => ?_)
  obtain ⟨k, u⟩ := s
  obtain ⟨⟨sl, hal, hr, hok⟩, hf, hg, hk, hk16⟩ := hI
  simp only at hal hr hok hf hk hk16
  have hlen : sl.length ≤ 12 := by have := congrArg List.length hal; simp at this; omega
  iterate 2 refine RK.seq ?_
  refine RK.region ?_
  iterate 2 refine RL.p rfl rfl ?_
  refine RL.q (.free rfl) rfl rfl (Yld.lenSl u99 rfl) ?_
  iterate 2 refine RL.p rfl rfl ?_
  first | refine RL.splitD (d := 9) rfl rfl (fun h8 => ?_) (fun h8 => ?_) | refine RL.splitN (d := 9) rfl rfl (fun h8 => ?_) (fun h8 => ?_) | refine RL.split (d := 9) rfl rfl (fun h8 => ?_) (fun h8 => ?_)
  · iterate 2 refine RL.q (.yes rfl rfl rfl) rfl rfl (Yld.pure rfl) ?_
    refine RL.p rfl rfl ?_
    refine RL.done ?_
    first | refine RK.condD rfl (fun h11 => ?_) (fun h11 => ?_) | refine RK.condN rfl (fun h11 => ?_) (fun h11 => ?_) | refine RK.cond rfl (fun h11 => ?_) (fun h11 => ?_)
    · obtain ⟨d, hdk⟩ : ∃ d, ds[k]? = some d := ⟨ds[k]'(by omega), List.getElem?_eq_getElem (by omega)⟩
      obtain ⟨b1, o1, c1', he1, _, _, hc1⟩ := hd.elem sdC_len hdk
      cases he1
      have hdo := hds d (List.mem_of_getElem? hdk)
      have hb1 : ¬ w.heap.size ≤ b1 := by have := World.block_lt_of_cell? w _ (hc1 0 _ rfl); simp only at this; omega
      have hsz0 := hg.size
      refine RK.skip ?_
      refine RK.seq ?_
      refine RK.block ?_
      refine RK.drawM (fun b => w.heap.size ≤ b) [(0, false), (1, false), (2, false), (3, false), (4, false), (5, false), (6, false), (7, false), (8, false), (9, false), (10, false), (11, false), (12, false), (13, false), (14, false), (15, false), (16, false), (17, false), (18, false), (19, false), (20, false), (21, false), (22, false), (23, false), (24, false), (25, false), (27, false), (28, false), (29, false), (30, false), (31, false), (26, true), (32, true), (33, false), (34, true), (35, true), (36, false)] [] mixed (by kernel_rfl) ?_
      iterate 3 refine DL.p rfl rfl rfl ?_
      refine DL.qf rfl (.free rfl) rfl rfl (Yld.indexAddrN u99 i117 rfl rfl (by omega)) ?_
      refine DL.qf rfl (.free rfl) rfl rfl (Yld.fieldAddr fo117_0 rfl) ?_
      refine DL.q rfl (.free rfl) rfl rfl rfl (Yld.load p3 rfl (atM (hg.cell (hc1 0 _ rfl) (fun h => h)) (hb1))) (Mod.drew _ _) ?_
      iterate 2 refine DL.p rfl rfl rfl ?_
      refine DL.qf rfl (.free rfl) rfl rfl (Yld.indexAddrN u99 i117 rfl rfl (by omega)) ?_
      refine DL.qf rfl (.free rfl) rfl rfl (Yld.fieldAddr fo117_1 rfl) ?_
      refine DL.q rfl (.free rfl) rfl rfl rfl (Yld.load p3 rfl (atM (hg.cell (hc1 1 _ rfl) (fun h => h)) (hb1))) (Mod.drew _ _) ?_
      iterate 2 refine DL.p rfl rfl rfl ?_
      refine DL.qf rfl (.free rfl) rfl rfl (Yld.indexAddrN u99 i117 rfl rfl (by omega)) ?_
      refine DL.qf rfl (.free rfl) rfl rfl (Yld.fieldAddr fo117_2 rfl) ?_
      refine DL.q rfl (.free rfl) rfl rfl rfl (Yld.load p36 rfl (atM (hg.cell (hc1 2 _ rfl) (fun h => h)) (hb1))) (Mod.drew _ _) ?_
      iterate 2 refine DL.p rfl rfl rfl ?_
      refine DL.qf rfl (.free rfl) rfl rfl (Yld.indexAddrN u99 i117 rfl rfl (by omega)) ?_
      refine DL.qf rfl (.free rfl) rfl rfl (Yld.fieldAddr fo117_3 rfl) ?_
      refine DL.q rfl (.free rfl) rfl rfl rfl (Yld.load p36 rfl (atM (hg.cell (hc1 3 _ rfl) (fun h => h)) (hb1))) (Mod.drew _ _) ?_
      iterate 2 refine DL.p rfl rfl rfl ?_
      refine DL.qf rfl (.free rfl) rfl rfl (Yld.indexAddrN u99 i117 rfl rfl (by omega)) ?_
      refine DL.qf rfl (.free rfl) rfl rfl (Yld.fieldAddr fo117_4 rfl) ?_
      refine DL.q rfl (.free rfl) rfl rfl rfl (Yld.load p73 rfl (atM (hg.cell (hc1 4 _ rfl) (fun h => h)) (hb1))) (Mod.drew _ _) ?_
      iterate 2 refine DL.p rfl rfl rfl ?_
      refine DL.qf rfl (.free rfl) rfl rfl (Yld.indexAddrN u99 i117 rfl rfl (by omega)) ?_
      refine DL.qf rfl (.free rfl) rfl rfl (Yld.fieldAddr fo117_5 rfl) ?_
      refine DL.q rfl (.free rfl) rfl rfl rfl (Yld.loadN (cs := bnC d.bn) a110 rfl (atNM (sdN (fun q z hq => hg.cell (hc1 q z hq) (fun h => h))) (hb1))) (Mod.drew _ _) ?_
      refine DL.op rfl (.free rfl) rfl rfl (Does.call rfl e46 (mats_ok No d.ms true _ _ ((hdo.mod hg).mod (Mod.drew _ _)))) ?_
      rintro zm w3 ⟨hr3, hf3, hg3⟩
      have hd3 := (Mod.drew No w').trans hg3
      refine ⟨Mod.any' hd3, ?_⟩
      obtain ⟨ad8, c8, rfl⟩ := hr3.slice
      refine DL.op rfl (.free rfl) rfl rfl (Does.call rfl e113 (band_ok d.bn _)) ?_
      rintro _ w4 ⟨rfl, hg4⟩
      have hd4 := hd3.trans hg4
      refine ⟨Mod.any' hd4, ?_⟩
      refine DL.qf rfl (.free rfl) rfl rfl (Yld.build (v := .agg (silC ⟨d.id, d.ver, d.start, d.stop, .slice ad8 (matsS d.ms true).length c8, matsS d.ms true, bandOf d.bn⟩).toArray) rfl (fun w => by kernel_rfl)) ?_
      refine DL.op rfl (.free rfl) rfl rfl (Does.slice1 u96 i95 rfl rfl rfl rfl rfl) ?_
      rintro _ w7 ⟨b7, rfl, hn7⟩
      refine ⟨Mod.any' (hd4.trans hn7.grow), ?_⟩
      refine DL.op rfl (.free rfl) rfl rfl (Does.append u96 i95 rfl rfl rfl rfl rfl ((hr.mod (hd4.trans hn7.grow) (fun _ _ h => h))) (Sl.new hn7 8 1 rfl (by omega) (fun h => h)) (rfl) (by omega)) ?_
      rintro z5 w5 ⟨hr5, hm5, hu5⟩
      have hgd7 := hd4.trans hn7.grow
      have hs3 : w'.heap.size ≤ w3.heap.size := hd3.size
      have hs4 := hg4.size
      have hs7 := hn7.grow.size
      have hm05 : Mod (fun b => u.ownBlock = some b) w' w5 := (Mod.any' hgd7).trans hm5
      have hg05 : Grow w w5 := (hg.trans hgd7).then hm5 (fun b hb e => by have := hf b e; omega)
      refine ⟨hm05.mono (fun b _ e => hf b e), ?_⟩
      have hp1 : ∀ b, z5.ownBlock = some b → u.ownBlock = some b ∨ w3.heap.size ≤ b := fun b e => by
          rcases hu5 with h1 | h1
          · exact .inl (h1 ▸ e)
          · rw [h1] at e; cases e; right; omega
      have hp0 : ∀ b, z5.ownBlock = some b → u.ownBlock = some b ∨ w'.heap.size ≤ b := fun b e => (hp1 b e).imp (fun h => h) (fun h => by omega)
      have hnew : SlM (fun b => u.ownBlock = some b) w3 (.slice ad8 (matsS d.ms true).length c8) (matsS d.ms true) := Sl.own hr3 (fun b e e2 => by have h1 := hf3 b e; have h2 := hr.lt e2; simp only [World.drew] at h1; omega)
      refine DL.p rfl rfl rfl ?_
      refine DL.done ?_
      refine RK.inBlock ?_
      refine RK.region ?_
      iterate 2 refine RL.p rfl rfl ?_
      refine RL.re (d := 14) rfl rfl (succ_i64 (by omega)) ?_
      refine RL.p rfl rfl ?_
      refine RL.done ?_
      exact RK.back (ih (k + 1, z5) _ ⟨⟨sl ++ [⟨d.id, d.ver, d.start, d.stop, .slice ad8 (matsS d.ms true).length c8, matsS d.ms true, bandOf d.bn⟩], by
          simp only
          rw [List.map_append, hal, List.take_succ_eq_append_getElem (by omega), (List.getElem?_eq_some_iff.1 hdk).2, List.map_append]
          rfl, by
          simp only
          rw [List.flatMap_append, List.length_append]
          exact hr5, fun a ha => by
          rcases List.mem_append.1 ha with h1 | h1
          · exact (hok a h1).pass (by omega) hm05 hp0
          · simp only [List.mem_singleton] at h1; subst h1
            exact hnew.pass (by omega) ((Mod.any' (hg4.trans hn7.grow)).trans hm5) hp1⟩, fun b e => by
          rcases hu5 with h1 | h1
          · exact hf b (h1 ▸ e)
          · rw [h1] at e; cases e; omega, hg05, by simp only; omega, by simp only; omega⟩ (by simp only; omega)) ⟨rfl, rfl, rfl, trivial⟩
    · have hk : ds.take 12 = ds.take k := by rw [show k = 12 by omega]
      refine RK.exit rfl ?_
      refine RK.seq ?_
      refine RK.region ?_
      iterate 2 refine RL.p rfl rfl ?_
      refine RL.done ?_
      refine RK.ret_of Tryz.func57 (res1 rfl rfl) ?_ _
      exact ⟨_, rfl, sl, by rw [hk]; exact hal, hr, fun a ha => (hok a ha).noM, hf, hg⟩
  · have hk : ds.take 12 = ds.take k := by rw [List.take_of_length_le (by omega), List.take_of_length_le (by omega)]
    iterate 2 refine RL.no (.no rfl rfl rfl rfl) rfl rfl ?_
    refine RL.p rfl rfl ?_
    refine RL.done ?_
    refine RK.condF rfl ?_
    refine RK.exit rfl ?_
    refine RK.seq ?_
    refine RK.region ?_
    iterate 2 refine RL.p rfl rfl ?_
    refine RL.done ?_
    refine RK.ret_of Tryz.func57 (res1 rfl rfl) ?_ _
    exact ⟨_, rfl, sl, by rw [hk]; exact hal, hr, fun a ha => (hok a ha).noM, hf, hg⟩
end Go.Proofs.YtffbcfcoddacmaaGreat
set_option linter.unusedVariables false
set_option linter.unusedSimpArgs false
set_option maxHeartbeats 400000
namespace Go.Proofs.YtffbcfcoddacmaaGreat
open Go Go.X Go.Rex
theorem silS_app (now : Int) (t : Al) (a b : List Sil) : silS now t (a ++ b) = silS now t a ++ silS now t b := by unfold silS; rw [List.filter_append, List.map_append]
theorem mutS_app (t : Al) (l : List Al) (a b : List Ru) : mutS t l (a ++ b) = mutS t l a ++ mutS t l b := by unfold mutS; rw [List.flatMap_append]
theorem rise_two (a b : List Int) : rise (mkRow a ++ mkRow b) = mkRow (a ++ b) := ext_ris (rise_ris _) (mkRow_ris _) fun x => by simp only [mem_rise, mem_mkRow, List.mem_append]
end Go.Proofs.YtffbcfcoddacmaaGreat
set_option linter.unusedVariables false
set_option linter.unusedSimpArgs false
set_option maxHeartbeats 2000000
set_option maxRecDepth 100000
namespace Go.Proofs.YtffbcfcoddacmaaGreat
open Go Go.X Go.Rex
def mkRu (p : RuP) : Ru := ⟨.slice none 0 0, .slice none 0 0, .slice none 0 0, p.1, p.2.1, p.2.2.1, p.2.2.2⟩
def mkAl (p : AlS) : Al := ⟨p.1, p.2.1, p.2.2, .slice none 0 0⟩
theorem isRu_mk (r : Ru) : isRu (mkRu (ruP r)) = isRu r := by unfold isRu mkRu ruP; rfl
theorem works_mk (r : Ru) : worksRu (mkRu (ruP r)) = worksRu r := by unfold worksRu largeRu; rw [isRu_mk]; rfl
theorem mutes_mk (r : Ru) (s t : Al) : mutesS (mkRu (ruP r)) (mkAl (pub s)) (mkAl (pub t)) = mutesS r s t := by
  unfold mutesS targetS sourceS
  rw [works_mk]
  rfl
noncomputable def mutP (t : AlS) (l : List AlS) (rs : List RuP) : List Int := rs.flatMap fun p => (l.filter fun q => mutesS (mkRu p) (mkAl q) (mkAl t)).map (·.1)
theorem mutS_pub (t : Al) (l : List Al) (rs : List Ru) : mutS t l rs = mutP (pub t) (l.map pub) (rs.map ruP) := by
  unfold mutS mutP mutOf
  simp only [List.flatMap_map, List.filter_map, List.map_map, Function.comp_def, mutes_mk]
  rfl
end Go.Proofs.YtffbcfcoddacmaaGreat
set_option linter.unusedVariables false
set_option linter.unusedSimpArgs false
set_option maxHeartbeats 4000000
set_option maxRecDepth 100000
namespace Go.Proofs.YtffbcfcoddacmaaGreat
open Go Go.X Go.Rex
theorem allOne_flat {α : Type} {f : α → List Value} {l : List α} (h : ∀ x ∈ l, (f x).all (·.oneCell') = true) : (l.flatMap f).all (·.oneCell') = true := List.all_eq_true.2 fun y hy => by
  obtain ⟨x, hx, hy⟩ := List.mem_flatMap.1 hy
  exact List.all_eq_true.1 (h x hx) y hy
theorem mut_of (t : Al) (al : List Al) (r : Rd) (v1 v2 v3 u1 u2 u3 : Value) : mutS t al [ruOf r v1 v2 v3] = mutS t al [ruOf r u1 u2 u3] := by rw [mutS_pub, mutS_pub]; rfl
theorem row_nil_app {w : World} {t : TypeId} {sz : Nat} {u : Value} {n : Nat} {a : List Value} (h : Row w t sz u (0 + n) ([] ++ a)) : Row w t sz u n a := by simpa using h
theorem row_app {α : Type} {f : α → List Value} {w : World} {t : TypeId} {sz : Nat} {u : Value} {a b : List α} (h : Row w t sz u (a.length + b.length) (a.flatMap f ++ b.flatMap f)) : Row w t sz u (a ++ b).length ((a ++ b).flatMap f) := by rwa [List.length_append, List.flatMap_append]
theorem row_appI {w : World} {t : TypeId} {u : Value} {a b : List Int} (h : Row w t 1 u (a.length + b.length) (ints a ++ ints b)) : Row w t 1 u (a ++ b).length (ints (a ++ b)) := by
  have e : ints (a ++ b) = ints a ++ ints b := by simp [ints]
  rwa [List.length_append, e]
theorem grow_nil {w w' : World} (h : Mod (fun b => (Value.slice none 0 0).ownBlock = some b) w w') : Grow w w' := h.mono fun b _ e => by simp [Value.ownBlock] at e
theorem fresh_nil {w : World} {u : Value} (h : u.ownBlock = (Value.slice none 0 0).ownBlock ∨ u.ownBlock = some w.heap.size) : Fresh w.heap.size u := fun b e => by
  rcases h with h | h <;> rw [h] at e
  · simp [Value.ownBlock] at e
  · cases e; omega
theorem grow_row {w0 w w' : World} {u : Value} (hf : Fresh w0.heap.size u) (hg : Grow w0 w) (h : Mod (fun b => u.ownBlock = some b) w w') : Grow w0 w' := hg.then h (fun b hb e => by have := hf b e; omega)
theorem mmore_ok (now : Int) (d : Ad) (sds : List Sd) (vs : Value) (one : Sd) (als : List Ad) (va : Value) (rds : List Rd) (vr : Value) (more : Rd) (w : World) (hd : d.Ok w) (hs : Sl No w vs 8 sds.length (sds.flatMap sdC)) (hsm : ∀ s ∈ sds, Sl No w s.mv 3 s.ms.length (s.ms.flatMap dmC))
    (ho : Sl No w one.mv 3 one.ms.length (one.ms.flatMap dmC)) (ha : Sl No w va 3 als.length (als.flatMap adC)) (hal : ∀ a ∈ als, a.Ok w) (hr : Sl No w vr 6 rds.length (rds.flatMap rdC)) (hrk : ∀ r ∈ rds, r.Ok w) (hmo : more.Ok w) :
    Fx Tryz.prog 14 [.int .u64 now, .agg (adC d).toArray, vs, .agg (sdC one).toArray, va, vr, .agg (rdC more).toArray] w (fun u w' => u = .bool true ∧ Grow w w') := by
  obtain ⟨a1, cs, hvs⟩ := hs.shape
  obtain ⟨a2, ca, hva⟩ := ha.shape
  obtain ⟨a3, cr, hvr⟩ := hr.shape
  refine enter Tryz.func14 rfl rfl rfl _ (Pick.sub (l := [0, 1, 2, 3, 4, 5, 6]) (.cons rfl (.cons rfl (.cons rfl (.cons rfl (.cons rfl (.cons rfl (.cons rfl .nil)))))))) ?_
  refine RK.seq ?_
  refine RK.region ?_
  refine RL.op (.free rfl) rfl rfl (Does.box rfl) ?_
  rintro _ w8 ⟨b8, rfl, hn8⟩
  refine RL.op (.free rfl) rfl rfl (Does.box rfl) ?_
  rintro _ w10 ⟨b10, rfl, hn10⟩
  refine RL.op (.free rfl) rfl rfl (Does.box rfl) ?_
  rintro _ w13 ⟨b13, rfl, hn13⟩
  have hg13 : Grow w w13 := (hn8.grow.trans hn10.grow).trans hn13.grow
  have hB8 := hn8.blk.mod (hn10.grow.trans hn13.grow) (fun h => h)
  have hB10 := hn10.blk.mod hn13.grow (fun h => h)
  have hB13 := hn13.blk
  refine RL.p rfl rfl ?_
  refine RL.done ?_
  refine RK.seq ?_
  refine RK.region ?_
  refine RL.q (.free rfl) rfl rfl (Yld.loadN (cs := adC d) a98 rfl (atN (blk0' hB8))) ?_
  refine RL.op (.free rfl) rfl rfl (Does.slice1 u100 i98 rfl rfl rfl rfl rfl) ?_
  rintro _ w29 ⟨b29, rfl, hn29⟩
  refine RL.op (.free rfl) rfl rfl (Does.call rfl e56 (alerts18_ok [d] _ _ (Sl.new hn29 3 1 rfl (by omega) (fun h => h)) (fun x hx => by rw [List.mem_singleton] at hx; subst hx; exact hd.mod (hg13.trans hn29.grow)))) ?_
  rintro z1 w1 ⟨al1, hal1, hr1, hak1, _, hg1⟩
  obtain ⟨t, rfl⟩ : ∃ t, al1 = [t] := by
      have := congrArg List.length hal1
      simp at this
      exact List.length_eq_one_iff.1 this
  have ht1 := hak1 t (by simp)
  have hsl1 : Sl No w1 z1 3 1 ([t].flatMap alC) := Sl.own hr1 (fun _ _ h => h)
  obtain ⟨x1, x2, x3, hx, _, _, hc1⟩ := Sl.elem (xs := [t]) alC_len hsl1 (k := 0) rfl
  subst hx
  refine RL.q (.free rfl) rfl rfl (Yld.indexAddr u58 i32 rfl rfl (by simp) (by simp)) ?_
  refine RL.q (.free rfl) rfl rfl (Yld.loadN (cs := alC t) a32 rfl (atN (fun q z hq => by simpa using hc1 q z hq))) ?_
  refine RL.op (.free rfl) rfl rfl (Does.alloc i32) ?_
  rintro _ w15 ⟨b15, rfl, hn15⟩
  refine RL.op' (.free rfl) rfl (Does.storeN i32 rfl rfl rfl (alC_one ht1) hn15.blk (Nat.le_refl 3)) ?_
  rintro _ w2 ⟨hb2, hm2, _⟩
  have hg12 : Grow w1 w2 := hn15.grow.then hm2 (fun y hy e => by have e' : y = b15 := e; have := hn15.at_; omega)
  have hg132 : Grow w13 w2 := (hn29.grow.trans hg1).trans hg12
  have hg02 : Grow w w2 := hg13.trans hg132
  have htk : AlOk No w2 t := ht1.mod hg12
  have hb2' : Blk w2 b15 32 (alC t) := hb2
  clear hal1 hak1 hr1 hsl1 hc1 ht1 hb2
  refine RL.done ?_
  refine RK.seq ?_
  refine RK.region ?_
  refine RL.p rfl rfl ?_
  refine RL.op (.free rfl) rfl rfl (Does.call rfl e57 (sils18_ok sds _ _ (hs.mod hg02) (fun d h => (hsm d h).mod hg02))) ?_
  rintro zs w3 ⟨sl, hsl, hrs, hsk, _, hg3⟩
  refine RL.p rfl rfl ?_
  refine RL.op (.free rfl) rfl rfl (Does.call rfl e56 (alerts18_ok als _ _ (ha.mod (hg02.trans hg3)) (fun d h => (hal d h).mod (hg02.trans hg3)))) ?_
  rintro za w4 ⟨al, hala, hra, hak, _, hg4⟩
  have hg24 := hg3.trans hg4
  refine RL.p rfl rfl ?_
  refine RL.op (.free rfl) rfl rfl (Does.call rfl e58 (rules18_ok rds _ _ (hr.mod (hg02.trans hg24)) (fun d h => (hrk d h).mod (hg02.trans hg24)))) ?_
  rintro zr w5 ⟨rl, hrl, hrr, hrok, _, hg5⟩
  have hg25 := hg24.trans hg5
  iterate 3 refine RL.p rfl rfl ?_
  refine RL.done ?_
  refine RK.seq ?_
  refine RK.region ?_
  refine RL.q (.free rfl) rfl rfl (Yld.loadN (cs := sdC one) a117 rfl (atN (blk0' (hB10.mod (hg132.trans hg25) (fun h => h))))) ?_
  refine RL.op (.free rfl) rfl rfl (Does.slice1 u99 i117 rfl rfl rfl rfl rfl) ?_
  rintro _ w40 ⟨b40, rfl, hn40⟩
  have hg240 := hg25.trans hn40.grow
  refine RL.op (.free rfl) rfl rfl (Does.call rfl e57 (sils18_ok [one] _ _ (Sl.new hn40 8 1 rfl (by omega) (fun h => h)) (fun x hx => by rw [List.mem_singleton] at hx; subst hx; exact ho.mod (hg02.trans hg240)))) ?_
  rintro zx w6 ⟨sx, hsx, hrx, hxk, _, hg6⟩
  have hg56 := hn40.grow.trans hg6
  have hg26 := hg25.trans hg56
  have hsl12 : sl.length ≤ 12 := by have := congrArg List.length hsl; simp at this; omega
  have hsx1 : sx.length ≤ 1 := by have := congrArg List.length hsx; simp at this; omega
  have hal16 : al.length ≤ 16 := by have := congrArg List.length hala; simp at this; omega
  have hrl6 : rl.length ≤ 6 := by have := congrArg List.length hrl; simp at this; omega
  have hP6 : PlainIn w6 t sl zs al za rl zr := ⟨htk.mod hg26, Sl.own (hrs.mod ((hg4.trans hg5).trans hg56) (fun _ _ h => h)) (fun _ _ h => h), fun s h => (hsk s h).mod ((hg4.trans hg5).trans hg56), Sl.own (hra.mod (hg5.trans hg56) (fun _ _ h => h)) (fun _ _ h => h), fun a h => (hak a h).mod (hg5.trans hg56), Sl.own (hrr.mod hg56 (fun _ _ h => h)) (fun _ _ h => h), fun r h => (hrok r h).mod hg56, by omega, by omega, by omega⟩
  have hX6 : Sl No w6 zx 8 sx.length (sx.flatMap silC) := Sl.own hrx (fun _ _ h => h)
  have hmo6 : more.Ok w6 := hmo.mod (hg02.trans hg26)
  have hB13_6 := hB13.mod (hg132.trans hg26) (fun h => h)
  have hB15_6 := hb2'.mod hg26 (fun h => h)
  have hg06 := hg02.trans hg26
  have hA1 : ∀ l : List Sil, (∀ s ∈ l, ∃ w0, SlM No w0 s.mv s.ms) → (l.flatMap silC).all (·.oneCell') = true := fun l hl => allOne_flat fun s hs => by
      obtain ⟨w0, h0⟩ := hl s hs
      exact silC_one h0
  have hA2 : ∀ l : List Ru, (∀ r ∈ l, ∃ w0, r.Ok No w0) → (l.flatMap ruC).all (·.oneCell') = true := fun l hl => allOne_flat fun r hr => by
      obtain ⟨w0, h0⟩ := hl r hr
      exact ruC_one h0
  clear hs hsm ho ha hal hr hrk hmo hsl hsx hala hrl hg3 hg4 hg5 hg6 hg12 hn40 hn29 hB8 hB10 hrs hra hrr htk hg24 hg25 hg240
  clear hvs hva hvr
  refine RL.p rfl rfl ?_
  refine RL.done ?_
  refine RK.seq ?_
  refine RK.region ?_
  refine RL.p rfl rfl ?_
  refine RL.q (.free rfl) rfl rfl (Yld.loadN (cs := alC t) a32 rfl (atN (blk0' hB15_6))) ?_
  iterate 3 refine RL.p rfl rfl ?_
  refine RL.op (.free rfl) rfl rfl (Does.call rfl e55 (plain_ok now t sl zs al za rl zr _ hP6)) ?_
  rintro _ w7 ⟨v1, v2, rfl, hv1, hv2, hg7⟩
  iterate 5 refine RL.p rfl rfl ?_
  refine RL.done ?_
  refine RK.seq ?_
  refine RK.region ?_
  refine RL.p rfl rfl ?_
  refine RL.q (.free rfl) rfl rfl (Yld.loadN (cs := alC t) a32 rfl (atN (blk0' (hB15_6.mod hg7 (fun h => h))))) ?_
  iterate 3 refine RL.p rfl rfl ?_
  refine RL.op (.free rfl) rfl rfl (Does.call rfl e55 (plain_ok now t sx zx al za rl zr _ ⟨hP6.t.mod hg7, hX6.mod hg7, fun s h => (hxk s h).mod hg7, hP6.a.mod hg7, fun a h => (hP6.al a h).mod hg7, hP6.r.mod hg7, fun r h => (hP6.rl r h).mod hg7, by omega, hP6.n2, hP6.n3⟩)) ?_
  rintro _ w8' ⟨v3, v4, rfl, hv3, hv4, hg8⟩
  have hg68 := hg7.trans hg8
  iterate 5 refine RL.p rfl rfl ?_
  refine RL.done ?_
  refine RK.seq ?_
  refine RK.drawM No [(0, false), (1, false), (2, false), (3, false), (4, false), (5, true), (6, true), (7, true), (8, false), (9, false), (10, false), (11, false), (12, false)] [] mixed (by kernel_rfl) ?_
  refine DL.p rfl rfl rfl ?_
  refine DL.q rfl (.free rfl) rfl rfl rfl (Yld.loadN (cs := alC t) a32 rfl (atNM (blk0' (hB15_6.mod hg68 (fun h => h))) (fun h => h))) (Mod.drew _ _) ?_
  iterate 2 refine DL.p rfl rfl rfl ?_
  refine DL.q rfl (.free rfl) rfl rfl rfl (Yld.loadN (cs := rdC more) a112 rfl (atNM (blk0' (hB13_6.mod hg68 (fun h => h))) (fun h => h))) (Mod.drew _ _) ?_
  refine DL.op rfl (.free rfl) rfl rfl (Does.call rfl e62 (rule62_ok more _ (hmo6.mod (hg68.trans (Mod.drew No _))))) ?_
  rintro _ wa ⟨y1, y2, y3, rfl, hoka, hga⟩
  have hda := (Mod.drew No w8').trans hga
  refine ⟨hda, ?_⟩
  refine DL.op rfl (.free rfl) rfl rfl (Does.slice1 u91 i89 rfl rfl rfl rfl rfl) ?_
  rintro _ wb ⟨b67, rfl, hn67⟩
  have hdb := hda.trans hn67.grow
  refine ⟨hdb, ?_⟩
  have hg6b := hg68.trans hdb
  refine DL.op rfl (.free rfl) rfl rfl (Does.call rfl e55 (plain_ok now t sl zs al za [ruOf more y1 y2 y3] _ _ ⟨hP6.t.mod hg6b, hP6.s.mod hg6b, fun s h => (hP6.sm s h).mod hg6b, hP6.a.mod hg6b, fun a h => (hP6.al a h).mod hg6b, Sl.new hn67 6 1 rfl (by omega) (fun h => h), fun r h => by rw [List.mem_singleton] at h; subst h; exact hoka.noM.mod hn67.grow, hP6.n1, hP6.n2, by simp⟩)) ?_
  rintro _ w9 ⟨v5, v6, rfl, hv5, hv6, hg9⟩
  have hd9 := hdb.trans hg9
  refine ⟨hd9, ?_⟩
  have hg69 := hg68.trans hd9
  iterate 5 refine DL.p rfl rfl rfl ?_
  refine DL.done ?_
  refine RK.seq ?_
  refine RK.drawM No [(0, false), (1, false), (2, false), (4, false), (6, false), (7, false), (9, false), (3, true), (5, true), (8, true), (10, true), (11, true), (12, true), (13, true), (14, false), (15, false), (16, false), (17, false), (18, false)] [] mixed (by kernel_rfl) ?_
  refine DL.p rfl rfl rfl ?_
  refine DL.q rfl (.free rfl) rfl rfl rfl (Yld.loadN (cs := alC t) a32 rfl (atNM (blk0' (hB15_6.mod hg69 (fun h => h))) (fun h => h))) (Mod.drew _ _) ?_
  iterate 4 refine DL.p rfl rfl rfl ?_
  refine DL.q rfl (.free rfl) rfl rfl rfl (Yld.loadN (cs := rdC more) a112 rfl (atNM (blk0' (hB13_6.mod hg69 (fun h => h))) (fun h => h))) (Mod.drew _ _) ?_
  refine DL.op rfl (.free rfl) rfl rfl (Does.append u96 i95 rfl rfl rfl rfl rfl (Row.nil _ _ _) ((hP6.s.mod hg69).mod (Mod.drew _ _)) (hA1 sl (fun s h => ⟨_, hP6.sm s h⟩)) (by omega)) ?_
  rintro u1 wc ⟨hr75, hm75, hu75⟩
  have hdc := (Mod.drew No w9).trans (grow_nil hm75)
  have hf75 := fresh_nil hu75
  refine ⟨hdc, ?_⟩
  refine DL.op rfl (.free rfl) rfl rfl (Does.append u96 i95 rfl rfl rfl rfl rfl (row_nil_app hr75) ((hX6.mod hg69).mod hdc) (hA1 sx (fun s h => ⟨_, hxk s h⟩)) (by omega)) ?_
  rintro u2 wd ⟨hr77, hm77, hu77⟩
  have hdd : Grow w9 wd := grow_row hf75 hdc hm77
  refine ⟨hdd, ?_⟩
  refine DL.op rfl (.free rfl) rfl rfl (Does.append u91 i89 rfl rfl rfl rfl rfl (Row.nil _ _ _) ((hP6.r.mod hg69).mod hdd) (hA2 rl (fun r h => ⟨_, hP6.rl r h⟩)) (by omega)) ?_
  rintro u3 we ⟨hr80, hm80, hu80⟩
  have hde := hdd.trans (grow_nil hm80)
  have hf80 := fresh_nil hu80
  refine ⟨hde, ?_⟩
  refine DL.op rfl (.free rfl) rfl rfl (Does.call rfl e62 (rule62_ok more _ (hmo6.mod (hg69.trans hde)))) ?_
  rintro _ wf ⟨z1', z2', z3', rfl, hokf, hgf⟩
  have hdf := hde.trans hgf
  refine ⟨hdf, ?_⟩
  refine DL.op rfl (.free rfl) rfl rfl (Does.slice1 u91 i89 rfl rfl rfl rfl rfl) ?_
  rintro _ wg ⟨b83, rfl, hn83⟩
  have hdg := hdf.trans hn83.grow
  refine ⟨hdg, ?_⟩
  have hgeg := hgf.trans hn83.grow
  refine DL.op rfl (.free rfl) rfl rfl (Does.append u91 i89 rfl rfl rfl rfl rfl ((row_nil_app hr80).mod hgeg (fun _ _ h => h)) (Sl.new hn83 6 1 rfl (by omega) (fun h => h)) (ruC_one hokf) (by omega)) ?_
  rintro u4 wh ⟨hr84, hm84, hu84⟩
  have hszE : w9.heap.size ≤ wd.heap.size := hdd.size
  have hf80' : Fresh w9.heap.size u3 := fun b e => by have := hf80 b e; omega
  have hdh : Grow w9 wh := grow_row hf80' hdg hm84
  refine ⟨hdh, ?_⟩
  have hgeh : Grow wd wh := grow_row hf80 ((grow_nil hm80).trans hgeg) hm84
  have hg6h := hg69.trans hdh
  have hok84 : (ruOf more z1' z2' z3').Ok No wh := ((hokf.off (M' := fun b => u3.ownBlock = some b) (fun b hb e => by have := hr80.lt e; omega)).pass (M' := No) ((Mod.any' hn83.grow).trans hm84) (fun b hb => False.elim hb))
  refine DL.op rfl (.free rfl) rfl rfl (Does.call rfl e55 (plain_ok now t (sl ++ sx) u2 al za (rl ++ [ruOf more z1' z2' z3']) u4 _ ⟨hP6.t.mod hg6h, Sl.own ((row_app hr77).mod hgeh (fun _ _ h => h)) (fun _ _ h => h), fun s h => by
      rcases List.mem_append.1 h with h | h
      · exact (hP6.sm s h).mod hg6h
      · exact (hxk s h).mod hg6h, hP6.a.mod hg6h, fun a h => (hP6.al a h).mod hg6h, Sl.own (row_app (b := [ruOf more z1' z2' z3']) (by have h : Row _ _ 6 u4 (rl.length + 1) (rl.flatMap ruC ++ ruC (ruOf more z1' z2' z3')) := hr84; simpa using h)) (fun _ _ h => h), fun r h => by
      rcases List.mem_append.1 h with h | h
      · exact (hP6.rl r h).mod hg6h
      · rw [List.mem_singleton] at h; subst h; exact hok84, by simp; omega, hP6.n2, by simp; omega⟩)) ?_
  rintro _ w10' ⟨v7, v8, rfl, hv7, hv8, hg10⟩
  have hd10 := hdh.trans hg10
  refine ⟨hd10, ?_⟩
  rw [silS_app] at hv7
  rw [mutS_app, mut_of t al more z1' z2' z3' y1 y2 y3] at hv8
  have l1 := Nat.le_trans (mkRow_le (silS now t sl)) (silS_len now t sl)
  have l3 := Nat.le_trans (mkRow_le (silS now t sx)) (silS_len now t sx)
  have l2 := Nat.le_trans (mkRow_le (mutS t al rl)) (mutS_len t al rl)
  have l6 := Nat.le_trans (mkRow_le (mutS t al [ruOf more y1 y2 y3])) (mutS_len t al [ruOf more y1 y2 y3])
  have l2' : rl.length * al.length ≤ 6 * 16 := Nat.mul_le_mul hrl6 hal16
  simp only [List.length_singleton, Nat.one_mul] at l6
  have hg8e := hd9.trans hd10
  have hg7e := hg8.trans hg8e
  iterate 5 refine DL.p rfl rfl rfl ?_
  refine DL.done ?_
  refine RK.seq ?_
  refine RK.region ?_
  iterate 2 refine RL.p rfl rfl ?_
  refine RL.op (.free rfl) rfl rfl (Does.append u22 i3 rfl rfl rfl rfl rfl (Row.nil _ _ _) (Sl.own (hv1.mod hg7e (fun _ _ h => h)) (fun _ _ h => h)) (allOne_ints _) (by omega)) ?_
  rintro u5 wi ⟨hr90, hm90, hu90⟩
  have gi := grow_nil hm90
  have hf90 := fresh_nil hu90
  refine RL.p rfl rfl ?_
  refine RL.op (.free rfl) rfl rfl (Does.append u22 i3 rfl rfl rfl rfl rfl (row_nil_app hr90) (Sl.own (hv3.mod (hg8e.trans gi) (fun _ _ h => h)) (fun _ _ h => h)) (allOne_ints _) (by omega)) ?_
  rintro u6 wj ⟨hr92, hm92, hu92⟩
  have gj : Grow w10' wj := grow_row hf90 gi hm92
  refine RL.op (.free rfl) rfl rfl (Does.call rfl e44 (rising_ok No _ _ _ (Sl.own (row_appI hr92) (fun _ _ h => h)) (by simp; omega))) ?_
  rintro u7 wk ⟨hrk, hfk, hgk⟩
  have gk := gj.trans hgk
  refine RL.op (.free rfl) rfl rfl (Does.call rfl e29 (sameInts_ok No _ _ v7 u7 _ (Sl.own (hv7.mod gk (fun _ _ h => h)) (fun _ _ h => h)) (Sl.own hrk (fun _ _ h => h)))) ?_
  rintro _ wl ⟨rfl, hgl⟩
  have gl := gk.trans hgl
  refine RL.p rfl rfl ?_
  refine RL.knownT (d := 95) rfl rfl (decide_eq_true (rise_two _ _).symm) ?_
  iterate 2 refine RL.q (.yes rfl rfl rfl) rfl rfl (Yld.pure rfl) ?_
  refine RL.op (.yes rfl rfl rfl) rfl rfl (Does.append u22 i3 rfl rfl rfl rfl rfl (Row.nil _ _ _) (Sl.own (hv2.mod (hg7e.trans gl) (fun _ _ h => h)) (fun _ _ h => h)) (allOne_ints _) (by omega)) ?_
  rintro u8 wm ⟨hr98, hm98, hu98⟩
  have gm := grow_nil hm98
  have hf98 := fresh_nil hu98
  refine RL.q (.yes rfl rfl rfl) rfl rfl (Yld.pure rfl) ?_
  refine RL.op (.yes rfl rfl rfl) rfl rfl (Does.append u22 i3 rfl rfl rfl rfl rfl (row_nil_app hr98) (Sl.own (hv6.mod ((hd10.trans gl).trans gm) (fun _ _ h => h)) (fun _ _ h => h)) (allOne_ints _) (by omega)) ?_
  rintro u9 wn ⟨hr100, hm100, hu100⟩
  have gn : Grow wl wn := grow_row hf98 gm hm100
  refine RL.op (.yes rfl rfl rfl) rfl rfl (Does.call rfl e44 (rising_ok No _ _ _ (Sl.own (row_appI hr100) (fun _ _ h => h)) (by simp; omega))) ?_
  rintro u10 wo ⟨hro, hfo, hgo⟩
  have go := gn.trans hgo
  refine RL.op (.yes rfl rfl rfl) rfl rfl (Does.call rfl e29 (sameInts_ok No _ _ v8 u10 _ (Sl.own (hv8.mod (gl.trans go) (fun _ _ h => h)) (fun _ _ h => h)) (Sl.own hro (fun _ _ h => h)))) ?_
  rintro _ wp ⟨rfl, hgp⟩
  iterate 2 refine RL.p rfl rfl ?_
  refine RL.knownT (d := 104) rfl rfl (decide_eq_true (rise_two _ _).symm) ?_
  refine RL.op (.yes rfl rfl rfl) rfl rfl (Does.call rfl e10 (mruns_ok _)) ?_
  rintro _ wq ⟨rfl, hgq⟩
  iterate 2 refine RL.p rfl rfl ?_
  refine RL.done ?_
  refine RK.ret_of Tryz.func14 (res1 rfl rfl) ?_ _
  exact ⟨_, rfl, rfl, (((hg06.trans (hg7.trans hg7e)).trans gl).trans (go.trans hgp)).trans hgq⟩
end Go.Proofs.YtffbcfcoddacmaaGreat
set_option linter.unusedVariables false
namespace Go.X
open Go Go.RowKit Go.WideShapes Go.ChangeShapes
section
variable {H : Type} {enc : TypeId × Value → H} {P : Program} {W : World} {base : Nat} {sp : Nat → Bool} {held : Bool}
theorem trod_list {α : Type} (f : α → List Value) (Q : α → Prop) {sz : Nat} (hf : ∀ x, (f x).length = sz) {t e : TypeId} {m0 : Nat} {cs0 : List Value} {y : DataW H × List MemPlace} (ht : P.underlying t = some (.slice e)) (hc : P.cellsOf e = sz) (hsz : 0 < sz) (hd : DataW.trod enc P W 0 sp held m0 t cs0 = some y)
    (hel : ∀ (m : Nat) (cs : List Value) (y : DataW H × List MemPlace), DataW.trod enc P W 0 sp held m e cs = some y → ∃ x, cs = f x ∧ Q x) : ∃ (v : Value) (xs : List α), cs0 = [v] ∧ Sl No W v sz xs.length (xs.flatMap f) ∧ (∀ x ∈ xs, Q x) ∧ xs.length ≤ maxLen := by
  rcases DataW.trod_slice ht hd with ⟨h0, _⟩ | ⟨a', len, cap, elems, rest, n, _, hcs, _, _, hl, hm, hlen, hall, _⟩
  · subst h0
    exact ⟨_, [], rfl, Sl.nil _ _ _ _ _, by simp, by simp⟩
  · subst hcs
    rw [hc] at hall
    have key : ∀ i, i < len → ∃ x, Q x ∧ ∀ j u, (f x)[j]? = some u → W.cell? (a'.add (i * sz) |>.add j) = some u := by
      intro i hi
      have h1 := hall i hi
      rw [List.getElem?_eq_getElem (by omega)] at h1
      rw [Option.bind_eq_some_iff] at h1
      obtain ⟨cs, h2, h3⟩ := h1
      obtain ⟨x, rfl, hQ⟩ := hel n cs _ h3
      refine ⟨x, hQ, fun j u hj => ?_⟩
      have hj' : j < sz := by have := (List.getElem?_eq_some_iff.1 hj).1; rwa [hf] at this
      rw [(World.cells?_some h2).2.2 j hj', hj]
    have build : ∀ k, k ≤ len → ∃ xs : List α, xs.length = k ∧ (∀ x ∈ xs, Q x) ∧ ∀ i x, xs[i]? = some x → ∀ j u, (f x)[j]? = some u → W.cell? (a'.add (i * sz) |>.add j) = some u := by
      intro k
      induction k with
      | zero => intro _; exact ⟨[], rfl, by simp, by simp⟩
      | succ k ih =>
        intro hk
        obtain ⟨xs, h1, h2, h3⟩ := ih (by omega)
        obtain ⟨x, hQ, hx⟩ := key k (by omega)
        refine ⟨xs ++ [x], by simp [h1], fun y hy => ?_, fun i y hy => ?_⟩
        · rcases List.mem_append.1 hy with h | h
          · exact h2 y h
          · simp at h; subst h; exact hQ
        · by_cases hi : i < xs.length
          · rw [List.getElem?_append_left hi] at hy; exact h3 i y hy
          · have : i = k := by
              have := (List.getElem?_eq_some_iff.1 hy).1
              simp at this; omega
            subst this
            rw [List.getElem?_append_right (by omega), h1] at hy
            simp at hy; subst hy
            exact hx
    obtain ⟨xs, h1, h2, h3⟩ := build len (Nat.le_refl _)
    refine ⟨_, xs, rfl, ⟨flat_len f sz hf xs, by simp only [maxLen] at hm; omega, some a', cap, by rw [h1], fun hn => ?_⟩, h2, by omega⟩
    obtain ⟨b, o, spot⟩ := a'
    obtain ⟨x0, hx0⟩ : ∃ x, xs[0]? = some x := ⟨xs[0]'hn, List.getElem?_eq_getElem hn⟩
    have hu0 : 0 < (f x0).length := by rw [hf]; exact hsz
    have h4 := h3 0 x0 hx0 0 _ (List.getElem?_eq_getElem hu0)
    have hspot : spot = none := by simpa [Addr.add] using World.cell?_spot h4
    subst hspot
    refine ⟨b, o, rfl, fun h => h, fun j u hj => ?_⟩
    have hjl := (List.getElem?_eq_some_iff.1 hj).1
    rw [flat_len f sz hf] at hjl
    have hdm : j / sz * sz + j % sz = j := by rw [Nat.mul_comm]; exact Nat.div_add_mod j sz
    have hq : j / sz < xs.length := Nat.div_lt_of_lt_mul (by rw [Nat.mul_comm]; exact hjl)
    have hr : j % sz < sz := Nat.mod_lt _ hsz
    have hx := List.getElem?_eq_getElem hq
    have h5 := flat_get f sz hf xs (j / sz) (j % sz) _ hx hr
    rw [hdm, hj] at h5
    have h6 := h3 (j / sz) _ hx (j % sz) u h5.symm
    rw [add_none, add_none, Nat.add_assoc, hdm] at h6
    exact h6
theorem trod_int {s m : Nat} {k : IntKind} {cs : List Value} {y : DataW H × List MemPlace} (hs : P.underlying s = some (.int k)) (h : DataW.trod enc P W base sp held m s cs = some y) : ∃ b : Int, cs = [.int k b] ∧ (Lit.int k b).wf = true := by
  cases m with
  | zero => simp [DataW.trod] at h
  | succ n =>
    unfold DataW.trod at h
    rw [hs] at h
    split at h <;> simp_all
theorem trod_fields {t m : Nat} {fs : Array Field} {cs : List Value} {y : DataW H × List MemPlace} (ht : P.underlying t = some (.struct fs)) (h : DataW.trod enc P W base sp held m t cs = some y) : cs.length = P.cellsOf t ∧ ∀ (i : Nat) (f : Field), fs[i]? = some f → ∃ n y', DataW.trod enc P W base sp held n f.type ((cs.drop f.offset).take (P.cellsOf f.type)) = some y' := by
  obtain ⟨xs, n, _, _, hl, hxl, hx⟩ := DataW.trod_struct ht h
  refine ⟨hl, fun i f hf => ?_⟩
  have h1 := hx i f hf
  have hi : i < fs.size := (Array.getElem?_eq_some_iff.1 hf).1
  rw [List.getElem?_eq_getElem (by omega)] at h1
  exact ⟨n, _, h1⟩
theorem trod_3 {t m t0 t1 t2 : Nat} {fs : Array Field} {cs : List Value} {y : DataW H × List MemPlace} (ht : P.underlying t = some (.struct fs)) (hfs : fs.toList.map (fun f => (f.type, f.offset)) = [(t0, 0), (t1, 1), (t2, 2)]) (c0 : P.cellsOf t0 = 1) (c1 : P.cellsOf t1 = 1) (c2 : P.cellsOf t2 = 1) (ct : P.cellsOf t = 3)
    (h : DataW.trod enc P W base sp held m t cs = some y) : ∃ a b c, cs = [a, b, c] ∧ (∃ n y', DataW.trod enc P W base sp held n t0 [a] = some y') ∧ (∃ n y', DataW.trod enc P W base sp held n t1 [b] = some y') ∧ ∃ n y', DataW.trod enc P W base sp held n t2 [c] = some y' := by
  obtain ⟨hl, hx⟩ := trod_fields ht h
  have hsz : fs.toList.length = 3 := by have := congrArg List.length hfs; simpa using this
  obtain ⟨fl⟩ := fs
  match fl, hsz with
  | [f0, f1, f2], _ =>
    simp only [List.map_cons, List.map_nil, List.cons.injEq, Prod.mk.injEq, and_true] at hfs
    obtain ⟨⟨e0, o0⟩, ⟨e1, o1⟩, e2, o2⟩ := hfs
    rw [ct] at hl
    match cs, hl with
    | [a, b, c], _ =>
      have h0 := hx 0 f0 rfl
      have h1 := hx 1 f1 rfl
      have h2 := hx 2 f2 rfl
      rw [e0, o0, c0] at h0
      rw [e1, o1, c1] at h1
      rw [e2, o2, c2] at h2
      exact ⟨a, b, c, rfl, h0, h1, h2⟩
end
end Go.X
set_option linter.unusedVariables false
namespace Go.X
open Go Go.RowKit Go.WideShapes Go.ChangeShapes
section
variable {H : Type} {enc : TypeId × Value → H} {P : Program} {W : World} {base : Nat} {sp : Nat → Bool} {held : Bool}
theorem trod_r6 {t m t0 t1 t2 t3 : Nat} {fs : Array Field} {cs : List Value} {y : DataW H × List MemPlace} (ht : P.underlying t = some (.struct fs)) (hfs : fs.toList.map (fun f => (f.type, f.offset)) = [(t0, 0), (t1, 1), (t2, 2), (t3, 5)]) (c0 : P.cellsOf t0 = 1) (c1 : P.cellsOf t1 = 1) (c2 : P.cellsOf t2 = 3) (c3 : P.cellsOf t3 = 1) (ct : P.cellsOf t = 6)
    (h : DataW.trod enc P W base sp held m t cs = some y) : ∃ a b c d e f, cs = [a, b, c, d, e, f] ∧ (∃ n y', DataW.trod enc P W base sp held n t0 [a] = some y') ∧ (∃ n y', DataW.trod enc P W base sp held n t1 [b] = some y') ∧ (∃ n y', DataW.trod enc P W base sp held n t2 [c, d, e] = some y') ∧ ∃ n y', DataW.trod enc P W base sp held n t3 [f] = some y' := by
  obtain ⟨hl, hx⟩ := trod_fields ht h
  have hsz : fs.toList.length = 4 := by have := congrArg List.length hfs; simpa using this
  obtain ⟨fl⟩ := fs
  match fl, hsz with
  | [f0, f1, f2, f3], _ =>
    simp only [List.map_cons, List.map_nil, List.cons.injEq, Prod.mk.injEq, and_true] at hfs
    obtain ⟨⟨e0, o0⟩, ⟨e1, o1⟩, ⟨e2, o2⟩, e3, o3⟩ := hfs
    rw [ct] at hl
    match cs, hl with
    | [a, b, c, d, e, f], _ =>
      have h0 := hx 0 f0 rfl
      have h1 := hx 1 f1 rfl
      have h2 := hx 2 f2 rfl
      have h3 := hx 3 f3 rfl
      rw [e0, o0, c0] at h0
      rw [e1, o1, c1] at h1
      rw [e2, o2, c2] at h2
      rw [e3, o3, c3] at h3
      exact ⟨a, b, c, d, e, f, rfl, h0, h1, h2, h3⟩
theorem trod_s8 {t m t0 t1 t2 t3 t4 t5 : Nat} {fs : Array Field} {cs : List Value} {y : DataW H × List MemPlace} (ht : P.underlying t = some (.struct fs)) (hfs : fs.toList.map (fun f => (f.type, f.offset)) = [(t0, 0), (t1, 1), (t2, 2), (t3, 3), (t4, 4), (t5, 5)]) (c0 : P.cellsOf t0 = 1) (c1 : P.cellsOf t1 = 1) (c2 : P.cellsOf t2 = 1) (c3 : P.cellsOf t3 = 1) (c4 : P.cellsOf t4 = 1) (c5 : P.cellsOf t5 = 3) (ct : P.cellsOf t = 8)
    (h : DataW.trod enc P W base sp held m t cs = some y) : ∃ a b c d e f g i, cs = [a, b, c, d, e, f, g, i] ∧ (∃ n y', DataW.trod enc P W base sp held n t0 [a] = some y') ∧ (∃ n y', DataW.trod enc P W base sp held n t1 [b] = some y') ∧ (∃ n y', DataW.trod enc P W base sp held n t2 [c] = some y') ∧ (∃ n y', DataW.trod enc P W base sp held n t3 [d] = some y') ∧ (∃ n y', DataW.trod enc P W base sp held n t4 [e] = some y') ∧ ∃ n y', DataW.trod enc P W base sp held n t5 [f, g, i] = some y' := by
  obtain ⟨hl, hx⟩ := trod_fields ht h
  have hsz : fs.toList.length = 6 := by have := congrArg List.length hfs; simpa using this
  obtain ⟨fl⟩ := fs
  match fl, hsz with
  | [f0, f1, f2, f3, f4, f5], _ =>
    simp only [List.map_cons, List.map_nil, List.cons.injEq, Prod.mk.injEq, and_true] at hfs
    obtain ⟨⟨e0, o0⟩, ⟨e1, o1⟩, ⟨e2, o2⟩, ⟨e3, o3⟩, ⟨e4, o4⟩, e5, o5⟩ := hfs
    rw [ct] at hl
    match cs, hl with
    | [a, b, c, d, e, f, g, i], _ =>
      have h0 := hx 0 f0 rfl
      have h1 := hx 1 f1 rfl
      have h2 := hx 2 f2 rfl
      have h3 := hx 3 f3 rfl
      have h4 := hx 4 f4 rfl
      have h5 := hx 5 f5 rfl
      rw [e0, o0, c0] at h0
      rw [e1, o1, c1] at h1
      rw [e2, o2, c2] at h2
      rw [e3, o3, c3] at h3
      rw [e4, o4, c4] at h4
      rw [e5, o5, c5] at h5
      exact ⟨a, b, c, d, e, f, g, i, rfl, h0, h1, h2, h3, h4, h5⟩
theorem open_int {k : IntKind} {t : TypeId} {r : Reach} {b0 : Nat} {v : Value} (ht : P.underlying t = some (.int k)) (hval : Value.okWide P W r b0 t v) : ∃ n : Int, v = .int k n := by
  simp only [Value.okWide, ht, Cell.okWide, Cell.ok] at hval
  cases v with
  | int k' n =>
    obtain ⟨rfl, h⟩ := hval
    exact ⟨n, rfl⟩
  | _ => simp at hval
end
end Go.X
namespace Go.Proofs.YtffbcfcoddacmaaGreat.muteMore
open Go.ChangeShapes Go.WideShapes Go.ChangeAt Go.RowKit Go.X
set_option linter.unusedVariables false
theorem own : ownKnob Tryz.prog.godebug = none := by kernel_rfl
theorem laidOut : laidOutB Tryz.prog = true := by kernel_rfl
theorem params_ok : ∀ t ∈ Tryz.f14.params.toList, Tryz.prog.readableRec t = true ∧ t < Tryz.prog.types.size := by
  rw [Tryz.params14]
  intro t ht
  simp only [List.mem_cons, List.not_mem_nil, or_false] at ht
  rcases ht with rfl | rfl | rfl | rfl | rfl | rfl | rfl <;> exact ⟨by kernel_rfl, of_decide_eq_true (by kernel_rfl)⟩
set_option maxRecDepth 100000 in
theorem lifted (os : Os) (started : os.Started) (H : Type) (enc : TypeId × Value → H) :
    ReturnsInHanded {} Tryz.checked os 14 .any (Rows.muteMoreSpec.pre6 enc Tryz.prog Tryz.f14 Rows.muteMoreRow.domain false) (Rows.muteMoreSpec.post enc Tryz.prog Tryz.f14 false true false false) := by
  refine returnsInHanded_of_change (C := Tryz.checked) own started (by kernel_rfl) Tryz.func14
    (ChangeSpec.witness6 (enc := enc) (C := Tryz.checked) false ⟨#[], #[.int .u64 0, .agg #[.int .i64 0, .slice none 0 0, .float .f64 0], .slice none 0 0, .agg #[.int .i64 0, .int .i64 0, .int .u64 0, .int .u64 0, .slice none 0 0, .int .i64 0, .float .f64 0, .float .f64 0], .slice none 0 0, .slice none 0 0, .agg #[.slice none 0 0, .slice none 0 0, .int .i64 0, .float .f64 0, .float .f64 0, .slice none 0 0]], []⟩ 8 (by kernel_rfl) (by kernel_rfl) (by kernel_rfl) (by kernel_rfl)) ?_
  intro W base args ds gs before hval0 hW hcnd _
  have hval : ∀ (j : Nat) t v, Tryz.f14.params[j]? = some t → args[j]? = some v → Value.okWide Tryz.prog W .any base t v := hval0
  have hW' := hW
  obtain ⟨p, q, hA0, hV, rfl, hfz, hnd⟩ := hW
  have hlt : ∀ x ∈ p, x.block < W.heap.size := fun x hx => hW'.lt x (List.mem_append_left _ hx)
  have hA : DataW.TrodAll enc Tryz.prog W 0 (fun _ => true) true Tryz.f14.params.toList args.toList ds p := hA0
  have hA1 := hA
  rw [Tryz.params14] at hA hval
  obtain ⟨v0, vs0, d0, ds0, p0, q0, hargs, rfl, rfl, h0, r0⟩ := trodAll_cons hA
  obtain ⟨v1, vs1, d1, ds1, p1, q1, rfl, rfl, rfl, h1, r1⟩ := trodAll_cons r0
  obtain ⟨v2, vs2, d2, ds2, p2, q2, rfl, rfl, rfl, h2, r2⟩ := trodAll_cons r1
  obtain ⟨v3, vs3, d3, ds3, p3, q3, rfl, rfl, rfl, h3, r3⟩ := trodAll_cons r2
  obtain ⟨v4, vs4, d4, ds4, p4, q4, rfl, rfl, rfl, h4, r4⟩ := trodAll_cons r3
  obtain ⟨v5, vs5, d5, ds5, p5, q5, rfl, rfl, rfl, h5, r5⟩ := trodAll_cons r4
  obtain ⟨v6, vs6, d6, ds6, p6, q6, rfl, rfl, rfl, h6, r6⟩ := trodAll_cons r5
  obtain ⟨rfl, rfl, rfl⟩ := trodAll_nil r6
  obtain rfl : args = #[v0, v1, v2, v3, v4, v5, v6] := by cases args; simp_all
  obtain ⟨rfl, rfl⟩ := trodVars_none hV
  have hv0 := hval 0 36 v0 rfl rfl
  have hv1 := hval 1 98 v1 rfl rfl
  have hv2 := hval 2 99 v2 rfl rfl
  have hv3 := hval 3 117 v3 rfl rfl
  have hv4 := hval 4 100 v4 rfl rfl
  have hv5 := hval 5 101 v5 rfl rfl
  have hv6 := hval 6 112 v6 rfl rfl
  clear hval0 hval
  simp only [List.append_nil] at hW' hlt
  have dmO : ∀ (m : Nat) (cs : List Value) (y : DataW H × List MemPlace), DataW.trod enc Tryz.prog W 0 (fun _ => true) true m 159 cs = some y → ∃ d : Dm, cs = dmC d ∧ True := fun m cs y h => by
    obtain ⟨a, b, c, rfl, ⟨_, _, ha⟩, ⟨_, _, hb⟩, _, _, hc⟩ := trod_3 Tryz.underlying159 (t0 := 3) (t1 := 3) (t2 := 3) rfl (by kernel_rfl) (by kernel_rfl) (by kernel_rfl) (by kernel_rfl) h
    obtain ⟨x, hx, _⟩ := trod_i64 Tryz.underlying3 ha
    obtain ⟨y, hy, _⟩ := trod_i64 Tryz.underlying3 hb
    obtain ⟨z, hz, _⟩ := trod_i64 Tryz.underlying3 hc
    obtain rfl : a = .int .i64 x := by simpa using hx
    obtain rfl : b = .int .i64 y := by simpa using hy
    obtain rfl : c = .int .i64 z := by simpa using hz
    exact ⟨⟨x, y, z⟩, rfl, trivial⟩
  have adO : ∀ (m : Nat) (cs : List Value) (y : DataW H × List MemPlace), DataW.trod enc Tryz.prog W 0 (fun _ => true) true m 98 cs = some y → ∃ d : Ad, cs = adC d ∧ d.Ok W := fun m cs y h => by
    obtain ⟨a, b, c, rfl, ⟨_, _, ha⟩, ⟨_, _, hb⟩, _, _, hc⟩ := trod_3 Tryz.underlying98 (t0 := 3) (t1 := 22) (t2 := 23) rfl (by kernel_rfl) (by kernel_rfl) (by kernel_rfl) (by kernel_rfl) h
    obtain ⟨x, hx, _⟩ := trod_i64 Tryz.underlying3 ha
    obtain ⟨v, xs, hv, hs, hr, _⟩ := trod_list (fun x : Int => [Value.int .i64 x]) (fun x => -9223372036854775808 ≤ x ∧ x ≤ 9223372036854775807) (sz := 1) (fun _ => rfl) Tryz.underlying22 (by kernel_rfl) (by omega) hb (fun m cs y h => trod_i64 Tryz.underlying3 h)
    obtain ⟨z, hz, _⟩ := trod_f64 Tryz.underlying23 hc
    obtain rfl : a = .int .i64 x := by simpa using hx
    obtain rfl : b = v := by simpa using hv
    obtain rfl : c = .float .f64 z := by simpa using hz
    rw [flat_one] at hs
    exact ⟨⟨x, xs, b, z⟩, rfl, hs, hr⟩
  have bnO : ∀ (m : Nat) (cs : List Value) (y : DataW H × List MemPlace), DataW.trod enc Tryz.prog W 0 (fun _ => true) true m 110 cs = some y → ∃ d : Bn, cs = bnC d := fun m cs y h => by
    obtain ⟨a, b, c, rfl, ⟨_, _, ha⟩, ⟨_, _, hb⟩, _, _, hc⟩ := trod_3 Tryz.underlying110 (t0 := 3) (t1 := 23) (t2 := 23) rfl (by kernel_rfl) (by kernel_rfl) (by kernel_rfl) (by kernel_rfl) h
    obtain ⟨x, hx, _⟩ := trod_i64 Tryz.underlying3 ha
    obtain ⟨y, hy, _⟩ := trod_f64 Tryz.underlying23 hb
    obtain ⟨z, hz, _⟩ := trod_f64 Tryz.underlying23 hc
    obtain rfl : a = .int .i64 x := by simpa using hx
    obtain rfl : b = .float .f64 y := by simpa using hy
    obtain rfl : c = .float .f64 z := by simpa using hz
    exact ⟨⟨x, y, z⟩, rfl⟩
  have rdO : ∀ (m : Nat) (cs : List Value) (y : DataW H × List MemPlace), DataW.trod enc Tryz.prog W 0 (fun _ => true) true m 112 cs = some y → ∃ d : Rd, cs = rdC d ∧ d.Ok W := fun m cs y h => by
    obtain ⟨a, b, c, d, e, f, rfl, ⟨_, _, ha⟩, ⟨_, _, hb⟩, ⟨_, _, hc⟩, _, _, hf⟩ := trod_r6 Tryz.underlying112 (t0 := 73) (t1 := 73) (t2 := 110) (t3 := 22) rfl (by kernel_rfl) (by kernel_rfl) (by kernel_rfl) (by kernel_rfl) (by kernel_rfl) h
    obtain ⟨va, xa, hva, hsa, _, _⟩ := trod_list dmC (fun _ => True) dmC_len Tryz.underlying73 (by kernel_rfl) (by omega) ha dmO
    obtain ⟨vb, xb, hvb, hsb, _, _⟩ := trod_list dmC (fun _ => True) dmC_len Tryz.underlying73 (by kernel_rfl) (by omega) hb dmO
    obtain ⟨bn, hbn⟩ := bnO _ _ _ hc
    obtain ⟨v, xs, hv, hs, hr, _⟩ := trod_list (fun x : Int => [Value.int .i64 x]) (fun x => -9223372036854775808 ≤ x ∧ x ≤ 9223372036854775807) (sz := 1) (fun _ => rfl) Tryz.underlying22 (by kernel_rfl) (by omega) hf (fun m cs y h => trod_i64 Tryz.underlying3 h)
    obtain rfl : a = va := by simpa using hva
    obtain rfl : b = vb := by simpa using hvb
    obtain rfl : f = v := by simpa using hv
    simp only [bnC, List.cons.injEq, and_true] at hbn
    obtain ⟨rfl, rfl, rfl⟩ := hbn
    rw [flat_one] at hs
    exact ⟨⟨a, b, f, xa, xb, bn, xs⟩, rfl, hsa, hsb, hs⟩
  have sdO : ∀ (m : Nat) (cs : List Value) (y : DataW H × List MemPlace), DataW.trod enc Tryz.prog W 0 (fun _ => true) true m 117 cs = some y → ∃ d : Sd, cs = sdC d ∧ Sl No W d.mv 3 d.ms.length (d.ms.flatMap dmC) := fun m cs y h => by
    obtain ⟨a, b, c, d, e, f, g, i, rfl, ⟨_, _, ha⟩, ⟨_, _, hb⟩, ⟨_, _, hc⟩, ⟨_, _, hd⟩, ⟨_, _, he⟩, _, _, hf⟩ := trod_s8 Tryz.underlying117 (t0 := 3) (t1 := 3) (t2 := 36) (t3 := 36) (t4 := 73) (t5 := 110) rfl (by kernel_rfl) (by kernel_rfl) (by kernel_rfl) (by kernel_rfl) (by kernel_rfl) (by kernel_rfl) (by kernel_rfl) h
    obtain ⟨x0, h0, _⟩ := trod_i64 Tryz.underlying3 ha
    obtain ⟨x1, h1, _⟩ := trod_i64 Tryz.underlying3 hb
    obtain ⟨x2, h2, _⟩ := trod_int Tryz.underlying36 hc
    obtain ⟨x3, h3, _⟩ := trod_int Tryz.underlying36 hd
    obtain ⟨va, xa, hva, hsa, _, _⟩ := trod_list dmC (fun _ => True) dmC_len Tryz.underlying73 (by kernel_rfl) (by omega) he dmO
    obtain ⟨bn, hbn⟩ := bnO _ _ _ hf
    obtain rfl : a = .int .i64 x0 := by simpa using h0
    obtain rfl : b = .int .i64 x1 := by simpa using h1
    obtain rfl : c = .int .u64 x2 := by simpa using h2
    obtain rfl : d = .int .u64 x3 := by simpa using h3
    obtain rfl : e = va := by simpa using hva
    simp only [bnC, List.cons.injEq, and_true] at hbn
    obtain ⟨rfl, rfl, rfl⟩ := hbn
    exact ⟨⟨x0, x1, x2, x3, e, xa, bn⟩, rfl, hsa⟩
  obtain ⟨now, rfl⟩ := X.open_int Tryz.underlying36 hv0
  obtain ⟨cs, rfl, _⟩ := okWide_struct Tryz.underlying98 hv1
  obtain ⟨d, rfl, hd⟩ : ∃ d : Ad, cs = (adC d).toArray ∧ d.Ok W := by
    obtain ⟨fuel, hf⟩ := h1
    obtain ⟨d, he, hd⟩ := adO _ _ _ hf
    exact ⟨d, by cases cs; exact congrArg Array.mk he, hd⟩
  obtain ⟨sds, hs, hsm, _⟩ := open_list sdC (fun d => Sl No W d.mv 3 d.ms.length (d.ms.flatMap dmC)) sdC_len Tryz.underlying99 (by kernel_rfl) (by omega) hv2 h2 sdO
  obtain ⟨cs3, rfl, _⟩ := okWide_struct Tryz.underlying117 hv3
  obtain ⟨one, rfl, ho⟩ : ∃ d : Sd, cs3 = (sdC d).toArray ∧ Sl No W d.mv 3 d.ms.length (d.ms.flatMap dmC) := by
    obtain ⟨fuel, hf⟩ := h3
    obtain ⟨d, he, hd⟩ := sdO _ _ _ hf
    exact ⟨d, by cases cs3; exact congrArg Array.mk he, hd⟩
  obtain ⟨als, ha, hal, _⟩ := open_list adC (fun d => d.Ok W) adC_len Tryz.underlying100 (by kernel_rfl) (by omega) hv4 h4 adO
  obtain ⟨rds, hr, hrk, _⟩ := open_list rdC (fun d => d.Ok W) rdC_len Tryz.underlying101 (by kernel_rfl) (by omega) hv5 h5 rdO
  obtain ⟨cs6, rfl, _⟩ := okWide_struct Tryz.underlying112 hv6
  obtain ⟨more, rfl, hmo⟩ : ∃ d : Rd, cs6 = (rdC d).toArray ∧ d.Ok W := by
    obtain ⟨fuel, hf⟩ := h6
    obtain ⟨d, he, hd⟩ := rdO _ _ _ hf
    exact ⟨d, by cases cs6; exact congrArg Array.mk he, hd⟩
  have hwalk := mmore_ok now d sds v2 one als v4 rds v5 more W hd hs hsm ho ha hal hr hrk hmo
  refine Calls.mono hwalk ?_
  rintro e W' ⟨v, rfl, rfl, hg⟩
  refine ⟨_, rfl, post_grow hW' (fun _ _ _ => trodAll_cons_mk (shut_bool Tryz.underlying4 _) trodAll_mk0) (fun sp hsp => ?_) (fun _ => rfl) hg (ok_one (by kernel_rfl) rfl (okWide_bool_mk Tryz.underlying4 _))⟩
  have hA2 := hA1
  simp only [List.append_nil] at hA2 hsp
  exact trodAll_grow laidOut hg sp _ _ _ _ params_ok hlt hsp hA2
end Go.Proofs.YtffbcfcoddacmaaGreat.muteMore
