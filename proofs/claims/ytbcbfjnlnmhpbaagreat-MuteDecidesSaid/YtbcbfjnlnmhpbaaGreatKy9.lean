/- What the claim stands on, part 9. Of own lemmas only those that it reaches. -/
import Derived.Test.YtbcbfjnlnmhpbaaGreatKy8
set_option linter.unusedVariables false
set_option linter.unusedSimpArgs false
set_option maxHeartbeats 2000000
set_option maxRecDepth 100000
namespace Go.Proofs.YtbcbfjnlnmhpbaaGreat
open Go Go.X Go.Rex
structure Ad where
  id : Int
  labs : List Int
  v : Value
  val : Nat
def adC (d : Ad) : List Value := [.int .i64 d.id, d.v, .float .f64 d.val]
theorem adC_len (d : Ad) : (adC d).length = 3 := rfl
structure Ad.Ok (w : World) (d : Ad) : Prop where
  s : Sl No w d.v 1 d.labs.length (ints d.labs)
  r : ∀ x ∈ d.labs, -9223372036854775808 ≤ x ∧ x ≤ 9223372036854775807
theorem Ad.Ok.mod {w w' : World} {d : Ad} (h : d.Ok w) (hg : Grow w w') : d.Ok w' := ⟨h.s.mod hg, h.r⟩
def adP (d : Ad) : Int × List Lab × Nat := (d.id, labelsS d.labs, d.val)
theorem labelsS_z (l : List Int) : ∀ x ∈ labelsS l, x.value.size ≤ 100000 := fun x hx => by
  have h := (raw_ok l).1.vl x (mem_isort.1 hx)
  simp only [vlL, List.mem_cons, List.not_mem_nil, or_false] at h
  rcases h with h | h | h | h | h | h | h <;> rw [h] <;> decide
theorem al_z {al : List Al} {ds : List Ad} (h : al.map pub = ds.map adP) : ∀ a ∈ al, ∀ x ∈ a.ls, x.value.size ≤ 100000 := fun a ha => by
  have h1 : pub a ∈ ds.map adP := h ▸ List.mem_map_of_mem (f := pub) ha
  obtain ⟨d, _, e⟩ := List.mem_map.1 h1
  have e2 : labelsS d.labs = a.ls := congrArg (fun p => p.2.1) e
  exact e2 ▸ labelsS_z d.labs
theorem alerts18X_ok (ds : List Ad) (vd : Value) (w : World) (hd : Sl No w vd 3 ds.length (ds.flatMap adC)) (hds : ∀ d ∈ ds, d.Ok w) :
    Fx Tryz.prog 36 [vd] w (fun u w' => ∃ al : List Al, al.map pub = (ds.take 16).map adP ∧ Row w' 82 3 u al.length (al.flatMap alC) ∧ (∀ a ∈ al, AlOk (fun b => u.ownBlock = some b) w' a) ∧ Fresh w.heap.size u ∧ Grow w w') := by
  obtain ⟨ad, c, rfl⟩ := hd.shape
  have hbig := hd.big
  refine enter Tryz.func36 rfl rfl rfl _ (Pick.sub (l := [0]) (.cons rfl .nil)) ?_
  refine RK.seq ?_
  refine RK.region ?_
  refine RL.p rfl rfl ?_
  refine RL.done ?_
  refine RK.seq ?_
  refine RK.region ?_
  refine RL.p rfl rfl ?_
  refine RL.done ?_
  iterate 2 refine RK.seq ?_
  refine RK.region ?_
  refine RL.p rfl rfl ?_
  refine RL.done ?_
  refine RK.block ?_
  refine RK.loop (fun s : Nat × Value => [(0, .slice ad ds.length c), (3, s.2), (4, .int .i64 (s.1 : Int))]) (fun s w' => (∃ al : List Al, al.map pub = (ds.take s.1).map adP ∧ Row w' 82 3 s.2 al.length (al.flatMap alC) ∧ (∀ a ∈ al, SlL (fun b => s.2.ownBlock = some b) w' a.v a.ls)) ∧ Fresh w.heap.size s.2 ∧ Grow w w' ∧ s.1 ≤ ds.length ∧ s.1 ≤ 16) (fun s => ds.length - s.1) (0, .slice none 0 0) ⟨rfl, rfl, rfl, trivial⟩ ⟨⟨[], by simp, Row.nil _ _ _, by simp⟩, fun b e => by simp [Value.ownBlock] at e, Mod.refl _ _, by simp, by simp⟩ (fun s w' hI ih => ?_)
  obtain ⟨k, u⟩ := s
  obtain ⟨⟨al, hal, hr, hsl⟩, hf, hg, hk, hk16⟩ := hI
  simp only at hal hr hsl hf hk hk16
  have hlen : al.length ≤ 16 := by have := congrArg List.length hal; simp at this; omega
  iterate 2 refine RK.seq ?_
  refine RK.region ?_
  iterate 2 refine RL.p rfl rfl ?_
  refine RL.q (.free rfl) rfl rfl (Yld.lenSl u76 rfl) ?_
  iterate 2 refine RL.p rfl rfl ?_
  first | refine RL.splitD (d := 9) rfl rfl (fun h8 => ?_) (fun h8 => ?_) | refine RL.splitN (d := 9) rfl rfl (fun h8 => ?_) (fun h8 => ?_) | refine RL.split (d := 9) rfl rfl (fun h8 => ?_) (fun h8 => ?_)
  · iterate 2 refine RL.q (.yes rfl rfl rfl) rfl rfl (Yld.pure rfl) ?_
    refine RL.p rfl rfl ?_
    refine RL.done ?_
    first | refine RK.condD rfl (fun h11 => ?_) (fun h11 => ?_) | refine RK.condN rfl (fun h11 => ?_) (fun h11 => ?_) | refine RK.cond rfl (fun h11 => ?_) (fun h11 => ?_)
    · obtain ⟨d, hdk⟩ : ∃ d, ds[k]? = some d := ⟨ds[k]'(by omega), List.getElem?_eq_getElem (by omega)⟩
      obtain ⟨b1, o1, c1', he1, _, _, hc1⟩ := hd.elem adC_len hdk
      cases he1
      have hdo := hds d (List.mem_of_getElem? hdk)
      have hb1 : ¬ w.heap.size ≤ b1 := by have := World.block_lt_of_cell? w _ (hc1 0 _ rfl); simp only at this; omega
      have hsz0 := hg.size
      refine RK.skip ?_
      refine RK.seq ?_
      refine RK.block ?_
      refine RK.drawM (fun b => w.heap.size ≤ b) [(0, false), (1, false), (2, false), (3, false), (4, false), (5, false), (6, false), (7, false), (8, false), (9, false), (10, false), (12, false), (13, false), (14, false), (15, false), (16, false), (11, true), (17, false), (18, true), (19, true), (20, false)] [] mixed (by kernel_rfl) ?_
      iterate 3 refine DL.p rfl rfl rfl ?_
      refine DL.qf rfl (.free rfl) rfl rfl (Yld.indexAddrN u76 i74 rfl rfl (by omega)) ?_
      refine DL.qf rfl (.free rfl) rfl rfl (Yld.fieldAddr fo74_0 rfl) ?_
      refine DL.q rfl (.free rfl) rfl rfl rfl (Yld.load p3 rfl (atM (hg.cell (hc1 0 _ rfl) (fun h => h)) (hb1))) (Mod.drew _ _) ?_
      iterate 2 refine DL.p rfl rfl rfl ?_
      refine DL.qf rfl (.free rfl) rfl rfl (Yld.indexAddrN u76 i74 rfl rfl (by omega)) ?_
      refine DL.qf rfl (.free rfl) rfl rfl (Yld.fieldAddr fo74_1 rfl) ?_
      refine DL.q rfl (.free rfl) rfl rfl rfl (Yld.load p35 rfl (atM (hg.cell (hc1 1 _ rfl) (fun h => h)) (hb1))) (Mod.drew _ _) ?_
      iterate 2 refine DL.p rfl rfl rfl ?_
      refine DL.qf rfl (.free rfl) rfl rfl (Yld.indexAddrN u76 i74 rfl rfl (by omega)) ?_
      refine DL.qf rfl (.free rfl) rfl rfl (Yld.fieldAddr fo74_2 rfl) ?_
      refine DL.q rfl (.free rfl) rfl rfl rfl (Yld.load p30 rfl (atM (hg.cell (hc1 2 _ rfl) (fun h => h)) (hb1))) (Mod.drew _ _) ?_
      refine DL.op rfl (.free rfl) rfl rfl (Does.call rfl e26 (labels_ok No d.labs d.v _ ((hdo.mod hg).s.mod (Mod.drew _ _)) hdo.r)) ?_
      rintro _ w3 ⟨ad3, c3, rfl, hr3, hf3, hg3⟩
      have hd3 := (Mod.drew No w').trans hg3
      refine ⟨Mod.any' hd3, ?_⟩
      refine DL.qf rfl (.free rfl) rfl rfl (Yld.build (v := .agg #[.int .i64 d.id, .slice ad3 (labelsS d.labs).length c3, .float .f64 d.val]) rfl (fun w => by kernel_rfl)) ?_
      refine DL.op rfl (.free rfl) rfl rfl (Does.slice1 u79 i82 rfl rfl rfl rfl rfl) ?_
      rintro _ w7 ⟨b7, rfl, hn7⟩
      refine ⟨Mod.any' (hd3.trans hn7.grow), ?_⟩
      refine DL.op rfl (.free rfl) rfl rfl (Does.append u79 i82 rfl rfl rfl rfl rfl ((hr.mod (hd3.trans hn7.grow) (fun _ _ h => h))) (Sl.new hn7 3 1 rfl (by omega) (fun h => h)) (rfl) (by omega)) ?_
      rintro z5 w5 ⟨hr5, hm5, hu5⟩
      have hgd7 := hd3.trans hn7.grow
      have hs3 := hg3.size
      have hs7 := hn7.grow.size
      have hm05 : Mod (fun b => u.ownBlock = some b) w' w5 := (Mod.any' hgd7).trans hm5
      have hg05 : Grow w w5 := (hg.trans hgd7).then hm5 (fun b hb e => by have := hf b e; omega)
      refine ⟨hm05.mono (fun b _ e => hf b e), ?_⟩
      have hp1 : ∀ b, z5.ownBlock = some b → u.ownBlock = some b ∨ w3.heap.size ≤ b := fun b e => by
          rcases hu5 with h1 | h1
          · exact .inl (h1 ▸ e)
          · rw [h1] at e; cases e; right; omega
      have hp0 : ∀ b, z5.ownBlock = some b → u.ownBlock = some b ∨ w'.heap.size ≤ b := fun b e => (hp1 b e).imp (fun h => h) (fun h => by simp only [World.drew] at hs3; omega)
      have hnew : SlL (fun b => u.ownBlock = some b) w3 (.slice ad3 (labelsS d.labs).length c3) (labelsS d.labs) := Sl.own hr3 (fun b e e2 => by have h1 := hf3 b e; have h2 := hr.lt e2; simp only [World.drew] at h1; omega)
      refine DL.p rfl rfl rfl ?_
      refine DL.done ?_
      refine RK.inBlock ?_
      refine RK.region ?_
      iterate 2 refine RL.p rfl rfl ?_
      refine RL.re (d := 14) rfl rfl (succ_i64 (by omega)) ?_
      refine RL.p rfl rfl ?_
      refine RL.done ?_
      exact RK.back (ih (k + 1, z5) _ ⟨⟨al ++ [⟨d.id, labelsS d.labs, d.val, .slice ad3 (labelsS d.labs).length c3⟩], by
          simp only
          rw [List.map_append, hal, List.take_succ_eq_append_getElem (by omega), (List.getElem?_eq_some_iff.1 hdk).2, List.map_append]
          rfl, by
          simp only
          rw [List.flatMap_append, List.length_append]
          exact hr5, fun a ha => by
          rcases List.mem_append.1 ha with h1 | h1
          · exact (hsl a h1).pass (by omega) hm05 hp0
          · simp only [List.mem_singleton] at h1; subst h1
            exact hnew.pass (by omega) ((Mod.any' hn7.grow).trans hm5) hp1⟩, fun b e => by
          rcases hu5 with h1 | h1
          · exact hf b (h1 ▸ e)
          · rw [h1] at e; cases e; have := hg.size; simp only [World.drew] at hs3; omega, hg05, by simp only; omega, by simp only; omega⟩ (by simp only; omega)) ⟨rfl, rfl, rfl, trivial⟩
    · have hk : ds.take 16 = ds.take k := by rw [show k = 16 by omega]
      refine RK.exit rfl ?_
      refine RK.seq ?_
      refine RK.region ?_
      iterate 2 refine RL.p rfl rfl ?_
      refine RL.done ?_
      refine RK.ret_of Tryz.func36 (res1 rfl rfl) ?_ _
      exact ⟨_, rfl, al, by rw [hk]; exact hal, hr, fun a ha => ⟨hsl a ha, al_z hal a ha⟩, hf, hg⟩
  · have hk : ds.take 16 = ds.take k := by rw [List.take_of_length_le (by omega), List.take_of_length_le (by omega)]
    iterate 2 refine RL.no (.no rfl rfl rfl rfl) rfl rfl ?_
    refine RL.p rfl rfl ?_
    refine RL.done ?_
    refine RK.condF rfl ?_
    refine RK.exit rfl ?_
    refine RK.seq ?_
    refine RK.region ?_
    iterate 2 refine RL.p rfl rfl ?_
    refine RL.done ?_
    refine RK.ret_of Tryz.func36 (res1 rfl rfl) ?_ _
    exact ⟨_, rfl, al, by rw [hk]; exact hal, hr, fun a ha => ⟨hsl a ha, al_z hal a ha⟩, hf, hg⟩
theorem AlOk.noM {M : Nat → Prop} {w : World} {a : Al} (h : AlOk M w a) : AlOk No w a := ⟨h.l.noM, h.z⟩
theorem alerts18_ok (ds : List Ad) (vd : Value) (w : World) (hd : Sl No w vd 3 ds.length (ds.flatMap adC)) (hds : ∀ d ∈ ds, d.Ok w) :
    Fx Tryz.prog 36 [vd] w (fun u w' => ∃ al : List Al, al.map pub = (ds.take 16).map adP ∧ Row w' 82 3 u al.length (al.flatMap alC) ∧ (∀ a ∈ al, AlOk No w' a) ∧ Fresh w.heap.size u ∧ Grow w w') := by
  refine Calls.mono (alerts18X_ok ds vd w hd hds) ?_
  rintro e w' ⟨u, he, al, h1, h2, h3, h4, h5⟩
  exact ⟨u, he, al, h1, h2, fun a ha => (h3 a ha).noM, h4, h5⟩
end Go.Proofs.YtbcbfjnlnmhpbaaGreat
set_option linter.unusedVariables false
set_option linter.unusedSimpArgs false
set_option maxHeartbeats 4000000
set_option maxRecDepth 100000
namespace Go.Proofs.YtbcbfjnlnmhpbaaGreat
open Go Go.X Go.Rex
structure S7 where
  kind : Int
  id : Int
  labs : List Int
  v : Value
  val : Nat
structure S7.Ok (M : Nat → Prop) (w : World) (q : S7) : Prop where
  s : Sl M w q.v 1 q.labs.length (ints q.labs)
  r : ∀ x ∈ q.labs, -9223372036854775808 ≤ x ∧ x ≤ 9223372036854775807
  k : 0 ≤ q.kind ∧ q.kind < 256
theorem S7.Ok.mod {M : Nat → Prop} {w w' : World} {s : S7} (h : s.Ok M w) (hg : Mod M w w') : s.Ok M w' := ⟨h.s.mod hg, h.r, h.k⟩
abbrev AlT := Int × List Lab × Nat
noncomputable def srcA (r : Ru) (a : AlT) : Bool := sourceS r a.2.1 a.2.2
def keyA (r : Ru) (a : AlT) : ByteArray := keyT r.eq a.2.1
theorem AlOk.pass {M M' : Nat → Prop} {w w' : World} {a : Al} (h : AlOk M w a) (hm : Mod M w w') (hM : ∀ b, M' b → M b ∨ w.heap.size ≤ b) : AlOk M' w' a := ⟨h.l.pass (by omega) hm hM, h.z⟩
end Go.Proofs.YtbcbfjnlnmhpbaaGreat
set_option linter.unusedVariables false
set_option linter.unusedSimpArgs false
set_option maxHeartbeats 2000000
set_option maxRecDepth 100000
namespace Go.Proofs.YtbcbfjnlnmhpbaaGreat
open Go Go.X Go.Rex
def noB (b : Nat) : Bool := FloatKind.f64.format.order b b != some .eq
def ltF (a b : Nat) : Bool := FloatKind.f64.format.order a b == some .lt
structure Bn where
  k : Int
  lo : Nat
  hi : Nat
def bnC (b : Bn) : List Value := [.int .i64 b.k, .float .f64 b.lo, .float .f64 b.hi]
def bandOf (b : Bn) : Bd := if b.k.tmod 3 = 0 then ⟨true, 0, 0⟩ else if noB b.lo = true then ⟨true, 0, 0⟩ else if noB b.hi = true then ⟨true, 0, 0⟩ else if ltF b.hi b.lo = true then ⟨false, b.hi, b.lo⟩ else ⟨false, b.lo, b.hi⟩
theorem band_ok (b : Bn) (w : World) : Fx Tryz.prog 61 [.agg (bnC b).toArray] w (fun u w' => u = .agg (bdC (bandOf b)).toArray ∧ Grow w w') := by
  refine enter Tryz.func61 rfl rfl rfl _ (Pick.sub (l := [0]) (.cons rfl .nil)) ?_
  refine RK.seq ?_
  refine RK.region ?_
  refine RL.op (.free rfl) rfl rfl (Does.box rfl) ?_
  rintro _ w1 ⟨b1, rfl, hn1⟩
  refine RL.op (.free rfl) rfl rfl (Does.alloc i32) ?_
  rintro _ w2 ⟨b2, rfl, hn2⟩
  have hB1 : Blk w2 b1 60 [.int .i64 b.k, .float .f64 b.lo, .float .f64 b.hi] := hn1.blk.mod hn2.grow (fun h => h)
  refine RL.done ?_
  refine RK.seq ?_
  refine RK.region ?_
  refine RL.q (.free rfl) rfl rfl (Yld.fieldAddr fo60_1 rfl) ?_
  refine RL.q (.free rfl) rfl rfl (Yld.load p30 rfl (at1 (hB1.cell rfl))) ?_
  refine RL.q (.free rfl) rfl rfl (Yld.fieldAddr fo60_2 rfl) ?_
  refine RL.q (.free rfl) rfl rfl (Yld.load p30 rfl (at1 (hB1.cell rfl))) ?_
  refine RL.q (.free rfl) rfl rfl (Yld.build (v := .agg #[.bool false, .float .f64 b.lo, .float .f64 b.hi]) rfl (fun w => by kernel_rfl)) ?_
  refine RL.op (.free rfl) rfl rfl (Does.alloc i32) ?_
  rintro _ w3 ⟨b3, rfl, hn3⟩
  refine RL.op' (.free rfl) rfl (Does.storeN i32 rfl rfl rfl rfl hn3.blk (Nat.le_refl 3)) ?_
  rintro _ w4 ⟨hb4, hm4, _⟩
  have hs1 := hn1.at_
  have hs2 := hn2.at_
  have hs3 := hn3.at_
  have hz1 := hn1.size
  have hz2 := hn2.size
  have hne23 : ¬ b2 = b3 := by omega
  have hne13 : ¬ b1 = b3 := by omega
  have hg4 : Grow w w4 := ((hn1.grow.trans hn2.grow).trans hn3.grow).then hm4 (fun y hy e => by have e' : y = b3 := e; omega)
  have hB2 := (hn2.blk.mod hn3.grow (fun h => h)).mod hm4 hne23
  have hB3 : Blk w4 b3 32 [.bool false, .float .f64 b.lo, .float .f64 b.hi] := hb4
  refine RL.done ?_
  iterate 2 refine RK.seq ?_
  refine RK.region ?_
  refine RL.q (.free rfl) rfl rfl (Yld.fieldAddr fo60_0 rfl) ?_
  refine RL.q (.free rfl) rfl rfl (Yld.load p3 rfl (at1 (((hB1.mod hn3.grow (fun h => h)).mod hm4 hne13).cell rfl))) ?_
  refine RL.q (.free rfl) rfl rfl (Yld.rem rfl rfl (by omega)) ?_
  iterate 2 refine RL.p rfl rfl ?_
  first | refine RL.splitD (d := 13) rfl rfl (fun h12 => ?_) (fun h12 => ?_) | refine RL.splitN (d := 13) rfl rfl (fun h12 => ?_) (fun h12 => ?_) | refine RL.split (d := 13) rfl rfl (fun h12 => ?_) (fun h12 => ?_)
  · iterate 5 refine RL.no (.no rfl rfl rfl rfl) rfl rfl ?_
    iterate 2 refine RL.p rfl rfl ?_
    iterate 5 refine RL.no (.no rfl rfl rfl rfl) rfl rfl ?_
    refine RL.p rfl rfl ?_
    refine RL.done ?_
    refine RK.condT rfl ?_
    refine RK.seq ?_
    refine RK.region ?_
    refine RL.q (.free rfl) rfl rfl (Yld.build (v := .agg (bdC ⟨true, 0, 0⟩).toArray) rfl (fun w => by kernel_rfl)) ?_
    refine RL.op' (.free rfl) rfl (Does.storeN i32 rfl rfl rfl rfl hB2 (Nat.le_refl 3)) ?_
    rintro _ w9 ⟨hb9, hm9, _⟩
    refine RL.done ?_
    refine RK.ret_of Tryz.func61 (resC (cs := bdC (bandOf b)) rfl rfl a32 (by rw [show bandOf b = ⟨true, 0, 0⟩ by unfold bandOf; rw [if_pos h12]]; exact hb9)) ?_ _
    exact ⟨_, rfl, rfl, hg4.then hm9 (fun y hy e => by have e' : y = b2 := e; omega)⟩
  · refine RL.q (.yes rfl rfl rfl) rfl rfl (Yld.fieldAddr fo32_1 rfl) ?_
    refine RL.q (.yes rfl rfl rfl) rfl rfl (Yld.load p30 rfl (at1 (hB3.cell rfl))) ?_
    refine RL.q (.yes rfl rfl rfl) rfl rfl (Yld.fieldAddr fo32_1 rfl) ?_
    refine RL.q (.yes rfl rfl rfl) rfl rfl (Yld.load p30 rfl (at1 (hB3.cell rfl))) ?_
    refine RL.q (.yes rfl rfl rfl) rfl rfl (Yld.pure rfl) ?_
    iterate 2 refine RL.p rfl rfl ?_
    first | refine RL.splitD (d := 20) rfl rfl (fun h18 => ?_) (fun h18 => ?_) | refine RL.splitN (d := 20) rfl rfl (fun h18 => ?_) (fun h18 => ?_) | refine RL.split (d := 20) rfl rfl (fun h18 => ?_) (fun h18 => ?_)
    · have e18 : noB b.lo = true := by unfold noB; simpa using h18
      iterate 5 refine RL.no (.no rfl rfl rfl rfl) rfl rfl ?_
      refine RL.p rfl rfl ?_
      refine RL.done ?_
      refine RK.condT rfl ?_
      refine RK.seq ?_
      refine RK.region ?_
      refine RL.q (.free rfl) rfl rfl (Yld.build (v := .agg (bdC ⟨true, 0, 0⟩).toArray) rfl (fun w => by kernel_rfl)) ?_
      refine RL.op' (.free rfl) rfl (Does.storeN i32 rfl rfl rfl rfl hB2 (Nat.le_refl 3)) ?_
      rintro _ w9 ⟨hb9, hm9, _⟩
      refine RL.done ?_
      refine RK.ret_of Tryz.func61 (resC (cs := bdC (bandOf b)) rfl rfl a32 (by rw [show bandOf b = ⟨true, 0, 0⟩ by unfold bandOf; rw [if_neg h12, if_pos e18]]; exact hb9)) ?_ _
      exact ⟨_, rfl, rfl, hg4.then hm9 (fun y hy e => by have e' : y = b2 := e; omega)⟩
    · have e18 : ¬ noB b.lo = true := by unfold noB; simpa using h18
      refine RL.q (.yes rfl rfl rfl) rfl rfl (Yld.fieldAddr fo32_2 rfl) ?_
      refine RL.q (.yes rfl rfl rfl) rfl rfl (Yld.load p30 rfl (at1 (hB3.cell rfl))) ?_
      refine RL.q (.yes rfl rfl rfl) rfl rfl (Yld.fieldAddr fo32_2 rfl) ?_
      refine RL.q (.yes rfl rfl rfl) rfl rfl (Yld.load p30 rfl (at1 (hB3.cell rfl))) ?_
      refine RL.q (.yes rfl rfl rfl) rfl rfl (Yld.pure rfl) ?_
      refine RL.p rfl rfl ?_
      refine RL.done ?_
      first | refine RK.condD rfl (fun h25 => ?_) (fun h25 => ?_) | refine RK.condN rfl (fun h25 => ?_) (fun h25 => ?_) | refine RK.cond rfl (fun h25 => ?_) (fun h25 => ?_)
      · have e25 : noB b.hi = true := by unfold noB; simpa using h25
        refine RK.seq ?_
        refine RK.region ?_
        refine RL.q (.free rfl) rfl rfl (Yld.build (v := .agg (bdC ⟨true, 0, 0⟩).toArray) rfl (fun w => by kernel_rfl)) ?_
        refine RL.op' (.free rfl) rfl (Does.storeN i32 rfl rfl rfl rfl hB2 (Nat.le_refl 3)) ?_
        rintro _ w9 ⟨hb9, hm9, _⟩
        refine RL.done ?_
        refine RK.ret_of Tryz.func61 (resC (cs := bdC (bandOf b)) rfl rfl a32 (by rw [show bandOf b = ⟨true, 0, 0⟩ by unfold bandOf; rw [if_neg h12, if_neg e18, if_pos e25]]; exact hb9)) ?_ _
        exact ⟨_, rfl, rfl, hg4.then hm9 (fun y hy e => by have e' : y = b2 := e; omega)⟩
      · have e25 : ¬ noB b.hi = true := by unfold noB; simpa using h25
        refine RK.skip ?_
        iterate 2 refine RK.seq ?_
        refine RK.region ?_
        refine RL.q (.free rfl) rfl rfl (Yld.fieldAddr fo32_2 rfl) ?_
        refine RL.q (.free rfl) rfl rfl (Yld.load p30 rfl (at1 (hB3.cell rfl))) ?_
        refine RL.q (.free rfl) rfl rfl (Yld.fieldAddr fo32_1 rfl) ?_
        refine RL.q (.free rfl) rfl rfl (Yld.load p30 rfl (at1 (hB3.cell rfl))) ?_
        refine RL.p rfl rfl ?_
        refine RL.done ?_
        first | refine RK.condD rfl (fun h32 => ?_) (fun h32 => ?_) | refine RK.condN rfl (fun h32 => ?_) (fun h32 => ?_) | refine RK.cond rfl (fun h32 => ?_) (fun h32 => ?_)
        · have e32 : ltF b.hi b.lo = true := by unfold ltF; simpa using h32
          refine RK.region ?_
          refine RL.q (.free rfl) rfl rfl (Yld.fieldAddr fo32_2 rfl) ?_
          refine RL.q (.free rfl) rfl rfl (Yld.load p30 rfl (at1 (hB3.cell rfl))) ?_
          refine RL.q (.free rfl) rfl rfl (Yld.fieldAddr fo32_1 rfl) ?_
          refine RL.q (.free rfl) rfl rfl (Yld.load p30 rfl (at1 (hB3.cell rfl))) ?_
          refine RL.q (.free rfl) rfl rfl (Yld.fieldAddr fo32_1 rfl) ?_
          refine RL.op' (.free rfl) rfl (Does.store i30 rfl rfl rfl hB3 (.s .z)) ?_
          rintro _ w5 ⟨hb5, hm5, _⟩
          refine RL.q (.free rfl) rfl rfl (Yld.fieldAddr fo32_2 rfl) ?_
          refine RL.op' (.free rfl) rfl (Does.store i30 rfl rfl rfl hb5 (.s (.s .z))) ?_
          rintro _ w6 ⟨hb6, hm6, _⟩
          refine RL.done ?_
          refine RK.seq ?_
          refine RK.region ?_
          refine RL.q (.free rfl) rfl rfl (Yld.loadN (cs := bdC ⟨false, b.hi, b.lo⟩) a32 rfl (atN (blk0' hb6))) ?_
          refine RL.op' (.free rfl) rfl (Does.storeN i32 rfl rfl rfl rfl ((hB2.mod hm5 hne23).mod hm6 hne23) (Nat.le_refl 3)) ?_
          rintro _ w9 ⟨hb9, hm9, _⟩
          refine RL.done ?_
          refine RK.ret_of Tryz.func61 (resC (cs := bdC (bandOf b)) rfl rfl a32 (by rw [show bandOf b = ⟨false, b.hi, b.lo⟩ by unfold bandOf; rw [if_neg h12, if_neg e18, if_neg e25, if_pos e32]]; exact hb9)) ?_ _
          exact ⟨_, rfl, rfl, ((hg4.then hm5 (fun y hy e => by have e' : y = b3 := e; omega)).then hm6 (fun y hy e => by have e' : y = b3 := e; omega)).then hm9 (fun y hy e => by have e' : y = b2 := e; omega)⟩
        · have e32 : ¬ ltF b.hi b.lo = true := by unfold ltF; simpa using h32
          refine RK.skip ?_
          refine RK.seq ?_
          refine RK.region ?_
          refine RL.q (.free rfl) rfl rfl (Yld.loadN (cs := bdC ⟨false, b.lo, b.hi⟩) a32 rfl (atN (blk0' hB3))) ?_
          refine RL.op' (.free rfl) rfl (Does.storeN i32 rfl rfl rfl rfl hB2 (Nat.le_refl 3)) ?_
          rintro _ w9 ⟨hb9, hm9, _⟩
          refine RL.done ?_
          refine RK.ret_of Tryz.func61 (resC (cs := bdC (bandOf b)) rfl rfl a32 (by rw [show bandOf b = ⟨false, b.lo, b.hi⟩ by unfold bandOf; rw [if_neg h12, if_neg e18, if_neg e25, if_neg e32]]; exact hb9)) ?_ _
          exact ⟨_, rfl, rfl, hg4.then hm9 (fun y hy e => by have e' : y = b2 := e; omega)⟩
structure Rd where
  sv : Value
  tv : Value
  ev : Value
  src : List Dm
  tgt : List Dm
  bn : Bn
  eq : List Int
def rdC (r : Rd) : List Value := [r.sv, r.tv, .int .i64 r.bn.k, .float .f64 r.bn.lo, .float .f64 r.bn.hi, r.ev]
theorem rdC_len (r : Rd) : (rdC r).length = 6 := rfl
structure Rd.Ok (w : World) (r : Rd) : Prop where
  s : Sl No w r.sv 3 r.src.length (r.src.flatMap dmC)
  t : Sl No w r.tv 3 r.tgt.length (r.tgt.flatMap dmC)
  e : Sl No w r.ev 1 r.eq.length (ints r.eq)
theorem Rd.Ok.mod {w w' : World} {r : Rd} (h : r.Ok w) (hg : Grow w w') : r.Ok w' := ⟨h.s.mod hg, h.t.mod hg, h.e.mod hg⟩
def enL : List ByteArray := [⟨#[90, 111, 110, 101, 57]⟩, ⟨#[95, 120]⟩, ⟨#[104, 111, 115, 116]⟩, ⟨#[106, 111, 98]⟩, ⟨#[115, 101, 118]⟩]
def hasN (l : List Int) (nm : ByteArray) : Bool := (l.take 9).any fun n => decide (nmS n = nm)
def eqF (l : List Int) : List ByteArray → List ByteArray → List ByteArray
  | [], out => out
  | nm :: ns, out => if out.length < 4 then eqF l ns (if hasN l nm = true then out ++ [nm] else out) else out
def eqOf (l : List Int) : List ByteArray := eqF l enL []
theorem eqF_len (l : List Int) : ∀ (ns out : List ByteArray), out.length ≤ 4 → (eqF l ns out).length ≤ 4
  | [], out, h => h
  | nm :: ns, out, h => by
    unfold eqF
    split
    · refine eqF_len l ns _ ?_
      split
      · simp; omega
      · exact h
    · exact h
def ruOf (r : Rd) (v1 v2 v3 : Value) : Ru := ⟨v1, v2, v3, matsS r.src true, matsS r.tgt true, bandOf r.bn, eqOf r.eq⟩
theorem en_get : ∀ q, q < 5 → (enL.map Value.string).toArray[q]? = some (.string (enL.getD q ByteArray.empty)) := by
  intro q hq
  rcases q with _ | _ | _ | _ | _ | q <;> first | rfl | omega
theorem en_drop {i : Nat} (h : i < 5) : enL.drop i = enL.getD i ByteArray.empty :: enL.drop (i + 1) := by
  rcases i with _ | _ | _ | _ | _ | i <;> first | rfl | omega
theorem hasN_no {l : List Int} {nm : ByteArray} (h : ∀ (q : Nat) (z : Int), q < 9 → l[q]? = some z → nmS z ≠ nm) : hasN l nm = false := by
  unfold hasN
  rw [List.any_eq_false]
  intro z hz
  obtain ⟨q, hq⟩ := List.getElem?_of_mem hz
  have hq9 : q < 9 := by have := (List.getElem?_eq_some_iff.1 hq).1; simp at this; omega
  rw [List.getElem?_take_of_lt hq9] at hq
  simpa using h q z hq9 hq
theorem hasN_yes {l : List Int} {nm : ByteArray} {q : Nat} {z : Int} (hq : q < 9) (hz : l[q]? = some z) (h : nmS z = nm) : hasN l nm = true := by
  unfold hasN
  rw [List.any_eq_true]
  exact ⟨z, List.mem_of_getElem? (by rw [List.getElem?_take_of_lt hq]; exact hz), by simpa using h⟩
theorem rule62_ok (r : Rd) (w : World) (hr : r.Ok w) : Fx Tryz.prog 81 [.agg (rdC r).toArray] w (fun u w' => ∃ v1 v2 v3, u = .agg (ruC (ruOf r v1 v2 v3)).toArray ∧ (ruOf r v1 v2 v3).Ok (fun b => b < w.heap.size) w' ∧ Grow w w') := by
  obtain ⟨ade, ce, hve⟩ := hr.e.shape
  have hbig := hr.e.big
  refine enter Tryz.func81 rfl rfl rfl _ (Pick.sub (l := [0]) (.cons rfl .nil)) ?_
  refine RK.seq ?_
  refine RK.region ?_
  refine RL.op (.free rfl) rfl rfl (Does.box rfl) ?_
  rintro _ w1 ⟨b1, rfl, hn1⟩
  refine RL.op (.free rfl) rfl rfl (Does.alloc i90) ?_
  rintro _ w2 ⟨b2, rfl, hn2⟩
  have hB1 : Blk w2 b1 135 [r.sv, r.tv, .int .i64 r.bn.k, .float .f64 r.bn.lo, .float .f64 r.bn.hi, .slice ade r.eq.length ce] := by have := hn1.blk.mod hn2.grow (fun h => h); rw [← hve]; exact this
  have hg02 := hn1.grow.trans hn2.grow
  have hro := hr.mod hg02
  refine RL.done ?_
  refine RK.seq ?_
  refine RK.cutS (fun b3 : Nat => [(1, pp b1), (2, pp b2), (3, pp b3)]) (fun b3 w3 => ∃ v1 v2, w2.heap.size ≤ b3 ∧ Blk w3 b3 90 [v1, v2, .bool (bandOf r.bn).all, .float .f64 (bandOf r.bn).lo, .float .f64 (bandOf r.bn).hi, .slice none 0 0] ∧ SlM (fun b => b = b3 ∨ b < w2.heap.size) w3 v1 (matsS r.src true) ∧ SlM (fun b => b = b3 ∨ b < w2.heap.size) w3 v2 (matsS r.tgt true) ∧ Grow w2 w3) (fun b3 w3 hQ => ?_) (fun hj => ?_)
  · obtain ⟨v1, v2, hb3, hB3, hs1, hs2, hg3⟩ := hQ
    have hg03 := hg02.trans hg3
    have hlt3 := hB3.lt
    have hlt2 := hn2.blk.lt
    have hat2 := hn2.at_
    have hat1 := hn1.at_
    have hz1 := hn1.size
    have hz2 := hn2.size
    have hne2 : ¬ b2 = b3 := by omega
    have hne1 : ¬ b1 = b3 := by omega
    obtain ⟨ad8, c8, rfl⟩ := hs1.shape
    obtain ⟨ad9, c9, rfl⟩ := hs2.shape
    iterate 2 refine RK.seq ?_
    refine RK.region ?_
    refine RL.p rfl rfl ?_
    refine RL.done ?_
    refine RK.block ?_
    refine RK.loop (fun s : Nat × List ByteArray × Value => [(1, pp b1), (2, pp b2), (3, pp b3), (4, .int .i64 (s.1 : Int))]) (fun s w' => Blk w' b3 90 [.slice ad8 (matsS r.src true).length c8, .slice ad9 (matsS r.tgt true).length c9, .bool (bandOf r.bn).all, .float .f64 (bandOf r.bn).lo, .float .f64 (bandOf r.bn).hi, s.2.2] ∧ Row w' 9 1 s.2.2 s.2.1.length (strsV s.2.1) ∧ Fresh w3.heap.size s.2.2 ∧ Mod (· = b3) w3 w' ∧ s.1 ≤ 5 ∧ s.2.1.length ≤ 4 ∧ eqF r.eq (enL.drop s.1) s.2.1 = eqOf r.eq) (fun s => 5 - s.1) (0, [], .slice none 0 0) ⟨rfl, rfl, rfl, rfl, trivial⟩ ⟨hB3, by simpa [strsV] using Row.nil _ _ _, fun b e => by simp [Value.ownBlock] at e, Mod.refl _ _, by simp, by simp, rfl⟩ (fun s w4 hI ih => ?_)
    obtain ⟨i, out, u⟩ := s
    obtain ⟨hB4, hr4, hf4, hm4, hi, hl4, hst⟩ := hI
    simp only at hB4 hr4 hf4 hi hl4 hst
    obtain ⟨adu, cu, rfl, hcu⟩ := hr4.cap
    iterate 2 refine RK.seq ?_
    refine RK.region ?_
    iterate 3 refine RL.p rfl rfl ?_
    first | refine RL.splitD (d := 19) rfl rfl (fun h18 => ?_) (fun h18 => ?_) | refine RL.splitN (d := 19) rfl rfl (fun h18 => ?_) (fun h18 => ?_) | refine RL.split (d := 19) rfl rfl (fun h18 => ?_) (fun h18 => ?_)
    · refine RL.q (.yes rfl rfl rfl) rfl rfl (Yld.fieldAddr fo90_3 rfl) ?_
      refine RL.q (.yes rfl rfl rfl) rfl rfl (Yld.load p88 rfl (at1 (hB4.cell rfl))) ?_
      refine RL.q (.yes rfl rfl rfl) rfl rfl (Yld.lenSl u88 rfl) ?_
      refine RL.q (.yes rfl rfl rfl) rfl rfl (Yld.pure rfl) ?_
      refine RL.p rfl rfl ?_
      refine RL.done ?_
      first | refine RK.condD rfl (fun h23 => ?_) (fun h23 => ?_) | refine RK.condN rfl (fun h23 => ?_) (fun h23 => ?_) | refine RK.cond rfl (fun h23 => ?_) (fun h23 => ?_)
      · rw [en_drop (by omega)] at hst
        unfold eqF at hst
        rw [if_pos (by omega)] at hst
        have hC1 := (hB1.mod hg3 (fun h => h)).mod hm4 hne1
        have hs4 := hm4.size
        refine RK.skip ?_
        refine RK.seq ?_
        refine RK.block ?_
        refine RK.seq ?_
        refine RK.region ?_
        refine RL.q (.free rfl) rfl rfl (Yld.build (v := .agg (enL.map Value.string).toArray) rfl (fun w => by kernel_rfl)) ?_
        refine RL.p rfl rfl ?_
        refine RL.q (.free rfl) rfl rfl (Yld.idxArr Tryz.underlying173 i9 p9 rfl rfl (by omega) (en_get i (by omega))) ?_
        refine RL.p rfl rfl ?_
        refine RL.done ?_
        refine RK.seq ?_
        refine RK.region ?_
        refine RL.p rfl rfl ?_
        refine RL.done ?_
        refine RK.block ?_
        refine RK.loop (fun j : Nat => [(1, pp b1), (2, pp b2), (3, pp b3), (4, .int .i64 (i : Int)), (5, .string (enL.getD i ByteArray.empty)), (6, .int .i64 (j : Int))]) (fun j w' => w4 = w' ∧ j ≤ r.eq.length ∧ j ≤ 9 ∧ ∀ (q : Nat) (z : Int), q < j → r.eq[q]? = some z → nmS z ≠ (enL.getD i ByteArray.empty)) (fun j => r.eq.length - j) 0 ⟨rfl, rfl, rfl, rfl, rfl, rfl, trivial⟩ ⟨rfl, by omega, by omega, fun q z h => by omega⟩ (fun j w' hI2 ih2 => ?_)
        obtain ⟨rfl, hj, hj9, hall⟩ := hI2
        iterate 2 refine RK.seq ?_
        refine RK.region ?_
        refine RL.p rfl rfl ?_
        refine RL.q (.free rfl) rfl rfl (Yld.fieldAddr fo135_3 rfl) ?_
        refine RL.q (.free rfl) rfl rfl (Yld.load p35 rfl (at1 (hC1.cell rfl))) ?_
        refine RL.q (.free rfl) rfl rfl (Yld.lenSl u35 rfl) ?_
        iterate 2 refine RL.p rfl rfl ?_
        first | refine RL.splitD (d := 35) rfl rfl (fun h34 => ?_) (fun h34 => ?_) | refine RL.splitN (d := 35) rfl rfl (fun h34 => ?_) (fun h34 => ?_) | refine RL.split (d := 35) rfl rfl (fun h34 => ?_) (fun h34 => ?_)
        · iterate 2 refine RL.q (.yes rfl rfl rfl) rfl rfl (Yld.pure rfl) ?_
          refine RL.p rfl rfl ?_
          refine RL.done ?_
          first | refine RK.condD rfl (fun h37 => ?_) (fun h37 => ?_) | refine RK.condN rfl (fun h37 => ?_) (fun h37 => ?_) | refine RK.cond rfl (fun h37 => ?_) (fun h37 => ?_)
          · obtain ⟨z, hz⟩ : ∃ z, r.eq[j]? = some z := ⟨r.eq[j]'(by omega), List.getElem?_eq_getElem (by omega)⟩
            have hre : Sl (· = b3) w4 (.slice ade r.eq.length ce) 1 r.eq.length (ints r.eq) := ((hve ▸ hr.e).off (M' := (· = b3)) (by omega) (fun b hb e => by have e' : b = b3 := e; omega)).mod (Mod.any' hg03) |>.mod hm4
            obtain ⟨b9, o9, c9', he9, _, _, hc9⟩ := hre.elem1 (k := j) (u := .int .i64 z) (by simp [hz])
            cases he9
            refine RK.skip ?_
            refine RK.seq ?_
            refine RK.block ?_
            refine RK.seq ?_
            refine RK.region ?_
            refine RL.q (.free rfl) rfl rfl (Yld.fieldAddr fo135_3 rfl) ?_
            refine RL.q (.free rfl) rfl rfl (Yld.load p35 rfl (at1 (hC1.cell rfl))) ?_
            refine RL.p rfl rfl ?_
            refine RL.q (.free rfl) rfl rfl (Yld.indexAddrN u35 i3 rfl rfl (by omega)) ?_
            refine RL.q (.free rfl) rfl rfl (Yld.load p3 rfl (at1 (hc9 j (.int .i64 z) (by simp [hz])))) ?_
            refine RL.op (.free rfl) rfl rfl (Does.call rfl e67 (nmK_ok _ _)) ?_
            rintro _ _ ⟨rfl, rfl⟩
            iterate 2 refine RL.p rfl rfl ?_
            refine RL.done ?_
            first | refine RK.condD rfl (fun h48 => ?_) (fun h48 => ?_) | refine RK.condN rfl (fun h48 => ?_) (fun h48 => ?_) | refine RK.cond rfl (fun h48 => ?_) (fun h48 => ?_)
            · have hyes := hasN_yes (l := r.eq) (by omega) hz h48
              rw [if_pos hyes] at hst
              refine RK.seq ?_
              refine RK.region ?_
              refine RL.q (.free rfl) rfl rfl (Yld.fieldAddr fo90_3 rfl) ?_
              refine RL.q (.free rfl) rfl rfl (Yld.load p88 rfl (at1 (hB4.cell rfl))) ?_
              refine RL.p rfl rfl ?_
              refine RL.op (.free rfl) rfl rfl (Does.slice1 u88 i9 rfl rfl rfl rfl rfl) ?_
              rintro _ w5 ⟨b10, rfl, hn10⟩
              refine RL.op (.free rfl) rfl rfl (Does.append u88 i9 rfl rfl rfl rfl rfl (hr4.mod hn10.grow (fun _ _ h => h)) (Sl.new hn10 1 1 rfl (by omega) (fun h => h)) (rfl) (by omega)) ?_
              rintro z6 w6 ⟨hr6, hm6, hu6⟩
              have hs10 := hn10.grow.size
              have hun : ¬ (Value.slice adu out.length cu).ownBlock = some b3 := fun e => by have := hf4 b3 e; omega
              have hB6 := (hB4.mod hn10.grow (fun h => h)).mod hm6 hun
              have hf6 : Fresh w3.heap.size z6 := fun b e => by
                  rcases hu6 with h1 | h1
                  · exact hf4 b (h1 ▸ e)
                  · rw [h1] at e; cases e; omega
              obtain ⟨ad10, c10, rfl⟩ := hr6.slice
              refine RL.q (.free rfl) rfl rfl (Yld.fieldAddr fo90_3 rfl) ?_
              refine RL.op' (.free rfl) rfl (Does.store i88 rfl rfl rfl hB6 (.s (.s (.s (.s (.s .z)))))) ?_
              rintro _ w7 ⟨hb7, hm7, _⟩
              refine RL.done ?_
              refine RK.exit rfl ?_
              refine RK.inBlock ?_
              refine RK.region ?_
              iterate 2 refine RL.p rfl rfl ?_
              refine RL.re (d := 26) rfl rfl (succ_i64 (by omega)) ?_
              refine RL.p rfl rfl ?_
              refine RL.done ?_
              exact RK.back (ih (i + 1, out ++ [(enL.getD i ByteArray.empty)], _) _ ⟨hb7, by
                  simp only
                  have e1 : strsV (out ++ [(enL.getD i ByteArray.empty)]) = strsV out ++ (Value.string (enL.getD i ByteArray.empty)).cells.toList := by simp [strsV, Value.cells]
                  rw [e1, List.length_append]
                  exact hr6.mod hm7 (fun b e e2 => by have e' : b = b3 := e2; have := hf6 b e; omega), hf6, ((hm4.then hn10.grow (fun _ _ h => h.elim)).then hm6 (fun b hb e => by have := hf4 b e; omega)).trans hm7, by simp only; omega, by simp only; rw [List.length_append]; simp; omega, hst⟩ (by simp only; omega)) ⟨rfl, rfl, rfl, rfl, trivial⟩
            · refine RK.skip ?_
              refine RK.inBlock ?_
              refine RK.region ?_
              iterate 2 refine RL.p rfl rfl ?_
              refine RL.re (d := 40) rfl rfl (succ_i64 (by omega)) ?_
              refine RL.p rfl rfl ?_
              refine RL.done ?_
              exact RK.back (ih2 (j + 1) _ ⟨rfl, by omega, by omega, fun q y hq hy => by by_cases e : q = j; (subst e; rw [hz] at hy; cases hy; exact h48); exact hall q y (by omega) hy⟩ (by omega)) ⟨rfl, rfl, rfl, rfl, rfl, rfl, trivial⟩
          · have hno : hasN r.eq (enL.getD i ByteArray.empty) = false := hasN_no (fun q z hq hz => hall q z (by omega) hz)
            rw [if_neg (by rw [hno]; simp)] at hst
            refine RK.exit rfl ?_
            refine RK.inBlock ?_
            refine RK.region ?_
            iterate 2 refine RL.p rfl rfl ?_
            refine RL.re (d := 26) rfl rfl (succ_i64 (by omega)) ?_
            refine RL.p rfl rfl ?_
            refine RL.done ?_
            exact RK.back (ih (i + 1, out, _) _ ⟨hB4, hr4, hf4, hm4, by simp only; omega, hl4, hst⟩ (by simp only; omega)) ⟨rfl, rfl, rfl, rfl, trivial⟩
        · have hall9 := hall
          have hno : hasN r.eq (enL.getD i ByteArray.empty) = false := hasN_no (fun q z hq hz => hall q z (by have := (List.getElem?_eq_some_iff.1 hz).1; omega) hz)
          rw [if_neg (by rw [hno]; simp)] at hst
          iterate 2 refine RL.no (.no rfl rfl rfl rfl) rfl rfl ?_
          refine RL.p rfl rfl ?_
          refine RL.done ?_
          refine RK.condF rfl ?_
          refine RK.exit rfl ?_
          refine RK.inBlock ?_
          refine RK.region ?_
          iterate 2 refine RL.p rfl rfl ?_
          refine RL.re (d := 26) rfl rfl (succ_i64 (by omega)) ?_
          refine RL.p rfl rfl ?_
          refine RL.done ?_
          exact RK.back (ih (i + 1, out, _) _ ⟨hB4, hr4, hf4, hm4, by simp only; omega, hl4, hst⟩ (by simp only; omega)) ⟨rfl, rfl, rfl, rfl, trivial⟩
      · have hfin : out = eqOf r.eq := by rw [← hst, en_drop (by omega)]; unfold eqF; rw [if_neg (by omega)]
        have hC2 : Blk w4 b2 90 _ := (hn2.blk.mod hg3 (fun h => h)).mod hm4 hne2
        subst hfin
        refine RK.exit rfl ?_
        refine RK.seq ?_
        refine RK.region ?_
        refine RL.q (.free rfl) rfl rfl (Yld.loadN (cs := ruC (ruOf r (.slice ad8 (matsS r.src true).length c8) (.slice ad9 (matsS r.tgt true).length c9) (.slice adu (eqOf r.eq).length cu))) a90 rfl (atN (blk0' hB4))) ?_
        refine RL.op' (.free rfl) rfl (Does.storeN i90 rfl rfl rfl rfl hC2 (Nat.le_refl 6)) ?_
        rintro _ w9 ⟨hb9, hm9, _⟩
        have hm9' : Mod (fun b => b = b3 ∨ b < w2.heap.size) w4 w9 := hm9.mono fun b _ e => .inr (by have e' : b = b2 := e; omega)
        refine RL.done ?_
        refine RK.ret_of Tryz.func81 (resC (cs := ruC (ruOf r (.slice ad8 (matsS r.src true).length c8) (.slice ad9 (matsS r.tgt true).length c9) (.slice adu (eqOf r.eq).length cu))) rfl rfl a90 hb9) ?_ _
        exact ⟨_, rfl, _, _, _, rfl, ⟨((hs1.mod (hm4.mono fun b _ e => .inl e)).mod hm9').off (by omega) (fun b _ e => .inr (by have e' : b < w.heap.size := e; omega)), ((hs2.mod (hm4.mono fun b _ e => .inl e)).mod hm9').off (by omega) (fun b _ e => .inr (by have e' : b < w.heap.size := e; omega)), ((Sl.own (M := fun b => b = b2 ∨ b < w.heap.size) hr4 (fun b e e2 => by have := hf4 b e; have := hg3.size; omega)).mod (hm9.mono fun b _ e => .inl e)).off (by omega) (fun b _ e => .inr e)⟩, (hg03.then hm4 (fun y hy e => by have e' : y = b3 := e; omega)).then hm9 (fun y hy e => by have e' : y = b2 := e; omega)⟩
    · have hfin : out = eqOf r.eq := by rw [← hst, show i = 5 by omega]; rfl
      have hC2 : Blk w4 b2 90 _ := (hn2.blk.mod hg3 (fun h => h)).mod hm4 hne2
      subst hfin
      iterate 4 refine RL.no (.no rfl rfl rfl rfl) rfl rfl ?_
      refine RL.p rfl rfl ?_
      refine RL.done ?_
      refine RK.condF rfl ?_
      refine RK.exit rfl ?_
      refine RK.seq ?_
      refine RK.region ?_
      refine RL.q (.free rfl) rfl rfl (Yld.loadN (cs := ruC (ruOf r (.slice ad8 (matsS r.src true).length c8) (.slice ad9 (matsS r.tgt true).length c9) (.slice adu (eqOf r.eq).length cu))) a90 rfl (atN (blk0' hB4))) ?_
      refine RL.op' (.free rfl) rfl (Does.storeN i90 rfl rfl rfl rfl hC2 (Nat.le_refl 6)) ?_
      rintro _ w9 ⟨hb9, hm9, _⟩
      have hm9' : Mod (fun b => b = b3 ∨ b < w2.heap.size) w4 w9 := hm9.mono fun b _ e => .inr (by have e' : b = b2 := e; omega)
      refine RL.done ?_
      refine RK.ret_of Tryz.func81 (resC (cs := ruC (ruOf r (.slice ad8 (matsS r.src true).length c8) (.slice ad9 (matsS r.tgt true).length c9) (.slice adu (eqOf r.eq).length cu))) rfl rfl a90 hb9) ?_ _
      exact ⟨_, rfl, _, _, _, rfl, ⟨((hs1.mod (hm4.mono fun b _ e => .inl e)).mod hm9').off (by omega) (fun b _ e => .inr (by have e' : b < w.heap.size := e; omega)), ((hs2.mod (hm4.mono fun b _ e => .inl e)).mod hm9').off (by omega) (fun b _ e => .inr (by have e' : b < w.heap.size := e; omega)), ((Sl.own (M := fun b => b = b2 ∨ b < w.heap.size) hr4 (fun b e e2 => by have := hf4 b e; have := hg3.size; omega)).mod (hm9.mono fun b _ e => .inl e)).off (by omega) (fun b _ e => .inr e)⟩, (hg03.then hm4 (fun y hy e => by have e' : y = b3 := e; omega)).then hm9 (fun y hy e => by have e' : y = b2 := e; omega)⟩
  · refine RK.drawT No (.op 0 false (.op 1 false (.op 3 false (.op 4 false (.op 6 false (.op 7 false (.fork 2 (.fork 5 (.fork 8 (.op 9 false (.op 10 true (.op 11 true .nil))) 10 (.op 8 true (.op 9 false (.op 11 true .nil)))) 10 (.op 5 true (.op 8 true (.op 9 false (.op 11 true .nil))))) 10 (.op 2 true (.op 5 true (.op 8 true (.op 9 false (.op 11 true .nil)))))))))))) [] mixed (by kernel_rfl) ?_
    refine DT.qf rfl (.free rfl) rfl rfl (Yld.fieldAddr fo135_0 rfl) ?_
    refine DT.q rfl (.free rfl) rfl rfl rfl (Yld.load p58 rfl (atM (hB1.cell rfl) (fun h => h))) (Mod.drew _ _) ?_
    refine DT.qf rfl (.free rfl) rfl rfl (Yld.fieldAddr fo135_1 rfl) ?_
    refine DT.q rfl (.free rfl) rfl rfl rfl (Yld.load p58 rfl (atM (hB1.cell rfl) (fun h => h))) (Mod.drew _ _) ?_
    refine DT.qf rfl (.free rfl) rfl rfl (Yld.fieldAddr fo135_2 rfl) ?_
    refine DT.q rfl (.free rfl) rfl rfl rfl (Yld.loadN (cs := bnC r.bn) a60 rfl (atNM (fldN hB1 2 3) (fun h => h))) (Mod.drew _ _) ?_
    refine DT.fork ?_ ?_
    · refine DT.op rfl (.free rfl) rfl rfl (Does.call rfl e60 (mats_ok No r.src true _ _ (hro.s.mod (Mod.drew _ _)))) ?_
      rintro z1 w3 ⟨hr1, hf1, hg3⟩
      have hd3 := (Mod.drew No w2).trans hg3
      refine ⟨hd3, ?_⟩
      refine DT.fork ?_ ?_
      · refine DT.op rfl (.free rfl) rfl rfl (Does.call rfl e60 (mats_ok No r.tgt true _ _ (hro.t.mod hd3))) ?_
        rintro z2 w4 ⟨hr2, hf2, hg4⟩
        have hd4 := hd3.trans hg4
        refine ⟨hd4, ?_⟩
        obtain ⟨ad8, c8, rfl⟩ := hr1.slice
        obtain ⟨ad9, c9, rfl⟩ := hr2.slice
        refine DT.fork ?_ ?_
        · refine DT.op rfl (.free rfl) rfl rfl (Does.call rfl e61 (band_ok r.bn _)) ?_
          rintro _ w5 ⟨rfl, hg5⟩
          refine ⟨hd4.trans hg5, ?_⟩
          refine DT.qf rfl (.free rfl) rfl rfl (Yld.build (v := .agg #[.slice ad8 (matsS r.src true).length c8, .slice ad9 (matsS r.tgt true).length c9, .bool (bandOf r.bn).all, .float .f64 (bandOf r.bn).lo, .float .f64 (bandOf r.bn).hi, .slice none 0 0]) rfl (fun w => by kernel_rfl)) ?_
          refine DT.op rfl (.free rfl) rfl rfl (Does.alloc i90) ?_
          rintro _ w6 ⟨b3, rfl, hn3⟩
          have gpre := (hd4.trans hg5).trans hn3.grow
          refine ⟨gpre, ?_⟩
          have hsz := hn3.at_
          have hs5 := (hd4.trans hg5).size
          have hs35 := (hg4.trans hg5).size
          have hs45 := hg5.size
          have hle : w2.heap.size ≤ b3 := by omega
          have hP3 := hn3.blk
          have hA := hr1.mod ((hg4.trans hg5).trans hn3.grow) (fun _ _ h => h)
          have hBB := hr2.mod (hg5.trans hn3.grow) (fun _ _ h => h)
          have hneA : ∀ b, (Value.slice ad8 (matsS r.src true).length c8).ownBlock = some b → ¬ (b = b3 ∨ b < w2.heap.size) := fun b e e2 => by have := hr1.lt (b := b) e; have := hf1 b e; have : w2.drew.heap.size = w2.heap.size := rfl; omega
          have hneB : ∀ b, (Value.slice ad9 (matsS r.tgt true).length c9).ownBlock = some b → ¬ (b = b3 ∨ b < w2.heap.size) := fun b e e2 => by have := hr2.lt (b := b) e; have := hf2 b e; have := hd3.size; omega
          refine DT.op' rfl (.free rfl) rfl (Does.storeN i90 rfl rfl rfl rfl hP3 (Nat.le_refl 6)) ?_
          rintro _ w7 ⟨hb7, hm7, _⟩
          have hg7 : Grow w2 w7 := gpre.then hm7 (fun y hy e => by have e' : y = b3 := e; omega)
          refine ⟨hg7, ?_⟩
          refine DT.done ?_
          exact RK.back (hj b3 _ ⟨_, _, hle, hb7, (Sl.own hA hneA).mod (hm7.mono fun b _ e => .inl e), (Sl.own hBB hneB).mod (hm7.mono fun b _ e => .inl e), hg7⟩) ⟨rfl, rfl, rfl, trivial⟩
        · refine DT.op rfl (.free rfl) rfl rfl (Does.alloc i90) ?_
          rintro _ w5 ⟨b3, rfl, hn3⟩
          refine ⟨hd4.trans hn3.grow, ?_⟩
          refine DT.op rfl (.free rfl) rfl rfl (Does.call rfl e61 (band_ok r.bn _)) ?_
          rintro _ w6 ⟨rfl, hg5⟩
          have gpre := (hd4.trans hn3.grow).trans hg5
          refine ⟨gpre, ?_⟩
          have hsz := hn3.at_
          have hs5 := hd4.size
          have hs35 := hg4.size
          have hle : w2.heap.size ≤ b3 := by omega
          have hP3 := hn3.blk.mod hg5 (fun h => h)
          have hA := hr1.mod ((hg4.trans hn3.grow).trans hg5) (fun _ _ h => h)
          have hBB := hr2.mod (hn3.grow.trans hg5) (fun _ _ h => h)
          have hneA : ∀ b, (Value.slice ad8 (matsS r.src true).length c8).ownBlock = some b → ¬ (b = b3 ∨ b < w2.heap.size) := fun b e e2 => by have := hr1.lt (b := b) e; have := hf1 b e; have : w2.drew.heap.size = w2.heap.size := rfl; omega
          have hneB : ∀ b, (Value.slice ad9 (matsS r.tgt true).length c9).ownBlock = some b → ¬ (b = b3 ∨ b < w2.heap.size) := fun b e e2 => by have := hr2.lt (b := b) e; have := hf2 b e; have := hd3.size; omega
          refine DT.qf rfl (.free rfl) rfl rfl (Yld.build (v := .agg #[.slice ad8 (matsS r.src true).length c8, .slice ad9 (matsS r.tgt true).length c9, .bool (bandOf r.bn).all, .float .f64 (bandOf r.bn).lo, .float .f64 (bandOf r.bn).hi, .slice none 0 0]) rfl (fun w => by kernel_rfl)) ?_
          refine DT.op' rfl (.free rfl) rfl (Does.storeN i90 rfl rfl rfl rfl hP3 (Nat.le_refl 6)) ?_
          rintro _ w7 ⟨hb7, hm7, _⟩
          have hg7 : Grow w2 w7 := gpre.then hm7 (fun y hy e => by have e' : y = b3 := e; omega)
          refine ⟨hg7, ?_⟩
          refine DT.done ?_
          exact RK.back (hj b3 _ ⟨_, _, hle, hb7, (Sl.own hA hneA).mod (hm7.mono fun b _ e => .inl e), (Sl.own hBB hneB).mod (hm7.mono fun b _ e => .inl e), hg7⟩) ⟨rfl, rfl, rfl, trivial⟩
      · refine DT.op rfl (.free rfl) rfl rfl (Does.alloc i90) ?_
        rintro _ w4 ⟨b3, rfl, hn3⟩
        have hd4 := hd3.trans hn3.grow
        refine ⟨hd4, ?_⟩
        refine DT.op rfl (.free rfl) rfl rfl (Does.call rfl e60 (mats_ok No r.tgt true _ _ (hro.t.mod hd4))) ?_
        rintro z2 w5 ⟨hr2, hf2, hg4⟩
        refine ⟨hd4.trans hg4, ?_⟩
        obtain ⟨ad8, c8, rfl⟩ := hr1.slice
        obtain ⟨ad9, c9, rfl⟩ := hr2.slice
        refine DT.op rfl (.free rfl) rfl rfl (Does.call rfl e61 (band_ok r.bn _)) ?_
        rintro _ w6 ⟨rfl, hg5⟩
        have gpre := (hd4.trans hg4).trans hg5
        refine ⟨gpre, ?_⟩
        have hsz := hn3.at_
        have hsz2 := hn3.size
        have hs5 := hd3.size
        have hle : w2.heap.size ≤ b3 := by omega
        have hP3 := hn3.blk.mod (hg4.trans hg5) (fun h => h)
        have hA := hr1.mod ((hn3.grow.trans hg4).trans hg5) (fun _ _ h => h)
        have hBB := hr2.mod hg5 (fun _ _ h => h)
        have hneA : ∀ b, (Value.slice ad8 (matsS r.src true).length c8).ownBlock = some b → ¬ (b = b3 ∨ b < w2.heap.size) := fun b e e2 => by have := hr1.lt (b := b) e; have := hf1 b e; have : w2.drew.heap.size = w2.heap.size := rfl; omega
        have hneB : ∀ b, (Value.slice ad9 (matsS r.tgt true).length c9).ownBlock = some b → ¬ (b = b3 ∨ b < w2.heap.size) := fun b e e2 => by have := hf2 b e; have := hd4.size; omega
        refine DT.qf rfl (.free rfl) rfl rfl (Yld.build (v := .agg #[.slice ad8 (matsS r.src true).length c8, .slice ad9 (matsS r.tgt true).length c9, .bool (bandOf r.bn).all, .float .f64 (bandOf r.bn).lo, .float .f64 (bandOf r.bn).hi, .slice none 0 0]) rfl (fun w => by kernel_rfl)) ?_
        refine DT.op' rfl (.free rfl) rfl (Does.storeN i90 rfl rfl rfl rfl hP3 (Nat.le_refl 6)) ?_
        rintro _ w7 ⟨hb7, hm7, _⟩
        have hg7 : Grow w2 w7 := gpre.then hm7 (fun y hy e => by have e' : y = b3 := e; omega)
        refine ⟨hg7, ?_⟩
        refine DT.done ?_
        exact RK.back (hj b3 _ ⟨_, _, hle, hb7, (Sl.own hA hneA).mod (hm7.mono fun b _ e => .inl e), (Sl.own hBB hneB).mod (hm7.mono fun b _ e => .inl e), hg7⟩) ⟨rfl, rfl, rfl, trivial⟩
    · refine DT.op rfl (.free rfl) rfl rfl (Does.alloc i90) ?_
      rintro _ w3 ⟨b3, rfl, hn3⟩
      have hd3 := (Mod.drew No w2).trans hn3.grow
      refine ⟨hd3, ?_⟩
      refine DT.op rfl (.free rfl) rfl rfl (Does.call rfl e60 (mats_ok No r.src true _ _ (hro.s.mod hd3))) ?_
      rintro z1 w4 ⟨hr1, hf1, hg3⟩
      have hd4 := hd3.trans hg3
      refine ⟨hd4, ?_⟩
      refine DT.op rfl (.free rfl) rfl rfl (Does.call rfl e60 (mats_ok No r.tgt true _ _ (hro.t.mod hd4))) ?_
      rintro z2 w5 ⟨hr2, hf2, hg4⟩
      refine ⟨hd4.trans hg4, ?_⟩
      obtain ⟨ad8, c8, rfl⟩ := hr1.slice
      obtain ⟨ad9, c9, rfl⟩ := hr2.slice
      refine DT.op rfl (.free rfl) rfl rfl (Does.call rfl e61 (band_ok r.bn _)) ?_
      rintro _ w6 ⟨rfl, hg5⟩
      have gpre := (hd4.trans hg4).trans hg5
      refine ⟨gpre, ?_⟩
      have hsz := hn3.at_
      have hsz2 := hn3.size
      have hs5 : w2.drew.heap.size = w2.heap.size := rfl
      have hs6 := hg3.size
      have hle : w2.heap.size ≤ b3 := by omega
      have hP3 := hn3.blk.mod ((hg3.trans hg4).trans hg5) (fun h => h)
      have hA := hr1.mod (hg4.trans hg5) (fun _ _ h => h)
      have hBB := hr2.mod hg5 (fun _ _ h => h)
      have hneA : ∀ b, (Value.slice ad8 (matsS r.src true).length c8).ownBlock = some b → ¬ (b = b3 ∨ b < w2.heap.size) := fun b e e2 => by have := hf1 b e; omega
      have hneB : ∀ b, (Value.slice ad9 (matsS r.tgt true).length c9).ownBlock = some b → ¬ (b = b3 ∨ b < w2.heap.size) := fun b e e2 => by have := hf2 b e; have := hd4.size; omega
      refine DT.qf rfl (.free rfl) rfl rfl (Yld.build (v := .agg #[.slice ad8 (matsS r.src true).length c8, .slice ad9 (matsS r.tgt true).length c9, .bool (bandOf r.bn).all, .float .f64 (bandOf r.bn).lo, .float .f64 (bandOf r.bn).hi, .slice none 0 0]) rfl (fun w => by kernel_rfl)) ?_
      refine DT.op' rfl (.free rfl) rfl (Does.storeN i90 rfl rfl rfl rfl hP3 (Nat.le_refl 6)) ?_
      rintro _ w7 ⟨hb7, hm7, _⟩
      have hg7 : Grow w2 w7 := gpre.then hm7 (fun y hy e => by have e' : y = b3 := e; omega)
      refine ⟨hg7, ?_⟩
      refine DT.done ?_
      exact RK.back (hj b3 _ ⟨_, _, hle, hb7, (Sl.own hA hneA).mod (hm7.mono fun b _ e => .inl e), (Sl.own hBB hneB).mod (hm7.mono fun b _ e => .inl e), hg7⟩) ⟨rfl, rfl, rfl, trivial⟩
end Go.Proofs.YtbcbfjnlnmhpbaaGreat
set_option linter.unusedVariables false
set_option linter.unusedSimpArgs false
set_option maxHeartbeats 2000000
set_option maxRecDepth 100000
namespace Go.Proofs.YtbcbfjnlnmhpbaaGreat
open Go Go.X Go.Rex
theorem Ru.Ok.off {M M' : Nat → Prop} {w : World} {r : Ru} (h : r.Ok M w) (hM : ∀ b, b < w.heap.size → M' b → M b) : r.Ok M' w := ⟨h.s.off (by omega) hM, h.t.off (by omega) hM, h.e.off (by omega) hM⟩
theorem Ru.Ok.pass {M M' : Nat → Prop} {w w' : World} {r : Ru} (h : r.Ok M w) (hm : Mod M w w') (hM : ∀ b, M' b → M b ∨ w.heap.size ≤ b) : r.Ok M' w' := ⟨h.s.pass (by omega) hm hM, h.t.pass (by omega) hm hM, h.e.pass (by omega) hm hM⟩
theorem Ru.Ok.noM {M : Nat → Prop} {w : World} {r : Ru} (h : r.Ok M w) : r.Ok No w := ⟨h.s.noM, h.t.noM, h.e.noM⟩
abbrev RuP := List Mt × List Mt × Bd × List ByteArray
def ruP (r : Ru) : RuP := (r.src, r.tgt, r.bd, r.eq)
def rdP (d : Rd) : RuP := (matsS d.src true, matsS d.tgt true, bandOf d.bn, eqOf d.eq)
structure Sd where
  id : Int
  ver : Int
  start : Int
  stop : Int
  mv : Value
  ms : List Dm
  bn : Bn
def sdC (s : Sd) : List Value := [.int .i64 s.id, .int .i64 s.ver, .int .u64 s.start, .int .u64 s.stop, s.mv, .int .i64 s.bn.k, .float .f64 s.bn.lo, .float .f64 s.bn.hi]
theorem sdC_len (s : Sd) : (sdC s).length = 8 := rfl
theorem sdN {w : World} {b o : Nat} {d : Sd} (h : ∀ j u, (sdC d)[j]? = some u → w.cell? ⟨b, o + j, none⟩ = some u) : ∀ q z, (bnC d.bn)[q]? = some z → w.cell? ⟨b, o + 5 + q, none⟩ = some z := fun q z hq => by
  have hq3 := (List.getElem?_eq_some_iff.1 hq).1
  have hq3' : q < 3 := hq3
  have h5 : (sdC d)[5 + q]? = some z := by rcases q with _ | _ | _ | q <;> first | exact hq | omega
  rw [Nat.add_assoc]
  exact h _ z h5
abbrev SilP := Int × Int × Int × Int × List Mt × Bd
def silP (s : Sil) : SilP := (s.id, s.ver, s.start, s.stop, s.ms, s.bd)
def sdP (d : Sd) : SilP := (d.id, d.ver, d.start, d.stop, matsS d.ms true, bandOf d.bn)
end Go.Proofs.YtbcbfjnlnmhpbaaGreat
set_option linter.unusedVariables false
set_option linter.unusedSimpArgs false
set_option maxHeartbeats 4000000
set_option maxRecDepth 100000
namespace Go.Proofs.YtbcbfjnlnmhpbaaGreat
open Go Go.X Go.Rex
theorem eqOf_len (l : List Int) : (eqOf l).length ≤ 4 := eqF_len l enL [] (by simp)
end Go.Proofs.YtbcbfjnlnmhpbaaGreat
set_option linter.unusedVariables false
set_option linter.unusedSimpArgs false
set_option maxHeartbeats 3200000
set_option maxRecDepth 100000
namespace Go.Proofs.YtbcbfjnlnmhpbaaGreat
open Go Go.X
theorem ZStore.ltM {O M : Nat → Prop} {w : World} {p : Nat} {s : SS} (h : ZStore O M w p s) : ∀ b, M b → b < w.heap.size := by
  obtain ⟨pl, qu, vp, vq, vs, al, q, hO, h⟩ := h
  exact h.ltM
end Go.Proofs.YtbcbfjnlnmhpbaaGreat
set_option linter.unusedVariables false
set_option linter.unusedSimpArgs false
set_option maxHeartbeats 3200000
set_option maxRecDepth 100000
namespace Go.Proofs.YtbcbfjnlnmhpbaaGreat
open Go Go.X
def SzS (s : SS) : Prop := ∀ a ∈ s.sl, (∀ m ∈ a.ms, m.name.size ≤ 9223372036854775807) ∧ a.ms.length ≤ 1000000
def SzM (ms : List Mt) : Prop := (∀ m ∈ ms, m.name.size ≤ 9223372036854775807) ∧ ms.length ≤ 1000000
theorem SzS.make {s : SS} (h : SzS s) (now a b : Int) {ms : List Mt} (hm : SzM ms) (bd : Bd) : SzS (makeS s now a b ms bd).1 := by
  unfold makeS
  split
  · exact h
  · split
    · exact h
    · split
      · exact h
      · intro x hx
        rcases List.mem_append.1 hx with hx | hx
        · exact h x hx
        · rw [List.mem_singleton] at hx; subst hx; exact hm
theorem last_make (s : SS) (now a b : Int) (ms : List Mt) (bd : Bd) : (makeS s now a b ms bd).1.last ≤ s.last + 1 := by
  unfold makeS
  split
  · simp only; omega
  · split
    · simp only; omega
    · split <;> (simp only; omega)
structure TZ (O1 O2 M : Nat → Prop) (w : World) (p q : Nat) (s : SS) : Prop where
  z : ZStore O1 M w p s
  r : RStore O2 M w q s
  off : ∀ b, O1 b → ¬ O2 b
  g : Gz s
  sz : SzS s
structure S14 where
  kind : Int
  now : Int
  start : Int
  stop : Int
  id : Int
  mv : Value
  ms : List Dm
  bn : Bn
structure S14.Ok (w : World) (x : S14) : Prop where
  s : Sl No w x.mv 3 x.ms.length (x.ms.flatMap dmC)
  n0 : 0 ≤ x.now
  n1 : x.now < 18446744073709551616
  e0 : 0 ≤ x.stop
  k0 : 0 ≤ x.kind
theorem S14.Ok.mod {w w' : World} {x : S14} (h : x.Ok w) (hg : Grow w w') : x.Ok w' := ⟨h.s.mod hg, h.n0, h.n1, h.e0, h.k0⟩
end Go.Proofs.YtbcbfjnlnmhpbaaGreat
set_option linter.unusedVariables false
set_option linter.unusedSimpArgs false
set_option maxHeartbeats 3200000
set_option maxRecDepth 100000
namespace Go.Proofs.YtbcbfjnlnmhpbaaGreat
open Go Go.X
theorem listZ_all (now : Int) (l : List Slz) : listZ now 0 l = l.map (toldP now) := by
  unfold listZ
  rw [List.filter_eq_self.2 (fun a _ => by unfold wantZ; rfl)]
theorem gz_new (m r : Int) : Gz ⟨clampS r 1 1048576, clampS m 1 12, 0, []⟩ := by
  refine ⟨?_, ?_, ?_, ?_, List.Pairwise.nil, Int.le_refl 0, fun a h => (by cases h), fun a h => (by cases h)⟩
  · simp only; unfold clampS; repeat' split <;> omega
  · simp only; unfold clampS; repeat' split <;> omega
  · simp only; unfold clampS; repeat' split <;> omega
  · show (0 : Int) ≤ clampS m 1 12
    unfold clampS; repeat' split <;> omega
theorem TZ.new {w1 w2 : World} {p q : Nat} {O1 : Nat → Prop} {s : SS} (hz : ZStore O1 O1 w1 p s) (hr : RStore (fun b => b = q) (fun b => b = q) w2 q s) (hg2 : Grow w1 w2) (hq : w1.heap.size ≤ q) (he : s.sl = []) (g : Gz s) : TZ O1 (fun b => b = q) (fun b => O1 b ∨ b = q) w2 p q s := by
  have hql : q < w2.heap.size := hr.lt q rfl
  refine ⟨hz.other hg2 (fun b e => e.elim) (fun b _ e => e.elim) (fun b e => e.elim .inl fun e => .inr (by omega)) (fun b e => .inl e) (fun b e => e.elim (fun e => Nat.lt_of_lt_of_le (hz.lt b e) hg2.size) fun e => by omega), ?_, fun b e e2 => by have := hz.lt b e; have e3 : b = q := e2; omega, g, fun a ha => by rw [he] at ha; cases ha⟩
  obtain ⟨vs, al, hO, h⟩ := hr
  have hal : al = [] := by have := h.als; rw [he] at this; simpa using this
  subst hal
  exact ⟨vs, [], hO, h.blk, h.row, h.als, fun a ha => (by cases ha), fun b e => .inr (h.ownM b e), fun b e => e.elim (fun e => Nat.lt_of_lt_of_le (hz.lt b e) hg2.size) fun e => by omega⟩
end Go.Proofs.YtbcbfjnlnmhpbaaGreat
set_option linter.unusedVariables false
set_option linter.unusedSimpArgs false
set_option maxHeartbeats 2000000
set_option maxRecDepth 100000
namespace Go.Proofs.YtbcbfjnlnmhpbaaGreat
open Go Go.X Go.Rex
def mkRu (p : RuP) : Ru := ⟨.slice none 0 0, .slice none 0 0, .slice none 0 0, p.1, p.2.1, p.2.2.1, p.2.2.2⟩
def mkAl (p : AlS) : Al := ⟨p.1, p.2.1, p.2.2, .slice none 0 0⟩
theorem isRu_mk (r : Ru) : isRu (mkRu (ruP r)) = isRu r := by unfold isRu mkRu ruP; rfl
theorem works_mk (r : Ru) : worksRu (mkRu (ruP r)) = worksRu r := by unfold worksRu largeRu; rw [isRu_mk]; rfl
theorem mutes_mk (r : Ru) (s t : Al) : mutesS (mkRu (ruP r)) (mkAl (pub s)) (mkAl (pub t)) = mutesS r s t := by
  unfold mutesS targetS sourceS
  rw [works_mk]
  rfl
noncomputable def mutP (t : AlS) (l : List AlS) (rs : List RuP) : List Int := rs.flatMap fun p => (l.filter fun q => mutesS (mkRu p) (mkAl q) (mkAl t)).map (·.1)
theorem mutS_pub (t : Al) (l : List Al) (rs : List Ru) : mutS t l rs = mutP (pub t) (l.map pub) (rs.map ruP) := by
  unfold mutS mutP mutOf
  simp only [List.flatMap_map, List.filter_map, List.map_map, Function.comp_def, mutes_mk]
  rfl
end Go.Proofs.YtbcbfjnlnmhpbaaGreat
set_option linter.unusedVariables false
set_option linter.unusedSimpArgs false
set_option maxHeartbeats 4000000
set_option maxRecDepth 100000
namespace Go.Proofs.YtbcbfjnlnmhpbaaGreat
open Go Go.X Go.Rex
theorem isRu_at2 (r : Ru) (v1 v2 v3 : Value) : isRu (ruAt r v1 v2 v3) = isRu r := by unfold isRu ruAt; rfl
theorem works_at (r : Ru) (v1 v2 v3 : Value) : worksRu (ruAt r v1 v2 v3) = worksRu r := by unfold worksRu largeRu; rw [isRu_at2]; rfl
theorem take_snoc {α : Type} {l : List α} {k : Nat} {x : α} (h : l[k]? = some x) : l.take (k + 1) = l.take k ++ [x] := by
  have hk := (List.getElem?_eq_some_iff.1 h).1
  rw [List.take_succ_eq_append_getElem hk, (List.getElem?_eq_some_iff.1 h).2]
end Go.Proofs.YtbcbfjnlnmhpbaaGreat
set_option linter.unusedVariables false
set_option linter.unusedSimpArgs false
set_option maxHeartbeats 4000000
set_option maxRecDepth 100000
namespace Go.Proofs.YtbcbfjnlnmhpbaaGreat
open Go Go.X Go.Rex
theorem sils18N_ok (ds : List Sd) (vd : Value) (w : World) (hd : Sl No w vd 8 ds.length (ds.flatMap sdC)) (hds : ∀ d ∈ ds, Sl No w d.mv 3 d.ms.length (d.ms.flatMap dmC)) :
    Fx Tryz.prog 35 [vd] w (fun u w' => ∃ sl : List Sil, sl.map silP = (ds.take 12).map sdP ∧ Row w' 41 8 u sl.length (sl.flatMap silC) ∧ (∀ s ∈ sl, SlM (fun b => b < w.heap.size) w' s.mv s.ms) ∧ Fresh w.heap.size u ∧ Grow w w') := by
  obtain ⟨ad, c, rfl⟩ := hd.shape
  have hbig := hd.big
  refine enter Tryz.func35 rfl rfl rfl _ (Pick.sub (l := [0]) (.cons rfl .nil)) ?_
  refine RK.seq ?_
  refine RK.region ?_
  refine RL.p rfl rfl ?_
  refine RL.done ?_
  refine RK.seq ?_
  refine RK.region ?_
  refine RL.p rfl rfl ?_
  refine RL.done ?_
  iterate 2 refine RK.seq ?_
  refine RK.region ?_
  refine RL.p rfl rfl ?_
  refine RL.done ?_
  refine RK.block ?_
  refine RK.loop (fun s : Nat × Value => [(0, .slice ad ds.length c), (3, s.2), (4, .int .i64 (s.1 : Int))]) (fun s w' => (∃ sl : List Sil, sl.map silP = (ds.take s.1).map sdP ∧ Row w' 41 8 s.2 sl.length (sl.flatMap silC) ∧ (∀ x ∈ sl, SlM (fun b => b < w.heap.size ∨ s.2.ownBlock = some b) w' x.mv x.ms)) ∧ Fresh w.heap.size s.2 ∧ Grow w w' ∧ s.1 ≤ ds.length ∧ s.1 ≤ 12) (fun s => ds.length - s.1) (0, .slice none 0 0) ⟨rfl, rfl, rfl, trivial⟩ ⟨⟨[], by simp, Row.nil _ _ _, by simp⟩, fun b e => by simp [Value.ownBlock] at e, Mod.refl _ _, by simp, by simp⟩ (fun s w' hI ih => ?_)
  obtain ⟨k, u⟩ := s
  obtain ⟨⟨sl, hal, hr, hok⟩, hf, hg, hk, hk16⟩ := hI
  simp only at hal hr hok hf hk hk16
  have hlen : sl.length ≤ 12 := by have := congrArg List.length hal; simp at this; omega
  iterate 2 refine RK.seq ?_
  refine RK.region ?_
  iterate 2 refine RL.p rfl rfl ?_
  refine RL.q (.free rfl) rfl rfl (Yld.lenSl u75 rfl) ?_
  iterate 2 refine RL.p rfl rfl ?_
  first | refine RL.splitD (d := 9) rfl rfl (fun h8 => ?_) (fun h8 => ?_) | refine RL.splitN (d := 9) rfl rfl (fun h8 => ?_) (fun h8 => ?_) | refine RL.split (d := 9) rfl rfl (fun h8 => ?_) (fun h8 => ?_)
  · iterate 2 refine RL.q (.yes rfl rfl rfl) rfl rfl (Yld.pure rfl) ?_
    refine RL.p rfl rfl ?_
    refine RL.done ?_
    first | refine RK.condD rfl (fun h11 => ?_) (fun h11 => ?_) | refine RK.condN rfl (fun h11 => ?_) (fun h11 => ?_) | refine RK.cond rfl (fun h11 => ?_) (fun h11 => ?_)
    · obtain ⟨d, hdk⟩ : ∃ d, ds[k]? = some d := ⟨ds[k]'(by omega), List.getElem?_eq_getElem (by omega)⟩
      obtain ⟨b1, o1, c1', he1, _, _, hc1⟩ := hd.elem sdC_len hdk
      cases he1
      have hdo := hds d (List.mem_of_getElem? hdk)
      have hb1 : ¬ w.heap.size ≤ b1 := by have := World.block_lt_of_cell? w _ (hc1 0 _ rfl); simp only at this; omega
      have hsz0 := hg.size
      refine RK.skip ?_
      refine RK.seq ?_
      refine RK.block ?_
      refine RK.drawM (fun b => w.heap.size ≤ b) [(0, false), (1, false), (2, false), (3, false), (4, false), (5, false), (6, false), (7, false), (8, false), (9, false), (10, false), (11, false), (12, false), (13, false), (14, false), (15, false), (16, false), (17, false), (18, false), (19, false), (20, false), (21, false), (22, false), (23, false), (24, false), (25, false), (27, false), (28, false), (29, false), (30, false), (31, false), (26, true), (32, true), (33, false), (34, true), (35, true), (36, false)] [] mixed (by kernel_rfl) ?_
      iterate 3 refine DL.p rfl rfl rfl ?_
      refine DL.qf rfl (.free rfl) rfl rfl (Yld.indexAddrN u75 i133 rfl rfl (by omega)) ?_
      refine DL.qf rfl (.free rfl) rfl rfl (Yld.fieldAddr fo133_0 rfl) ?_
      refine DL.q rfl (.free rfl) rfl rfl rfl (Yld.load p3 rfl (atM (hg.cell (hc1 0 _ rfl) (fun h => h)) (hb1))) (Mod.drew _ _) ?_
      iterate 2 refine DL.p rfl rfl rfl ?_
      refine DL.qf rfl (.free rfl) rfl rfl (Yld.indexAddrN u75 i133 rfl rfl (by omega)) ?_
      refine DL.qf rfl (.free rfl) rfl rfl (Yld.fieldAddr fo133_1 rfl) ?_
      refine DL.q rfl (.free rfl) rfl rfl rfl (Yld.load p3 rfl (atM (hg.cell (hc1 1 _ rfl) (fun h => h)) (hb1))) (Mod.drew _ _) ?_
      iterate 2 refine DL.p rfl rfl rfl ?_
      refine DL.qf rfl (.free rfl) rfl rfl (Yld.indexAddrN u75 i133 rfl rfl (by omega)) ?_
      refine DL.qf rfl (.free rfl) rfl rfl (Yld.fieldAddr fo133_2 rfl) ?_
      refine DL.q rfl (.free rfl) rfl rfl rfl (Yld.load p22 rfl (atM (hg.cell (hc1 2 _ rfl) (fun h => h)) (hb1))) (Mod.drew _ _) ?_
      iterate 2 refine DL.p rfl rfl rfl ?_
      refine DL.qf rfl (.free rfl) rfl rfl (Yld.indexAddrN u75 i133 rfl rfl (by omega)) ?_
      refine DL.qf rfl (.free rfl) rfl rfl (Yld.fieldAddr fo133_3 rfl) ?_
      refine DL.q rfl (.free rfl) rfl rfl rfl (Yld.load p22 rfl (atM (hg.cell (hc1 3 _ rfl) (fun h => h)) (hb1))) (Mod.drew _ _) ?_
      iterate 2 refine DL.p rfl rfl rfl ?_
      refine DL.qf rfl (.free rfl) rfl rfl (Yld.indexAddrN u75 i133 rfl rfl (by omega)) ?_
      refine DL.qf rfl (.free rfl) rfl rfl (Yld.fieldAddr fo133_4 rfl) ?_
      refine DL.q rfl (.free rfl) rfl rfl rfl (Yld.load p58 rfl (atM (hg.cell (hc1 4 _ rfl) (fun h => h)) (hb1))) (Mod.drew _ _) ?_
      iterate 2 refine DL.p rfl rfl rfl ?_
      refine DL.qf rfl (.free rfl) rfl rfl (Yld.indexAddrN u75 i133 rfl rfl (by omega)) ?_
      refine DL.qf rfl (.free rfl) rfl rfl (Yld.fieldAddr fo133_5 rfl) ?_
      refine DL.q rfl (.free rfl) rfl rfl rfl (Yld.loadN (cs := bnC d.bn) a60 rfl (atNM (sdN (fun q z hq => hg.cell (hc1 q z hq) (fun h => h))) (hb1))) (Mod.drew _ _) ?_
      refine DL.op rfl (.free rfl) rfl rfl (Does.call rfl e60 (mats_ok No d.ms true _ _ ((hdo.mod hg).mod (Mod.drew _ _)))) ?_
      rintro zm w3 ⟨hr3, hf3, hg3⟩
      have hd3 := (Mod.drew No w').trans hg3
      refine ⟨Mod.any' hd3, ?_⟩
      obtain ⟨ad8, c8, rfl⟩ := hr3.slice
      refine DL.op rfl (.free rfl) rfl rfl (Does.call rfl e61 (band_ok d.bn _)) ?_
      rintro _ w4 ⟨rfl, hg4⟩
      have hd4 := hd3.trans hg4
      refine ⟨Mod.any' hd4, ?_⟩
      refine DL.qf rfl (.free rfl) rfl rfl (Yld.build (v := .agg (silC ⟨d.id, d.ver, d.start, d.stop, .slice ad8 (matsS d.ms true).length c8, matsS d.ms true, bandOf d.bn⟩).toArray) rfl (fun w => by kernel_rfl)) ?_
      refine DL.op rfl (.free rfl) rfl rfl (Does.slice1 u44 i41 rfl rfl rfl rfl rfl) ?_
      rintro _ w7 ⟨b7, rfl, hn7⟩
      refine ⟨Mod.any' (hd4.trans hn7.grow), ?_⟩
      refine DL.op rfl (.free rfl) rfl rfl (Does.append u44 i41 rfl rfl rfl rfl rfl ((hr.mod (hd4.trans hn7.grow) (fun _ _ h => h))) (Sl.new hn7 8 1 rfl (by omega) (fun h => h)) (rfl) (by omega)) ?_
      rintro z5 w5 ⟨hr5, hm5, hu5⟩
      have hgd7 := hd4.trans hn7.grow
      have hs3 : w'.heap.size ≤ w3.heap.size := hd3.size
      have hs4 := hg4.size
      have hs7 := hn7.grow.size
      have hm05 : Mod (fun b => u.ownBlock = some b) w' w5 := (Mod.any' hgd7).trans hm5
      have hg05 : Grow w w5 := (hg.trans hgd7).then hm5 (fun b hb e => by have := hf b e; omega)
      refine ⟨hm05.mono (fun b _ e => hf b e), ?_⟩
      have hp1 : ∀ b, z5.ownBlock = some b → u.ownBlock = some b ∨ w3.heap.size ≤ b := fun b e => by
          rcases hu5 with h1 | h1
          · exact .inl (h1 ▸ e)
          · rw [h1] at e; cases e; right; omega
      have hp0 : ∀ b, z5.ownBlock = some b → u.ownBlock = some b ∨ w'.heap.size ≤ b := fun b e => (hp1 b e).imp (fun h => h) (fun h => by omega)
      have hnew : SlM (fun b => b < w.heap.size ∨ u.ownBlock = some b) w3 (.slice ad8 (matsS d.ms true).length c8) (matsS d.ms true) := Sl.own hr3 (fun b e e2 => by have h1 := hf3 b e; simp only [World.drew] at h1; exact e2.elim (fun e2 => by omega) fun e2 => by have h2 := hr.lt e2; omega)
      refine DL.p rfl rfl rfl ?_
      refine DL.done ?_
      refine RK.inBlock ?_
      refine RK.region ?_
      iterate 2 refine RL.p rfl rfl ?_
      refine RL.re (d := 14) rfl rfl (succ_i64 (by omega)) ?_
      refine RL.p rfl rfl ?_
      refine RL.done ?_
      exact RK.back (ih (k + 1, z5) _ ⟨⟨sl ++ [⟨d.id, d.ver, d.start, d.stop, .slice ad8 (matsS d.ms true).length c8, matsS d.ms true, bandOf d.bn⟩], by
          simp only
          rw [List.map_append, hal, List.take_succ_eq_append_getElem (by omega), (List.getElem?_eq_some_iff.1 hdk).2, List.map_append]
          rfl, by
          simp only
          rw [List.flatMap_append, List.length_append]
          exact hr5, fun a ha => by
          rcases List.mem_append.1 ha with h1 | h1
          · exact (hok a h1).pass (by omega) (hm05.mono fun b _ e => .inr e) (fun b e => e.elim (fun e => .inl (.inl e)) fun e => (hp0 b e).imp .inr fun e => e)
          · simp only [List.mem_singleton] at h1; subst h1
            exact hnew.pass (by omega) ((Mod.any' (hg4.trans hn7.grow)).trans (hm5.mono fun b _ e => .inr e)) (fun b e => e.elim (fun e => .inl (.inl e)) fun e => (hp1 b e).imp .inr fun e => e)⟩, fun b e => by
          rcases hu5 with h1 | h1
          · exact hf b (h1 ▸ e)
          · rw [h1] at e; cases e; omega, hg05, by simp only; omega, by simp only; omega⟩ (by simp only; omega)) ⟨rfl, rfl, rfl, trivial⟩
    · have hk : ds.take 12 = ds.take k := by rw [show k = 12 by omega]
      refine RK.exit rfl ?_
      refine RK.seq ?_
      refine RK.region ?_
      iterate 2 refine RL.p rfl rfl ?_
      refine RL.done ?_
      refine RK.ret_of Tryz.func35 (res1 rfl rfl) ?_ _
      exact ⟨_, rfl, sl, by rw [hk]; exact hal, hr, fun a ha => (hok a ha).off (by omega) (fun b _ e => .inl e), hf, hg⟩
  · have hk : ds.take 12 = ds.take k := by rw [List.take_of_length_le (by omega), List.take_of_length_le (by omega)]
    iterate 2 refine RL.no (.no rfl rfl rfl rfl) rfl rfl ?_
    refine RL.p rfl rfl ?_
    refine RL.done ?_
    refine RK.condF rfl ?_
    refine RK.exit rfl ?_
    refine RK.seq ?_
    refine RK.region ?_
    iterate 2 refine RL.p rfl rfl ?_
    refine RL.done ?_
    refine RK.ret_of Tryz.func35 (res1 rfl rfl) ?_ _
    exact ⟨_, rfl, sl, by rw [hk]; exact hal, hr, fun a ha => (hok a ha).off (by omega) (fun b _ e => .inl e), hf, hg⟩
structure CAt where
  p : Nat
  ma : Nat
  mb : Nat
  r : Ru
  c : CRows × CKeys
structure CAt.Ok (M : Nat → Prop) (w : World) (al : List Al) (x : CAt) : Prop where
  at_ : CacheAt M w x.p x.ma x.mb x.r x.c
  cr : CR (·.1) (srcA x.r) (keyA x.r) x.c (al.map pub)
  cb : CB x.c 100
  few : x.r.Few
  e4 : x.r.eq.length ≤ 4
theorem CAt.Ok.grow {M : Nat → Prop} {w w' : World} {al : List Al} {x : CAt} (h : x.Ok M w al) (hg : Grow w w') : x.Ok M w' al := ⟨h.at_.grow hg, h.cr, h.cb, h.few, h.e4⟩
theorem CacheAt.passM {M M' M0 : Nat → Prop} {w w' : World} {p mr mk : Nat} {r : Ru} {c : CRows × CKeys} (h : CacheAt M w p mr mk r c) (hm : Mod M0 w w') (h0 : ∀ b, M0 b → M b) (hM : ∀ b, M' b → M b ∨ w.heap.size ≤ b) (n1 : ¬ M0 p) (n2 : ¬ M0 mr) (n3 : ¬ M0 mk) : CacheAt M' w' p mr mk r c := by
  obtain ⟨l, hl1, hl2, hl3⟩ := h.rl
  exact ⟨h.blk.mod hm n1, h.ne, h.ok.pass' (hm.mono fun b _ e => h0 b e) hM, ⟨l, hl1, hl2.mod hm n2, fun t ht => (hl3 t ht).pass (by omega) (hm.mono fun b _ e => h0 b e) hM⟩, h.kl.mod hm n3⟩
noncomputable def decP (a : Al) (x : CAt) : Bool := targetS x.r a.ls && !sourceS x.r a.ls a.val
noncomputable def dec1 (a : Al) (o : List Int) (x : CAt) : List Int := if decP a x = true then mkRow (o ++ rowC x.c (keyT x.r.eq a.ls)) else o
noncomputable def decS (a : Al) (xs : List CAt) : List Int := xs.foldl (dec1 a) []
theorem decS_snoc {a : Al} {xs : List CAt} {k : Nat} {x : CAt} (h : xs[k]? = some x) : decS a (xs.take (k + 1)) = dec1 a (decS a (xs.take k)) x := by
  unfold decS
  rw [List.take_add_one, h, List.foldl_append]
  rfl
theorem decS_ris (a : Al) (xs : List CAt) : Ris (decS a xs) := by
  have key : ∀ (xs : List CAt) (o : List Int), Ris o → Ris (xs.foldl (dec1 a) o) := by
    intro xs
    induction xs with
    | nil => intro o h; exact h
    | cons x xs ih =>
      intro o h
      refine ih _ ?_
      unfold dec1
      split
      · exact mkRow_ris _
      · exact h
  exact key xs [] List.Pairwise.nil
theorem mem_decS {a : Al} {xs : List CAt} {j : Int} : j ∈ decS a xs ↔ ∃ x ∈ xs, decP a x = true ∧ j ∈ rowC x.c (keyT x.r.eq a.ls) := by
  have key : ∀ (xs : List CAt) (o : List Int), j ∈ xs.foldl (dec1 a) o ↔ j ∈ o ∨ ∃ x ∈ xs, decP a x = true ∧ j ∈ rowC x.c (keyT x.r.eq a.ls) := by
    intro xs
    induction xs with
    | nil => intro o; simp
    | cons x xs ih =>
      intro o
      rw [List.foldl_cons, ih]
      have h1 : j ∈ dec1 a o x ↔ j ∈ o ∨ (decP a x = true ∧ j ∈ rowC x.c (keyT x.r.eq a.ls)) := by
        unfold dec1
        split
        · rename_i h; rw [mem_mkRow, List.mem_append]; simp [h]
        · rename_i h; simp [h]
      rw [h1]
      simp only [List.mem_cons, exists_eq_or_imp, or_assoc]
  have := key xs []
  unfold decS
  simpa using this
theorem decS_len (a : Al) {B : Nat} : ∀ {xs : List CAt}, (∀ x ∈ xs, CB x.c B) → (decS a xs).length ≤ xs.length * B := by
  have key : ∀ (xs : List CAt) (o : List Int), (∀ x ∈ xs, CB x.c B) → (xs.foldl (dec1 a) o).length ≤ o.length + xs.length * B := by
    intro xs
    induction xs with
    | nil => intro o _; simp
    | cons x xs ih =>
      intro o h
      rw [List.foldl_cons]
      refine Nat.le_trans (ih _ fun y hy => h y (List.mem_cons_of_mem _ hy)) ?_
      have h1 : (dec1 a o x).length ≤ o.length + B := by
        unfold dec1
        split
        · refine Nat.le_trans (mkRow_le _) ?_
          rw [List.length_append]
          have h2 : (rowC x.c (keyT x.r.eq a.ls)).length ≤ B := Nat.le_trans (mkRow_le _) ((h x (List.mem_cons_self ..)).look _)
          omega
        · omega
      rw [List.length_cons, Nat.succ_mul]
      omega
  intro xs h
  have := key xs [] h
  unfold decS
  simpa using this
theorem decide_ok (now : Int) (a : Al) (p : Nat) (s : SS) (O M : Nat → Prop) (xs : List CAt) (vc : Value) (al : List Al) (M0 Mc : Nat → Prop) (w : World) (hz : ZStore O M w p s) (g : Gz s) (hc : Sl No w vc 1 xs.length (xs.map fun x => pp x.p)) (hxs : ∀ x ∈ xs, x.Ok Mc w al) (hx6 : xs.length ≤ 6) (ha : AlOk M0 w a) :
    Fx Tryz.prog 40 [.int .u64 now, .agg (alC a).toArray, pp p, vc] w (fun u w' => ∃ v1 v2, u = .tuple #[v1, v2] ∧ Row w' 3 1 v1 (holdsZ now a.ls a.val s.sl).length (ints (holdsZ now a.ls a.val s.sl)) ∧ Row w' 3 1 v2 (decS a xs).length (ints (decS a xs)) ∧ Grow w w') := by
  obtain ⟨adc, cc, rfl⟩ := hc.shape
  refine enter Tryz.func40 rfl rfl rfl _ (Pick.sub (l := [0, 1, 2, 3]) (.cons rfl (.cons rfl (.cons rfl (.cons rfl .nil))))) ?_
  refine RK.seq ?_
  refine RK.region ?_
  refine RL.op (.free rfl) rfl rfl (Does.box rfl) ?_
  rintro _ w1 ⟨b5, rfl, hn5⟩
  have hB5 : Blk w1 b5 82 [.int .i64 a.id, a.v, .float .f64 a.val] := hn5.blk
  iterate 2 refine RL.p rfl rfl ?_
  refine RL.done ?_
  refine RK.seq ?_
  refine RK.region ?_
  refine RL.p rfl rfl ?_
  refine RL.done ?_
  iterate 2 refine RK.seq ?_
  refine RK.region ?_
  refine RL.p rfl rfl ?_
  refine RL.q (.free rfl) rfl rfl (Yld.lenSl u85 rfl) ?_
  refine RL.p rfl rfl ?_
  refine RL.done ?_
  refine RK.block ?_
  refine RK.loop (fun s : Nat × Value => [(0, .int .u64 now), (2, pp p), (5, pp b5), (10, s.2), (14, .slice adc xs.length cc), (15, .int .i64 (xs.length : Int)), (16, .int .i64 (s.1 : Int))]) (fun s w' => Row w' 3 1 s.2 (decS a (xs.take s.1)).length (ints (decS a (xs.take s.1))) ∧ Fresh w.heap.size s.2 ∧ Grow w1 w' ∧ s.1 ≤ xs.length) (fun s => xs.length - s.1) (0, .slice none 0 0) ⟨rfl, rfl, rfl, rfl, rfl, rfl, rfl, trivial⟩ ⟨by rw [List.take_zero]; exact Row.nil _ _ _, fun b e => by simp [Value.ownBlock] at e, Mod.refl _ _, by simp⟩ (fun s w' hI ih => ?_)
  obtain ⟨k, u⟩ := s
  obtain ⟨hr, hf, hg, hk⟩ := hI
  simp only at hr hf hk
  have hg0 := hn5.grow.trans hg
  have hsz := hg0.size
  refine RK.seq ?_
  refine RK.region ?_
  refine RL.p rfl rfl ?_
  refine RL.done ?_
  refine RK.seq ?_
  first | refine RK.condD rfl (fun h17 => ?_) (fun h17 => ?_) | refine RK.condN rfl (fun h17 => ?_) (fun h17 => ?_) | refine RK.cond rfl (fun h17 => ?_) (fun h17 => ?_)
  · obtain ⟨x, hx⟩ : ∃ x, xs[k]? = some x := ⟨xs[k]'(by omega), List.getElem?_eq_getElem (by omega)⟩
    have hxo := (hxs x (List.mem_of_getElem? hx)).grow hg0
    obtain ⟨b1, o1, c1', he1, _, _, hc1⟩ := hc.elem1 (k := k) (u := pp x.p) (by rw [List.getElem?_map, hx]; rfl)
    cases he1
    have hsn := decS_snoc (a := a) hx
    have hdl : (decS a (xs.take k)).length ≤ (xs.take k).length * 100 := decS_len a (fun y hy => (hxs y (List.mem_of_mem_take hy)).cb)
    rw [List.length_take] at hdl
    refine RK.skip ?_
    refine RK.seq ?_
    refine RK.block ?_
    refine RK.seq ?_
    refine RK.region ?_
    refine RL.q (.free rfl) rfl rfl (Yld.indexAddrN u85 i86 rfl rfl (by omega)) ?_
    refine RL.q (.free rfl) rfl rfl (Yld.load p86 rfl (at1 (hg0.cell (hc1 k _ (by rw [List.getElem?_map, hx]; rfl)) (fun h => h)))) ?_
    refine RL.p rfl rfl ?_
    refine RL.done ?_
    refine RK.seq ?_
    refine RK.region ?_
    refine RL.p rfl rfl ?_
    refine RL.op (.free rfl) rfl rfl (Does.call rfl e87 (cacheRule_ok Mc _ x.p x.ma x.mb x.r x.c hxo.at_ hxo.few)) ?_
    rintro _ w3 ⟨y1, y2, y3, rfl, hok3, hg3⟩
    refine RL.op (.free rfl) rfl rfl (Does.alloc i90) ?_
    rintro _ w4 ⟨b13, rfl, hn13⟩
    refine RL.op' (.free rfl) rfl (Does.storeN i90 rfl rfl rfl (ruC_one hok3) hn13.blk (Nat.le_refl 6)) ?_
    rintro _ w5 ⟨hb5, hm5, _⟩
    have hat := hn13.at_
    have hz3 := hg3.size
    have hg5 : Grow w' w5 := (hg3.trans hn13.grow).then hm5 (fun b hb e => by have e' : b = b13 := e; omega)
    have hg35 : Grow w3 w5 := hn13.grow.then hm5 (fun b hb e => by have e' : b = b13 := e; omega)
    have hB13 : Blk w5 b13 90 (ruC (ruAt x.r y1 y2 y3)) := hb5
    have hok5 := hok3.mod hg35
    have hB55 := hB5.mod (hg.trans hg5) (fun h => h)
    have ha5 : AlOk M0 w5 a := ha.mod (Mod.any' (hg0.trans hg5))
    have hT : targetS (ruAt x.r y1 y2 y3) a.ls = targetS x.r a.ls := by unfold targetS; rw [works_at]; rfl
    have hS : sourceS (ruAt x.r y1 y2 y3) a.ls a.val = sourceS x.r a.ls a.val := by unfold sourceS; rw [works_at]; rfl
    refine RL.done ?_
    refine RK.seq ?_
    refine RK.region ?_
    refine RL.q (.free rfl) rfl rfl (Yld.loadN (cs := ruC (ruAt x.r y1 y2 y3)) a90 rfl (atN (blk0' hB13))) ?_
    refine RL.q (.free rfl) rfl rfl (Yld.loadN (cs := alC a) a82 rfl (atN (blk0' hB55))) ?_
    refine RL.op (.free rfl) rfl rfl (Does.call rfl e88 (target_ok No M0 _ a _ hok5 ha5)) ?_
    rintro _ w6 ⟨rfl, hg6⟩
    rw [hT]
    have hr6 := (hr.mod hg5 (fun _ _ h => h)).mod hg6 (fun _ _ h => h)
    refine RL.p rfl rfl ?_
    first | refine RL.splitD (d := 25) rfl rfl (fun h25 => ?_) (fun h25 => ?_) | refine RL.splitN (d := 25) rfl rfl (fun h25 => ?_) (fun h25 => ?_) | refine RL.split (d := 25) rfl rfl (fun h25 => ?_) (fun h25 => ?_)
    · refine RL.q (.yes rfl rfl rfl) rfl rfl (Yld.loadN (cs := ruC (ruAt x.r y1 y2 y3)) a90 rfl (atN (blk0' (hB13.mod hg6 (fun h => h))))) ?_
      refine RL.q (.yes rfl rfl rfl) rfl rfl (Yld.loadN (cs := alC a) a82 rfl (atN (blk0' (hB55.mod hg6 (fun h => h))))) ?_
      refine RL.op (.yes rfl rfl rfl) rfl rfl (Does.call rfl e84 (source_ok No M0 _ a _ (hok5.mod hg6) (ha5.mod (Mod.any' hg6)))) ?_
      rintro _ w7 ⟨rfl, hg7⟩
      rw [hS]
      refine RL.q (.yes rfl rfl rfl) rfl rfl (Yld.pure rfl) ?_
      refine RL.p rfl rfl ?_
      refine RL.done ?_
      first | refine RK.condD rfl (fun h30 => ?_) (fun h30 => ?_) | refine RK.condN rfl (fun h30 => ?_) (fun h30 => ?_) | refine RK.cond rfl (fun h30 => ?_) (fun h30 => ?_)
      · have hyes : decP a x = true := by unfold decP; rw [h25, show sourceS x.r a.ls a.val = false by simpa using h30]; rfl
        have hg67 := hg6.trans hg7
        have hg07 := (hg0.trans hg5).trans hg67
        refine RK.region ?_
        iterate 2 refine RL.p rfl rfl ?_
        refine RL.q (.free rfl) rfl rfl (Yld.loadN (cs := alC a) a82 rfl (atN (blk0' (hB55.mod hg67 (fun h => h))))) ?_
        refine RL.op (.free rfl) rfl rfl (Does.call rfl e90 (cacheSources_ok Mc M0 _ x.p x.ma x.mb x.r x.c ((hxs x (List.mem_of_getElem? hx)).grow hg07).at_ hxo.e4 a (ha5.mod (Mod.any' hg67)) (hxo.cb.mono (by omega)))) ?_
        rintro u8 w8 ⟨hr8, hf8, hg8⟩
        have hrl : (rowC x.c (keyT x.r.eq a.ls)).length ≤ 100 := Nat.le_trans (mkRow_le _) (hxo.cb.look _)
        refine RL.op (.free rfl) rfl rfl (Does.call rfl e89 (or_ok No (decS a (xs.take k)) (rowC x.c (keyT x.r.eq a.ls)) _ _ _ (Sl.own ((hr6.mod hg7 (fun _ _ h => h)).mod hg8 (fun _ _ h => h)) (fun _ _ h => h)) (Sl.own hr8 (fun _ _ h => h)) (by omega))) ?_
        rintro u9 w9 ⟨hr9, hf9, hg9⟩
        have hz08 := (hg07.trans hg8).size
        refine RL.p rfl rfl ?_
        refine RL.done ?_
        refine RK.inBlock ?_
        refine RK.region ?_
        refine RL.p rfl rfl ?_
        refine RL.re (d := 36) rfl rfl (succ_i64 (by omega)) ?_
        refine RL.p rfl rfl ?_
        refine RL.done ?_
        exact RK.back (ih (k + 1, u9) _ ⟨by simp only; rw [hsn, dec1, if_pos hyes]; exact hr9, fun b e => by have := hf9 b e; omega, (((hg.trans hg5).trans hg67).trans hg8).trans hg9, by simp only; omega⟩ (by simp only; omega)) ⟨rfl, rfl, rfl, rfl, rfl, rfl, rfl, trivial⟩
      · have hno : ¬ decP a x = true := by unfold decP; rw [h25, show sourceS x.r a.ls a.val = true by simpa using h30]; simp
        refine RK.skip ?_
        refine RK.inBlock ?_
        refine RK.region ?_
        refine RL.p rfl rfl ?_
        refine RL.re (d := 36) rfl rfl (succ_i64 (by omega)) ?_
        refine RL.p rfl rfl ?_
        refine RL.done ?_
        exact RK.back (ih (k + 1, u) _ ⟨by simp only; rw [hsn, dec1, if_neg hno]; exact hr6.mod hg7 (fun _ _ h => h), hf, ((hg.trans hg5).trans hg6).trans hg7, by simp only; omega⟩ (by simp only; omega)) ⟨rfl, rfl, rfl, rfl, rfl, rfl, rfl, trivial⟩
    · have hno : ¬ decP a x = true := by unfold decP; rw [show targetS x.r a.ls = false by simpa using h25]; simp
      iterate 4 refine RL.no (.no rfl rfl rfl rfl) rfl rfl ?_
      refine RL.p rfl rfl ?_
      refine RL.done ?_
      refine RK.condF rfl ?_
      refine RK.skip ?_
      refine RK.inBlock ?_
      refine RK.region ?_
      refine RL.p rfl rfl ?_
      refine RL.re (d := 36) rfl rfl (succ_i64 (by omega)) ?_
      refine RL.p rfl rfl ?_
      refine RL.done ?_
      exact RK.back (ih (k + 1, u) _ ⟨by simp only; rw [hsn, dec1, if_neg hno]; exact hr6, hf, (hg.trans hg5).trans hg6, by simp only; omega⟩ (by simp only; omega)) ⟨rfl, rfl, rfl, rfl, rfl, rfl, rfl, trivial⟩
  · have ek : xs.take k = xs := List.take_of_length_le (by omega)
    rw [ek] at hr
    have hB5b := hB5.mod hg (fun h => h)
    refine RK.exit rfl ?_
    refine RK.seq ?_
    refine RK.region ?_
    iterate 2 refine RL.p rfl rfl ?_
    refine RL.q (.free rfl) rfl rfl (Yld.fieldAddr fo82_1 rfl) ?_
    refine RL.q (.free rfl) rfl rfl (Yld.load p39 rfl (at1 (hB5b.cell rfl))) ?_
    refine RL.q (.free rfl) rfl rfl (Yld.fieldAddr fo82_2 rfl) ?_
    refine RL.q (.free rfl) rfl rfl (Yld.load p30 rfl (at1 (hB5b.cell rfl))) ?_
    refine RL.op (.free rfl) rfl rfl (Does.call rfl e15 (holdsStore_ok _ p s O M (hz.grow hg0) g now M0 a.ls a.v a.val (ha.l.mod (Mod.any' hg0)) ha.z)) ?_
    rintro u8 w8 ⟨hr8, hf8, hg8⟩
    iterate 3 refine RL.p rfl rfl ?_
    refine RL.done ?_
    refine RK.ret_of Tryz.func40 (res2 rfl rfl rfl) ?_ _
    exact ⟨_, rfl, _, _, rfl, hr8, hr.mod hg8 (fun _ _ h => h), hg0.trans hg8⟩
theorem mem_mutP {t : AlS} {l : List AlS} {rs : List RuP} {j : Int} : j ∈ mutP t l rs ↔ ∃ q ∈ rs, ∃ s ∈ l, mutesS (mkRu q) (mkAl s) (mkAl t) = true ∧ s.1 = j := by
  unfold mutP
  simp only [List.mem_flatMap, List.mem_map, List.mem_filter]
  constructor
  · rintro ⟨q, hq, s, ⟨hs, hm⟩, e⟩; exact ⟨q, hq, s, hs, hm, e⟩
  · rintro ⟨q, hq, s, hs, hm, e⟩; exact ⟨q, hq, s, ⟨hs, hm⟩, e⟩
theorem decS_plain {M : Nat → Prop} {w : World} {a : Al} {al : List Al} {xs : List CAt} {rl : List Ru} (hxs : ∀ x ∈ xs, x.Ok M w al) (hr : xs.map (fun x => ruP x.r) = rl.map ruP) : decS a xs = mkRow (mutS a al rl) := by
  refine ext_ris (decS_ris _ _) (mkRow_ris _) fun j => ?_
  rw [mem_decS, mem_mkRow, mutS_pub, mem_mutP]
  have hrl : rl.map ruP = xs.map fun x => ruP x.r := hr.symm
  rw [hrl]
  constructor
  · rintro ⟨x, hx, hd, hj⟩
    have hxo := hxs x hx
    obtain ⟨b, hb, e1, e2, e3⟩ := hxo.cr.mem_row _ _ |>.1 hj
    obtain ⟨c, hc, rfl⟩ := List.mem_map.1 hb
    refine ⟨ruP x.r, List.mem_map.2 ⟨x, hx, rfl⟩, pub c, hb, ?_, e1⟩
    unfold decP at hd
    rw [Bool.and_eq_true, Bool.not_eq_true'] at hd
    rw [mutes_mk]
    unfold mutesS
    rw [hd.1, hd.2, show sourceS x.r c.ls c.val = true from e2, decide_eq_true (show keyT x.r.eq c.ls = keyT x.r.eq a.ls from e3)]
    rfl
  · rintro ⟨q, hq, t, ht, hm, e1⟩
    obtain ⟨x, hx, rfl⟩ := List.mem_map.1 hq
    obtain ⟨c, hc, rfl⟩ := List.mem_map.1 ht
    rw [mutes_mk] at hm
    unfold mutesS at hm
    simp only [Bool.and_eq_true, Bool.not_eq_true', decide_eq_true_eq] at hm
    obtain ⟨h1, h2, h3, h4⟩ := hm
    refine ⟨x, hx, by unfold decP; rw [h1, h3]; rfl, (hxs x hx).cr.mem_row _ _ |>.2 ⟨pub c, ht, e1, h2, h4⟩⟩
end Go.Proofs.YtbcbfjnlnmhpbaaGreat
set_option linter.unusedVariables false
set_option linter.unusedSimpArgs false
set_option maxHeartbeats 4000000
set_option maxRecDepth 100000
namespace Go.Proofs.YtbcbfjnlnmhpbaaGreat
open Go Go.X Go.Rex
theorem rules18N_ok (ds : List Rd) (vd : Value) (w : World) (hd : Sl No w vd 6 ds.length (ds.flatMap rdC)) (hds : ∀ d ∈ ds, d.Ok w) :
    Fx Tryz.prog 37 [vd] w (fun u w' => ∃ rl : List Ru, rl.map ruP = (ds.take 6).map rdP ∧ Row w' 90 6 u rl.length (rl.flatMap ruC) ∧ (∀ r ∈ rl, r.Ok (fun b => b < w.heap.size) w') ∧ Fresh w.heap.size u ∧ Grow w w') := by
  obtain ⟨ad, c, rfl⟩ := hd.shape
  have hbig := hd.big
  refine enter Tryz.func37 rfl rfl rfl _ (Pick.sub (l := [0]) (.cons rfl .nil)) ?_
  refine RK.seq ?_
  refine RK.region ?_
  refine RL.p rfl rfl ?_
  refine RL.done ?_
  refine RK.seq ?_
  refine RK.region ?_
  refine RL.p rfl rfl ?_
  refine RL.done ?_
  iterate 2 refine RK.seq ?_
  refine RK.region ?_
  refine RL.p rfl rfl ?_
  refine RL.done ?_
  refine RK.block ?_
  refine RK.loop (fun s : Nat × Value => [(0, .slice ad ds.length c), (3, s.2), (4, .int .i64 (s.1 : Int))]) (fun s w' => (∃ rl : List Ru, rl.map ruP = (ds.take s.1).map rdP ∧ Row w' 90 6 s.2 rl.length (rl.flatMap ruC) ∧ (∀ r ∈ rl, r.Ok (fun b => b < w.heap.size ∨ s.2.ownBlock = some b) w')) ∧ Fresh w.heap.size s.2 ∧ Grow w w' ∧ s.1 ≤ ds.length ∧ s.1 ≤ 6) (fun s => ds.length - s.1) (0, .slice none 0 0) ⟨rfl, rfl, rfl, trivial⟩ ⟨⟨[], by simp, Row.nil _ _ _, by simp⟩, fun b e => by simp [Value.ownBlock] at e, Mod.refl _ _, by simp, by simp⟩ (fun s w' hI ih => ?_)
  obtain ⟨k, u⟩ := s
  obtain ⟨⟨rl, hal, hr, hok⟩, hf, hg, hk, hk16⟩ := hI
  simp only at hal hr hok hf hk hk16
  have hlen : rl.length ≤ 6 := by have := congrArg List.length hal; simp at this; omega
  iterate 2 refine RK.seq ?_
  refine RK.region ?_
  iterate 2 refine RL.p rfl rfl ?_
  refine RL.q (.free rfl) rfl rfl (Yld.lenSl u77 rfl) ?_
  iterate 2 refine RL.p rfl rfl ?_
  first | refine RL.splitD (d := 9) rfl rfl (fun h8 => ?_) (fun h8 => ?_) | refine RL.splitN (d := 9) rfl rfl (fun h8 => ?_) (fun h8 => ?_) | refine RL.split (d := 9) rfl rfl (fun h8 => ?_) (fun h8 => ?_)
  · iterate 2 refine RL.q (.yes rfl rfl rfl) rfl rfl (Yld.pure rfl) ?_
    refine RL.p rfl rfl ?_
    refine RL.done ?_
    first | refine RK.condD rfl (fun h11 => ?_) (fun h11 => ?_) | refine RK.condN rfl (fun h11 => ?_) (fun h11 => ?_) | refine RK.cond rfl (fun h11 => ?_) (fun h11 => ?_)
    · obtain ⟨d, hdk⟩ : ∃ d, ds[k]? = some d := ⟨ds[k]'(by omega), List.getElem?_eq_getElem (by omega)⟩
      obtain ⟨b1, o1, c1', he1, _, _, hc1⟩ := hd.elem rdC_len hdk
      cases he1
      have hdo := hds d (List.mem_of_getElem? hdk)
      have hsz0 := hg.size
      refine RK.skip ?_
      refine RK.seq ?_
      refine RK.block ?_
      refine RK.region ?_
      iterate 3 refine RL.p rfl rfl ?_
      refine RL.q (.free rfl) rfl rfl (Yld.indexAddrN u77 i135 rfl rfl (by omega)) ?_
      refine RL.q (.free rfl) rfl rfl (Yld.loadN (cs := rdC d) a135 rfl (atN (fun q z hq => hg.cell (hc1 q z hq) (fun h => h)))) ?_
      refine RL.op (.free rfl) rfl rfl (Does.call rfl e81 (rule62_ok d _ (hdo.mod hg))) ?_
      rintro _ w3 ⟨x1, x2, x3, rfl, hok3, hg3⟩
      refine RL.op (.free rfl) rfl rfl (Does.slice1 u83 i90 rfl rfl rfl rfl rfl) ?_
      rintro _ w7 ⟨b7, rfl, hn7⟩
      refine RL.op (.free rfl) rfl rfl (Does.append u83 i90 rfl rfl rfl rfl rfl ((hr.mod (hg3.trans hn7.grow) (fun _ _ h => h))) (Sl.new hn7 6 1 rfl (by omega) (fun h => h)) (ruC_one hok3) (by omega)) ?_
      rintro z5 w5 ⟨hr5, hm5, hu5⟩
      have hgd7 := hg3.trans hn7.grow
      have hs3 := hg3.size
      have hs7 := hn7.grow.size
      have hm05 : Mod (fun b => u.ownBlock = some b) w' w5 := (Mod.any' hgd7).trans hm5
      have hg05 : Grow w w5 := (hg.trans hgd7).then hm5 (fun b hb e => by have := hf b e; omega)
      have hp1 : ∀ b, z5.ownBlock = some b → u.ownBlock = some b ∨ w3.heap.size ≤ b := fun b e => by
          rcases hu5 with h1 | h1
          · exact .inl (h1 ▸ e)
          · rw [h1] at e; cases e; right; omega
      have hp0 : ∀ b, z5.ownBlock = some b → u.ownBlock = some b ∨ w'.heap.size ≤ b := fun b e => (hp1 b e).imp (fun h => h) (fun h => by omega)
      have hnew := hok3.off (M' := fun b => b < w.heap.size ∨ u.ownBlock = some b) (fun b _ e => e.elim (fun e => by omega) fun e => hr.lt e)
      refine RL.p rfl rfl ?_
      refine RL.done ?_
      refine RK.inBlock ?_
      refine RK.region ?_
      iterate 2 refine RL.p rfl rfl ?_
      refine RL.re (d := 14) rfl rfl (succ_i64 (by omega)) ?_
      refine RL.p rfl rfl ?_
      refine RL.done ?_
      exact RK.back (ih (k + 1, z5) _ ⟨⟨rl ++ [ruOf d x1 x2 x3], by
          simp only
          rw [List.map_append, hal, List.take_succ_eq_append_getElem (by omega), (List.getElem?_eq_some_iff.1 hdk).2, List.map_append]
          rfl, by
          simp only
          rw [List.flatMap_append, List.length_append]
          exact hr5, fun a ha => by
          rcases List.mem_append.1 ha with h1 | h1
          · exact (hok a h1).pass (hm05.mono fun b _ e => .inr e) (fun b e => e.elim (fun e => .inl (.inl e)) fun e => (hp0 b e).imp .inr fun e => e)
          · simp only [List.mem_singleton] at h1; subst h1
            exact hnew.pass ((Mod.any' hn7.grow).trans (hm5.mono fun b _ e => .inr e)) (fun b e => e.elim (fun e => .inl (.inl e)) fun e => (hp1 b e).imp .inr fun e => e)⟩, fun b e => by
          rcases hu5 with h1 | h1
          · exact hf b (h1 ▸ e)
          · rw [h1] at e; cases e; omega, hg05, by simp only; omega, by simp only; omega⟩ (by simp only; omega)) ⟨rfl, rfl, rfl, trivial⟩
    · have hk : ds.take 6 = ds.take k := by rw [show k = 6 by omega]
      refine RK.exit rfl ?_
      refine RK.seq ?_
      refine RK.region ?_
      iterate 2 refine RL.p rfl rfl ?_
      refine RL.done ?_
      refine RK.ret_of Tryz.func37 (res1 rfl rfl) ?_ _
      exact ⟨_, rfl, rl, by rw [hk]; exact hal, hr, fun a ha => (hok a ha).off (fun b _ e => .inl e), hf, hg⟩
  · have hk : ds.take 6 = ds.take k := by rw [List.take_of_length_le (by omega), List.take_of_length_le (by omega)]
    iterate 2 refine RL.no (.no rfl rfl rfl rfl) rfl rfl ?_
    refine RL.p rfl rfl ?_
    refine RL.done ?_
    refine RK.condF rfl ?_
    refine RK.exit rfl ?_
    refine RK.seq ?_
    refine RK.region ?_
    iterate 2 refine RL.p rfl rfl ?_
    refine RL.done ?_
    refine RK.ret_of Tryz.func37 (res1 rfl rfl) ?_ _
    exact ⟨_, rfl, rl, by rw [hk]; exact hal, hr, fun a ha => (hok a ha).off (fun b _ e => .inl e), hf, hg⟩
theorem alerts18N_ok (ds : List Ad) (vd : Value) (w : World) (hd : Sl No w vd 3 ds.length (ds.flatMap adC)) (hds : ∀ d ∈ ds, d.Ok w) :
    Fx Tryz.prog 36 [vd] w (fun u w' => ∃ al : List Al, al.map pub = (ds.take 16).map adP ∧ Row w' 82 3 u al.length (al.flatMap alC) ∧ (∀ a ∈ al, AlOk (fun b => b < w.heap.size) w' a) ∧ Fresh w.heap.size u ∧ Grow w w') := by
  obtain ⟨ad, c, rfl⟩ := hd.shape
  have hbig := hd.big
  refine enter Tryz.func36 rfl rfl rfl _ (Pick.sub (l := [0]) (.cons rfl .nil)) ?_
  refine RK.seq ?_
  refine RK.region ?_
  refine RL.p rfl rfl ?_
  refine RL.done ?_
  refine RK.seq ?_
  refine RK.region ?_
  refine RL.p rfl rfl ?_
  refine RL.done ?_
  iterate 2 refine RK.seq ?_
  refine RK.region ?_
  refine RL.p rfl rfl ?_
  refine RL.done ?_
  refine RK.block ?_
  refine RK.loop (fun s : Nat × Value => [(0, .slice ad ds.length c), (3, s.2), (4, .int .i64 (s.1 : Int))]) (fun s w' => (∃ al : List Al, al.map pub = (ds.take s.1).map adP ∧ Row w' 82 3 s.2 al.length (al.flatMap alC) ∧ (∀ a ∈ al, SlL (fun b => b < w.heap.size ∨ s.2.ownBlock = some b) w' a.v a.ls)) ∧ Fresh w.heap.size s.2 ∧ Grow w w' ∧ s.1 ≤ ds.length ∧ s.1 ≤ 16) (fun s => ds.length - s.1) (0, .slice none 0 0) ⟨rfl, rfl, rfl, trivial⟩ ⟨⟨[], by simp, Row.nil _ _ _, by simp⟩, fun b e => by simp [Value.ownBlock] at e, Mod.refl _ _, by simp, by simp⟩ (fun s w' hI ih => ?_)
  obtain ⟨k, u⟩ := s
  obtain ⟨⟨al, hal, hr, hsl⟩, hf, hg, hk, hk16⟩ := hI
  simp only at hal hr hsl hf hk hk16
  have hlen : al.length ≤ 16 := by have := congrArg List.length hal; simp at this; omega
  iterate 2 refine RK.seq ?_
  refine RK.region ?_
  iterate 2 refine RL.p rfl rfl ?_
  refine RL.q (.free rfl) rfl rfl (Yld.lenSl u76 rfl) ?_
  iterate 2 refine RL.p rfl rfl ?_
  first | refine RL.splitD (d := 9) rfl rfl (fun h8 => ?_) (fun h8 => ?_) | refine RL.splitN (d := 9) rfl rfl (fun h8 => ?_) (fun h8 => ?_) | refine RL.split (d := 9) rfl rfl (fun h8 => ?_) (fun h8 => ?_)
  · iterate 2 refine RL.q (.yes rfl rfl rfl) rfl rfl (Yld.pure rfl) ?_
    refine RL.p rfl rfl ?_
    refine RL.done ?_
    first | refine RK.condD rfl (fun h11 => ?_) (fun h11 => ?_) | refine RK.condN rfl (fun h11 => ?_) (fun h11 => ?_) | refine RK.cond rfl (fun h11 => ?_) (fun h11 => ?_)
    · obtain ⟨d, hdk⟩ : ∃ d, ds[k]? = some d := ⟨ds[k]'(by omega), List.getElem?_eq_getElem (by omega)⟩
      obtain ⟨b1, o1, c1', he1, _, _, hc1⟩ := hd.elem adC_len hdk
      cases he1
      have hdo := hds d (List.mem_of_getElem? hdk)
      have hb1 : ¬ w.heap.size ≤ b1 := by have := World.block_lt_of_cell? w _ (hc1 0 _ rfl); simp only at this; omega
      have hsz0 := hg.size
      refine RK.skip ?_
      refine RK.seq ?_
      refine RK.block ?_
      refine RK.drawM (fun b => w.heap.size ≤ b) [(0, false), (1, false), (2, false), (3, false), (4, false), (5, false), (6, false), (7, false), (8, false), (9, false), (10, false), (12, false), (13, false), (14, false), (15, false), (16, false), (11, true), (17, false), (18, true), (19, true), (20, false)] [] mixed (by kernel_rfl) ?_
      iterate 3 refine DL.p rfl rfl rfl ?_
      refine DL.qf rfl (.free rfl) rfl rfl (Yld.indexAddrN u76 i74 rfl rfl (by omega)) ?_
      refine DL.qf rfl (.free rfl) rfl rfl (Yld.fieldAddr fo74_0 rfl) ?_
      refine DL.q rfl (.free rfl) rfl rfl rfl (Yld.load p3 rfl (atM (hg.cell (hc1 0 _ rfl) (fun h => h)) (hb1))) (Mod.drew _ _) ?_
      iterate 2 refine DL.p rfl rfl rfl ?_
      refine DL.qf rfl (.free rfl) rfl rfl (Yld.indexAddrN u76 i74 rfl rfl (by omega)) ?_
      refine DL.qf rfl (.free rfl) rfl rfl (Yld.fieldAddr fo74_1 rfl) ?_
      refine DL.q rfl (.free rfl) rfl rfl rfl (Yld.load p35 rfl (atM (hg.cell (hc1 1 _ rfl) (fun h => h)) (hb1))) (Mod.drew _ _) ?_
      iterate 2 refine DL.p rfl rfl rfl ?_
      refine DL.qf rfl (.free rfl) rfl rfl (Yld.indexAddrN u76 i74 rfl rfl (by omega)) ?_
      refine DL.qf rfl (.free rfl) rfl rfl (Yld.fieldAddr fo74_2 rfl) ?_
      refine DL.q rfl (.free rfl) rfl rfl rfl (Yld.load p30 rfl (atM (hg.cell (hc1 2 _ rfl) (fun h => h)) (hb1))) (Mod.drew _ _) ?_
      refine DL.op rfl (.free rfl) rfl rfl (Does.call rfl e26 (labels_ok No d.labs d.v _ ((hdo.mod hg).s.mod (Mod.drew _ _)) hdo.r)) ?_
      rintro _ w3 ⟨ad3, c3, rfl, hr3, hf3, hg3⟩
      have hd3 := (Mod.drew No w').trans hg3
      refine ⟨Mod.any' hd3, ?_⟩
      refine DL.qf rfl (.free rfl) rfl rfl (Yld.build (v := .agg #[.int .i64 d.id, .slice ad3 (labelsS d.labs).length c3, .float .f64 d.val]) rfl (fun w => by kernel_rfl)) ?_
      refine DL.op rfl (.free rfl) rfl rfl (Does.slice1 u79 i82 rfl rfl rfl rfl rfl) ?_
      rintro _ w7 ⟨b7, rfl, hn7⟩
      refine ⟨Mod.any' (hd3.trans hn7.grow), ?_⟩
      refine DL.op rfl (.free rfl) rfl rfl (Does.append u79 i82 rfl rfl rfl rfl rfl ((hr.mod (hd3.trans hn7.grow) (fun _ _ h => h))) (Sl.new hn7 3 1 rfl (by omega) (fun h => h)) (rfl) (by omega)) ?_
      rintro z5 w5 ⟨hr5, hm5, hu5⟩
      have hgd7 := hd3.trans hn7.grow
      have hs3 := hg3.size
      have hs7 := hn7.grow.size
      have hm05 : Mod (fun b => u.ownBlock = some b) w' w5 := (Mod.any' hgd7).trans hm5
      have hg05 : Grow w w5 := (hg.trans hgd7).then hm5 (fun b hb e => by have := hf b e; omega)
      refine ⟨hm05.mono (fun b _ e => hf b e), ?_⟩
      have hp1 : ∀ b, z5.ownBlock = some b → u.ownBlock = some b ∨ w3.heap.size ≤ b := fun b e => by
          rcases hu5 with h1 | h1
          · exact .inl (h1 ▸ e)
          · rw [h1] at e; cases e; right; omega
      have hp0 : ∀ b, z5.ownBlock = some b → u.ownBlock = some b ∨ w'.heap.size ≤ b := fun b e => (hp1 b e).imp (fun h => h) (fun h => by simp only [World.drew] at hs3; omega)
      have hnew : SlL (fun b => b < w.heap.size ∨ u.ownBlock = some b) w3 (.slice ad3 (labelsS d.labs).length c3) (labelsS d.labs) := Sl.own hr3 (fun b e e2 => by have h1 := hf3 b e; simp only [World.drew] at h1; exact e2.elim (fun e2 => by omega) fun e2 => by have h2 := hr.lt e2; omega)
      refine DL.p rfl rfl rfl ?_
      refine DL.done ?_
      refine RK.inBlock ?_
      refine RK.region ?_
      iterate 2 refine RL.p rfl rfl ?_
      refine RL.re (d := 14) rfl rfl (succ_i64 (by omega)) ?_
      refine RL.p rfl rfl ?_
      refine RL.done ?_
      exact RK.back (ih (k + 1, z5) _ ⟨⟨al ++ [⟨d.id, labelsS d.labs, d.val, .slice ad3 (labelsS d.labs).length c3⟩], by
          simp only
          rw [List.map_append, hal, List.take_succ_eq_append_getElem (by omega), (List.getElem?_eq_some_iff.1 hdk).2, List.map_append]
          rfl, by
          simp only
          rw [List.flatMap_append, List.length_append]
          exact hr5, fun a ha => by
          rcases List.mem_append.1 ha with h1 | h1
          · exact (hsl a h1).pass (by omega) (hm05.mono fun b _ e => .inr e) (fun b e => e.elim (fun e => .inl (.inl e)) fun e => (hp0 b e).imp .inr fun e => e)
          · simp only [List.mem_singleton] at h1; subst h1
            exact hnew.pass (by omega) ((Mod.any' hn7.grow).trans (hm5.mono fun b _ e => .inr e)) (fun b e => e.elim (fun e => .inl (.inl e)) fun e => (hp1 b e).imp .inr fun e => e)⟩, fun b e => by
          rcases hu5 with h1 | h1
          · exact hf b (h1 ▸ e)
          · rw [h1] at e; cases e; have := hg.size; simp only [World.drew] at hs3; omega, hg05, by simp only; omega, by simp only; omega⟩ (by simp only; omega)) ⟨rfl, rfl, rfl, trivial⟩
    · have hk : ds.take 16 = ds.take k := by rw [show k = 16 by omega]
      refine RK.exit rfl ?_
      refine RK.seq ?_
      refine RK.region ?_
      iterate 2 refine RL.p rfl rfl ?_
      refine RL.done ?_
      refine RK.ret_of Tryz.func36 (res1 rfl rfl) ?_ _
      exact ⟨_, rfl, al, by rw [hk]; exact hal, hr, fun a ha => ⟨(hsl a ha).off (by omega) (fun b _ e => .inl e), al_z hal a ha⟩, hf, hg⟩
  · have hk : ds.take 16 = ds.take k := by rw [List.take_of_length_le (by omega), List.take_of_length_le (by omega)]
    iterate 2 refine RL.no (.no rfl rfl rfl rfl) rfl rfl ?_
    refine RL.p rfl rfl ?_
    refine RL.done ?_
    refine RK.condF rfl ?_
    refine RK.exit rfl ?_
    refine RK.seq ?_
    refine RK.region ?_
    iterate 2 refine RL.p rfl rfl ?_
    refine RL.done ?_
    refine RK.ret_of Tryz.func36 (res1 rfl rfl) ?_ _
    exact ⟨_, rfl, al, by rw [hk]; exact hal, hr, fun a ha => ⟨(hsl a ha).off (by omega) (fun b _ e => .inl e), al_z hal a ha⟩, hf, hg⟩
theorem silN {w : World} {b o : Nat} {d : Sil} (h : ∀ j u, (silC d)[j]? = some u → w.cell? ⟨b, o + j, none⟩ = some u) : ∀ q z, (bdC d.bd)[q]? = some z → w.cell? ⟨b, o + 5 + q, none⟩ = some z := fun q z hq => by
  rw [Nat.add_assoc]
  match q, hq with
  | 0, hq => exact h 5 z hq
  | 1, hq => exact h 6 z hq
  | 2, hq => exact h 7 z hq
theorem sil_in {sl : List Sil} {ds : List Sd} (h : sl.map silP = ds.map sdP) {x : Sil} (hx : x ∈ sl) : ∃ d ∈ ds, silP x = sdP d := by
  have h1 : silP x ∈ sl.map silP := List.mem_map.2 ⟨x, hx, rfl⟩
  rw [h] at h1
  obtain ⟨d, hd, e⟩ := List.mem_map.1 h1
  exact ⟨d, hd, e.symm⟩
theorem ru_in {sl : List Ru} {ds : List Rd} (h : sl.map ruP = ds.map rdP) {x : Ru} (hx : x ∈ sl) : x.Few := by
  have h1 : ruP x ∈ sl.map ruP := List.mem_map.2 ⟨x, hx, rfl⟩
  rw [h] at h1
  obtain ⟨d, hd, e⟩ := List.mem_map.1 h1
  simp only [ruP, rdP, Prod.mk.injEq] at e
  obtain ⟨e1, e2, e3, e4⟩ := e
  exact ⟨by rw [← e1]; exact Nat.le_trans (matsS_len _ _) (by omega), by rw [← e2]; exact Nat.le_trans (matsS_len _ _) (by omega), by rw [← e4]; exact Nat.le_trans (eqOf_len _) (by omega)⟩
theorem ru_e4 {sl : List Ru} {ds : List Rd} (h : sl.map ruP = ds.map rdP) {x : Ru} (hx : x ∈ sl) : x.eq.length ≤ 4 := by
  have h1 : ruP x ∈ sl.map ruP := List.mem_map.2 ⟨x, hx, rfl⟩
  rw [h] at h1
  obtain ⟨d, hd, e⟩ := List.mem_map.1 h1
  simp only [ruP, rdP, Prod.mk.injEq] at e
  rw [← e.2.2.2]
  exact eqOf_len _
theorem sil_two {tl : List Sil} {sl : List Slz} {now : Int} (h : tl.map pubT = listZ now 0 sl) (t : Al) : silS now t tl = holdsZ now t.ls t.val sl := by
  rw [listZ_all] at h
  have h1 := congrArg (List.map fun t : Slz × Int => t.1) h
  rw [List.map_map, List.map_map] at h1
  have h2 : tl.map pubZ = sl := h1.trans (List.map_id _)
  rw [← h2]
  unfold silS holdsZ
  rw [List.filter_map, List.map_map]
  show List.map (fun a : Sil => a.id) _ = List.map (fun a : Sil => a.id) _
  congr 1
  apply List.filter_congr
  intro a _
  unfold silHolds holdZ pubZ
  simp only [Function.comp, Bool.and_assoc]
theorem holds_ris {s : SS} (g : Gz s) (now : Int) (ls : List Lab) (v : Nat) : Ris (holdsZ now ls v s.sl) := g.ris.sublist (List.filter_sublist.map _)
def Num (al : List Al) : Prop := ∀ (j : Nat) (a : Al), al[j]? = some a → a.id = (j : Int) + 1
theorem Num.left {al : List Al} (h : Num al) {j : Nat} {a : Al} (ha : al[j]? = some a) : leftA (fun a : AlT => a.1) ((al.take j).map pub) a.id = (al.take j).map pub := by
  unfold leftA
  rw [List.filter_eq_self]
  intro b hb
  obtain ⟨c, hc, rfl⟩ := List.mem_map.1 hb
  obtain ⟨i, hi⟩ := List.getElem?_of_mem hc
  have hil := (List.getElem?_eq_some_iff.1 hi).1
  have hij : i < j := by rw [List.length_take] at hil; omega
  rw [List.getElem?_take_of_lt hij] at hi
  have h1 := h i c hi
  have h2 := h j a ha
  simp only [decide_eq_true_eq]
  show c.id ≠ a.id
  omega
theorem mdec_ok (now : Int) (d : Ad) (sds : List Sd) (vs : Value) (als : List Ad) (va : Value) (rds : List Rd) (vr : Value) (w : World) (hd : d.Ok w) (hs : Sl No w vs 8 sds.length (sds.flatMap sdC)) (hsm : ∀ s ∈ sds, Sl No w s.mv 3 s.ms.length (s.ms.flatMap dmC)) (hst : ∀ s ∈ sds, 0 ≤ s.stop)
    (ha : Sl No w va 3 als.length (als.flatMap adC)) (hal : ∀ a ∈ als, a.Ok w) (hr : Sl No w vr 6 rds.length (rds.flatMap rdC)) (hrk : ∀ r ∈ rds, r.Ok w) :
    Fx Tryz.prog 9 [.int .u64 now, .agg (adC d).toArray, vs, va, vr] w (fun u w' => u = .bool true ∧ Grow w w') := by
  obtain ⟨a1, cs1, hvs⟩ := hs.shape
  obtain ⟨a2, ca1, hva⟩ := ha.shape
  obtain ⟨a3, cr1, hvr⟩ := hr.shape
  refine enter Tryz.func9 rfl rfl rfl _ (Pick.sub (l := [0, 1, 2, 3, 4]) (.cons rfl (.cons rfl (.cons rfl (.cons rfl (.cons rfl .nil)))))) ?_
  refine RK.seq ?_
  refine RK.region ?_
  refine RL.op (.free rfl) rfl rfl (Does.box rfl) ?_
  rintro _ w1 ⟨b6, rfl, hn6⟩
  have hB6 := hn6.blk
  have hz01 := hn6.grow.size
  refine RL.p rfl rfl ?_
  refine RL.done ?_
  refine RK.seq ?_
  refine RK.region ?_
  refine RL.op (.free rfl) rfl rfl (Does.call rfl e10 (newZ_ok 12 9 _)) ?_
  rintro _ w2 ⟨p, O1, rfl, hz2, hg2, hO1⟩
  refine RL.p rfl rfl ?_
  refine RL.done ?_
  iterate 2 refine RK.seq ?_
  refine RK.region ?_
  refine RL.p rfl rfl ?_
  refine RL.q (.free rfl) rfl rfl (Yld.eqPtr Tryz.underlying23 rfl rfl) ?_
  refine RL.done ?_
  refine RK.condF (hcF rfl (rfl)) ?_
  have hg02 := hn6.grow.trans hg2
  refine RK.skip ?_
  refine RK.seq ?_
  refine RK.region ?_
  refine RL.p rfl rfl ?_
  refine RL.op (.free rfl) rfl rfl (Does.call rfl e35 (sils18N_ok sds _ _ (hs.mod hg02) (fun d h => (hsm d h).mod hg02))) ?_
  rintro zs w3 ⟨sl, hsl, hrs, hsk, hfs, hg3⟩
  obtain ⟨ads, cs, rfl⟩ := hrs.slice
  have hsl12 : sl.length ≤ 12 := by have := congrArg List.length hsl; simp at this; omega
  have hsz : ∀ x ∈ sl, SzM x.ms ∧ 0 ≤ x.stop := fun x hx => by
      obtain ⟨e, he, h⟩ := sil_in hsl hx
      have h1 : x.ms = matsS e.ms true := congrArg (·.2.2.2.2.1) h
      have h2 : x.stop = e.stop := congrArg (·.2.2.2.1) h
      exact ⟨by rw [h1]; exact ⟨matsS_name _ _, Nat.le_trans (matsS_len _ _) (by omega)⟩, by rw [h2]; exact hst e (List.mem_of_mem_take he)⟩
  refine RL.p rfl rfl ?_
  refine RL.done ?_
  iterate 2 refine RK.seq ?_
  refine RK.region ?_
  refine RL.p rfl rfl ?_
  refine RL.done ?_
  refine RK.block ?_
  refine RK.loop (fun k : Nat => [(0, .int .u64 now), (3, va), (4, vr), (6, pp b6), (11, pp p), (12, .slice ads sl.length cs), (13, .int .i64 (k : Int))]) (fun k w' => k ≤ sl.length ∧ (∃ s O M, ZStore O M w' p s ∧ Gz s ∧ (∀ b, M b → w1.heap.size ≤ b) ∧ s.last ≤ k ∧ SzS s ∧ Sl M w' (.slice ads sl.length cs) 8 sl.length (sl.flatMap silC) ∧ ∀ x ∈ sl, SlM M w' x.mv x.ms) ∧ Grow w1 w') (fun k => sl.length - k) 0 ⟨rfl, rfl, rfl, rfl, rfl, rfl, rfl, trivial⟩ ⟨by omega, ⟨_, O1, O1, hz2.grow hg3, gz_new 12 9, hO1, Int.le_refl 0, fun a ha => (by cases ha), Sl.own hrs (fun k hk e => by have h1 := hfs k hk; have h2 := hz2.lt k e; omega), fun x hx => (hsk x hx).off (by omega) (fun b _ e => hz2.lt b e)⟩, hg2.trans hg3⟩ (fun k w' hI ih => ?_)
  obtain ⟨hk, ⟨s, O, M, hz, hgz, hM, hla, hzz, hsls, hslm⟩, hg⟩ := hI
  iterate 2 refine RK.seq ?_
  refine RK.region ?_
  iterate 2 refine RL.p rfl rfl ?_
  refine RL.q (.free rfl) rfl rfl (Yld.lenSl u44 rfl) ?_
  refine RL.p rfl rfl ?_
  refine RL.done ?_
  first | refine RK.condD rfl (fun h35 => ?_) (fun h35 => ?_) | refine RK.condN rfl (fun h35 => ?_) (fun h35 => ?_) | refine RK.cond rfl (fun h35 => ?_) (fun h35 => ?_)
  · obtain ⟨x, hx⟩ : ∃ x, sl[k]? = some x := ⟨sl[k]'(by omega), List.getElem?_eq_getElem (by omega)⟩
    have hxm := List.mem_of_getElem? hx
    obtain ⟨b1, o1, c1', he1, nb1, _, hc1⟩ := hsls.elem silC_len hx
    cases he1
    refine RK.skip ?_
    refine RK.seq ?_
    refine RK.block ?_
    refine RK.drawM M [(0, false), (1, false), (2, false), (3, false), (4, false), (5, false), (6, false), (7, false), (8, false), (9, false), (10, false), (11, false), (12, false), (13, false), (14, false), (15, false), (16, false), (17, false), (18, false), (19, false), (20, false), (21, true)] [] mixed (by kernel_rfl) ?_
    iterate 3 refine DL.p rfl rfl rfl ?_
    refine DL.qf rfl (.free rfl) rfl rfl (Yld.indexAddrN u44 i41 rfl rfl (by omega)) ?_
    refine DL.qf rfl (.free rfl) rfl rfl (Yld.fieldAddr fo41_2 rfl) ?_
    refine DL.q rfl (.free rfl) rfl rfl rfl (Yld.load p22 rfl (atM (hc1 2 _ rfl) (nb1))) (Mod.drew _ _) ?_
    iterate 2 refine DL.p rfl rfl rfl ?_
    refine DL.qf rfl (.free rfl) rfl rfl (Yld.indexAddrN u44 i41 rfl rfl (by omega)) ?_
    refine DL.qf rfl (.free rfl) rfl rfl (Yld.fieldAddr fo41_3 rfl) ?_
    refine DL.q rfl (.free rfl) rfl rfl rfl (Yld.load p22 rfl (atM (hc1 3 _ rfl) (nb1))) (Mod.drew _ _) ?_
    iterate 2 refine DL.p rfl rfl rfl ?_
    refine DL.qf rfl (.free rfl) rfl rfl (Yld.indexAddrN u44 i41 rfl rfl (by omega)) ?_
    refine DL.qf rfl (.free rfl) rfl rfl (Yld.fieldAddr fo41_4 rfl) ?_
    refine DL.q rfl (.free rfl) rfl rfl rfl (Yld.load p28 rfl (atM (hc1 4 _ rfl) (nb1))) (Mod.drew _ _) ?_
    iterate 2 refine DL.p rfl rfl rfl ?_
    refine DL.qf rfl (.free rfl) rfl rfl (Yld.indexAddrN u44 i41 rfl rfl (by omega)) ?_
    refine DL.qf rfl (.free rfl) rfl rfl (Yld.fieldAddr fo41_5 rfl) ?_
    refine DL.q rfl (.free rfl) rfl rfl rfl (Yld.loadN (cs := bdC x.bd) a32 rfl (atNM (silN hc1) (nb1))) (Mod.drew _ _) ?_
    refine DL.op rfl (.free rfl) rfl rfl (Does.call rfl e11 (makeZ_ok _ p s O M (hz.grow (Mod.drew No w')) hgz (by omega) 0 x.start x.stop (hsz x hxm).2 x.ms x.mv x.bd ((hslm x hxm).mod (Mod.drew _ _)) (hsz x hxm).1.2)) ?_
    rintro _ w5 ⟨O5, rfl, hz5, hm5, hO5⟩
    have hmM : Mod M w' w5 := (Mod.drew _ _).trans (hm5.mono fun b _ e => hz.inM b e)
    refine ⟨hmM, ?_⟩
    have hgs := hg.size
    have hpM : ∀ b, (M b ∨ O5 b) → M b ∨ w'.heap.size ≤ b := fun b e => e.elim .inl fun e => (hO5 b e).elim (fun e => .inl (hz.inM b e)) .inr
    refine DL.done ?_
    refine RK.inBlock ?_
    refine RK.region ?_
    iterate 2 refine RL.p rfl rfl ?_
    refine RL.re (d := 37) rfl rfl (succ_i64 (by omega)) ?_
    refine RL.p rfl rfl ?_
    refine RL.done ?_
    exact RK.back (ih (k + 1) _ ⟨by omega, ⟨_, O5, _, hz5, hgz.make _ _ _ (hsz x hxm).2 _ _, fun b e => (hpM b e).elim (hM b) fun e => by omega, by have := last_make s 0 x.start x.stop x.ms x.bd; omega, hzz.make _ _ _ (hsz x hxm).1 _, hsls.pass (by omega) hmM hpM, fun y hy => (hslm y hy).pass (by omega) hmM hpM⟩, hg.then hmM (fun b hb e => by have := hM b e; omega)⟩ (by omega)) ⟨rfl, rfl, rfl, rfl, rfl, rfl, rfl, trivial⟩
  · clear ih hsls hslm hsk
    have hgw := hn6.grow.trans hg
    refine RK.exit rfl ?_
    refine RK.seq ?_
    refine RK.region ?_
    refine RL.p rfl rfl ?_
    refine RL.done ?_
    iterate 2 refine RK.seq ?_
    refine RK.region ?_
    refine RL.p rfl rfl ?_
    refine RL.op (.free rfl) rfl rfl (Does.call rfl e36 (alerts18_ok als _ _ (ha.mod hgw) (fun d h => (hal d h).mod hgw))) ?_
    rintro za w6 ⟨al, hala, hra, hak, hfa, hg6⟩
    obtain ⟨adz, cz, rfl⟩ := hra.slice
    have hal16 : al.length ≤ 16 := by have := congrArg List.length hala; simp at this; omega
    have hz6s := hg6.size
    refine RL.q (.free rfl) rfl rfl (Yld.lenSl u79 rfl) ?_
    refine RL.p rfl rfl ?_
    refine RL.done ?_
    refine RK.block ?_
    refine RK.loop (fun t : Nat × Value => [(0, .int .u64 now), (4, vr), (6, pp b6), (11, pp p), (14, t.2), (61, .slice adz al.length cz), (62, .int .i64 (al.length : Int)), (63, .int .i64 (t.1 : Int))]) (fun t w7 => (∃ nl : List Al, nl.length = t.1 ∧ Num nl ∧ Row w7 82 3 t.2 nl.length (nl.flatMap alC) ∧ ∀ a ∈ nl, AlOk (fun b => t.2.ownBlock = some b) w7 a) ∧ Fresh w6.heap.size t.2 ∧ Grow w6 w7 ∧ t.1 ≤ al.length) (fun t => al.length - t.1) (0, .slice none 0 0) ⟨rfl, rfl, rfl, rfl, rfl, rfl, rfl, rfl, trivial⟩ ⟨⟨[], rfl, fun j a h => (by cases h), Row.nil _ _ _, fun a h => (by cases h)⟩, fun b e => by simp [Value.ownBlock] at e, Mod.refl _ _, by simp⟩ (fun t w7 hI ih => ?_)
    obtain ⟨k2, u⟩ := t
    obtain ⟨⟨nl, hnl, hnum, hru, hnk⟩, hfu, hg7, hk2⟩ := hI
    simp only at hnl hru hnk hfu hk2
    refine RK.seq ?_
    refine RK.region ?_
    refine RL.p rfl rfl ?_
    refine RL.done ?_
    refine RK.seq ?_
    first | refine RK.condD rfl (fun h64 => ?_) (fun h64 => ?_) | refine RK.condN rfl (fun h64 => ?_) (fun h64 => ?_) | refine RK.cond rfl (fun h64 => ?_) (fun h64 => ?_)
    · obtain ⟨a, hak2⟩ : ∃ a, al[k2]? = some a := ⟨al[k2]'(by omega), List.getElem?_eq_getElem (by omega)⟩
      obtain ⟨b1, o1, c1', he1, _, _, hc1⟩ := (Sl.own (M := No) hra (fun _ _ h => h)).elem alC_len hak2
      cases he1
      have hao := (hak a (List.mem_of_getElem? hak2)).pass (M' := fun b => u.ownBlock = some b) hg7 (fun b e => .inr (hfu b e))
      refine RK.skip ?_
      refine RK.seq ?_
      refine RK.block ?_
      refine RK.seq ?_
      refine RK.region ?_
      refine RL.p rfl rfl ?_
      refine RL.q (.free rfl) rfl rfl (Yld.indexAddrN u79 i82 rfl rfl (by omega)) ?_
      refine RL.q (.free rfl) rfl rfl (Yld.loadN (cs := alC a) a82 rfl (atN (fun q z hq => hg7.cell (hc1 q z hq) (fun h => h)))) ?_
      refine RL.op (.free rfl) rfl rfl (Does.alloc i82) ?_
      rintro _ w8 ⟨b16, rfl, hn16⟩
      refine RL.p rfl rfl ?_
      refine RL.op' (.free rfl) rfl (Does.storeN i82 rfl rfl rfl (alC_one hao) hn16.blk (Nat.le_refl 3)) ?_
      rintro _ w9 ⟨hb9, hm9, _⟩
      have hat := hn16.at_
      have hB9 : Blk w9 b16 82 [.int .i64 a.id, a.v, .float .f64 a.val] := hb9
      refine RL.done ?_
      refine RK.seq ?_
      refine RK.region ?_
      iterate 2 refine RL.p rfl rfl ?_
      refine RL.re (d := 69) rfl rfl (succ_i64 (by omega)) ?_
      refine RL.q (.free rfl) rfl rfl (Yld.fieldAddr fo82_0 rfl) ?_
      refine RL.op' (.free rfl) rfl (Does.store i3 rfl rfl rfl hB9 (.z)) ?_
      rintro _ w10 ⟨hb10, hm10, _⟩
      obtain ⟨x, hx⟩ : ∃ x : Al, x = ⟨((k2 + 1 : Nat) : Int), a.ls, a.val, a.v⟩ := ⟨_, rfl⟩
      have hB10 : Blk w10 b16 82 (alC x) := by rw [hx]; exact hb10
      have hg710 : Grow w7 w10 := (hn16.grow.then hm9 (fun b hb e => by have e' : b = b16 := e; omega)).then hm10 (fun b hb e => by have e' : b = b16 := e; omega)
      refine RL.done ?_
      refine RK.region ?_
      refine RL.p rfl rfl ?_
      refine RL.q (.free rfl) rfl rfl (Yld.loadN (cs := alC x) a82 rfl (atN (blk0' hB10))) ?_
      refine RL.op (.free rfl) rfl rfl (Does.slice1 u79 i82 rfl rfl rfl rfl rfl) ?_
      rintro _ w11 ⟨b73, rfl, hn73⟩
      have hg711 := hg710.trans hn73.grow
      have hxo : AlOk (fun b => u.ownBlock = some b) w11 x := by rw [hx]; exact ⟨(hao.mod (Mod.any' hg711)).l, hao.z⟩
      refine RL.op (.free rfl) rfl rfl (Does.append u79 i82 rfl rfl rfl rfl rfl ((hru.mod hg711 (fun _ _ h => h))) (Sl.new hn73 3 1 rfl (by omega) (fun h => h)) (alC_one hxo) (by omega)) ?_
      rintro u8 w12 ⟨hr8, hm8, hu8⟩
      have hz711 := hg711.size
      have hz7 := hg7.size
      have hp : ∀ b, u8.ownBlock = some b → u.ownBlock = some b ∨ w11.heap.size ≤ b := fun b e => by
          rcases hu8 with h8 | h8
          · rw [h8] at e; exact .inl e
          · rw [h8] at e; cases e; exact .inr (Nat.le_refl _)
      refine RL.p rfl rfl ?_
      refine RL.done ?_
      refine RK.inBlock ?_
      refine RK.region ?_
      refine RL.p rfl rfl ?_
      refine RL.re (d := 75) rfl rfl (succ_i64 (by omega)) ?_
      refine RL.p rfl rfl ?_
      refine RL.done ?_
      exact RK.back (ih (k2 + 1, u8) _ ⟨⟨nl ++ [x], by simp [hnl], fun j b hj => by
          by_cases e : j < nl.length
          · rw [List.getElem?_append_left e] at hj; exact hnum j b hj
          · rw [List.getElem?_append_right (by omega)] at hj
            have h0 : j - nl.length = 0 := by have := (List.getElem?_eq_some_iff.1 hj).1; simp at this; omega
            rw [h0] at hj
            cases hj
            rw [hx]
            simp only
            omega, by
          simp only
          rw [List.length_append, List.flatMap_append, List.flatMap_singleton]
          simpa [Value.cells] using hr8, fun b hb => by
          rcases List.mem_append.1 hb with hb | hb
          · exact ((hnk b hb).mod (Mod.any' hg711)).pass hm8 hp
          · rw [List.mem_singleton] at hb; subst hb; exact hxo.pass hm8 hp⟩, fun b e => (hp b e).elim (hfu b) fun e => by omega, (hg7.trans hg711).then hm8 (fun b hb e => by have := hfu b e; omega), by simp only; omega⟩ (by simp only; omega)) ⟨rfl, rfl, rfl, rfl, rfl, rfl, rfl, rfl, trivial⟩
    · clear ih hra hak
      obtain ⟨adA, cA, rfl⟩ := hru.slice
      have hn16 : nl.length ≤ 16 := by omega
      have hgw7 := hgw.trans (hg6.trans hg7)
      refine RK.exit rfl ?_
      refine RK.seq ?_
      refine RK.region ?_
      refine RL.p rfl rfl ?_
      refine RL.op (.free rfl) rfl rfl (Does.call rfl e37 (rules18N_ok rds _ _ (hr.mod hgw7) (fun d h => (hrk d h).mod hgw7))) ?_
      rintro zr w8 ⟨rl, hrl, hrr, hrok, hfr, hg8⟩
      obtain ⟨adr, cr, rfl⟩ := hrr.slice
      have hrl6 : rl.length ≤ 6 := by have := congrArg List.length hrl; simp at this; omega
      have hA8 := hru.mod hg8 (fun _ _ h => h)
      have hal8 : ∀ b, (Value.slice adA nl.length cA).ownBlock = some b → b < w8.heap.size := fun b e => hA8.lt e
      have hnk8 : ∀ a ∈ nl, AlOk (fun b => (Value.slice adA nl.length cA).ownBlock = some b) w8 a := fun a h => (hnk a h).mod (Mod.any' hg8)
      refine RL.p rfl rfl ?_
      refine RL.done ?_
      refine RK.seq ?_
      refine RK.region ?_
      refine RL.p rfl rfl ?_
      refine RL.done ?_
      iterate 2 refine RK.seq ?_
      refine RK.region ?_
      refine RL.p rfl rfl ?_
      refine RL.done ?_
      refine RK.block ?_
      refine RK.loop (fun t : Nat × Value => [(0, .int .u64 now), (6, pp b6), (11, pp p), (14, .slice adA nl.length cA), (17, .slice adr rl.length cr), (18, t.2), (19, .int .i64 (t.1 : Int))]) (fun t w9 => (∃ xs : List CAt, xs.map (fun x => ruP x.r) = (rl.take t.1).map ruP ∧ Row w9 86 1 t.2 xs.length (xs.map fun x => pp x.p) ∧ ∀ x ∈ xs, x.Ok (fun b => t.2.ownBlock = some b ∨ (Value.slice adA nl.length cA).ownBlock = some b) w9 nl) ∧ Fresh w8.heap.size t.2 ∧ Grow w8 w9 ∧ t.1 ≤ rl.length) (fun t => rl.length - t.1) (0, .slice none 0 0) ⟨rfl, rfl, rfl, rfl, rfl, rfl, rfl, trivial⟩ ⟨⟨[], by simp, Row.nil _ _ _, fun a h => (by cases h)⟩, fun b e => by simp [Value.ownBlock] at e, Mod.refl _ _, by simp⟩ (fun t w9 hI ih => ?_)
      obtain ⟨k3, v⟩ := t
      obtain ⟨⟨xs, hxr, hrv, hxo⟩, hfv, hg9, hk3⟩ := hI
      simp only at hxr hrv hxo hfv hk3
      have hxl : xs.length = k3 := by have := congrArg List.length hxr; simp at this; omega
      have hz9 := hg9.size
      iterate 2 refine RK.seq ?_
      refine RK.region ?_
      iterate 2 refine RL.p rfl rfl ?_
      refine RL.q (.free rfl) rfl rfl (Yld.lenSl u83 rfl) ?_
      refine RL.p rfl rfl ?_
      refine RL.done ?_
      first | refine RK.condD rfl (fun h81 => ?_) (fun h81 => ?_) | refine RK.condN rfl (fun h81 => ?_) (fun h81 => ?_) | refine RK.cond rfl (fun h81 => ?_) (fun h81 => ?_)
      · obtain ⟨r, hrk3⟩ : ∃ r, rl[k3]? = some r := ⟨rl[k3]'(by omega), List.getElem?_eq_getElem (by omega)⟩
        have hrm := List.mem_of_getElem? hrk3
        obtain ⟨b1, o1, c1', he1, _, _, hc1⟩ := (Sl.own (M := No) hrr (fun _ _ h => h)).elem ruC_len hrk3
        cases he1
        have hfew := ru_in hrl hrm
        refine RK.skip ?_
        refine RK.seq ?_
        refine RK.block ?_
        refine RK.seq ?_
        refine RK.region ?_
        iterate 2 refine RL.p rfl rfl ?_
        refine RL.q (.free rfl) rfl rfl (Yld.indexAddrN u83 i90 rfl rfl (by omega)) ?_
        refine RL.q (.free rfl) rfl rfl (Yld.loadN (cs := ruC r) a90 rfl (atN (fun q z hq => hg9.cell (hc1 q z hq) (fun h => h)))) ?_
        refine RL.op (.free rfl) rfl rfl (Does.call rfl e38 (cacheNew_ok _ r _ ((hrok r hrm).mod (Mod.any' hg9)) hfew)) ?_
        rintro _ w10 ⟨pc, mr, mk, y1, y2, y3, rfl, ⟨hp1, hp2, hp3, hp4⟩, hc0, hg10⟩
        obtain ⟨M2, hM2⟩ : ∃ M2 : Nat → Prop, M2 = fun b => (b = mr ∨ b = mk) ∨ (v.ownBlock = some b ∨ (Value.slice adA nl.length cA).ownBlock = some b) := ⟨_, rfl⟩
        have hvl : ∀ b, (v.ownBlock = some b ∨ (Value.slice adA nl.length cA).ownBlock = some b) → b < w9.heap.size := fun b e => e.elim (fun e => hrv.lt e) fun e => by have := hal8 b e; omega
        have hck := hc0 M2 (fun b _ e => by rw [hM2] at e; exact e.elim .inr fun e => .inl (hvl b e))
        have hz10 := hg10.size
        have hM2lt : ∀ b, M2 b → b < w10.heap.size := fun b e => by
            rw [hM2] at e
            rcases e with e | e
            · exact hck.lts b e
            · have := hvl b e; omega
        refine RL.p rfl rfl ?_
        refine RL.done ?_
        iterate 2 refine RK.seq ?_
        refine RK.region ?_
        refine RL.p rfl rfl ?_
        refine RL.q (.free rfl) rfl rfl (Yld.eqPtr Tryz.underlying86 rfl rfl) ?_
        refine RL.done ?_
        refine RK.condF (hcF rfl (rfl)) ?_
        refine RK.skip ?_
        iterate 2 refine RK.seq ?_
        refine RK.region ?_
        refine RL.p rfl rfl ?_
        refine RL.done ?_
        refine RK.block ?_
        refine RK.loop (fun j : Nat => [(0, .int .u64 now), (6, pp b6), (11, pp p), (14, .slice adA nl.length cA), (17, .slice (some ⟨b1, o1, none⟩) rl.length cr), (18, v), (19, .int .i64 (k3 : Int)), (20, pp pc), (21, .int .i64 (j : Int))]) (fun j w11 => (∃ c, CacheAt M2 w11 pc mr mk (ruAt r y1 y2 y3) c ∧ CR (·.1) (srcA (ruAt r y1 y2 y3)) (keyA (ruAt r y1 y2 y3)) c ((nl.take j).map pub) ∧ CB c j) ∧ Mod (fun b => b = mr ∨ b = mk) w10 w11 ∧ j ≤ nl.length) (fun j => nl.length - j) 0 ⟨rfl, rfl, rfl, rfl, rfl, rfl, rfl, rfl, rfl, trivial⟩ ⟨⟨_, hck, CR.nil, CB.nil⟩, Mod.refl _ _, by omega⟩ (fun j w11 hI ih4 => ?_)
        obtain ⟨⟨c, hcc, hcr, hcb⟩, hm11, hj⟩ := hI
        have hg11 : Grow w9 w11 := hg10.then hm11 (fun b hb e => by rcases e with rfl | rfl <;> omega)
        have hz11 := hm11.size
        iterate 2 refine RK.seq ?_
        refine RK.region ?_
        iterate 2 refine RL.p rfl rfl ?_
        refine RL.q (.free rfl) rfl rfl (Yld.lenSl u79 rfl) ?_
        refine RL.p rfl rfl ?_
        refine RL.done ?_
        first | refine RK.condD rfl (fun h94 => ?_) (fun h94 => ?_) | refine RK.condN rfl (fun h94 => ?_) (fun h94 => ?_) | refine RK.cond rfl (fun h94 => ?_) (fun h94 => ?_)
        · obtain ⟨a, haj⟩ : ∃ a, nl[j]? = some a := ⟨nl[j]'(by omega), List.getElem?_eq_getElem (by omega)⟩
          have ham := List.mem_of_getElem? haj
          obtain ⟨b2, o2, c2', he2, _, _, hc2⟩ := (Sl.own (M := No) hA8 (fun _ _ h => h)).elem alC_len haj
          cases he2
          have hao : AlOk M2 w11 a := (hnk8 a ham).pass (Mod.any' (hg9.trans hg11)) (fun b e => by
              rw [hM2] at e
              rcases e with (rfl | rfl) | e | e
              · exact .inr (by omega)
              · exact .inr (by omega)
              · exact .inr (hfv b e)
              · exact .inl e)
          refine RK.skip ?_
          refine RK.seq ?_
          refine RK.block ?_
          refine RK.region ?_
          iterate 3 refine RL.p rfl rfl ?_
          refine RL.q (.free rfl) rfl rfl (Yld.indexAddrN u79 i82 rfl rfl (by omega)) ?_
          refine RL.q (.free rfl) rfl rfl (Yld.loadN (cs := alC a) a82 rfl (atN (fun q z hq => (hg9.trans hg11).cell (hc2 q z hq) (fun h => h)))) ?_
          refine RL.op (.free rfl) rfl rfl (Does.call rfl e39 (cachePut_ok M2 _ pc mr mk _ c hcc (by rw [hM2]; exact .inl (.inl rfl)) (by rw [hM2]; exact .inl (.inr rfl)) (fun b e => by have := hM2lt b e; omega) a hao (hcb.mono (by omega)))) ?_
          rintro _ w12 ⟨rfl, hcc', hm12⟩
          have htk : (nl.take (j + 1)).map pub = (nl.take j).map pub ++ [pub a] := by rw [List.take_add_one, haj, List.map_append]; rfl
          refine RL.done ?_
          refine RK.inBlock ?_
          refine RK.region ?_
          iterate 2 refine RL.p rfl rfl ?_
          refine RL.re (d := 96) rfl rfl (succ_i64 (by omega)) ?_
          refine RL.p rfl rfl ?_
          refine RL.done ?_
          exact RK.back (ih4 (j + 1) _ ⟨⟨_, hcc', by
              rw [htk]
              have h1 := hcr.put (pub a)
              have h9 : leftA (fun a : AlT => a.1) ((nl.take j).map pub) (pub a).1 = _ := hnum.left haj
              rw [h9] at h1
              exact h1, hcb.put _ _ _⟩, hm11.trans hm12, by omega⟩ (by omega)) ⟨rfl, rfl, rfl, rfl, rfl, rfl, rfl, rfl, rfl, trivial⟩
        · have ek : nl.take j = nl := List.take_of_length_le (by omega)
          rw [ek] at hcr
          clear ih4
          refine RK.exit rfl ?_
          refine RK.region ?_
          iterate 2 refine RL.p rfl rfl ?_
          refine RL.op (.free rfl) rfl rfl (Does.slice1 u85 i86 rfl rfl rfl rfl rfl) ?_
          rintro _ w12 ⟨b105, rfl, hn105⟩
          have hg12 := hg11.trans hn105.grow
          have hrv12 := hrv.mod hg12 (fun _ _ h => h)
          refine RL.op (.free rfl) rfl rfl (Does.append u85 i86 rfl rfl rfl rfl rfl (hrv12) (Sl.new hn105 1 1 rfl (by omega) (fun h => h)) (rfl) (by omega)) ?_
          rintro v8 w13 ⟨hr8, hm8, hv8⟩
          have hz12 := hg12.size
          have hp : ∀ b, v8.ownBlock = some b → v.ownBlock = some b ∨ w12.heap.size ≤ b := fun b e => by
              rcases hv8 with h8 | h8
              · rw [h8] at e; exact .inl e
              · rw [h8] at e; cases e; exact .inr (Nat.le_refl _)
          have hcc12 := hcc.grow hn105.grow
          have hPass : ∀ {M : Nat → Prop} {q m1 m2 : Nat} {r' : Ru} {c' : CRows × CKeys}, CacheAt M w12 q m1 m2 r' c' → (∀ b, (v.ownBlock = some b ∨ (Value.slice adA nl.length cA).ownBlock = some b) → M b) → CacheAt (fun b => v8.ownBlock = some b ∨ (Value.slice adA nl.length cA).ownBlock = some b) w13 q m1 m2 r' c' := fun h hM => by
              obtain ⟨l, _, h2, _⟩ := h.rl
              exact h.passM hm8 (fun b e => hM b (.inl e)) (fun b e => e.elim (fun e => (hp b e).imp (fun e => hM b (.inl e)) fun e => e) fun e => .inl (hM b (.inr e))) (fun e => (hrv12.ty e).ne h.blk.ty rfl rfl) (fun e => (hrv12.ty e).nem h2.mp rfl) (fun e => (hrv12.ty e).nem h.kl.mp rfl)
          refine RL.p rfl rfl ?_
          refine RL.done ?_
          refine RK.inBlock ?_
          refine RK.region ?_
          iterate 2 refine RL.p rfl rfl ?_
          refine RL.re (d := 83) rfl rfl (succ_i64 (by omega)) ?_
          refine RL.p rfl rfl ?_
          refine RL.done ?_
          exact RK.back (ih (k3 + 1, v8) _ ⟨⟨xs ++ [⟨pc, mr, mk, ruAt r y1 y2 y3, c⟩], by
              simp only
              rw [List.map_append, hxr, List.take_add_one, hrk3, List.map_append]
              rfl, by
              simp only
              rw [List.length_append, List.map_append]
              simpa [Value.cells, pp] using hr8, fun x hx => by
              rcases List.mem_append.1 hx with hx | hx
              · have h1 := (hxo x hx).grow hg12
                exact ⟨hPass h1.at_ (fun b e => e), h1.cr, h1.cb, h1.few, h1.e4⟩
              · rw [List.mem_singleton] at hx; subst hx
                exact ⟨hPass hcc12 (fun b e => by rw [hM2]; exact .inr e), hcr, hcb.mono (by omega), ⟨hfew.s, hfew.t, hfew.e⟩, show r.eq.length ≤ 4 from ru_e4 hrl hrm⟩⟩, fun b e => (hp b e).elim (hfv b) fun e => by omega, (hg9.trans hg12).then hm8 (fun b hb e => by have := hfv b e; omega), by simp only; omega⟩ (by simp only; omega)) ⟨rfl, rfl, rfl, rfl, rfl, rfl, rfl, trivial⟩
      · have ek : rl.take k3 = rl := List.take_of_length_le (by omega)
        rw [ek] at hxr
        clear ih
        obtain ⟨adv, cv, rfl⟩ := hrv.slice
        have hgx : Grow w' w9 := ((hg6.trans hg7).trans hg8).trans hg9
        have hB9 := hB6.mod (hg.trans hgx) (fun h => h)
        refine RK.exit rfl ?_
        refine RK.seq ?_
        refine RK.region ?_
        refine RL.p rfl rfl ?_
        refine RL.q (.free rfl) rfl rfl (Yld.loadN (cs := adC d) a74 rfl (atN (blk0' hB9))) ?_
        refine RL.op (.free rfl) rfl rfl (Does.slice1 u76 i74 rfl rfl rfl rfl rfl) ?_
        rintro _ w10 ⟨b109, rfl, hn109⟩
        refine RL.op (.free rfl) rfl rfl (Does.call rfl e36 (alerts18N_ok [d] _ _ (Sl.new hn109 3 1 rfl (by omega) (fun h => h)) (fun x hx => by rw [List.mem_singleton] at hx; subst hx; exact hd.mod ((hgw.trans hgx).trans hn109.grow)))) ?_
        rintro z1 w11 ⟨al1, hal1, hr1, hak1, hf1, hg11⟩
        obtain ⟨t, rfl⟩ : ∃ t, al1 = [t] := by
            have := congrArg List.length hal1
            simp at this
            exact List.length_eq_one_iff.1 this
        have ht1 := hak1 t (by simp)
        have hsl1 : Sl No w11 z1 3 1 ([t].flatMap alC) := Sl.own hr1 (fun _ _ h => h)
        obtain ⟨x1, x2, x3, hx, _, _, hc1⟩ := Sl.elem (xs := [t]) alC_len hsl1 (k := 0) rfl
        subst hx
        refine RL.q (.free rfl) rfl rfl (Yld.indexAddr u79 i82 rfl rfl (by simp) (by simp)) ?_
        refine RL.q (.free rfl) rfl rfl (Yld.loadN (cs := alC t) a82 rfl (atN (fun q z hq => by simpa using hc1 q z hq))) ?_
        refine RL.op (.free rfl) rfl rfl (Does.slice1 u79 i82 rfl rfl rfl rfl rfl) ?_
        rintro _ w12 ⟨b113, rfl, hn113⟩
        have hgy : Grow w9 w12 := (hn109.grow.trans hg11).trans hn113.grow
        have hA12 := (hA8.mod hg9 (fun _ _ h => h)).mod hgy (fun _ _ h => h)
        refine RL.op (.free rfl) rfl rfl (Does.append u79 i82 rfl rfl rfl rfl rfl (hA12) (Sl.new hn113 3 1 rfl (by omega) (fun h => h)) (alC_one ht1) (by omega)) ?_
        rintro uF w13 ⟨hrF, hmF, huF⟩
        clear huF
        obtain ⟨adF, cF, rfl, hcapF⟩ := hrF.cap
        have hgz13 : Grow w' w13 := (hgx.trans hgy).then hmF (fun b hb e => by have := hfu b e; omega)
        have hzF := hz.grow hgz13
        have htF : AlOk No w13 t := ((ht1.mod (Mod.any' hn113.grow)).mod (hmF.mono fun b _ e => by have h1 := hA8.lt e; have h2 := hg9.size; have h3 := hn109.grow.size; omega)).noM
        have hnkF : ∀ a ∈ nl, AlOk No w13 a := fun a h => (((hnk8 a h).mod (Mod.any' (hg9.trans hgy))).mod hmF).noM
        have hrlF : ∀ r ∈ rl, r.Ok No w13 := fun r h => (((hrok r h).mod (Mod.any' (hg9.trans hgy))).mod (hmF.mono fun b _ e => hru.lt e)).noM
        have hrrF := ((hrr.mod hg9 (fun _ _ h => h)).mod hgy (fun _ _ h => h)).mod hmF (fun x e1 e2 => (((hrr.mod hg9 (fun _ _ h => h)).mod hgy (fun _ _ h => h)).ty e1).ne (hA12.ty e2) rfl rfl)
        have hrvF := (hrv.mod hgy (fun _ _ h => h)).mod hmF (fun x e1 e2 => ((hrv.mod hgy (fun _ _ h => h)).ty e1).ne (hA12.ty e2) rfl rfl)
        have hxF : ∀ x ∈ xs, x.Ok (fun b => (Value.slice adv xs.length cv).ownBlock = some b ∨ (Value.slice adA nl.length cA).ownBlock = some b) w13 nl := fun x h => by
            have h1 := (hxo x h).grow hgy
            obtain ⟨l, _, h2, _⟩ := h1.at_.rl
            exact ⟨h1.at_.passM hmF (fun b e => .inr e) (fun b e => .inl e) (fun e => (hA12.ty e).ne h1.at_.blk.ty rfl rfl) (fun e => (hA12.ty e).nem h2.mp rfl) (fun e => (hA12.ty e).nem h1.at_.kl.mp rfl), h1.cr, h1.cb, h1.few, h1.e4⟩
        have hrF' : Row w13 82 3 (.slice adF (nl.length + 1) cF) (nl ++ [t]).length ((nl ++ [t]).flatMap alC) := by
            rw [List.length_append, List.flatMap_append, List.flatMap_singleton]
            exact hrF
        have hslF : Sl No w13 (.slice adF (nl ++ [t]).length cF) 3 (nl ++ [t]).length ((nl ++ [t]).flatMap alC) := by
            have h1 := Sl.own (M := No) hrF' (fun _ _ h => h)
            simpa using h1
        have hsnF : Sl No w13 (.slice adF nl.length cF) 3 nl.length (nl.flatMap alC) := by
            have h1 := hslF.takeF alC_len (j := nl.length) (by simp)
            rwa [List.take_left] at h1
        have hgW : Grow w w13 := hgw.trans hgz13
        have hx6 : xs.length ≤ 6 := by have := congrArg List.length hxr; simp at this; omega
        clear hrF hrF' hmF
        refine RL.p rfl rfl ?_
        refine RL.done ?_
        iterate 2 refine RK.seq ?_
        refine RK.region ?_
        refine RL.p rfl rfl ?_
        refine RL.done ?_
        refine RK.block ?_
        refine RK.loop (fun i : Nat => [(0, .int .u64 now), (11, pp p), (14, .slice adF (nl.length + 1) cF), (17, .slice adr rl.length cr), (18, .slice adv xs.length cv), (22, .int .i64 (i : Int))]) (fun i w14 => Grow w13 w14 ∧ i ≤ nl.length + 1) (fun i => nl.length + 1 - i) 0 ⟨rfl, rfl, rfl, rfl, rfl, rfl, trivial⟩ ⟨Mod.refl _ _, by omega⟩ (fun i w14 hI ih => ?_)
        obtain ⟨hg14, hi⟩ := hI
        iterate 2 refine RK.seq ?_
        refine RK.region ?_
        iterate 2 refine RL.p rfl rfl ?_
        refine RL.q (.free rfl) rfl rfl (Yld.lenSl u79 rfl) ?_
        refine RL.p rfl rfl ?_
        refine RL.done ?_
        first | refine RK.condD rfl (fun h118 => ?_) (fun h118 => ?_) | refine RK.condN rfl (fun h118 => ?_) (fun h118 => ?_) | refine RK.cond rfl (fun h118 => ?_) (fun h118 => ?_)
        · obtain ⟨x, hxi⟩ : ∃ x, (nl ++ [t])[i]? = some x := ⟨(nl ++ [t])[i]'(by simp; omega), List.getElem?_eq_getElem (by simp; omega)⟩
          have hxk : AlOk No w13 x := by
              rcases List.mem_append.1 (List.mem_of_getElem? hxi) with h | h
              · exact hnkF x h
              · rw [List.mem_singleton] at h; subst h; exact htF
          obtain ⟨b1, o1, c1', he1, _, _, hc1⟩ := hslF.elem alC_len hxi
          rw [List.length_append, List.length_singleton] at he1
          cases he1
          refine RK.skip ?_
          refine RK.seq ?_
          refine RK.block ?_
          refine RK.seq ?_
          refine RK.region ?_
          iterate 3 refine RL.p rfl rfl ?_
          refine RL.q (.free rfl) rfl rfl (Yld.indexAddrN u79 i82 rfl rfl (by omega)) ?_
          refine RL.q (.free rfl) rfl rfl (Yld.loadN (cs := alC x) a82 rfl (atN (fun q z hq => hg14.cell (hc1 q z hq) (fun h => h)))) ?_
          iterate 2 refine RL.p rfl rfl ?_
          refine RL.op (.free rfl) rfl rfl (Does.call rfl e40 (decide_ok now x p s O M xs _ nl No _ _ (hzF.grow hg14) hgz (Sl.own (hrvF.mod hg14 (fun _ _ h => h)) (fun _ _ h => h)) (fun y h => (hxF y h).grow hg14) hx6 (hxk.mod hg14))) ?_
          rintro _ w15 ⟨v1, v2, rfl, hv1, hv2, hg15⟩
          have hg1415 := hg14.trans hg15
          have hgd := hg1415.trans (Mod.drew No w15)
          iterate 5 refine RL.p rfl rfl ?_
          refine RL.done ?_
          refine RK.seq ?_
          refine RK.drawM No [(0, false), (1, false), (2, false), (3, false), (4, false), (5, false), (6, false), (8, false), (9, false), (10, false), (11, false), (12, false), (13, false), (7, true), (14, true), (15, false), (16, false), (17, false), (18, false), (19, false)] [] mixed (by kernel_rfl) ?_
          iterate 3 refine DL.p rfl rfl rfl ?_
          refine DL.qf rfl (.free rfl) rfl rfl (Yld.indexAddrN u79 i82 rfl rfl (by omega)) ?_
          refine DL.q rfl (.free rfl) rfl rfl rfl (Yld.loadN (cs := alC x) a82 rfl (atNM (fun q z hq => hg1415.cell (hc1 q z hq) (fun h => h)) (fun h => h))) (Mod.drew _ _) ?_
          iterate 4 refine DL.p rfl rfl rfl ?_
          refine DL.q rfl (.free rfl) rfl rfl rfl (Yld.lenSl u79 rfl) (Mod.drew _ _) ?_
          refine DL.p rfl rfl rfl ?_
          refine DL.re (d := 144) rfl rfl (sub_i64 (z := (nl.length : Int)) (by omega) (by omega) (by omega)) ?_
          refine DL.qf rfl (.free rfl) rfl rfl (Yld.sliceHi u79 i82 (m := nl.length) rfl rfl (by omega)) ?_
          refine DL.p rfl rfl rfl ?_
          refine DL.op rfl (.free rfl) rfl rfl (Does.call rfl e17 (listRow_ok _ p s O M (hzF.grow hgd) hgz now 0 (fun a ha => (hzz a ha).2))) ?_
          rintro u16 w16 ⟨⟨tl, htl, hr16, hm16⟩, hf16, hg16⟩
          have hd16 := (Mod.drew No w15).trans hg16
          refine ⟨hd16, ?_⟩
          have htl12 : tl.length ≤ 12 := by have h1 := congrArg List.length htl; rw [listZ_all] at h1; simp only [List.length_map] at h1; have := hgz.le; omega
          have hg1316 := hg1415.trans hd16
          have hP : PlainIn w16 x tl u16 nl (.slice (some ⟨b1, o1, none⟩) nl.length cF) rl (.slice adr rl.length cr) := ⟨hxk.mod hg1316, Sl.own hr16 (fun _ _ h => h), fun y h => Sl.own (hm16 y h) (fun _ _ h => h), hsnF.mod hg1316, fun y h => (hnkF y h).mod hg1316, Sl.own (hrrF.mod hg1316 (fun _ _ h => h)) (fun _ _ h => h), fun r h => (hrlF r h).mod hg1316, by omega, by omega, by omega⟩
          refine DL.op rfl (.free rfl) rfl rfl (Does.call rfl e41 (plain_ok now x tl _ nl _ rl _ _ hP)) ?_
          rintro _ w17 ⟨v3, v4, rfl, hv3, hv4, hg17⟩
          refine ⟨hd16.trans hg17, ?_⟩
          have heq1 : holdsZ now x.ls x.val s.sl = mkRow (silS now x tl) := by rw [sil_two htl, mkRow_id (holds_ris hgz _ _ _)]
          have heq2 : decS x xs = mkRow (mutS x nl rl) := decS_plain hxF hxr
          have hg1517 := hd16.trans hg17
          iterate 5 refine DL.p rfl rfl rfl ?_
          refine DL.done ?_
          refine RK.seq ?_
          refine RK.region ?_
          iterate 2 refine RL.p rfl rfl ?_
          refine RL.op (.free rfl) rfl rfl (Does.call rfl e27 (sameInts_ok No _ _ _ _ _ (Sl.own (hv1.mod hg1517 (fun _ _ h => h)) (fun _ _ h => h)) (Sl.own hv3 (fun _ _ h => h)))) ?_
          rintro _ w18 ⟨rfl, hg18⟩
          iterate 2 refine RL.p rfl rfl ?_
          refine RL.knownF (d := 154) rfl rfl (by rw [heq1]; simp) ?_
          iterate 2 refine RL.q (.yes rfl rfl rfl) rfl rfl (Yld.pure rfl) ?_
          refine RL.op (.yes rfl rfl rfl) rfl rfl (Does.call rfl e27 (sameInts_ok No _ _ _ _ _ (Sl.own ((hv2.mod hg1517 (fun _ _ h => h)).mod hg18 (fun _ _ h => h)) (fun _ _ h => h)) (Sl.own (hv4.mod hg18 (fun _ _ h => h)) (fun _ _ h => h)))) ?_
          rintro _ w19 ⟨rfl, hg19⟩
          refine RL.q (.yes rfl rfl rfl) rfl rfl (Yld.pure rfl) ?_
          refine RL.p rfl rfl ?_
          refine RL.done ?_
          refine RK.condF (hcF rfl (by rw [heq2]; simp)) ?_
          refine RK.skip ?_
          refine RK.inBlock ?_
          refine RK.region ?_
          iterate 2 refine RL.p rfl rfl ?_
          refine RL.re (d := 120) rfl rfl (succ_i64 (by omega)) ?_
          refine RL.p rfl rfl ?_
          refine RL.done ?_
          exact RK.back (ih (i + 1) _ ⟨((hg1316.trans hg17).trans hg18).trans hg19, by omega⟩ (by omega)) ⟨rfl, rfl, rfl, rfl, rfl, rfl, trivial⟩
        · refine RK.exit rfl ?_
          refine RK.seq ?_
          refine RK.region ?_
          refine RL.op (.free rfl) rfl rfl (Does.call rfl e42 (mruns_ok _)) ?_
          rintro _ w15 ⟨rfl, hg15⟩
          refine RL.p rfl rfl ?_
          refine RL.done ?_
          refine RK.ret_of Tryz.func9 (res1 rfl rfl) ?_ _
          exact ⟨_, rfl, rfl, (hgW.trans hg14).trans hg15⟩
end Go.Proofs.YtbcbfjnlnmhpbaaGreat
set_option linter.unusedVariables false
namespace Go.X
open Go Go.RowKit Go.WideShapes Go.ChangeShapes
section
variable {H : Type} {enc : TypeId × Value → H} {P : Program} {W : World} {base : Nat} {sp : Nat → Bool} {held : Bool}
theorem trod_list {α : Type} (f : α → List Value) (Q : α → Prop) {sz : Nat} (hf : ∀ x, (f x).length = sz) {t e : TypeId} {m0 : Nat} {cs0 : List Value} {y : DataW H × List MemPlace} (ht : P.underlying t = some (.slice e)) (hc : P.cellsOf e = sz) (hsz : 0 < sz) (hd : DataW.trod enc P W 0 sp held m0 t cs0 = some y)
    (hel : ∀ (m : Nat) (cs : List Value) (y : DataW H × List MemPlace), DataW.trod enc P W 0 sp held m e cs = some y → ∃ x, cs = f x ∧ Q x) : ∃ (v : Value) (xs : List α), cs0 = [v] ∧ Sl No W v sz xs.length (xs.flatMap f) ∧ (∀ x ∈ xs, Q x) ∧ xs.length ≤ maxLen := by
  rcases DataW.trod_slice ht hd with ⟨h0, _⟩ | ⟨a', len, cap, elems, rest, n, _, hcs, _, _, hl, hm, hlen, hall, _⟩
  · subst h0
    exact ⟨_, [], rfl, Sl.nil _ _ _ _ _, by simp, by simp⟩
  · subst hcs
    rw [hc] at hall
    have key : ∀ i, i < len → ∃ x, Q x ∧ ∀ j u, (f x)[j]? = some u → W.cell? (a'.add (i * sz) |>.add j) = some u := by
      intro i hi
      have h1 := hall i hi
      rw [List.getElem?_eq_getElem (by omega)] at h1
      rw [Option.bind_eq_some_iff] at h1
      obtain ⟨cs, h2, h3⟩ := h1
      obtain ⟨x, rfl, hQ⟩ := hel n cs _ h3
      refine ⟨x, hQ, fun j u hj => ?_⟩
      have hj' : j < sz := by have := (List.getElem?_eq_some_iff.1 hj).1; rwa [hf] at this
      rw [(World.cells?_some h2).2.2 j hj', hj]
    have build : ∀ k, k ≤ len → ∃ xs : List α, xs.length = k ∧ (∀ x ∈ xs, Q x) ∧ ∀ i x, xs[i]? = some x → ∀ j u, (f x)[j]? = some u → W.cell? (a'.add (i * sz) |>.add j) = some u := by
      intro k
      induction k with
      | zero => intro _; exact ⟨[], rfl, by simp, by simp⟩
      | succ k ih =>
        intro hk
        obtain ⟨xs, h1, h2, h3⟩ := ih (by omega)
        obtain ⟨x, hQ, hx⟩ := key k (by omega)
        refine ⟨xs ++ [x], by simp [h1], fun y hy => ?_, fun i y hy => ?_⟩
        · rcases List.mem_append.1 hy with h | h
          · exact h2 y h
          · simp at h; subst h; exact hQ
        · by_cases hi : i < xs.length
          · rw [List.getElem?_append_left hi] at hy; exact h3 i y hy
          · have : i = k := by
              have := (List.getElem?_eq_some_iff.1 hy).1
              simp at this; omega
            subst this
            rw [List.getElem?_append_right (by omega), h1] at hy
            simp at hy; subst hy
            exact hx
    obtain ⟨xs, h1, h2, h3⟩ := build len (Nat.le_refl _)
    refine ⟨_, xs, rfl, ⟨flat_len f sz hf xs, by simp only [maxLen] at hm; omega, some a', cap, by rw [h1], fun hn => ?_⟩, h2, by omega⟩
    obtain ⟨b, o, spot⟩ := a'
    obtain ⟨x0, hx0⟩ : ∃ x, xs[0]? = some x := ⟨xs[0]'hn, List.getElem?_eq_getElem hn⟩
    have hu0 : 0 < (f x0).length := by rw [hf]; exact hsz
    have h4 := h3 0 x0 hx0 0 _ (List.getElem?_eq_getElem hu0)
    have hspot : spot = none := by simpa [Addr.add] using World.cell?_spot h4
    subst hspot
    refine ⟨b, o, rfl, fun h => h, fun j u hj => ?_⟩
    have hjl := (List.getElem?_eq_some_iff.1 hj).1
    rw [flat_len f sz hf] at hjl
    have hdm : j / sz * sz + j % sz = j := by rw [Nat.mul_comm]; exact Nat.div_add_mod j sz
    have hq : j / sz < xs.length := Nat.div_lt_of_lt_mul (by rw [Nat.mul_comm]; exact hjl)
    have hr : j % sz < sz := Nat.mod_lt _ hsz
    have hx := List.getElem?_eq_getElem hq
    have h5 := flat_get f sz hf xs (j / sz) (j % sz) _ hx hr
    rw [hdm, hj] at h5
    have h6 := h3 (j / sz) _ hx (j % sz) u h5.symm
    rw [add_none, add_none, Nat.add_assoc, hdm] at h6
    exact h6
theorem trod_int {s m : Nat} {k : IntKind} {cs : List Value} {y : DataW H × List MemPlace} (hs : P.underlying s = some (.int k)) (h : DataW.trod enc P W base sp held m s cs = some y) : ∃ b : Int, cs = [.int k b] ∧ (Lit.int k b).wf = true := by
  cases m with
  | zero => simp [DataW.trod] at h
  | succ n =>
    unfold DataW.trod at h
    rw [hs] at h
    split at h <;> simp_all
theorem trod_fields {t m : Nat} {fs : Array Field} {cs : List Value} {y : DataW H × List MemPlace} (ht : P.underlying t = some (.struct fs)) (h : DataW.trod enc P W base sp held m t cs = some y) : cs.length = P.cellsOf t ∧ ∀ (i : Nat) (f : Field), fs[i]? = some f → ∃ n y', DataW.trod enc P W base sp held n f.type ((cs.drop f.offset).take (P.cellsOf f.type)) = some y' := by
  obtain ⟨xs, n, _, _, hl, hxl, hx⟩ := DataW.trod_struct ht h
  refine ⟨hl, fun i f hf => ?_⟩
  have h1 := hx i f hf
  have hi : i < fs.size := (Array.getElem?_eq_some_iff.1 hf).1
  rw [List.getElem?_eq_getElem (by omega)] at h1
  exact ⟨n, _, h1⟩
theorem trod_3 {t m t0 t1 t2 : Nat} {fs : Array Field} {cs : List Value} {y : DataW H × List MemPlace} (ht : P.underlying t = some (.struct fs)) (hfs : fs.toList.map (fun f => (f.type, f.offset)) = [(t0, 0), (t1, 1), (t2, 2)]) (c0 : P.cellsOf t0 = 1) (c1 : P.cellsOf t1 = 1) (c2 : P.cellsOf t2 = 1) (ct : P.cellsOf t = 3)
    (h : DataW.trod enc P W base sp held m t cs = some y) : ∃ a b c, cs = [a, b, c] ∧ (∃ n y', DataW.trod enc P W base sp held n t0 [a] = some y') ∧ (∃ n y', DataW.trod enc P W base sp held n t1 [b] = some y') ∧ ∃ n y', DataW.trod enc P W base sp held n t2 [c] = some y' := by
  obtain ⟨hl, hx⟩ := trod_fields ht h
  have hsz : fs.toList.length = 3 := by have := congrArg List.length hfs; simpa using this
  obtain ⟨fl⟩ := fs
  match fl, hsz with
  | [f0, f1, f2], _ =>
    simp only [List.map_cons, List.map_nil, List.cons.injEq, Prod.mk.injEq, and_true] at hfs
    obtain ⟨⟨e0, o0⟩, ⟨e1, o1⟩, e2, o2⟩ := hfs
    rw [ct] at hl
    match cs, hl with
    | [a, b, c], _ =>
      have h0 := hx 0 f0 rfl
      have h1 := hx 1 f1 rfl
      have h2 := hx 2 f2 rfl
      rw [e0, o0, c0] at h0
      rw [e1, o1, c1] at h1
      rw [e2, o2, c2] at h2
      exact ⟨a, b, c, rfl, h0, h1, h2⟩
end
end Go.X
set_option linter.unusedVariables false
namespace Go.X
open Go Go.RowKit Go.WideShapes Go.ChangeShapes
section
variable {H : Type} {enc : TypeId × Value → H} {P : Program} {W : World} {base : Nat} {sp : Nat → Bool} {held : Bool}
theorem trod_r6 {t m t0 t1 t2 t3 : Nat} {fs : Array Field} {cs : List Value} {y : DataW H × List MemPlace} (ht : P.underlying t = some (.struct fs)) (hfs : fs.toList.map (fun f => (f.type, f.offset)) = [(t0, 0), (t1, 1), (t2, 2), (t3, 5)]) (c0 : P.cellsOf t0 = 1) (c1 : P.cellsOf t1 = 1) (c2 : P.cellsOf t2 = 3) (c3 : P.cellsOf t3 = 1) (ct : P.cellsOf t = 6)
    (h : DataW.trod enc P W base sp held m t cs = some y) : ∃ a b c d e f, cs = [a, b, c, d, e, f] ∧ (∃ n y', DataW.trod enc P W base sp held n t0 [a] = some y') ∧ (∃ n y', DataW.trod enc P W base sp held n t1 [b] = some y') ∧ (∃ n y', DataW.trod enc P W base sp held n t2 [c, d, e] = some y') ∧ ∃ n y', DataW.trod enc P W base sp held n t3 [f] = some y' := by
  obtain ⟨hl, hx⟩ := trod_fields ht h
  have hsz : fs.toList.length = 4 := by have := congrArg List.length hfs; simpa using this
  obtain ⟨fl⟩ := fs
  match fl, hsz with
  | [f0, f1, f2, f3], _ =>
    simp only [List.map_cons, List.map_nil, List.cons.injEq, Prod.mk.injEq, and_true] at hfs
    obtain ⟨⟨e0, o0⟩, ⟨e1, o1⟩, ⟨e2, o2⟩, e3, o3⟩ := hfs
    rw [ct] at hl
    match cs, hl with
    | [a, b, c, d, e, f], _ =>
      have h0 := hx 0 f0 rfl
      have h1 := hx 1 f1 rfl
      have h2 := hx 2 f2 rfl
      have h3 := hx 3 f3 rfl
      rw [e0, o0, c0] at h0
      rw [e1, o1, c1] at h1
      rw [e2, o2, c2] at h2
      rw [e3, o3, c3] at h3
      exact ⟨a, b, c, d, e, f, rfl, h0, h1, h2, h3⟩
theorem trod_s8 {t m t0 t1 t2 t3 t4 t5 : Nat} {fs : Array Field} {cs : List Value} {y : DataW H × List MemPlace} (ht : P.underlying t = some (.struct fs)) (hfs : fs.toList.map (fun f => (f.type, f.offset)) = [(t0, 0), (t1, 1), (t2, 2), (t3, 3), (t4, 4), (t5, 5)]) (c0 : P.cellsOf t0 = 1) (c1 : P.cellsOf t1 = 1) (c2 : P.cellsOf t2 = 1) (c3 : P.cellsOf t3 = 1) (c4 : P.cellsOf t4 = 1) (c5 : P.cellsOf t5 = 3) (ct : P.cellsOf t = 8)
    (h : DataW.trod enc P W base sp held m t cs = some y) : ∃ a b c d e f g i, cs = [a, b, c, d, e, f, g, i] ∧ (∃ n y', DataW.trod enc P W base sp held n t0 [a] = some y') ∧ (∃ n y', DataW.trod enc P W base sp held n t1 [b] = some y') ∧ (∃ n y', DataW.trod enc P W base sp held n t2 [c] = some y') ∧ (∃ n y', DataW.trod enc P W base sp held n t3 [d] = some y') ∧ (∃ n y', DataW.trod enc P W base sp held n t4 [e] = some y') ∧ ∃ n y', DataW.trod enc P W base sp held n t5 [f, g, i] = some y' := by
  obtain ⟨hl, hx⟩ := trod_fields ht h
  have hsz : fs.toList.length = 6 := by have := congrArg List.length hfs; simpa using this
  obtain ⟨fl⟩ := fs
  match fl, hsz with
  | [f0, f1, f2, f3, f4, f5], _ =>
    simp only [List.map_cons, List.map_nil, List.cons.injEq, Prod.mk.injEq, and_true] at hfs
    obtain ⟨⟨e0, o0⟩, ⟨e1, o1⟩, ⟨e2, o2⟩, ⟨e3, o3⟩, ⟨e4, o4⟩, e5, o5⟩ := hfs
    rw [ct] at hl
    match cs, hl with
    | [a, b, c, d, e, f, g, i], _ =>
      have h0 := hx 0 f0 rfl
      have h1 := hx 1 f1 rfl
      have h2 := hx 2 f2 rfl
      have h3 := hx 3 f3 rfl
      have h4 := hx 4 f4 rfl
      have h5 := hx 5 f5 rfl
      rw [e0, o0, c0] at h0
      rw [e1, o1, c1] at h1
      rw [e2, o2, c2] at h2
      rw [e3, o3, c3] at h3
      rw [e4, o4, c4] at h4
      rw [e5, o5, c5] at h5
      exact ⟨a, b, c, d, e, f, g, i, rfl, h0, h1, h2, h3, h4, h5⟩
theorem open_int {k : IntKind} {t : TypeId} {r : Reach} {b0 : Nat} {v : Value} (ht : P.underlying t = some (.int k)) (hval : Value.okWide P W r b0 t v) : ∃ n : Int, v = .int k n := by
  simp only [Value.okWide, ht, Cell.okWide, Cell.ok] at hval
  cases v with
  | int k' n =>
    obtain ⟨rfl, h⟩ := hval
    exact ⟨n, rfl⟩
  | _ => simp at hval
end
end Go.X
