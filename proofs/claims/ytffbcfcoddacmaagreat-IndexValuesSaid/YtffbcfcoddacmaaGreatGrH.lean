import Derived.Test.YtffbcfcoddacmaaGreatGrK
import Derived.Test.YtffbcfcoddacmaaGreatGrG
/- The document's own alerts: made, read, resolved. -/
set_option linter.unusedVariables false
set_option linter.unusedSimpArgs false
set_option maxHeartbeats 1000000
set_option maxRecDepth 100000
namespace Go.Proofs.YtffbcfcoddacmaaGreat
open Go Go.X

/-- The document's own alerts: their blocks are P, their labels keep off all of N. -/
structure RA (P N : Nat → Prop) (w : World) (r : Nat) (most last : Int) (vl : Value) (al : List Al) : Prop where
  blk : Blk w r 60 [.int .i64 most, vl, .int .i64 last]
  row : Row w 32 3 vl al.length (al.flatMap alC)
  sls : ∀ a ∈ al, SlL N w a.v a.ls
  own : ∀ b, P b ↔ b = r ∨ vl.ownBlock = some b
  sub : ∀ b, P b → N b
  ltN : ∀ b, N b → b < w.heap.size
def RAt (P N : Nat → Prop) (w : World) (r : Nat) (most last : Int) (L : List AlS) : Prop := ∃ vl al, RA P N w r most last vl al ∧ al.map pub = L
theorem RA.lt {P N : Nat → Prop} {w : World} {r : Nat} {most last : Int} {vl : Value} {al : List Al} (h : RA P N w r most last vl al) {b : Nat} (hb : N b) : b < w.heap.size := h.ltN b hb
theorem RA.grow {P N : Nat → Prop} {w w' : World} {r : Nat} {most last : Int} {vl : Value} {al : List Al} (h : RA P N w r most last vl al) (hg : Grow w w') : RA P N w' r most last vl al :=
  ⟨h.blk.mod hg (fun h => h), h.row.mod hg (fun _ _ h => h), fun a ha => (h.sls a ha).mod (Mod.any' hg), h.own, h.sub, fun b e => Nat.lt_of_lt_of_le (h.ltN b e) hg.size⟩
theorem RAt.grow {P N : Nat → Prop} {w w' : World} {r : Nat} {most last : Int} {L : List AlS} (h : RAt P N w r most last L) (hg : Grow w w') : RAt P N w' r most last L := by
  obtain ⟨vl, al, h, e⟩ := h
  exact ⟨vl, al, h.grow hg, e⟩
/-- What others do to blocks of theirs; what is kept off anew. -/
theorem RA.pass {P N N' Q : Nat → Prop} {w w' : World} {r : Nat} {most last : Int} {vl : Value} {al : List Al} (h : RA P N w r most last vl al) (hm : Mod Q w w') (h1 : ∀ b, P b → ¬ Q b) (h2 : ∀ b, Q b → b < w.heap.size → N b) (h3 : ∀ b, P b → N' b) (h4 : ∀ b, N' b → N b ∨ w.heap.size ≤ b) (h5 : ∀ b, N' b → b < w'.heap.size) : RA P N' w' r most last vl al :=
  ⟨h.blk.mod hm (h1 r ((h.own r).2 (.inl rfl))), h.row.mod hm (fun b e => h1 b ((h.own b).2 (.inr e))), fun a ha => (h.sls a ha).pass (by omega) (hm.mono fun b hb e => h2 b e hb) h4, h.own, h3, h5⟩
theorem RAt.pass {P N N' Q : Nat → Prop} {w w' : World} {r : Nat} {most last : Int} {L : List AlS} (h : RAt P N w r most last L) (hm : Mod Q w w') (h1 : ∀ b, P b → ¬ Q b) (h2 : ∀ b, Q b → b < w.heap.size → N b) (h3 : ∀ b, P b → N' b) (h4 : ∀ b, N' b → N b ∨ w.heap.size ≤ b) (h5 : ∀ b, N' b → b < w'.heap.size) : RAt P N' w' r most last L := by
  obtain ⟨vl, al, h, e⟩ := h
  exact ⟨vl, al, h.pass hm h1 h2 h3 h4 h5, e⟩
theorem RAt.lt {P N : Nat → Prop} {w : World} {r : Nat} {most last : Int} {L : List AlS} (h : RAt P N w r most last L) {b : Nat} (hb : N b) : b < w.heap.size := by
  obtain ⟨vl, al, h, _⟩ := h
  exact h.lt hb
theorem RAt.sub {P N : Nat → Prop} {w : World} {r : Nat} {most last : Int} {L : List AlS} (h : RAt P N w r most last L) {b : Nat} (hb : P b) : N b := by
  obtain ⟨vl, al, h, _⟩ := h
  exact h.sub b hb
theorem held_ok (n : Int) (w : World) : Fx Tryz.prog 91 [.int .i64 n, .int .i64 1, .int .i64 16] w (fun u w' => u = .int .i64 (capS n) ∧ w = w') := by
  refine enter Tryz.func91 rfl rfl rfl _ (Pick.sub (l := [0, 1, 2]) (.cons rfl (.cons rfl (.cons rfl .nil)))) ?_
  refine RK.seq ?_
  refine RK.region ?_
  refine RL.p rfl rfl ?_
  refine RL.done ?_
  iterate 2 refine RK.seq ?_
  refine RK.region ?_
  iterate 3 refine RL.p rfl rfl ?_
  refine RL.done ?_
  first | refine RK.condD rfl (fun h9 => ?_) (fun h9 => ?_) | refine RK.condN rfl (fun h9 => ?_) (fun h9 => ?_) | refine RK.cond rfl (fun h9 => ?_) (fun h9 => ?_)
  · refine RK.seq ?_
    refine RK.region ?_
    iterate 2 refine RL.p rfl rfl ?_
    refine RL.done ?_
    refine RK.ret_of Tryz.func91 (res1 rfl rfl) ?_ _
    exact ⟨_, rfl, congrArg _ (by unfold capS; split <;> (try split) <;> omega), rfl⟩
  · refine RK.skip ?_
    iterate 2 refine RK.seq ?_
    refine RK.region ?_
    iterate 3 refine RL.p rfl rfl ?_
    refine RL.done ?_
    first | refine RK.condD rfl (fun h13 => ?_) (fun h13 => ?_) | refine RK.condN rfl (fun h13 => ?_) (fun h13 => ?_) | refine RK.cond rfl (fun h13 => ?_) (fun h13 => ?_)
    · refine RK.seq ?_
      refine RK.region ?_
      iterate 2 refine RL.p rfl rfl ?_
      refine RL.done ?_
      refine RK.ret_of Tryz.func91 (res1 rfl rfl) ?_ _
      exact ⟨_, rfl, congrArg _ (by unfold capS; split <;> (try split) <;> omega), rfl⟩
    · refine RK.skip ?_
      refine RK.seq ?_
      refine RK.region ?_
      iterate 2 refine RL.p rfl rfl ?_
      refine RL.done ?_
      refine RK.ret_of Tryz.func91 (res1 rfl rfl) ?_ _
      exact ⟨_, rfl, congrArg _ (by unfold capS; split <;> (try split) <;> omega), rfl⟩
theorem newAlerts_ok (n : Int) (w : World) : Fx Tryz.prog 32 [.int .i64 n] w (fun u w' => ∃ r N, u = pp r ∧ RAt N N w' r (capS n) 0 [] ∧ (∀ b, N b → w.heap.size ≤ b) ∧ Grow w w') := by
  refine enter Tryz.func32 rfl rfl rfl _ (Pick.sub (l := [0]) (.cons rfl .nil)) ?_
  refine RK.seq ?_
  refine RK.region ?_
  refine RL.p rfl rfl ?_
  refine RL.done ?_
  refine RK.seq ?_
  refine RK.region ?_
  refine RL.p rfl rfl ?_
  refine RL.op (.free rfl) rfl rfl (Does.call rfl e91 (held_ok n _)) ?_
  rintro _ _ ⟨rfl, rfl⟩
  refine RL.q (.free rfl) rfl rfl (Yld.build (v := .agg #[.int .i64 (capS n), .slice none 0 0, .int .i64 0]) rfl (fun w => by kernel_rfl)) ?_
  refine RL.op (.free rfl) rfl rfl (Does.box rfl) ?_
  rintro _ w2 ⟨r, rfl, hn⟩
  refine RL.p rfl rfl ?_
  refine RL.done ?_
  refine RK.ret_of Tryz.func32 (res1 rfl rfl) ?_ _
  exact ⟨_, rfl, r, fun b => b = r, rfl, ⟨.slice none 0 0, [], ⟨hn.blk, Row.nil _ _ _, by simp, fun b => by simp [Value.ownBlock], fun _ e => e, fun b e => by have e' : b = r := e; rw [e']; exact hn.blk.lt⟩, rfl⟩, fun b e => by have e' : b = r := e; have := hn.at_; omega, hn.grow⟩
theorem fromBits_ok (b : Nat) (w : World) : Fx Tryz.prog 168 [.int .u64 ((canS b : Nat) : Int)] w (fun u w' => u = .tuple #[.float .f64 (canS b), .bool true] ∧ w = w') := by
  have hc : nanS (canS b) = true → canS b = 9221120237041090561 := fun h => by
    unfold canS at h ⊢
    split
    · rfl
    · rename_i hn; rw [if_neg hn] at h; exact absurd h hn
  have hno : nanS (canS b) = (Ieee.double.order (canS b) (canS b) != some .eq) := by unfold nanS; rfl
  refine enter Tryz.func168 rfl rfl rfl _ (Pick.sub (l := [0]) (.cons rfl .nil)) ?_
  refine RK.seq ?_
  refine RK.region ?_
  iterate 2 refine RL.p rfl rfl ?_
  refine RL.done ?_
  refine RK.seq ?_
  refine RK.region ?_
  refine RL.p rfl rfl ?_
  refine RL.q (.free rfl) rfl rfl (Yld.callx rfl (fun w => x124 _ w)) ?_
  refine RL.p rfl rfl ?_
  refine RL.done ?_
  iterate 2 refine RK.seq ?_
  refine RK.region ?_
  iterate 4 refine RL.p rfl rfl ?_
  first | refine RL.splitD (d := 10) rfl rfl (fun h10 => ?_) (fun h10 => ?_) | refine RL.splitN (d := 10) rfl rfl (fun h10 => ?_) (fun h10 => ?_) | refine RL.split (d := 10) rfl rfl (fun h10 => ?_) (fun h10 => ?_)
  · iterate 2 refine RL.q (.yes rfl rfl rfl) rfl rfl (Yld.pure rfl) ?_
    refine RL.p rfl rfl ?_
    refine RL.done ?_
    first | refine RK.condD rfl (fun h13 => ?_) (fun h13 => ?_) | refine RK.condN rfl (fun h13 => ?_) (fun h13 => ?_) | refine RK.cond rfl (fun h13 => ?_) (fun h13 => ?_)
    · refine RK.seq ?_
      refine RK.region ?_
      iterate 2 refine RL.p rfl rfl ?_
      refine RL.done ?_
      refine RK.ret_of Tryz.func168 (res2 rfl rfl rfl) ?_ _
      exact ⟨_, rfl, by first
          | rfl
          | (exfalso; have e9 := hc (hno.trans h10); omega), rfl⟩
    · refine RK.skip ?_
      refine RK.seq ?_
      refine RK.region ?_
      iterate 3 refine RL.p rfl rfl ?_
      refine RL.done ?_
      refine RK.ret_of Tryz.func168 (res2 rfl rfl rfl) ?_ _
      exact ⟨_, rfl, by first
          | rfl
          | (exfalso; have e9 := hc (hno.trans h10); omega), rfl⟩
  · iterate 2 refine RL.no (.no rfl rfl rfl rfl) rfl rfl ?_
    refine RL.p rfl rfl ?_
    refine RL.done ?_
    refine RK.condF rfl ?_
    refine RK.skip ?_
    refine RK.seq ?_
    refine RK.region ?_
    iterate 3 refine RL.p rfl rfl ?_
    refine RL.done ?_
    refine RK.ret_of Tryz.func168 (res2 rfl rfl rfl) ?_ _
    exact ⟨_, rfl, by first
        | rfl
        | (exfalso; have e9 := hc (hno.trans h10); omega), rfl⟩
theorem kept_okR (b : Nat) (w : World) : Fx Tryz.prog 134 [.float .f64 b] w (fun u w' => u = .float .f64 (canS b) ∧ w = w') := by
  refine enter Tryz.func134 rfl rfl rfl _ (Pick.sub (l := [0]) (.cons rfl .nil)) ?_
  refine RK.seq ?_
  refine RK.region ?_
  refine RL.p rfl rfl ?_
  refine RL.done ?_
  refine RK.seq ?_
  refine RK.region ?_
  refine RL.p rfl rfl ?_
  refine RL.op (.free rfl) rfl rfl (Does.call rfl e22 (bits1_ok b _)) ?_
  rintro _ _ ⟨rfl, rfl⟩
  rw [bits_can]
  refine RL.op (.free rfl) rfl rfl (Does.call rfl e168 (fromBits_ok b _)) ?_
  rintro _ _ ⟨rfl, rfl⟩
  iterate 5 refine RL.p rfl rfl ?_
  refine RL.done ?_
  refine RK.seq ?_
  refine RK.region ?_
  iterate 2 refine RL.p rfl rfl ?_
  refine RL.done ?_
  refine RK.ret_of Tryz.func134 (res1 rfl rfl) ?_ _
  exact ⟨_, rfl, rfl, rfl⟩
theorem sameAlerts_ok (M M' : Nat → Prop) (a1 a2 : List Al) (v1 v2 : Value) (w : World) (h1 : Sl No w v1 3 a1.length (a1.flatMap alC)) (h2 : Sl No w v2 3 a2.length (a2.flatMap alC)) (s1 : ∀ a ∈ a1, SlL M w a.v a.ls) (s2 : ∀ a ∈ a2, SlL M' w a.v a.ls) (he : a1.map pub = a2.map pub) :
    Fx Tryz.prog 35 [v1, v2] w (fun u w' => u = .bool true ∧ Grow w w') := by
  obtain ⟨ad1, c1, rfl⟩ := h1.shape
  obtain ⟨ad2, c2, rfl⟩ := h2.shape
  have hbig := h1.big
  have hl : a1.length = a2.length := by have := congrArg List.length he; simpa using this
  refine enter Tryz.func35 rfl rfl rfl _ (Pick.sub (l := [0, 1]) (.cons rfl (.cons rfl .nil))) ?_
  refine RK.seq ?_
  refine RK.region ?_
  refine RL.p rfl rfl ?_
  refine RL.done ?_
  iterate 2 refine RK.seq ?_
  refine RK.region ?_
  refine RL.p rfl rfl ?_
  refine RL.q (.free rfl) rfl rfl (Yld.lenSl u58 rfl) ?_
  refine RL.p rfl rfl ?_
  refine RL.q (.free rfl) rfl rfl (Yld.lenSl u58 rfl) ?_
  refine RL.p rfl rfl ?_
  refine RL.done ?_
  refine RK.condF (hcF rfl (decide_eq_false (by omega))) ?_
  refine RK.skip ?_
  iterate 2 refine RK.seq ?_
  refine RK.region ?_
  refine RL.p rfl rfl ?_
  refine RL.done ?_
  refine RK.block ?_
  refine RK.loop (fun k : Nat => [(0, .slice ad1 a1.length c1), (1, .slice ad2 a2.length c2), (5, .int .i64 k)]) (fun k w' => Grow w w' ∧ k ≤ a1.length) (fun k => a1.length - k) 0 ⟨rfl, rfl, rfl, trivial⟩ ⟨Mod.refl _ _, by omega⟩ (fun k w' hI ih => ?_)
  obtain ⟨hg, hk⟩ := hI
  iterate 2 refine RK.seq ?_
  refine RK.region ?_
  iterate 2 refine RL.p rfl rfl ?_
  refine RL.q (.free rfl) rfl rfl (Yld.lenSl u58 rfl) ?_
  refine RL.p rfl rfl ?_
  refine RL.done ?_
  first | refine RK.condD rfl (fun h14 => ?_) (fun h14 => ?_) | refine RK.condN rfl (fun h14 => ?_) (fun h14 => ?_) | refine RK.cond rfl (fun h14 => ?_) (fun h14 => ?_)
  · obtain ⟨x, hx⟩ : ∃ x, a1[k]? = some x := ⟨a1[k]'(by omega), List.getElem?_eq_getElem (by omega)⟩
    obtain ⟨y, hy⟩ : ∃ y, a2[k]? = some y := ⟨a2[k]'(by omega), List.getElem?_eq_getElem (by omega)⟩
    have hxy : pub x = pub y := by
        have := congrArg (fun l => l[k]?) he
        simpa [hx, hy] using this
    simp only [pub, Prod.mk.injEq] at hxy
    obtain ⟨e1, e2, e3⟩ := hxy
    obtain ⟨b1, o1, c1', he1, _, _, hc1⟩ := h1.elem alC_len hx
    obtain ⟨b2, o2, c2', he2, _, _, hc2⟩ := h2.elem alC_len hy
    cases he1
    cases he2
    have sx := s1 x (List.mem_of_getElem? hx)
    have sy := s2 y (List.mem_of_getElem? hy)
    refine RK.skip ?_
    refine RK.seq ?_
    refine RK.block ?_
    refine RK.seq ?_
    refine RK.drawM No [(0, false), (1, false), (2, false), (3, false), (4, false), (5, false), (6, false), (7, false), (8, false), (9, false), (10, false), (11, false), (12, false), (13, false), (14, false), (15, false), (16, false), (17, false), (18, false), (19, false), (20, false), (21, false), (22, true), (23, false), (24, false), (25, false), (26, false), (27, false), (28, false), (29, false), (30, false), (32, false), (33, false), (34, false), (35, false), (36, false), (31, true), (37, true), (38, false), (39, false)] [] mixed (by kernel_rfl) ?_
    iterate 2 refine DL.p rfl rfl rfl ?_
    refine DL.qf rfl (.free rfl) rfl rfl (Yld.indexAddrN u58 i32 rfl rfl (by omega)) ?_
    refine DL.qf rfl (.free rfl) rfl rfl (Yld.fieldAddr fo32_0 rfl) ?_
    refine DL.q rfl (.free rfl) rfl rfl rfl (Yld.load p3 rfl (atM (hg.cell (hc1 0 _ rfl) (fun h => h)) (fun h => h))) (Mod.drew _ _) ?_
    iterate 2 refine DL.p rfl rfl rfl ?_
    refine DL.qf rfl (.free rfl) rfl rfl (Yld.indexAddrN u58 i32 rfl rfl (by omega)) ?_
    refine DL.qf rfl (.free rfl) rfl rfl (Yld.fieldAddr fo32_0 rfl) ?_
    refine DL.q rfl (.free rfl) rfl rfl rfl (Yld.load p3 rfl (atM (hg.cell (hc2 0 _ rfl) (fun h => h)) (fun h => h))) (Mod.drew _ _) ?_
    iterate 2 refine DL.p rfl rfl rfl ?_
    refine DL.knownF (d := 28) rfl rfl (decide_eq_false (by omega)) ?_
    iterate 2 refine DL.qf rfl (.yes rfl rfl rfl) rfl rfl (Yld.pure rfl) ?_
    refine DL.qf rfl (.yes rfl rfl rfl) rfl rfl (Yld.indexAddrN u58 i32 rfl rfl (by omega)) ?_
    refine DL.qf rfl (.yes rfl rfl rfl) rfl rfl (Yld.fieldAddr fo32_1 rfl) ?_
    refine DL.q rfl (.yes rfl rfl rfl) rfl rfl rfl (Yld.load p26 rfl (atM (hg.cell (hc1 1 _ rfl) (fun h => h)) (fun h => h))) (Mod.drew _ _) ?_
    iterate 2 refine DL.qf rfl (.yes rfl rfl rfl) rfl rfl (Yld.pure rfl) ?_
    refine DL.qf rfl (.yes rfl rfl rfl) rfl rfl (Yld.indexAddrN u58 i32 rfl rfl (by omega)) ?_
    refine DL.qf rfl (.yes rfl rfl rfl) rfl rfl (Yld.fieldAddr fo32_1 rfl) ?_
    refine DL.q rfl (.yes rfl rfl rfl) rfl rfl rfl (Yld.load p26 rfl (atM (hg.cell (hc2 1 _ rfl) (fun h => h)) (fun h => h))) (Mod.drew _ _) ?_
    refine DL.op rfl (.yes rfl rfl rfl) rfl rfl (Does.call rfl e20 (sameLabels_ok M M' x.ls y.ls _ _ _ ((sx.mod (Mod.any' hg)).mod (Mod.drew _ _)) ((sy.mod (Mod.any' hg)).mod (Mod.drew _ _)))) ?_
    rintro _ w3 ⟨rfl, hg3⟩
    refine ⟨(Mod.drew _ _).trans hg3, ?_⟩
    have hgd : Grow w w3 := (hg.trans (Mod.drew _ _)).trans hg3
    refine DL.qf rfl (.yes rfl rfl rfl) rfl rfl (Yld.pure rfl) ?_
    iterate 2 refine DL.p rfl rfl rfl ?_
    refine DL.knownF (d := 42) rfl rfl (by simp [e2]) ?_
    iterate 2 refine DL.qf rfl (.yes rfl rfl rfl) rfl rfl (Yld.pure rfl) ?_
    refine DL.qf rfl (.yes rfl rfl rfl) rfl rfl (Yld.indexAddrN u58 i32 rfl rfl (by omega)) ?_
    refine DL.qf rfl (.yes rfl rfl rfl) rfl rfl (Yld.fieldAddr fo32_2 rfl) ?_
    refine DL.q rfl (.yes rfl rfl rfl) rfl rfl rfl (Yld.load p23 rfl (atM (hg.cell (hc1 2 _ rfl) (fun h => h)) (fun h => h))) ((Mod.drew _ _).trans hg3) ?_
    iterate 2 refine DL.qf rfl (.yes rfl rfl rfl) rfl rfl (Yld.pure rfl) ?_
    refine DL.qf rfl (.yes rfl rfl rfl) rfl rfl (Yld.indexAddrN u58 i32 rfl rfl (by omega)) ?_
    refine DL.qf rfl (.yes rfl rfl rfl) rfl rfl (Yld.fieldAddr fo32_2 rfl) ?_
    refine DL.q rfl (.yes rfl rfl rfl) rfl rfl rfl (Yld.load p23 rfl (atM (hg.cell (hc2 2 _ rfl) (fun h => h)) (fun h => h))) ((Mod.drew _ _).trans hg3) ?_
    refine DL.op rfl (.yes rfl rfl rfl) rfl rfl (Does.call rfl e22 (bits1_ok x.val _)) ?_
    rintro _ _ ⟨rfl, rfl⟩
    refine ⟨(Mod.drew _ _).trans hg3, ?_⟩
    refine DL.op rfl (.yes rfl rfl rfl) rfl rfl (Does.call rfl e22 (bits1_ok y.val _)) ?_
    rintro _ _ ⟨rfl, rfl⟩
    refine ⟨(Mod.drew _ _).trans hg3, ?_⟩
    refine DL.qf rfl (.yes rfl rfl rfl) rfl rfl (Yld.pure rfl) ?_
    refine DL.p rfl rfl rfl ?_
    refine DL.done ?_
    refine RK.condF (hcF rfl (by simp [e3])) ?_
    refine RK.skip ?_
    refine RK.inBlock ?_
    refine RK.region ?_
    iterate 2 refine RL.p rfl rfl ?_
    refine RL.re (d := 16) rfl rfl (succ_i64 (by omega)) ?_
    refine RL.p rfl rfl ?_
    refine RL.done ?_
    exact RK.back (ih (k + 1) _ ⟨hgd, by omega⟩ (by omega)) ⟨rfl, rfl, rfl, trivial⟩
  · refine RK.exit rfl ?_
    refine RK.seq ?_
    refine RK.region ?_
    refine RL.p rfl rfl ?_
    refine RL.done ?_
    refine RK.ret_of Tryz.func35 (res1 rfl rfl) ?_ _
    exact ⟨_, rfl, rfl, hg⟩
end Go.Proofs.YtffbcfcoddacmaaGreat

/- The document's own alerts: got, resolved, posted. -/
set_option linter.unusedVariables false
set_option linter.unusedSimpArgs false
set_option maxHeartbeats 1000000
set_option maxRecDepth 100000
namespace Go.Proofs.YtffbcfcoddacmaaGreat
open Go Go.X

theorem where_get {al : List Al} {id : Int} {k : Nat} {a : Al} (ha : al[k]? = some a) (he : a.id = id) (hno : ∀ (i : Nat) (b : Al), i < k → al[i]? = some b → b.id ≠ id) : whereI (al.map pub) id = some k := by
  unfold whereI
  obtain ⟨hk, e⟩ := List.getElem?_eq_some_iff.1 ha
  rw [List.findIdx?_eq_some_iff_getElem]
  refine ⟨by simpa using hk, by simp [e, pub, he], fun j hj => ?_⟩
  have := hno j al[j] hj (List.getElem?_eq_getElem (by omega))
  simpa [pub] using this
theorem where_no {al : List Al} {id : Int} (hno : ∀ (i : Nat) (b : Al), al[i]? = some b → b.id ≠ id) : whereI (al.map pub) id = none := where_none fun i a hi => by
  rw [List.getElem?_map] at hi
  cases h : al[i]? with
  | none => rw [h] at hi; cases hi
  | some b => rw [h] at hi; cases hi; exact hno i b h
theorem rget_ok (P N : Nat → Prop) (w : World) (r : Nat) (most last : Int) (vl : Value) (al : List Al) (h : RA P N w r most last vl al) (hb : al.length ≤ 1000000) (id : Int) :
    Fx Tryz.prog 34 [pp r, .int .i64 id] w (fun u w' => ∃ a : Al, pub a = ((whereI (al.map pub) id).bind fun i => (al.map pub)[i]?).getD (0, [], 0) ∧ u = .tuple #[.agg #[.int .i64 a.id, a.v, .float .f64 a.val], .bool (whereI (al.map pub) id).isSome] ∧ (∃ ad c, a.v = .slice ad a.ls.length c) ∧ SlL No w' a.v a.ls ∧ Grow w w') := by
  have hsl := Sl.own (M := No) h.row (fun _ _ h => h)
  obtain ⟨ad, c, rfl⟩ := h.row.slice
  refine enter Tryz.func34 rfl rfl rfl _ (Pick.sub (l := [0, 1]) (.cons rfl (.cons rfl .nil))) ?_
  refine RK.seq ?_
  refine RK.region ?_
  refine RL.op (.free rfl) rfl rfl (Does.alloc i32) ?_
  rintro _ w1 ⟨b4, rfl, hn4⟩
  refine RL.p rfl rfl ?_
  refine RL.done ?_
  iterate 2 refine RK.seq ?_
  refine RK.region ?_
  refine RL.p rfl rfl ?_
  refine RL.done ?_
  refine RK.block ?_
  refine RK.loop (fun k : Nat => [(0, pp r), (1, .int .i64 id), (4, pp b4), (6, .int .i64 k)]) (fun k w' => Grow w1 w' ∧ k ≤ al.length ∧ ∀ (i : Nat) (b : Al), i < k → al[i]? = some b → b.id ≠ id) (fun k => al.length - k) 0 ⟨rfl, rfl, rfl, rfl, trivial⟩ ⟨Mod.refl _ _, by omega, fun i b h => by omega⟩ (fun k w' hI ih => ?_)
  obtain ⟨hg1, hk, hno⟩ := hI
  have hg := hn4.grow.trans hg1
  have hB := h.blk.mod hg (fun h => h)
  have hB4 := hn4.blk.mod hg1 (fun h => h)
  iterate 2 refine RK.seq ?_
  refine RK.region ?_
  iterate 3 refine RL.p rfl rfl ?_
  refine RL.q (.free rfl) rfl rfl (Yld.fieldAddr fo60_1 rfl) ?_
  refine RL.q (.free rfl) rfl rfl (Yld.load p58 rfl (at1 (hB.cell rfl))) ?_
  refine RL.q (.free rfl) rfl rfl (Yld.lenSl u58 rfl) ?_
  refine RL.p rfl rfl ?_
  refine RL.done ?_
  first | refine RK.condD rfl (fun h13 => ?_) (fun h13 => ?_) | refine RK.condN rfl (fun h13 => ?_) (fun h13 => ?_) | refine RK.cond rfl (fun h13 => ?_) (fun h13 => ?_)
  · obtain ⟨a, ha⟩ : ∃ a, al[k]? = some a := ⟨al[k]'(by omega), List.getElem?_eq_getElem (by omega)⟩
    obtain ⟨b1, o1, c1', he1, _, _, hc1⟩ := hsl.elem alC_len ha
    cases he1
    have hsa := h.sls a (List.mem_of_getElem? ha)
    obtain ⟨ada, ca, hva⟩ := hsa.shape
    refine RK.skip ?_
    refine RK.seq ?_
    refine RK.block ?_
    refine RK.seq ?_
    refine RK.region ?_
    iterate 2 refine RL.p rfl rfl ?_
    refine RL.q (.free rfl) rfl rfl (Yld.fieldAddr fo60_1 rfl) ?_
    refine RL.q (.free rfl) rfl rfl (Yld.load p58 rfl (at1 (hB.cell rfl))) ?_
    refine RL.p rfl rfl ?_
    refine RL.q (.free rfl) rfl rfl (Yld.indexAddrN u58 i32 rfl rfl (by omega)) ?_
    refine RL.q (.free rfl) rfl rfl (Yld.fieldAddr fo32_0 rfl) ?_
    refine RL.q (.free rfl) rfl rfl (Yld.load p3 rfl (at1 (hg.cell (hc1 0 _ rfl) (fun h => h)))) ?_
    iterate 2 refine RL.p rfl rfl ?_
    refine RL.done ?_
    first | refine RK.condD rfl (fun h25 => ?_) (fun h25 => ?_) | refine RK.condN rfl (fun h25 => ?_) (fun h25 => ?_) | refine RK.cond rfl (fun h25 => ?_) (fun h25 => ?_)
    · have hwh := where_get ha h25 hno
      rw [hwh]
      obtain ⟨aid, als, aval, av⟩ := a
      simp only at hva hsa
      subst hva
      refine RK.seq ?_
      refine RK.region ?_
      iterate 2 refine RL.p rfl rfl ?_
      refine RL.q (.free rfl) rfl rfl (Yld.fieldAddr fo60_1 rfl) ?_
      refine RL.q (.free rfl) rfl rfl (Yld.load p58 rfl (at1 (hB.cell rfl))) ?_
      refine RL.p rfl rfl ?_
      refine RL.q (.free rfl) rfl rfl (Yld.indexAddrN u58 i32 rfl rfl (by omega)) ?_
      refine RL.q (.free rfl) rfl rfl (Yld.loadN (cs := [.int .i64 aid, .slice ada als.length ca, .float .f64 aval]) a32 rfl (atN (fun q u hq => hg.cell (hc1 q u hq) (fun h => h)))) ?_
      refine RL.op' (.free rfl) rfl (Does.storeN i32 rfl rfl rfl rfl hB4 (Nat.le_refl 3)) ?_
      rintro _ w5 ⟨hb5, hm5, _⟩
      have hg5 : Grow w w5 := hg.then hm5 (fun b hb e => by have e' : b = b4 := e; have := hn4.at_; omega)
      refine RL.p rfl rfl ?_
      refine RL.done ?_
      refine RK.ret_of Tryz.func34 (resCT (cs := [.int .i64 aid, .slice ada als.length ca, .float .f64 aval]) rfl rfl a32 hb5 rfl) ?_ _
      exact ⟨_, rfl, ⟨aid, als, aval, .slice ada als.length ca⟩, by simp [ha, pub], rfl, ⟨_, _, rfl⟩, hsa.noM.mod hg5, hg5⟩
    · refine RK.skip ?_
      refine RK.inBlock ?_
      refine RK.region ?_
      iterate 2 refine RL.p rfl rfl ?_
      refine RL.re (d := 15) rfl rfl (succ_i64 (by omega)) ?_
      refine RL.p rfl rfl ?_
      refine RL.done ?_
      exact RK.back (ih (k + 1) _ ⟨hg1, by omega, fun i b hi hb' => by by_cases e : i = k; (subst e; rw [ha] at hb'; cases hb'; exact h25); exact hno i b (by omega) hb'⟩ (by omega)) ⟨rfl, rfl, rfl, rfl, trivial⟩
  · have hwh : whereI (al.map pub) id = none := where_no fun i b hi => hno i b (by have := (List.getElem?_eq_some_iff.1 hi).1; omega) hi
    rw [hwh]
    refine RK.exit rfl ?_
    refine RK.seq ?_
    refine RK.region ?_
    refine RL.q (.free rfl) rfl rfl (Yld.build (v := .agg #[.int .i64 0, .slice none 0 0, .float .f64 0]) rfl (fun w => by kernel_rfl)) ?_
    refine RL.op' (.free rfl) rfl (Does.storeN i32 rfl rfl rfl rfl hB4 (Nat.le_refl 3)) ?_
    rintro _ w5 ⟨hb5, hm5, _⟩
    refine RL.p rfl rfl ?_
    refine RL.done ?_
    refine RK.ret_of Tryz.func34 (resCT (cs := [.int .i64 0, .slice none 0 0, .float .f64 0]) rfl rfl a32 hb5 rfl) ?_ _
    exact ⟨_, rfl, ⟨0, [], 0, .slice none 0 0⟩, rfl, rfl, ⟨_, _, rfl⟩, Sl.nil _ _ _ _ _, hg.then hm5 (fun b hb e => by have e' : b = b4 := e; have := hn4.at_; omega)⟩
def resolveR (L : List AlS) (id : Int) : List AlS × Int := match whereI L id with
  | none => (L, 5)
  | some i => (L.eraseIdx i, 0)
theorem rresolve_ok (P N : Nat → Prop) (w : World) (r : Nat) (most last : Int) (vl : Value) (al : List Al) (h : RA P N w r most last vl al) (hb : al.length ≤ 1000000) (id : Int) :
    Fx Tryz.prog 92 [pp r, .int .i64 id] w (fun u w' => ∃ P', u = .int .i64 (resolveR (al.map pub) id).2 ∧ RAt P' (fun b => N b ∨ P' b) w' r most last (resolveR (al.map pub) id).1 ∧ Mod P w w' ∧ ∀ b, P' b → P b ∨ w.heap.size ≤ b) := by
  have hsl := Sl.own (M := No) h.row (fun _ _ h => h)
  have hsh : ∀ a ∈ al, ∃ ad n c, a.v = .slice ad n c := fun a ha => by obtain ⟨ad, c, e⟩ := (h.sls a ha).shape; exact ⟨ad, _, c, e⟩
  obtain ⟨ad, c, rfl, hlc⟩ := h.row.cap
  have hPr : P r := (h.own r).2 (.inl rfl)
  have hNr := h.sub r hPr
  refine enter Tryz.func92 rfl rfl rfl _ (Pick.sub (l := [0, 1]) (.cons rfl (.cons rfl .nil))) ?_
  refine RK.seq ?_
  refine RK.region ?_
  refine RL.p rfl rfl ?_
  refine RL.done ?_
  iterate 2 refine RK.seq ?_
  refine RK.region ?_
  refine RL.p rfl rfl ?_
  refine RL.done ?_
  refine RK.block ?_
  refine RK.loop (fun k : Nat => [(0, pp r), (1, .int .i64 id), (5, .int .i64 k)]) (fun k w' => w = w' ∧ k ≤ al.length ∧ ∀ (i : Nat) (b : Al), i < k → al[i]? = some b → b.id ≠ id) (fun k => al.length - k) 0 ⟨rfl, rfl, rfl, trivial⟩ ⟨rfl, by omega, fun i b h => by omega⟩ (fun k w' hI ih => ?_)
  obtain ⟨rfl, hk, hno⟩ := hI
  iterate 2 refine RK.seq ?_
  refine RK.region ?_
  iterate 3 refine RL.p rfl rfl ?_
  refine RL.q (.free rfl) rfl rfl (Yld.fieldAddr fo60_1 rfl) ?_
  refine RL.q (.free rfl) rfl rfl (Yld.load p58 rfl (at1 (h.blk.cell rfl))) ?_
  refine RL.q (.free rfl) rfl rfl (Yld.lenSl u58 rfl) ?_
  refine RL.p rfl rfl ?_
  refine RL.done ?_
  first | refine RK.condD rfl (fun h12 => ?_) (fun h12 => ?_) | refine RK.condN rfl (fun h12 => ?_) (fun h12 => ?_) | refine RK.cond rfl (fun h12 => ?_) (fun h12 => ?_)
  · obtain ⟨a, ha⟩ : ∃ a, al[k]? = some a := ⟨al[k]'(by omega), List.getElem?_eq_getElem (by omega)⟩
    obtain ⟨b1, o1, c1', he1, _, _, hc1⟩ := hsl.elem alC_len ha
    cases he1
    refine RK.skip ?_
    refine RK.seq ?_
    refine RK.block ?_
    refine RK.seq ?_
    refine RK.region ?_
    iterate 2 refine RL.p rfl rfl ?_
    refine RL.q (.free rfl) rfl rfl (Yld.fieldAddr fo60_1 rfl) ?_
    refine RL.q (.free rfl) rfl rfl (Yld.load p58 rfl (at1 (h.blk.cell rfl))) ?_
    refine RL.p rfl rfl ?_
    refine RL.q (.free rfl) rfl rfl (Yld.indexAddrN u58 i32 rfl rfl (by omega)) ?_
    refine RL.q (.free rfl) rfl rfl (Yld.fieldAddr fo32_0 rfl) ?_
    refine RL.q (.free rfl) rfl rfl (Yld.load p3 rfl (at1 (hc1 0 _ rfl))) ?_
    iterate 2 refine RL.p rfl rfl ?_
    refine RL.done ?_
    first | refine RK.condD rfl (fun h24 => ?_) (fun h24 => ?_) | refine RK.condN rfl (fun h24 => ?_) (fun h24 => ?_) | refine RK.cond rfl (fun h24 => ?_) (fun h24 => ?_)
    · have hwh := where_get ha h24 hno
      have er : resolveR (al.map pub) id = ((al.map pub).eraseIdx k, 0) := by unfold resolveR; rw [hwh]
      rw [er]
      refine RK.seq ?_
      refine RK.drawM No [(0, false), (1, false), (2, false), (3, false), (4, false), (5, false), (6, false), (8, false), (9, false), (10, false), (11, false), (12, false), (13, false), (14, false), (7, true), (15, true), (16, false), (17, false), (18, true)] [18] mixed (by kernel_rfl) ?_
      iterate 3 refine DL.p rfl rfl rfl ?_
      refine DL.qf rfl (.free rfl) rfl rfl (Yld.fieldAddr fo60_1 rfl) ?_
      refine DL.q rfl (.free rfl) rfl rfl rfl (Yld.load p58 rfl (atM (h.blk.cell rfl) (fun h => h))) (Mod.drew _ _) ?_
      refine DL.p rfl rfl rfl ?_
      refine DL.qf rfl (.free rfl) rfl rfl (Yld.sliceHi u58 i32 (m := k) rfl rfl (by omega)) ?_
      iterate 2 refine DL.p rfl rfl rfl ?_
      refine DL.qf rfl (.free rfl) rfl rfl (Yld.fieldAddr fo60_1 rfl) ?_
      refine DL.q rfl (.free rfl) rfl rfl rfl (Yld.load p58 rfl (atM (h.blk.cell rfl) (fun h => h))) (Mod.drew _ _) ?_
      iterate 2 refine DL.p rfl rfl rfl ?_
      refine DL.re (d := 38) rfl rfl (succ_i64 (by omega)) ?_
      refine DL.qf rfl (.free rfl) rfl rfl (Yld.sliceFrom u58 i32 (m := k + 1) rfl rfl (by omega)) ?_
      refine DL.op rfl (.free rfl) rfl rfl (Does.append u58 i32 rfl rfl rfl rfl rfl (Row.nil _ _ _) ((hsl.mod (Mod.drew _ _)).takeF alC_len (by omega)) (allOne_als (fun a ha => hsh a (List.mem_of_mem_take ha))) (by omega)) ?_
      rintro u4 w4 ⟨hr4, hm4, hu4⟩
      have hg4 : Grow w w4 := (Mod.drew No w).trans (hm4.mono fun b _ e => by simp [Value.ownBlock] at e)
      refine ⟨hg4, ?_⟩
      refine DL.op rfl (.free rfl) rfl rfl (Does.append u58 i32 rfl rfl rfl rfl rfl (hr4) ((hsl.mod hg4).fromF alC_len (by omega) hlc) (allOne_als (fun a ha => hsh a (List.mem_of_mem_drop ha))) (by omega)) ?_
      rintro u5 w5 ⟨hr5, hm5, hu5⟩
      have hs34 := hg4.size
      have hf4 : Fresh w.heap.size u4 := fun b e => by rcases hu4 with h1 | h1; (rw [h1] at e; simp [Value.ownBlock] at e); (rw [h1] at e; cases e; simp only [World.drew]; omega)
      have hg5 : Grow w w5 := hg4.then hm5 (fun b hb e => by have := hf4 b e; omega)
      have hf5 : Fresh w.heap.size u5 := fun b e => by rcases hu5 with h1 | h1; (rw [h1] at e; exact hf4 b e); (rw [h1] at e; cases e; omega)
      refine ⟨hg5, ?_⟩
      have hel : (al.take k).flatMap alC ++ (al.drop (k + 1)).flatMap alC = (al.eraseIdx k).flatMap alC := by rw [List.eraseIdx_eq_take_drop_succ, List.flatMap_append]
      have hell : (al.eraseIdx k).length = k + (al.length - (k + 1)) := by rw [List.length_eraseIdx]; simp [(List.getElem?_eq_some_iff.1 ha).1]; omega
      have hr5' : Row w5 32 3 u5 (al.eraseIdx k).length ((al.eraseIdx k).flatMap alC) := by
          rw [hell, ← hel]
          have h9 := hr5
          simp only [List.nil_append, Nat.zero_add] at h9
          exact h9
      obtain ⟨ad5, c5, rfl⟩ := hr5'.slice
      refine DL.p rfl rfl rfl ?_
      refine DL.qf rfl (.free rfl) rfl rfl (Yld.fieldAddr fo60_1 rfl) ?_
      refine DL.opT rfl (.free rfl) rfl rfl (Does.store i58 rfl rfl rfl (h.blk.mod hg5 (fun h => h)) (.s .z)) ?_
      rintro _ w6 ⟨hb6, hm6, _⟩
      have hlt := h.blk.lt
      have hrne : ∀ b, (Value.slice ad5 (al.eraseIdx k).length c5).ownBlock = some b → b ≠ r := fun b e e2 => by have := hf5 b e; omega
      have hm06 : Mod P w w6 := (hg5.any P).trans (hm6.mono fun b _ e => e ▸ hPr)
      have hP' : ∀ b, (b = r ∨ (Value.slice ad5 (al.eraseIdx k).length c5).ownBlock = some b) → P b ∨ w.heap.size ≤ b := fun b e => by rcases e with rfl | e; exact .inl hPr; exact .inr (hf5 b e)
      have hN' : ∀ b, (N b ∨ (b = r ∨ (Value.slice ad5 (al.eraseIdx k).length c5).ownBlock = some b)) → N b ∨ w.heap.size ≤ b := fun b e => e.elim .inl fun e => (hP' b e).imp (h.sub b) (fun h => h)
      have hlt' : ∀ b, (N b ∨ (b = r ∨ (Value.slice ad5 (al.eraseIdx k).length c5).ownBlock = some b)) → b < w6.heap.size := fun b e => by
          rcases e with e | rfl | e
          · have := h.lt e; have := hm06.size; omega
          · exact hb6.lt
          · exact (hr5'.mod hm6 (fun b e e2 => hrne b e e2)).lt e
      refine DL.done ?_
      refine RK.seq ?_
      refine RK.region ?_
      refine RL.p rfl rfl ?_
      refine RL.done ?_
      refine RK.ret_of Tryz.func92 (res1 rfl rfl) ?_ _
      exact ⟨_, rfl, fun b => b = r ∨ (Value.slice ad5 (al.eraseIdx k).length c5).ownBlock = some b, rfl, ⟨_, al.eraseIdx k, ⟨hb6, hr5'.mod hm6 (fun b e e2 => hrne b e e2), fun a' ha' => (h.sls a' (List.mem_of_mem_eraseIdx ha')).pass (by omega) (hm06.mono fun b _ e => h.sub b e) hN', fun b => Iff.rfl, fun _ e => .inr e, hlt'⟩, by rw [map_eraseIdx']⟩, hm06, hP'⟩
    · refine RK.skip ?_
      refine RK.inBlock ?_
      refine RK.region ?_
      iterate 2 refine RL.p rfl rfl ?_
      refine RL.re (d := 14) rfl rfl (succ_i64 (by omega)) ?_
      refine RL.p rfl rfl ?_
      refine RL.done ?_
      exact RK.back (ih (k + 1) _ ⟨rfl, by omega, fun i b hi hb' => by by_cases e : i = k; (subst e; rw [ha] at hb'; cases hb'; exact h24); exact hno i b (by omega) hb'⟩ (by omega)) ⟨rfl, rfl, rfl, trivial⟩
  · have hwh : whereI (al.map pub) id = none := where_no fun i b hi => hno i b (by have := (List.getElem?_eq_some_iff.1 hi).1; omega) hi
    have er : resolveR (al.map pub) id = (al.map pub, 5) := by unfold resolveR; rw [hwh]
    rw [er]
    refine RK.exit rfl ?_
    refine RK.seq ?_
    refine RK.region ?_
    refine RL.p rfl rfl ?_
    refine RL.done ?_
    refine RK.ret_of Tryz.func92 (res1 rfl rfl) ?_ _
    exact ⟨_, rfl, P, rfl, ⟨_, al, ⟨h.blk, h.row, fun a ha => (h.sls a ha).off (by omega) (fun b _ e => e.elim (fun e => e) (h.sub b)), h.own, fun _ e => .inr e, fun b e => e.elim (fun e => h.lt e) (fun e => h.lt (h.sub b e))⟩, rfl⟩, Mod.refl _ _, fun b e => .inl e⟩
end Go.Proofs.YtffbcfcoddacmaaGreat

/- The document's own alerts: posted. -/
set_option linter.unusedVariables false
set_option linter.unusedSimpArgs false
set_option maxHeartbeats 1000000
set_option maxRecDepth 100000
namespace Go.Proofs.YtffbcfcoddacmaaGreat
open Go Go.X

def postR (most last : Int) (L : List AlS) (ls : List Lab) (val : Nat) : List AlS × Int × Int × Bool × Int :=
  match findS (L.map (·.2.1)) ls with
  | some i => (L.modify i fun a => (a.1, a.2.1, canS val), last, ((L[i]?).map (·.1)).getD 0, false, 0)
  | none => if most ≤ L.length then (L, last, 0, false, 10) else (L ++ [(last + 1, ls, canS val)], last + 1, last + 1, true, 0)
theorem find_get {al : List Al} {ls : List Lab} {k : Nat} {a : Al} (ha : al[k]? = some a) (he : a.ls = ls) (hno : ∀ (i : Nat) (b : Al), i < k → al[i]? = some b → b.ls ≠ ls) : findS ((al.map pub).map (·.2.1)) ls = some k := by
  unfold findS
  obtain ⟨hk, e⟩ := List.getElem?_eq_some_iff.1 ha
  rw [List.findIdx?_eq_some_iff_getElem]
  refine ⟨by simpa using hk, by simp [e, pub, he], fun j hj => ?_⟩
  have := hno j al[j] hj (List.getElem?_eq_getElem (by omega))
  simpa [pub] using this
theorem find_no {al : List Al} {ls : List Lab} (hno : ∀ (i : Nat) (b : Al), al[i]? = some b → b.ls ≠ ls) : findS ((al.map pub).map (·.2.1)) ls = none := by
  unfold findS
  rw [List.findIdx?_eq_none_iff]
  intro x hx
  simp only [List.map_map, List.mem_map] at hx
  obtain ⟨a, ha, rfl⟩ := hx
  obtain ⟨i, hi⟩ := List.getElem?_of_mem ha
  exact decide_eq_false (hno i a hi)
theorem rpost_ok (P N : Nat → Prop) (w : World) (r : Nat) (most last : Int) (vl : Value) (al : List Al) (h : RA P N w r most last vl al) (hb : al.length ≤ 1000000) (hl0 : 0 ≤ last) (hl1 : last ≤ 1000000000) (ls : List Lab) (v : Value) (hv : SlL N w v ls) (his : isS ls = true) (hsz : ∀ x ∈ ls, x.name.size ≤ 9223372036854775807) (val : Nat) :
    Fx Tryz.prog 93 [pp r, v, .float .f64 val] w (fun u w' => ∃ P', u = .tuple #[.int .i64 (postR most last (al.map pub) ls val).2.2.1, .bool (postR most last (al.map pub) ls val).2.2.2.1, .int .i64 (postR most last (al.map pub) ls val).2.2.2.2] ∧ RAt P' (fun b => N b ∨ P' b) w' r most (postR most last (al.map pub) ls val).2.1 (postR most last (al.map pub) ls val).1 ∧ Mod P w w' ∧ ∀ b, P' b → P b ∨ w.heap.size ≤ b) := by
  have hsl := Sl.own (M := No) h.row (fun _ _ h => h)
  have hsh : ∀ a ∈ al, ∃ ad n c, a.v = .slice ad n c := fun a ha => by obtain ⟨ad, c, e⟩ := (h.sls a ha).shape; exact ⟨ad, _, c, e⟩
  obtain ⟨ad, c, rfl⟩ := h.row.slice
  obtain ⟨adv, cv, rfl⟩ := hv.shape
  have hPr : P r := (h.own r).2 (.inl rfl)
  have hPo : ∀ b, (Value.slice ad al.length c).ownBlock = some b → P b := fun b e => (h.own b).2 (.inr e)
  have hNr := h.sub r hPr
  have hNo : ∀ b, (Value.slice ad al.length c).ownBlock = some b → N b := fun b e => h.sub b (hPo b e)
  have hNP : ∀ b, (N b ∨ P b) → N b := fun b e => e.elim (fun e => e) (h.sub b)
  have hrne : ∀ b, (Value.slice ad al.length c).ownBlock = some b → b ≠ r := fun b e => (h.row.ty e).ne h.blk.ty rfl
  have h6 := isS_len his
  refine enter Tryz.func93 rfl rfl rfl _ (Pick.sub (l := [0, 1, 2]) (.cons rfl (.cons rfl (.cons rfl .nil)))) ?_
  refine RK.seq ?_
  refine RK.region ?_
  iterate 3 refine RL.p rfl rfl ?_
  refine RL.done ?_
  iterate 2 refine RK.seq ?_
  refine RK.region ?_
  refine RL.p rfl rfl ?_
  refine RL.op (.free rfl) rfl rfl (Does.call rfl e51 (isSet_ok N ls hsz _ _ hv)) ?_
  rintro _ w1 ⟨rfl, hg1⟩
  refine RL.p rfl rfl ?_
  refine RL.done ?_
  refine RK.condF (hcF rfl (by rw [his]; rfl)) ?_
  have h1 := h.grow hg1
  refine RK.skip ?_
  iterate 2 refine RK.seq ?_
  refine RK.region ?_
  refine RL.p rfl rfl ?_
  refine RL.done ?_
  refine RK.block ?_
  refine RK.loop (fun k : Nat => [(0, pp r), (1, .slice adv ls.length cv), (2, .float .f64 val), (9, .int .i64 k)]) (fun k w' => Grow w w' ∧ k ≤ al.length ∧ ∀ (i : Nat) (b : Al), i < k → al[i]? = some b → b.ls ≠ ls) (fun k => al.length - k) 0 ⟨rfl, rfl, rfl, rfl, trivial⟩ ⟨hg1, by omega, fun i b h => by omega⟩ (fun k w' hI ih => ?_)
  obtain ⟨hg, hk, hno⟩ := hI
  have hB := h.blk.mod hg (fun h => h)
  iterate 2 refine RK.seq ?_
  refine RK.region ?_
  iterate 3 refine RL.p rfl rfl ?_
  refine RL.q (.free rfl) rfl rfl (Yld.fieldAddr fo60_1 rfl) ?_
  refine RL.q (.free rfl) rfl rfl (Yld.load p58 rfl (at1 (hB.cell rfl))) ?_
  refine RL.q (.free rfl) rfl rfl (Yld.lenSl u58 rfl) ?_
  refine RL.p rfl rfl ?_
  refine RL.done ?_
  first | refine RK.condD rfl (fun h19 => ?_) (fun h19 => ?_) | refine RK.condN rfl (fun h19 => ?_) (fun h19 => ?_) | refine RK.cond rfl (fun h19 => ?_) (fun h19 => ?_)
  · obtain ⟨a, ha⟩ : ∃ a, al[k]? = some a := ⟨al[k]'(by omega), List.getElem?_eq_getElem (by omega)⟩
    obtain ⟨b1, o1, c1', he1, _, _, hc1⟩ := hsl.elem alC_len ha
    cases he1
    have hsa := h.sls a (List.mem_of_getElem? ha)
    refine RK.skip ?_
    refine RK.seq ?_
    refine RK.block ?_
    refine RK.seq ?_
    refine RK.region ?_
    iterate 2 refine RL.p rfl rfl ?_
    refine RL.q (.free rfl) rfl rfl (Yld.fieldAddr fo60_1 rfl) ?_
    refine RL.q (.free rfl) rfl rfl (Yld.load p58 rfl (at1 (hB.cell rfl))) ?_
    refine RL.p rfl rfl ?_
    refine RL.q (.free rfl) rfl rfl (Yld.indexAddrN u58 i32 rfl rfl (by omega)) ?_
    refine RL.q (.free rfl) rfl rfl (Yld.fieldAddr fo32_1 rfl) ?_
    refine RL.q (.free rfl) rfl rfl (Yld.load p26 rfl (at1 (hg.cell (hc1 1 _ rfl) (fun h => h)))) ?_
    refine RL.p rfl rfl ?_
    refine RL.op (.free rfl) rfl rfl (Does.call rfl e20 (sameLabels_ok N N a.ls ls _ _ _ (hsa.mod (Mod.any' hg)) (hv.mod (Mod.any' hg)))) ?_
    rintro _ w3 ⟨rfl, hg3⟩
    have hg03 := hg.trans hg3
    refine RL.done ?_
    first | refine RK.condD rfl (fun h31 => ?_) (fun h31 => ?_) | refine RK.condN rfl (fun h31 => ?_) (fun h31 => ?_) | refine RK.cond rfl (fun h31 => ?_) (fun h31 => ?_)
    · have hf := find_get ha h31 hno
      have er : postR most last (al.map pub) ls val = ((al.map pub).modify k fun a => (a.1, a.2.1, canS val), last, a.id, false, 0) := by unfold postR; rw [hf]; simp [ha, pub]
      rw [er]
      have hil : k < al.length := by omega
      have h3 := h.grow hg03
      obtain ⟨g, cap, tl, hvl, hbg, hclose⟩ := h3.row.open (by omega)
      cases hvl
      have hflat : (al.flatMap alC).length = al.length * 3 := flat_len alC 3 alC_len al
      refine RK.seq ?_
      refine RK.drawM No [(0, false), (1, false), (2, false), (3, false), (4, false), (5, false), (6, true), (7, false), (8, false), (9, true)] [9] mixed (by kernel_rfl) ?_
      iterate 2 refine DL.p rfl rfl rfl ?_
      refine DL.qf rfl (.free rfl) rfl rfl (Yld.fieldAddr fo60_1 rfl) ?_
      refine DL.q rfl (.free rfl) rfl rfl rfl (Yld.load p58 rfl (atM (h3.blk.cell rfl) (fun h => h))) (Mod.drew _ _) ?_
      iterate 2 refine DL.p rfl rfl rfl ?_
      refine DL.op rfl (.free rfl) rfl rfl (Does.call rfl e134 (kept_okR val _)) ?_
      rintro _ _ ⟨rfl, rfl⟩
      refine ⟨Mod.drew _ _, ?_⟩
      refine DL.qf rfl (.free rfl) rfl rfl (Yld.indexAddrN u58 i32 rfl rfl (hil)) ?_
      refine DL.qf rfl (.free rfl) rfl rfl (Yld.fieldAddr fo32_2 rfl) ?_
      refine DL.opT rfl (.free rfl) rfl rfl (Does.store i23 rfl rfl rfl (hbg.mod (Mod.drew No _) (fun h => h)) (SetAt.of (by simp only [List.length_append, hflat]; omega))) ?_
      rintro _ w4 ⟨hb4, hm4, _⟩
      have hset : (al.flatMap alC ++ tl).set (0 + k * 3 + 2) (.float .f64 (canS val)) = (al.modify k fun a => setVal a (canS val)).flatMap alC ++ tl := by
          rw [List.set_append_left _ _ (by rw [hflat]; omega), Nat.zero_add, set_val _ _ _ hil]
      have hlen' : ((al.modify k fun a => setVal a (canS val)).flatMap alC).length = (al.flatMap alC).length := by rw [hflat, flat_len alC 3 alC_len]; simp
      have hrow4 := hclose w4 _ hlen' (by rw [← hset]; exact hb4)
      have hrl : (al.modify k fun a => setVal a (canS val)).length = al.length := by simp
      have hm34 : Mod (· = b1) w3 w4 := (Mod.drew _ _).trans hm4
      have hg4r : b1 ≠ r := hrne b1 rfl
      have ha' : (al.modify k fun a => setVal a (canS val))[k]? = some (setVal a (canS val)) := by simp [ha]
      have hsl4 : Sl No w4 (.slice (some ⟨b1, 0, none⟩) al.length c) 3 (al.modify k fun a => setVal a (canS val)).length ((al.modify k fun a => setVal a (canS val)).flatMap alC) := by rw [hrl]; exact Sl.own hrow4 (fun _ _ h => h)
      obtain ⟨b5, o5, c5', he5, _, _, hc5⟩ := hsl4.elem alC_len ha'
      rw [hrl] at he5
      cases he5
      refine DL.done ?_
      refine RK.seq ?_
      refine RK.region ?_
      iterate 2 refine RL.p rfl rfl ?_
      refine RL.q (.free rfl) rfl rfl (Yld.fieldAddr fo60_1 rfl) ?_
      refine RL.q (.free rfl) rfl rfl (Yld.load p58 rfl (at1 ((h3.blk.mod hm34 (Ne.symm hg4r)).cell rfl))) ?_
      refine RL.p rfl rfl ?_
      refine RL.q (.free rfl) rfl rfl (Yld.indexAddrN u58 i32 rfl rfl (hil)) ?_
      refine RL.q (.free rfl) rfl rfl (Yld.fieldAddr fo32_0 rfl) ?_
      refine RL.q (.free rfl) rfl rfl (Yld.load p3 rfl (at1 (hc5 0 _ rfl))) ?_
      iterate 3 refine RL.p rfl rfl ?_
      refine RL.done ?_
      refine RK.ret_of Tryz.func93 (res3 rfl rfl rfl rfl) ?_ _
      exact ⟨_, rfl, P, rfl, ⟨_, al.modify k fun a => setVal a (canS val), ⟨h3.blk.mod hm34 (Ne.symm hg4r), by rw [hrl]; exact hrow4, fun x hx => by
          rcases mem_modify_or hx with h9 | ⟨y, hy, rfl⟩
          · exact ((h3.sls x h9).mod (hm34.mono fun b _ e => e ▸ hNo b1 rfl)).off (by omega) (fun b _ e => hNP b e)
          · exact ((h3.sls y hy).mod (hm34.mono fun b _ e => e ▸ hNo b1 rfl)).off (by omega) (fun b _ e => hNP b e), h.own, fun _ e => .inr e, fun b e => by have h8 := h.lt (hNP b e); have h7 := hg03.size; have h6 := hm34.size; omega⟩, by
          apply List.ext_getElem?
          intro j
          simp only [List.getElem?_map, List.getElem?_modify]
          cases al[j]? with
          | none => rfl
          | some x => by_cases hj : k = j <;> simp [hj, pub, setVal]⟩, (Mod.any' hg03 : Mod P w w3).trans (hm34.mono fun b _ e => e ▸ hPo b1 rfl), fun b e => .inl e⟩
    · refine RK.skip ?_
      refine RK.inBlock ?_
      refine RK.region ?_
      iterate 2 refine RL.p rfl rfl ?_
      refine RL.re (d := 21) rfl rfl (succ_i64 (by omega)) ?_
      refine RL.p rfl rfl ?_
      refine RL.done ?_
      exact RK.back (ih (k + 1) _ ⟨hg03, by omega, fun i b hi hb' => by by_cases e : i = k; (subst e; rw [ha] at hb'; cases hb'; exact h31); exact hno i b (by omega) hb'⟩ (by omega)) ⟨rfl, rfl, rfl, rfl, trivial⟩
  · have hf : findS ((al.map pub).map (·.2.1)) ls = none := find_no fun i b hi => hno i b (by have := (List.getElem?_eq_some_iff.1 hi).1; omega) hi
    have hB2 := hB.mod (Mod.drew No _) (fun h => h)
    refine RK.exit rfl ?_
    iterate 2 refine RK.seq ?_
    refine RK.drawM No [(0, false), (1, false), (2, false), (3, false), (4, false), (5, false), (6, false), (7, false), (8, false), (9, false)] [] mixed (by kernel_rfl) ?_
    iterate 2 refine DL.p rfl rfl rfl ?_
    refine DL.qf rfl (.free rfl) rfl rfl (Yld.fieldAddr fo60_1 rfl) ?_
    refine DL.q rfl (.free rfl) rfl rfl rfl (Yld.load p58 rfl (atM (hB.cell rfl) (fun h => h))) (Mod.drew _ _) ?_
    refine DL.q rfl (.free rfl) rfl rfl rfl (Yld.lenSl u58 rfl) (Mod.drew _ _) ?_
    iterate 2 refine DL.p rfl rfl rfl ?_
    refine DL.qf rfl (.free rfl) rfl rfl (Yld.fieldAddr fo60_0 rfl) ?_
    refine DL.q rfl (.free rfl) rfl rfl rfl (Yld.load p3 rfl (atM (hB.cell rfl) (fun h => h))) (Mod.drew _ _) ?_
    refine DL.p rfl rfl rfl ?_
    refine DL.done ?_
    first | refine RK.condD rfl (fun h58 => ?_) (fun h58 => ?_) | refine RK.condN rfl (fun h58 => ?_) (fun h58 => ?_) | refine RK.cond rfl (fun h58 => ?_) (fun h58 => ?_)
    · have er : postR most last (al.map pub) ls val = (al.map pub, last, 0, false, 10) := by unfold postR; rw [hf]; simp only; rw [if_pos (by simpa using h58)]
      rw [er]
      refine RK.seq ?_
      refine RK.region ?_
      iterate 3 refine RL.p rfl rfl ?_
      refine RL.done ?_
      refine RK.ret_of Tryz.func93 (res3 rfl rfl rfl rfl) ?_ _
      exact ⟨_, rfl, P, rfl, ⟨_, al, (h.grow (hg.trans (Mod.drew _ _))).pass (Q := No) (Mod.refl _ _) (fun _ _ h => h) (fun _ h => h.elim) (fun _ e => .inr e) (fun b e => .inl (hNP b e)) (fun b e => (h.grow (hg.trans (Mod.drew _ _))).lt (hNP b e)), rfl⟩, Mod.any' (hg.trans (Mod.drew _ _)), fun b e => .inl e⟩
    · have er : postR most last (al.map pub) ls val = (al.map pub ++ [(last + 1, ls, canS val)], last + 1, last + 1, true, 0) := by unfold postR; rw [hf]; simp only; rw [if_neg (by simpa using h58)]
      rw [er]
      refine RK.skip ?_
      refine RK.seq ?_
      refine RK.region ?_
      iterate 2 refine RL.p rfl rfl ?_
      refine RL.q (.free rfl) rfl rfl (Yld.fieldAddr fo60_2 rfl) ?_
      refine RL.q (.free rfl) rfl rfl (Yld.load p3 rfl (at1 (hB2.cell rfl))) ?_
      refine RL.p rfl rfl ?_
      refine RL.re (d := 63) rfl rfl (add_i64 (z := last + 1) rfl (by omega) (by omega)) ?_
      refine RL.p rfl rfl ?_
      refine RL.q (.free rfl) rfl rfl (Yld.fieldAddr fo60_2 rfl) ?_
      refine RL.op' (.free rfl) rfl (Does.store i3 rfl rfl rfl hB2 (.s (.s .z))) ?_
      rintro _ w4 ⟨hb4, hm4, _⟩
      have hB4 : Blk w4 r 60 [.int .i64 most, .slice ad al.length c, .int .i64 (last + 1)] := hb4
      have hm04 : Mod (· = r) w w4 := (Mod.any' (hg.trans (Mod.drew _ _))).trans hm4
      have hrow4 := h.row.mod hm04 (fun b e e2 => hrne b e e2)
      have hv4 : SlL N w4 (.slice adv ls.length cv) ls := hv.mod (hm04.mono fun b _ e => e ▸ hNr)
      refine RL.done ?_
      refine RK.seq ?_
      refine RK.drawM (fun b => (Value.slice ad al.length c).ownBlock = some b) [(0, false), (1, false), (2, false), (3, false), (4, false), (5, false), (6, false), (7, false), (8, false), (9, false), (11, false), (10, true), (12, true), (13, false), (14, true), (15, true), (16, false), (17, false), (18, true)] [18] mixed (by kernel_rfl) ?_
      iterate 3 refine DL.p rfl rfl rfl ?_
      refine DL.qf rfl (.free rfl) rfl rfl (Yld.fieldAddr fo60_1 rfl) ?_
      refine DL.q rfl (.free rfl) rfl rfl rfl (Yld.load p58 rfl (atM (hB4.cell rfl) (fun e => hrne r e rfl))) (Mod.drew _ _) ?_
      iterate 2 refine DL.p rfl rfl rfl ?_
      refine DL.qf rfl (.free rfl) rfl rfl (Yld.fieldAddr fo60_2 rfl) ?_
      refine DL.q rfl (.free rfl) rfl rfl rfl (Yld.load p3 rfl (atM (hB4.cell rfl) (fun e => hrne r e rfl))) (Mod.drew _ _) ?_
      iterate 2 refine DL.p rfl rfl rfl ?_
      refine DL.op rfl (.free rfl) rfl rfl (Does.append u26 i46 rfl rfl rfl rfl rfl (Row.nil _ _ _) ((hv4.mod (Mod.drew _ _)).noM) (allOne_labs ls) (by omega)) ?_
      rintro u5 w5 ⟨hr5, hm5, hu5⟩
      have hg5 : Grow w4 w5 := (Mod.drew No w4).trans (hm5.mono fun b _ e => by simp [Value.ownBlock] at e)
      refine ⟨hg5.any _, ?_⟩
      refine DL.op rfl (.free rfl) rfl rfl (Does.call rfl e134 (kept_okR val _)) ?_
      rintro _ _ ⟨rfl, rfl⟩
      refine ⟨hg5.any _, ?_⟩
      have hf5 : Fresh w4.heap.size u5 := fun b e => by rcases hu5 with h1 | h1; (rw [h1] at e; simp [Value.ownBlock] at e); (rw [h1] at e; cases e; simp only [World.drew]; omega)
      simp only [List.nil_append, Nat.zero_add] at hr5
      obtain ⟨ad5, c5, rfl⟩ := hr5.slice
      refine DL.qf rfl (.free rfl) rfl rfl (Yld.build (v := .agg #[.int .i64 (last + 1), .slice ad5 ls.length c5, .float .f64 (canS val)]) rfl (fun w => by kernel_rfl)) ?_
      refine DL.op rfl (.free rfl) rfl rfl (Does.slice1 u58 i32 rfl rfl rfl rfl rfl) ?_
      rintro _ w6 ⟨b6, rfl, hn6⟩
      have hg6 : Grow w4 w6 := hg5.trans hn6.grow
      refine ⟨hg6.any _, ?_⟩
      refine DL.op rfl (.free rfl) rfl rfl (Does.append u58 i32 rfl rfl rfl rfl rfl (hrow4.mod hg6 (fun _ _ h => h)) (Sl.new hn6 3 1 rfl (by omega) (fun h => h)) (rfl) (by omega)) ?_
      rintro u7 w7 ⟨hr7, hm7, hu7⟩
      obtain ⟨ad7, c7, rfl⟩ := hr7.slice
      refine ⟨(hg6.any _).trans hm7, ?_⟩
      have hm47 : Mod (fun b => (Value.slice ad al.length c).ownBlock = some b) w4 w7 := (hg6.any _).trans hm7
      refine DL.p rfl rfl rfl ?_
      refine DL.qf rfl (.free rfl) rfl rfl (Yld.fieldAddr fo60_1 rfl) ?_
      refine DL.opT rfl (.free rfl) rfl rfl (Does.store i58 rfl rfl rfl (hB4.mod hm47 (fun e => hrne r e rfl)) (.s .z)) ?_
      rintro _ w8 ⟨hb8, hm8, _⟩
      have hs6 := hg6.size
      have hs4 := hm04.size
      have hrlt := h.blk.lt
      have hx7 : ∀ b, (Value.slice ad7 (al.length + 1) c7).ownBlock = some b → (Value.slice ad al.length c).ownBlock = some b ∨ w6.heap.size ≤ b := fun b e => by
          rcases hu7 with h1 | h1
          · exact .inl (h1 ▸ e)
          · rw [h1] at e; cases e; exact .inr (Nat.le_refl _)
      have hrne7 : ∀ b, (Value.slice ad7 (al.length + 1) c7).ownBlock = some b → b ≠ r := fun b e e2 => by
          rcases hx7 b e with h1 | h1
          · exact hrne b h1 e2
          · omega
      have hmP : Mod P w w8 := ((hm04.mono fun b _ e => e ▸ hPr).trans (hm47.mono fun b _ e => hPo b e)).trans (hm8.mono fun b _ e => e ▸ hPr)
      have hmN : Mod N w w8 := hmP.mono fun b _ e => h.sub b e
      have hpassP : ∀ b, (b = r ∨ (Value.slice ad7 (al.length + 1) c7).ownBlock = some b) → P b ∨ w.heap.size ≤ b := fun b e => by
          rcases e with rfl | e
          · exact .inl hPr
          · rcases hx7 b e with h1 | h1
            · exact .inl (hPo b h1)
            · exact .inr (by omega)
      have hpass : ∀ b, (N b ∨ (b = r ∨ (Value.slice ad7 (al.length + 1) c7).ownBlock = some b)) → N b ∨ w.heap.size ≤ b := fun b e => e.elim .inl fun e => (hpassP b e).imp (h.sub b) id
      have hr8 := hr7.mod hm8 (fun b e e2 => hrne7 b e e2)
      have hlt8 : ∀ b, (N b ∨ (b = r ∨ (Value.slice ad7 (al.length + 1) c7).ownBlock = some b)) → b < w8.heap.size := fun b e => by
          rcases e with e | rfl | e
          · have := h.lt e; have := hmP.size; omega
          · exact hb8.lt
          · exact hr8.lt e
      have hlb : Sl (fun b => N b ∨ (b = r ∨ (Value.slice ad7 (al.length + 1) c7).ownBlock = some b)) w8 (.slice ad5 ls.length c5) 2 ls.length (ls.flatMap labC) := by
          have h9 : Sl N w5 (.slice ad5 ls.length c5) 2 ls.length (ls.flatMap labC) := Sl.own hr5 (fun b e hb => by have h1 := hf5 b e; have h2 := h.lt hb; omega)
          have hm58 : Mod N w5 w8 := ((hn6.grow.any N).trans (hm7.mono fun b _ e => hNo b e)).trans (hm8.mono fun b _ e => e ▸ hNr)
          have hs5 := hg5.size
          exact h9.pass (by omega) hm58 (fun b e => by
            rcases e with e | rfl | e
            · exact .inl e
            · exact .inl hNr
            · rcases hx7 b e with h1 | h1
              · exact .inl (hNo b h1)
              · exact .inr (by have := hn6.grow.size; omega))
      refine DL.done ?_
      refine RK.seq ?_
      refine RK.region ?_
      iterate 2 refine RL.p rfl rfl ?_
      refine RL.q (.free rfl) rfl rfl (Yld.fieldAddr fo60_2 rfl) ?_
      refine RL.q (.free rfl) rfl rfl (Yld.load p3 rfl (at1 (hb8.cell rfl))) ?_
      iterate 3 refine RL.p rfl rfl ?_
      refine RL.done ?_
      refine RK.ret_of Tryz.func93 (res3 rfl rfl rfl rfl) ?_ _
      exact ⟨_, rfl, fun b => b = r ∨ (Value.slice ad7 (al.length + 1) c7).ownBlock = some b, rfl, ⟨_, al ++ [⟨last + 1, ls, canS val, .slice ad5 ls.length c5⟩], ⟨hb8, by
          have e1 : (al ++ [(⟨last + 1, ls, canS val, .slice ad5 ls.length c5⟩ : Al)]).flatMap alC = al.flatMap alC ++ (Value.agg #[.int .i64 (last + 1), .slice ad5 ls.length c5, .float .f64 (canS val)]).cells.toList := by simp [alC, Value.cells]
          rw [e1, List.length_append]; exact hr8, fun x hx => by
          rcases List.mem_append.1 hx with h9 | h9
          · exact (h.sls x h9).pass (by omega) hmN hpass
          · simp at h9; subst h9; exact hlb, fun b => Iff.rfl, fun _ e => .inr e, hlt8⟩, by simp [pub]⟩, hmP, hpassP⟩
end Go.Proofs.YtffbcfcoddacmaaGreat

/- The document's own rank of values. -/
set_option linter.unusedVariables false
set_option linter.unusedSimpArgs false
set_option maxHeartbeats 1000000
set_option maxRecDepth 100000
namespace Go.X
open Ieee
theorem worth_strict {r s : Nat} (h : r < s) : worth r < worth s := by
  unfold worth
  by_cases hs : s < 4503599627370496
  · rw [if_pos hs, if_pos (by omega)]; exact h
  · rw [if_neg hs]
    have hq2 : 1 ≤ s / 4503599627370496 := by omega
    have hge : 4503599627370496 ≤ (4503599627370496 + s % 4503599627370496) * 2 ^ (s / 4503599627370496 - 1) :=
      Nat.le_trans (Nat.le_add_right _ _) (Nat.le_mul_of_pos_right _ (Nat.two_pow_pos _))
    by_cases hr : r < 4503599627370496
    · rw [if_pos hr]; omega
    · rw [if_neg hr]
      have hq1 : 1 ≤ r / 4503599627370496 := by omega
      have hqq : r / 4503599627370496 ≤ s / 4503599627370496 := Nat.div_le_div_right (Nat.le_of_lt h)
      by_cases he : r / 4503599627370496 = s / 4503599627370496
      · rw [he]
        exact Nat.mul_lt_mul_of_pos_right (by omega) (Nat.two_pow_pos _)
      · have h1 : (4503599627370496 + r % 4503599627370496) * 2 ^ (r / 4503599627370496 - 1) < (2 * 4503599627370496) * 2 ^ (r / 4503599627370496 - 1) := Nat.mul_lt_mul_of_pos_right (by omega) (Nat.two_pow_pos _)
        have h2 : (2 * 4503599627370496) * 2 ^ (r / 4503599627370496 - 1) = 4503599627370496 * 2 ^ (r / 4503599627370496) := by
          obtain ⟨q, hq⟩ : ∃ q, r / 4503599627370496 = q + 1 := ⟨r / 4503599627370496 - 1, by omega⟩
          rw [hq, Nat.add_sub_cancel, Nat.pow_succ, Nat.mul_comm 2, Nat.mul_assoc, Nat.mul_comm 2]
        have h3 : 4503599627370496 * 2 ^ (r / 4503599627370496) ≤ 4503599627370496 * 2 ^ (s / 4503599627370496 - 1) := Nat.mul_le_mul_left _ (Nat.pow_le_pow_right (by omega) (by omega))
        have h4 : 4503599627370496 * 2 ^ (s / 4503599627370496 - 1) ≤ (4503599627370496 + s % 4503599627370496) * 2 ^ (s / 4503599627370496 - 1) := Nat.mul_le_mul_right _ (by omega)
        omega
theorem worth_inj {r s : Nat} (h : worth r = worth s) : r = s := by
  rcases Nat.lt_trichotomy r s with h1 | h1 | h1
  · have := worth_strict h1; omega
  · exact h1
  · have := worth_strict h1; omega
theorem order_gt {x y : Nat} (h : double.order x y = some .gt) : double.order y x = some .lt := by
  unfold Format.order at *
  cases hx : double.read x with
  | nan => rw [hx] at h; simp [Datum.order] at h
  | infinity s =>
    cases hy : double.read y with
    | nan => rw [hx, hy] at h; simp [Datum.order] at h
    | infinity t => rw [hx, hy] at h; cases s <;> cases t <;> simp [Datum.order, compare, compareOfLessAndEq] at h ⊢
    | number t n j => rw [hx, hy] at h; cases s <;> simp [Datum.order] at h ⊢
  | number s m i =>
    cases hy : double.read y with
    | nan => rw [hx, hy] at h; simp [Datum.order] at h
    | infinity t => rw [hx, hy] at h; cases t <;> simp [Datum.order] at h ⊢
    | number t n j =>
      rw [hx, hy] at h
      simp only [Datum.order, Option.some.injEq, compare, compareOfLessAndEq] at h ⊢
      rw [Int.min_comm j i]
      split at h
      · cases h
      · split at h
        · cases h
        · rw [if_pos (by omega)]
theorem order_eq_bits {x y : Nat} (hx : x < 18446744073709551616) (hy : y < 18446744073709551616) (h : double.order x y = some .eq) : x = y ∨ (x % 9223372036854775808 = 0 ∧ y % 9223372036854775808 = 0) := by
  unfold Format.order at h
  rcases read_cases x with ⟨f, e1⟩ | ⟨e1, r1⟩ | ⟨m1, k1, e1, w1, r1⟩
  · rw [e1] at h; simp [Datum.order] at h
  · rcases read_cases y with ⟨f, e2⟩ | ⟨e2, r2⟩ | ⟨m2, k2, e2, w2, r2⟩
    · rw [e1, e2] at h; simp [Datum.order] at h
    · rw [e1, e2] at h
      refine .inl ?_
      cases s1 : (x / 9223372036854775808 % 2 == 1) <;> cases s2 : (y / 9223372036854775808 % 2 == 1) <;> rw [s1, s2] at h <;> simp [Datum.order, compare, compareOfLessAndEq] at h
      · have := sgn_false hx s1; have := sgn_false hy s2; omega
      · have := sgn_true hx s1; have := sgn_true hy s2; omega
    · rw [e1, e2] at h
      cases s1 : (x / 9223372036854775808 % 2 == 1) <;> rw [s1] at h <;> simp [Datum.order] at h
  · rcases read_cases y with ⟨f, e2⟩ | ⟨e2, r2⟩ | ⟨m2, k2, e2, w2, r2⟩
    · rw [e1, e2] at h; simp [Datum.order] at h
    · rw [e1, e2] at h
      cases s2 : (y / 9223372036854775808 % 2 == 1) <;> rw [s2] at h <;> simp [Datum.order] at h
    · rw [e1, e2] at h
      simp only [Datum.order, Option.some.injEq] at h
      have heq : signed (x / 9223372036854775808 % 2 == 1) m1 (-1074 + (k1 : Int) - min (-1074 + (k1 : Int)) (-1074 + (k2 : Int))).toNat = signed (y / 9223372036854775808 % 2 == 1) m2 (-1074 + (k2 : Int) - min (-1074 + (k1 : Int)) (-1074 + (k2 : Int))).toNat := by
        simp only [compare, compareOfLessAndEq] at h
        split at h
        · cases h
        · split at h
          · assumption
          · cases h
      have h2 := congrArg (fun z : Int => z * ((2 ^ min k1 k2 : Nat) : Int)) heq
      rw [signed_scale, signed_scale] at h2
      have u1 : (-1074 + (k1 : Int) - min (-1074 + (k1 : Int)) (-1074 + (k2 : Int))).toNat + min k1 k2 = k1 := by omega
      have u2 : (-1074 + (k2 : Int) - min (-1074 + (k1 : Int)) (-1074 + (k2 : Int))).toNat + min k1 k2 = k2 := by omega
      rw [u1, u2, w1, w2] at h2
      have w0 : worth 0 = 0 := by simp [worth]
      cases s1 : (x / 9223372036854775808 % 2 == 1) <;> cases s2 : (y / 9223372036854775808 % 2 == 1) <;> simp only [s1, s2, if_true, Bool.false_eq_true, if_false] at h2
      · have a1 := sgn_false hx s1; have a2 := sgn_false hy s2
        have := worth_inj (r := x % 9223372036854775808) (s := y % 9223372036854775808) (by omega)
        exact .inl (by omega)
      · have b1 := worth_inj (r := x % 9223372036854775808) (s := 0) (by omega)
        have b2 := worth_inj (r := y % 9223372036854775808) (s := 0) (by omega)
        exact .inr ⟨b1, b2⟩
      · have b1 := worth_inj (r := x % 9223372036854775808) (s := 0) (by omega)
        have b2 := worth_inj (r := y % 9223372036854775808) (s := 0) (by omega)
        exact .inr ⟨b1, b2⟩
      · have a1 := sgn_true hx s1; have a2 := sgn_true hy s2
        have := worth_inj (r := x % 9223372036854775808) (s := y % 9223372036854775808) (by omega)
        exact .inl (by omega)
end Go.X
namespace Go.Proofs.YtffbcfcoddacmaaGreat
open Go Go.X
theorem keyNum {b : Nat} (h : nanS b = false) : keyS b = keyN b := by
  unfold keyS keyN canS
  rw [h]; rfl
theorem read_num {b : Nat} (h : nanS b = false) (s : Bool) (f : Nat) : Ieee.double.read b ≠ .nan s f := by
  intro e
  unfold nanS Ieee.Format.order at h
  rw [e] at h
  simp [Ieee.Datum.order] at h
theorem order_num {x y : Nat} (hx : nanS x = false) (hy : nanS y = false) : ∃ o, Ieee.double.order x y = some o := by
  unfold Ieee.Format.order
  cases e1 : Ieee.double.read x with
  | nan s f => exact absurd e1 (read_num hx s f)
  | infinity s =>
    cases e2 : Ieee.double.read y with
    | nan s f => exact absurd e2 (read_num hy s f)
    | infinity t => exact ⟨_, rfl⟩
    | number t n j => exact ⟨_, rfl⟩
  | number s m i =>
    cases e2 : Ieee.double.read y with
    | nan s f => exact absurd e2 (read_num hy s f)
    | infinity t => exact ⟨_, rfl⟩
    | number t n j => exact ⟨_, rfl⟩
def lessR (x y : Nat) : Bool := if nanS x || nanS y then !nanS x && nanS y else if Ieee.double.order x y != some .eq then Ieee.double.order x y == some .lt else sgnS x && !sgnS y
def aheadR (a b : Nat) : Bool := if nanS a || nanS b then !nanS a && nanS b else lessR b a
theorem aheadR_eq {a b : Nat} (ha : a < 18446744073709551616) (hb : b < 18446744073709551616) : aheadR a b = decide (rankS a b < 0) := by
  unfold aheadR rankS
  cases ea : nanS a with
  | true =>
    cases eb : nanS b with
    | true =>
      have e1 : keyS a = keyS b := by unfold keyS canS; rw [ea, eb]; rfl
      simp [cmpI, e1]
    | false => simp
  | false =>
    cases eb : nanS b with
    | true => simp
    | false =>
      obtain ⟨o, ho⟩ := order_num eb ea
      simp only [Bool.or_self, Bool.false_eq_true, if_false, if_true]
      unfold lessR
      rw [ea, eb, ho, keyNum ea, keyNum eb]
      simp only [Bool.or_self, Bool.false_eq_true, if_false]
      cases o with
      | lt =>
        have h1 := order_lt_key hb ha ho
        simp [cmpI, h1]
      | gt =>
        have h1 := order_lt_key ha hb (order_gt ho)
        have h2 : ¬ keyN b < keyN a := by omega
        simp [cmpI, h1, h2]
      | eq =>
        simp only [bne_self_eq_false, Bool.false_eq_true, if_false]
        unfold sgnS cmpI keyN
        rcases order_eq_bits hb ha ho with rfl | ⟨h1, h2⟩
        · simp
        · have h3 : b = 0 ∨ b = 9223372036854775808 := by omega
          have h4 : a = 0 ∨ a = 9223372036854775808 := by omega
          rcases h3 with rfl | rfl <;> rcases h4 with rfl | rfl <;> simp
theorem lessR_ok (x y : Nat) (hx : x < 18446744073709551616) (hy : y < 18446744073709551616) (w : World) : Fx Tryz.prog 171 [.float .f64 x, .float .f64 y] w (fun u w' => u = .bool (lessR x y) ∧ w = w') := by
  refine enter Tryz.func171 rfl rfl rfl _ (Pick.sub (l := [0, 1]) (.cons rfl (.cons rfl .nil))) ?_
  refine RK.seq ?_
  refine RK.region ?_
  refine RL.p rfl rfl ?_
  refine RL.done ?_
  iterate 2 refine RK.seq ?_
  refine RK.region ?_
  iterate 4 refine RL.p rfl rfl ?_
  first | refine RL.splitD (d := 8) rfl rfl (fun h8 => ?_) (fun h8 => ?_) | refine RL.splitN (d := 8) rfl rfl (fun h8 => ?_) (fun h8 => ?_) | refine RL.split (d := 8) rfl rfl (fun h8 => ?_) (fun h8 => ?_)
  · iterate 3 refine RL.no (.no rfl rfl rfl rfl) rfl rfl ?_
    refine RL.p rfl rfl ?_
    refine RL.done ?_
    refine RK.condT rfl ?_
    refine RK.seq ?_
    refine RK.region ?_
    iterate 4 refine RL.p rfl rfl ?_
    first | refine RL.splitD (d := 16) rfl rfl (fun h16 => ?_) (fun h16 => ?_) | refine RL.splitN (d := 16) rfl rfl (fun h16 => ?_) (fun h16 => ?_) | refine RL.split (d := 16) rfl rfl (fun h16 => ?_) (fun h16 => ?_)
    · iterate 3 refine RL.q (.yes rfl rfl rfl) rfl rfl (Yld.pure rfl) ?_
      iterate 2 refine RL.p rfl rfl ?_
      refine RL.done ?_
      refine RK.ret_of Tryz.func171 (res1 rfl rfl) ?_ _
      exact ⟨_, rfl, by unfold lessR nanS; rw [show Ieee.double = FloatKind.f64.format from rfl]; simp_all [sgnS] <;> omega, rfl⟩
    · iterate 3 refine RL.no (.no rfl rfl rfl rfl) rfl rfl ?_
      iterate 2 refine RL.p rfl rfl ?_
      refine RL.done ?_
      refine RK.ret_of Tryz.func171 (res1 rfl rfl) ?_ _
      exact ⟨_, rfl, by unfold lessR nanS; rw [show Ieee.double = FloatKind.f64.format from rfl]; simp_all [sgnS] <;> omega, rfl⟩
  · iterate 3 refine RL.q (.yes rfl rfl rfl) rfl rfl (Yld.pure rfl) ?_
    refine RL.p rfl rfl ?_
    refine RL.done ?_
    first | refine RK.condD rfl (fun h12 => ?_) (fun h12 => ?_) | refine RK.condN rfl (fun h12 => ?_) (fun h12 => ?_) | refine RK.cond rfl (fun h12 => ?_) (fun h12 => ?_)
    · refine RK.seq ?_
      refine RK.region ?_
      iterate 4 refine RL.p rfl rfl ?_
      first | refine RL.splitD (d := 16) rfl rfl (fun h16 => ?_) (fun h16 => ?_) | refine RL.splitN (d := 16) rfl rfl (fun h16 => ?_) (fun h16 => ?_) | refine RL.split (d := 16) rfl rfl (fun h16 => ?_) (fun h16 => ?_)
      · iterate 3 refine RL.q (.yes rfl rfl rfl) rfl rfl (Yld.pure rfl) ?_
        iterate 2 refine RL.p rfl rfl ?_
        refine RL.done ?_
        refine RK.ret_of Tryz.func171 (res1 rfl rfl) ?_ _
        exact ⟨_, rfl, by unfold lessR nanS; rw [show Ieee.double = FloatKind.f64.format from rfl]; simp_all [sgnS] <;> omega, rfl⟩
      · iterate 3 refine RL.no (.no rfl rfl rfl rfl) rfl rfl ?_
        iterate 2 refine RL.p rfl rfl ?_
        refine RL.done ?_
        refine RK.ret_of Tryz.func171 (res1 rfl rfl) ?_ _
        exact ⟨_, rfl, by unfold lessR nanS; rw [show Ieee.double = FloatKind.f64.format from rfl]; simp_all [sgnS] <;> omega, rfl⟩
    · refine RK.skip ?_
      iterate 2 refine RK.seq ?_
      refine RK.region ?_
      iterate 3 refine RL.p rfl rfl ?_
      refine RL.done ?_
      first | refine RK.condD rfl (fun h23 => ?_) (fun h23 => ?_) | refine RK.condN rfl (fun h23 => ?_) (fun h23 => ?_) | refine RK.cond rfl (fun h23 => ?_) (fun h23 => ?_)
      · refine RK.seq ?_
        refine RK.region ?_
        iterate 4 refine RL.p rfl rfl ?_
        refine RL.done ?_
        refine RK.ret_of Tryz.func171 (res1 rfl rfl) ?_ _
        exact ⟨_, rfl, by unfold lessR nanS; rw [show Ieee.double = FloatKind.f64.format from rfl]; simp_all [sgnS] <;> omega, rfl⟩
      · refine RK.skip ?_
        refine RK.seq ?_
        refine RK.region ?_
        refine RL.p rfl rfl ?_
        refine RL.op (.free rfl) rfl rfl (Does.call rfl e206 (signbit_ok x hx _)) ?_
        rintro _ _ ⟨rfl, rfl⟩
        refine RL.p rfl rfl ?_
        first | refine RL.splitD (d := 29) rfl rfl (fun h29 => ?_) (fun h29 => ?_) | refine RL.splitN (d := 29) rfl rfl (fun h29 => ?_) (fun h29 => ?_) | refine RL.split (d := 29) rfl rfl (fun h29 => ?_) (fun h29 => ?_)
        · refine RL.q (.yes rfl rfl rfl) rfl rfl (Yld.pure rfl) ?_
          refine RL.op (.yes rfl rfl rfl) rfl rfl (Does.call rfl e206 (signbit_ok y hy _)) ?_
          rintro _ _ ⟨rfl, rfl⟩
          refine RL.q (.yes rfl rfl rfl) rfl rfl (Yld.pure rfl) ?_
          iterate 2 refine RL.p rfl rfl ?_
          refine RL.done ?_
          refine RK.ret_of Tryz.func171 (res1 rfl rfl) ?_ _
          exact ⟨_, rfl, by unfold lessR nanS; rw [show Ieee.double = FloatKind.f64.format from rfl]; simp_all [sgnS] <;> omega, rfl⟩
        · iterate 3 refine RL.no (.no rfl rfl rfl rfl) rfl rfl ?_
          iterate 2 refine RL.p rfl rfl ?_
          refine RL.done ?_
          refine RK.ret_of Tryz.func171 (res1 rfl rfl) ?_ _
          exact ⟨_, rfl, by unfold lessR nanS; rw [show Ieee.double = FloatKind.f64.format from rfl]; simp_all [sgnS] <;> omega, rfl⟩
theorem aheadR_ok (x y : Nat) (hx : x < 18446744073709551616) (hy : y < 18446744073709551616) (w : World) : Fx Tryz.prog 139 [.float .f64 x, .float .f64 y] w (fun u w' => u = .bool (decide (rankS x y < 0)) ∧ w = w') := by
  rw [← aheadR_eq hx hy]
  refine enter Tryz.func139 rfl rfl rfl _ (Pick.sub (l := [0, 1]) (.cons rfl (.cons rfl .nil))) ?_
  refine RK.seq ?_
  refine RK.region ?_
  refine RL.p rfl rfl ?_
  refine RL.done ?_
  iterate 2 refine RK.seq ?_
  refine RK.region ?_
  iterate 4 refine RL.p rfl rfl ?_
  first | refine RL.splitD (d := 8) rfl rfl (fun h8 => ?_) (fun h8 => ?_) | refine RL.splitN (d := 8) rfl rfl (fun h8 => ?_) (fun h8 => ?_) | refine RL.split (d := 8) rfl rfl (fun h8 => ?_) (fun h8 => ?_)
  · iterate 3 refine RL.no (.no rfl rfl rfl rfl) rfl rfl ?_
    refine RL.p rfl rfl ?_
    refine RL.done ?_
    refine RK.condT rfl ?_
    refine RK.seq ?_
    refine RK.region ?_
    iterate 4 refine RL.p rfl rfl ?_
    first | refine RL.splitD (d := 16) rfl rfl (fun h16 => ?_) (fun h16 => ?_) | refine RL.splitN (d := 16) rfl rfl (fun h16 => ?_) (fun h16 => ?_) | refine RL.split (d := 16) rfl rfl (fun h16 => ?_) (fun h16 => ?_)
    · iterate 3 refine RL.q (.yes rfl rfl rfl) rfl rfl (Yld.pure rfl) ?_
      iterate 2 refine RL.p rfl rfl ?_
      refine RL.done ?_
      refine RK.ret_of Tryz.func139 (res1 rfl rfl) ?_ _
      exact ⟨_, rfl, by unfold aheadR nanS; rw [show Ieee.double = FloatKind.f64.format from rfl]; simp_all, rfl⟩
    · iterate 3 refine RL.no (.no rfl rfl rfl rfl) rfl rfl ?_
      iterate 2 refine RL.p rfl rfl ?_
      refine RL.done ?_
      refine RK.ret_of Tryz.func139 (res1 rfl rfl) ?_ _
      exact ⟨_, rfl, by unfold aheadR nanS; rw [show Ieee.double = FloatKind.f64.format from rfl]; simp_all, rfl⟩
  · iterate 3 refine RL.q (.yes rfl rfl rfl) rfl rfl (Yld.pure rfl) ?_
    refine RL.p rfl rfl ?_
    refine RL.done ?_
    first | refine RK.condD rfl (fun h12 => ?_) (fun h12 => ?_) | refine RK.condN rfl (fun h12 => ?_) (fun h12 => ?_) | refine RK.cond rfl (fun h12 => ?_) (fun h12 => ?_)
    · refine RK.seq ?_
      refine RK.region ?_
      iterate 4 refine RL.p rfl rfl ?_
      first | refine RL.splitD (d := 16) rfl rfl (fun h16 => ?_) (fun h16 => ?_) | refine RL.splitN (d := 16) rfl rfl (fun h16 => ?_) (fun h16 => ?_) | refine RL.split (d := 16) rfl rfl (fun h16 => ?_) (fun h16 => ?_)
      · iterate 3 refine RL.q (.yes rfl rfl rfl) rfl rfl (Yld.pure rfl) ?_
        iterate 2 refine RL.p rfl rfl ?_
        refine RL.done ?_
        refine RK.ret_of Tryz.func139 (res1 rfl rfl) ?_ _
        exact ⟨_, rfl, by unfold aheadR nanS; rw [show Ieee.double = FloatKind.f64.format from rfl]; simp_all, rfl⟩
      · iterate 3 refine RL.no (.no rfl rfl rfl rfl) rfl rfl ?_
        iterate 2 refine RL.p rfl rfl ?_
        refine RL.done ?_
        refine RK.ret_of Tryz.func139 (res1 rfl rfl) ?_ _
        exact ⟨_, rfl, by unfold aheadR nanS; rw [show Ieee.double = FloatKind.f64.format from rfl]; simp_all, rfl⟩
    · refine RK.skip ?_
      refine RK.seq ?_
      refine RK.region ?_
      iterate 2 refine RL.p rfl rfl ?_
      refine RL.op (.free rfl) rfl rfl (Does.call rfl e171 (lessR_ok y x hy hx _)) ?_
      rintro _ _ ⟨rfl, rfl⟩
      refine RL.p rfl rfl ?_
      refine RL.done ?_
      refine RK.ret_of Tryz.func139 (res1 rfl rfl) ?_ _
      exact ⟨_, rfl, by unfold aheadR nanS; rw [show Ieee.double = FloatKind.f64.format from rfl]; simp_all, rfl⟩
end Go.Proofs.YtffbcfcoddacmaaGreat

/- The document's own rank: a list of values, a store of alerts. -/
set_option linter.unusedVariables false
set_option linter.unusedSimpArgs false
set_option maxHeartbeats 1000000
set_option maxRecDepth 100000
namespace Go.Proofs.YtffbcfcoddacmaaGreat
open Go Go.X
theorem laidN {w : World} {t : TypeId} {u : Value} {L R : List Nat} {j : Nat} {x : Nat} (hj : j ≤ L.length) (hI : R = L.take j ++ x :: L.drop j) (h : Row w t 1 u (0 + j + 1 + (L.length - j)) (([] ++ nats (L.take j)) ++ (Value.int .i64 (x : Int)).cells.toList ++ nats (L.drop j))) : Row w t 1 u R.length (nats R) := by
  subst hI
  have e1 : ([] ++ nats (L.take j)) ++ (Value.int .i64 (x : Int)).cells.toList ++ nats (L.drop j) = nats (L.take j ++ x :: L.drop j) := by simp [Value.cells]
  have e2 : 0 + j + 1 + (L.length - j) = (L.take j ++ x :: L.drop j).length := by simp; omega
  rw [e1, e2] at h
  exact h
theorem allOne_nats (xs : List Nat) : ((nats xs).all fun x => x.oneCell') = true := by rw [List.all_eq_true]; intro u hu; obtain ⟨x, _, rfl⟩ := List.mem_map.1 hu; rfl
theorem rrank_ok (M : Nat → Prop) (vs : List Nat) (hlt : ∀ v ∈ vs, v < 18446744073709551616) (v : Value) (w : World) (hv : Sl M w v 1 vs.length (flts vs)) (hb : vs.length ≤ 1000000) :
    Fx Tryz.prog 95 [v] w (fun u w' => Row w' 3 1 u vs.length (nats (rankOf vs)) ∧ Fresh w.heap.size u ∧ Grow w w') := by
  obtain ⟨ad, c, rfl⟩ := hv.shape
  have hget : ∀ x, x < vs.length → vs[x]? = some (vs.getD x 0) ∧ vs.getD x 0 < 18446744073709551616 := fun x hx => by
    have h1 : vs[x]? = some (vs[x]) := List.getElem?_eq_getElem hx
    have h2 : vs.getD x 0 = vs[x] := by simp [List.getD, h1]
    rw [h2]
    exact ⟨h1, hlt _ (List.getElem_mem hx)⟩
  have hcell : ∀ x, x < vs.length → ∀ w2, Grow w w2 → ∃ b o, ad = some ⟨b, o, none⟩ ∧ w2.cell? ⟨b, o + x * 1, none⟩ = some (.float .f64 (vs.getD x 0)) := fun x hx w2 hg => by
    obtain ⟨b1, o1, c1', he1, _, _, hc1⟩ := hv.elem1 (k := x) (u := .float .f64 (vs.getD x 0)) (by rw [List.getElem?_map, (hget x hx).1]; rfl)
    cases he1
    exact ⟨b1, o1, rfl, hg.cell (hc1 x _ (by rw [List.getElem?_map, (hget x hx).1]; rfl)) (fun h => h)⟩
  refine enter Tryz.func95 rfl rfl rfl _ (Pick.sub (l := [0]) (.cons rfl .nil)) ?_
  refine RK.seq ?_
  refine RK.region ?_
  refine RL.p rfl rfl ?_
  refine RL.done ?_
  refine RK.seq ?_
  refine RK.region ?_
  refine RL.p rfl rfl ?_
  refine RL.done ?_
  iterate 2 refine RK.seq ?_
  refine RK.region ?_
  refine RL.p rfl rfl ?_
  refine RL.done ?_
  refine RK.block ?_
  refine RK.loop (fun s : Nat × Value => [(0, .slice ad vs.length c), (3, s.2), (4, .int .i64 (s.1 : Int))]) (fun s w' => Row w' 3 1 s.2 s.1 (nats (isort (ahead vs) (List.range s.1))) ∧ Fresh w.heap.size s.2 ∧ Grow w w' ∧ s.1 ≤ vs.length) (fun s => vs.length - s.1) (0, .slice none 0 0) ⟨rfl, rfl, rfl, trivial⟩ ⟨by simpa [isort] using Row.nil _ _ _, fun b hb => by simp [Value.ownBlock] at hb, Mod.refl _ _, by omega⟩ (fun s w' hI ih => ?_)
  obtain ⟨i, u⟩ := s
  obtain ⟨hr, hfr, hg, hi⟩ := hI
  simp only at hr hfr hi
  have hLl : (isort (ahead vs) (List.range i)).length = i := by rw [isort_len]; simp
  iterate 2 refine RK.seq ?_
  refine RK.region ?_
  iterate 2 refine RL.p rfl rfl ?_
  refine RL.q (.free rfl) rfl rfl (Yld.lenSl u148 rfl) ?_
  refine RL.p rfl rfl ?_
  refine RL.done ?_
  first | refine RK.condD rfl (fun h9 => ?_) (fun h9 => ?_) | refine RK.condN rfl (fun h9 => ?_) (fun h9 => ?_) | refine RK.cond rfl (fun h9 => ?_) (fun h9 => ?_)
  · have hLlt : ∀ y ∈ isort (ahead vs) (List.range i), y < vs.length := fun y hy => by have := List.mem_range.1 ((isort_perm _ _).mem_iff.1 hy); omega
    have hsn : isort (ahead vs) (List.range (i + 1)) = insE (ahead vs) (isort (ahead vs) (List.range i)) i := by rw [List.range_succ, isort_snoc]
    generalize hLe : isort (ahead vs) (List.range i) = L at *
    obtain ⟨adu, cu, rfl, hcu⟩ := hr.cap
    have hsu : Sl No w' (.slice adu i cu) 1 i (nats L) := Sl.own hr (fun _ _ h => h)
    refine RK.skip ?_
    refine RK.seq ?_
    refine RK.block ?_
    refine RK.seq ?_
    refine RK.region ?_
    refine RL.p rfl rfl ?_
    refine RL.q (.free rfl) rfl rfl (Yld.lenSl u22 rfl) ?_
    refine RL.p rfl rfl ?_
    refine RL.done ?_
    refine RK.seq ?_
    refine RK.block ?_
    refine RK.loop (fun j : Nat => [(0, .slice ad vs.length c), (3, .slice adu i cu), (4, .int .i64 (i : Int)), (5, .int .i64 (j : Int))]) (fun j w2 => Grow w' w2 ∧ j ≤ i ∧ ∀ y ∈ L.drop j, ahead vs i y = true) (fun j => j) i ⟨rfl, rfl, rfl, rfl, trivial⟩ ⟨Mod.refl _ _, Nat.le_refl _, by rw [← hLl]; simp⟩ (fun j w2 hI2 ih2 => ?_)
    obtain ⟨hg2, hj, hD⟩ := hI2
    have hhi : ∀ w3, Grow w' w3 → Sl No w3 (.slice adu j cu) 1 j (nats (L.take j)) := fun w3 h3 => by have := (hsu.mod h3).take hj; rwa [← List.map_take] at this
    have hlo : ∀ w3, Grow w' w3 → Sl No w3 (.slice (fromAt adu cu j 1) (i - j) (cu - j)) 1 (i - j) (nats (L.drop j)) := fun w3 h3 => by have := (hsu.mod h3).from hj hcu; rwa [← List.map_drop] at this
    iterate 2 refine RK.seq ?_
    refine RK.drawM No [(0, false), (1, false), (2, false), (3, false), (4, false), (5, false), (6, false), (7, false), (8, false), (9, false), (10, false), (11, false), (12, false), (13, false), (14, false), (15, true), (16, false)] [] mixed (by kernel_rfl) ?_
    iterate 3 refine DL.p rfl rfl rfl ?_
    first | refine DL.splitD (d := 16) rfl rfl (fun h15 => ?_) (fun h15 => ?_) | refine DL.splitN (d := 16) rfl rfl (fun h15 => ?_) (fun h15 => ?_) | refine DL.split (d := 16) rfl rfl (fun h15 => ?_) (fun h15 => ?_)
    · obtain ⟨y, hy⟩ : ∃ y, L[j - 1]? = some y := ⟨L[j - 1]'(by omega), List.getElem?_eq_getElem (by omega)⟩
      obtain ⟨b2, o2, c2', he2, _, _, hc2⟩ := hsu.elem1 (k := j - 1) (u := .int .i64 (y : Int)) (by simp [hy])
      cases he2
      have hyn := hLlt y (List.mem_of_getElem? hy)
      obtain ⟨b1, o1, rfl, hcx⟩ := hcell i (by omega) w2 (hg.trans hg2)
      obtain ⟨b1', o1', he3, hcy⟩ := hcell y hyn w2 (hg.trans hg2)
      cases he3
      iterate 2 refine DL.qf rfl (.yes rfl rfl rfl) rfl rfl (Yld.pure rfl) ?_
      refine DL.qf rfl (.yes rfl rfl rfl) rfl rfl (Yld.indexAddrN u148 i23 rfl rfl (by omega)) ?_
      refine DL.q rfl (.yes rfl rfl rfl) rfl rfl rfl (Yld.load p23 rfl (atM (hcx) (fun h => h))) (Mod.drew _ _) ?_
      iterate 4 refine DL.qf rfl (.yes rfl rfl rfl) rfl rfl (Yld.pure rfl) ?_
      refine DL.re (d := 24) rfl rfl (sub_i64 (z := ((j - 1 : Nat) : Int)) (by omega) (by omega) (by omega)) ?_
      refine DL.qf rfl (.yes rfl rfl rfl) rfl rfl (Yld.indexAddrN u22 i3 rfl rfl (by omega)) ?_
      refine DL.q rfl (.yes rfl rfl rfl) rfl rfl rfl (Yld.load p3 rfl (atM (hg2.cell (hc2 (j - 1) (.int .i64 (y : Int)) (by simp [hy])) (fun h => h)) (fun h => h))) (Mod.drew _ _) ?_
      refine DL.qf rfl (.yes rfl rfl rfl) rfl rfl (Yld.indexAddrN u148 i23 rfl rfl (by omega)) ?_
      refine DL.q rfl (.yes rfl rfl rfl) rfl rfl rfl (Yld.load p23 rfl (atM (hcy) (fun h => h))) (Mod.drew _ _) ?_
      refine DL.op rfl (.yes rfl rfl rfl) rfl rfl (Does.call rfl e139 (aheadR_ok _ _ (hget i (by omega)).2 (hget y hyn).2 _)) ?_
      rintro _ _ ⟨rfl, rfl⟩
      refine ⟨Mod.drew _ _, ?_⟩
      refine DL.p rfl rfl rfl ?_
      refine DL.done ?_
      first | refine RK.condD rfl (fun h30 => ?_) (fun h30 => ?_) | refine RK.condN rfl (fun h30 => ?_) (fun h30 => ?_) | refine RK.cond rfl (fun h30 => ?_) (fun h30 => ?_)
      · refine RK.skip ?_
        refine RK.block ?_
        refine RK.region ?_
        iterate 2 refine RL.p rfl rfl ?_
        refine RL.re (d := 32) rfl rfl (sub_i64 (z := ((j - 1 : Nat) : Int)) (by omega) (by omega) (by omega)) ?_
        refine RL.p rfl rfl ?_
        refine RL.done ?_
        refine RK.inBlock ?_
        exact RK.back (ih2 (j - 1) _ ⟨hg2.trans (Mod.drew _ _), by omega, fun z hz => by
            rw [show L.drop (j - 1) = y :: L.drop j by rw [List.drop_eq_getElem_cons (by omega : j - 1 < L.length), show j - 1 + 1 = j by omega, (List.getElem?_eq_some_iff.1 hy).2]] at hz
            rcases List.mem_cons.1 hz with rfl | hz
            · exact decide_eq_true h30
            · exact hD z hz
          ⟩ (by omega)) ⟨rfl, rfl, rfl, rfl, trivial⟩
      · have hpos : pos (ahead vs) i L = j := pos_splitG (by omega) hD (fun z _ hz => by rw [hy] at hz; cases hz; exact decide_eq_false h30)
        have hI : isort (ahead vs) (List.range (i + 1)) = L.take j ++ i :: L.drop j := by rw [hsn, insE, hpos]
        obtain ⟨w9, hw9⟩ : ∃ w9, w9 = w2.drew := ⟨_, rfl⟩
        rw [← hw9]
        have hgr : Grow w' w9 := hw9 ▸ (hg2.trans (Mod.drew _ _))
        have hgd : Grow w' w9.drew := hgr.trans (Mod.drew _ _)
        refine RK.exit rfl ?_
        refine RK.drawF No [(0, false), (1, false), (2, false), (4, false), (7, false), (8, false), (9, false)] 3 5 [(5, true), (6, true), (10, true), (11, false)] [(3, true), (6, true), (10, true), (11, false)] [] mixed (by kernel_rfl) ?_
        iterate 2 refine DL.p rfl rfl rfl ?_
        refine DL.qf rfl (.free rfl) rfl rfl (Yld.sliceHi u22 i3 (m := j) rfl rfl (by omega)) ?_
        iterate 3 refine DL.p rfl rfl rfl ?_
        refine DL.qf rfl (.free rfl) rfl rfl (Yld.sliceFrom u22 i3 (m := j) rfl rfl hj) ?_
        refine DL.fork ?_ ?_
        · refine DL.op rfl (.free rfl) rfl rfl (Does.append u22 i3 rfl rfl rfl rfl rfl (Row.nil _ _ _) (hhi _ hgd) (allOne_nats _) (by omega)) ?_
          rintro u1 v1 ⟨hr1, hm1, hu1⟩
          have hg1 : Grow w9.drew v1 := hm1.mono (fun b _ e => by simp [Value.ownBlock] at e)
          refine ⟨(Mod.drew _ _).trans hg1, ?_⟩
          refine DL.op rfl (.free rfl) rfl rfl (Does.slice1 u22 i3 rfl rfl rfl rfl rfl) ?_
          rintro _ v2 ⟨b2, rfl, hn2⟩
          refine ⟨((Mod.drew _ _).trans hg1).trans hn2.grow, ?_⟩
          refine DL.op rfl (.free rfl) rfl rfl (Does.append u22 i3 rfl rfl rfl rfl rfl (hr1.mod hn2.grow (fun _ _ h => h)) (Sl.new hn2 1 1 rfl (by omega) (fun h => h)) (rfl) (by omega)) ?_
          rintro u3 v3 ⟨hr3, hm3, hu3⟩
          have hf1 : Fresh w9.drew.heap.size u1 := fun b e => by
              rcases hu1 with h | h <;> rw [h] at e
              · simp [Value.ownBlock] at e
              · cases e; omega
          have hf3 : Fresh w9.drew.heap.size u3 := fun b e => by
              have h1 := hg1.size; have h2 := hn2.size
              rcases hu3 with h | h <;> rw [h] at e
              · exact hf1 b e
              · cases e; omega
          have hg13 : Grow w9.drew v3 := (hg1.trans hn2.grow).then hm3 (fun b hb e => by have := hf1 b e; omega)
          refine ⟨(Mod.drew _ _).trans hg13, ?_⟩
          refine DL.op rfl (.free rfl) rfl rfl (Does.append u22 i3 rfl rfl rfl rfl rfl (hr3) (hlo _ (hgd.trans hg13)) (allOne_nats _) (by omega)) ?_
          rintro u4 v4 ⟨hr4, hm4, hu4⟩
          have hg14 : Grow w9.drew v4 := hg13.then hm4 (fun b hb e => by have := hf3 b e; omega)
          have hf4 : Fresh w.heap.size u4 := fun b e => by
              have h1 := hg13.size; have h2 := (hg.trans hgd).size
              rcases hu4 with h | h <;> rw [h] at e
              · have := hf3 b e; omega
              · cases e; omega
          refine ⟨(Mod.drew _ _).trans hg14, ?_⟩
          have hR4 : Row v4 3 1 u4 (i + 1) (nats (isort (ahead vs) (List.range (i + 1)))) := by have h5 := laidN (x := i) (L := L) (by omega) hI (by rw [hLl]; exact hr4); rwa [isort_len, List.length_range] at h5
          refine DL.p rfl rfl rfl ?_
          refine DL.done ?_
          refine RK.inBlock ?_
          refine RK.region ?_
          iterate 2 refine RL.p rfl rfl ?_
          refine RL.re (d := 11) rfl rfl (succ_i64 (by have := hv.big; omega)) ?_
          refine RL.p rfl rfl ?_
          refine RL.done ?_
          exact RK.back (ih (i + 1, u4) _ ⟨hR4, hf4, (hg.trans hgd).trans hg14, by simp only; omega⟩ (by simp only; omega)) ⟨rfl, rfl, rfl, trivial⟩
        · refine DL.op rfl (.free rfl) rfl rfl (Does.slice1 u22 i3 rfl rfl rfl rfl rfl) ?_
          rintro _ v2 ⟨b2, rfl, hn2⟩
          refine ⟨(Mod.drew _ _).trans hn2.grow, ?_⟩
          refine DL.op rfl (.free rfl) rfl rfl (Does.append u22 i3 rfl rfl rfl rfl rfl (Row.nil _ _ _) (hhi _ (hgd.trans hn2.grow)) (allOne_nats _) (by omega)) ?_
          rintro u1 v1 ⟨hr1, hm1, hu1⟩
          have hg1' : Grow v2 v1 := hm1.mono (fun b _ e => by simp [Value.ownBlock] at e)
          have hg1 : Grow w9.drew v1 := hn2.grow.trans hg1'
          refine ⟨(Mod.drew _ _).trans hg1, ?_⟩
          refine DL.op rfl (.free rfl) rfl rfl (Does.append u22 i3 rfl rfl rfl rfl rfl (hr1) ((Sl.new hn2 1 1 rfl (by omega) (fun h => h)).mod hg1') (rfl) (by omega)) ?_
          rintro u3 v3 ⟨hr3, hm3, hu3⟩
          have hf1 : Fresh w9.drew.heap.size u1 := fun b e => by
              have h2 := hn2.size
              rcases hu1 with h | h <;> rw [h] at e
              · simp [Value.ownBlock] at e
              · cases e; omega
          have hf3 : Fresh w9.drew.heap.size u3 := fun b e => by
              have h1 := hg1.size
              rcases hu3 with h | h <;> rw [h] at e
              · exact hf1 b e
              · cases e; omega
          have hg13 : Grow w9.drew v3 := hg1.then hm3 (fun b hb e => by have := hf1 b e; omega)
          refine ⟨(Mod.drew _ _).trans hg13, ?_⟩
          refine DL.op rfl (.free rfl) rfl rfl (Does.append u22 i3 rfl rfl rfl rfl rfl (hr3) (hlo _ (hgd.trans hg13)) (allOne_nats _) (by omega)) ?_
          rintro u4 v4 ⟨hr4, hm4, hu4⟩
          have hg14 : Grow w9.drew v4 := hg13.then hm4 (fun b hb e => by have := hf3 b e; omega)
          have hf4 : Fresh w.heap.size u4 := fun b e => by
              have h1 := hg13.size; have h2 := (hg.trans hgd).size
              rcases hu4 with h | h <;> rw [h] at e
              · have := hf3 b e; omega
              · cases e; omega
          refine ⟨(Mod.drew _ _).trans hg14, ?_⟩
          have hR4 : Row v4 3 1 u4 (i + 1) (nats (isort (ahead vs) (List.range (i + 1)))) := by have h5 := laidN (x := i) (L := L) (by omega) hI (by rw [hLl]; exact hr4); rwa [isort_len, List.length_range] at h5
          refine DL.p rfl rfl rfl ?_
          refine DL.done ?_
          refine RK.inBlock ?_
          refine RK.region ?_
          iterate 2 refine RL.p rfl rfl ?_
          refine RL.re (d := 11) rfl rfl (succ_i64 (by have := hv.big; omega)) ?_
          refine RL.p rfl rfl ?_
          refine RL.done ?_
          exact RK.back (ih (i + 1, u4) _ ⟨hR4, hf4, (hg.trans hgd).trans hg14, by simp only; omega⟩ (by simp only; omega)) ⟨rfl, rfl, rfl, trivial⟩
    · have hj0 : j = 0 := by omega
      have hpos : pos (ahead vs) i L = j := pos_splitG (by omega) hD (fun z h0 _ => by omega)
      have hI : isort (ahead vs) (List.range (i + 1)) = L.take j ++ i :: L.drop j := by rw [hsn, insE, hpos]
      obtain ⟨w9, hw9⟩ : ∃ w9, w9 = w2.drew := ⟨_, rfl⟩
      rw [← hw9]
      have hgr : Grow w' w9 := hw9 ▸ (hg2.trans (Mod.drew _ _))
      have hgd : Grow w' w9.drew := hgr.trans (Mod.drew _ _)
      iterate 12 refine DL.no rfl (.no rfl rfl rfl rfl) rfl rfl ?_
      refine DL.lno rfl (.no rfl rfl rfl rfl) rfl rfl ?_
      refine DL.p rfl rfl rfl ?_
      refine DL.done ?_
      refine RK.condF rfl ?_
      refine RK.exit rfl ?_
      refine RK.drawF No [(0, false), (1, false), (2, false), (4, false), (7, false), (8, false), (9, false)] 3 5 [(5, true), (6, true), (10, true), (11, false)] [(3, true), (6, true), (10, true), (11, false)] [] mixed (by kernel_rfl) ?_
      iterate 2 refine DL.p rfl rfl rfl ?_
      refine DL.qf rfl (.free rfl) rfl rfl (Yld.sliceHi u22 i3 (m := j) rfl rfl (by omega)) ?_
      iterate 3 refine DL.p rfl rfl rfl ?_
      refine DL.qf rfl (.free rfl) rfl rfl (Yld.sliceFrom u22 i3 (m := j) rfl rfl hj) ?_
      refine DL.fork ?_ ?_
      · refine DL.op rfl (.free rfl) rfl rfl (Does.append u22 i3 rfl rfl rfl rfl rfl (Row.nil _ _ _) (hhi _ hgd) (allOne_nats _) (by omega)) ?_
        rintro u1 v1 ⟨hr1, hm1, hu1⟩
        have hg1 : Grow w9.drew v1 := hm1.mono (fun b _ e => by simp [Value.ownBlock] at e)
        refine ⟨(Mod.drew _ _).trans hg1, ?_⟩
        refine DL.op rfl (.free rfl) rfl rfl (Does.slice1 u22 i3 rfl rfl rfl rfl rfl) ?_
        rintro _ v2 ⟨b2, rfl, hn2⟩
        refine ⟨((Mod.drew _ _).trans hg1).trans hn2.grow, ?_⟩
        refine DL.op rfl (.free rfl) rfl rfl (Does.append u22 i3 rfl rfl rfl rfl rfl (hr1.mod hn2.grow (fun _ _ h => h)) (Sl.new hn2 1 1 rfl (by omega) (fun h => h)) (rfl) (by omega)) ?_
        rintro u3 v3 ⟨hr3, hm3, hu3⟩
        have hf1 : Fresh w9.drew.heap.size u1 := fun b e => by
            rcases hu1 with h | h <;> rw [h] at e
            · simp [Value.ownBlock] at e
            · cases e; omega
        have hf3 : Fresh w9.drew.heap.size u3 := fun b e => by
            have h1 := hg1.size; have h2 := hn2.size
            rcases hu3 with h | h <;> rw [h] at e
            · exact hf1 b e
            · cases e; omega
        have hg13 : Grow w9.drew v3 := (hg1.trans hn2.grow).then hm3 (fun b hb e => by have := hf1 b e; omega)
        refine ⟨(Mod.drew _ _).trans hg13, ?_⟩
        refine DL.op rfl (.free rfl) rfl rfl (Does.append u22 i3 rfl rfl rfl rfl rfl (hr3) (hlo _ (hgd.trans hg13)) (allOne_nats _) (by omega)) ?_
        rintro u4 v4 ⟨hr4, hm4, hu4⟩
        have hg14 : Grow w9.drew v4 := hg13.then hm4 (fun b hb e => by have := hf3 b e; omega)
        have hf4 : Fresh w.heap.size u4 := fun b e => by
            have h1 := hg13.size; have h2 := (hg.trans hgd).size
            rcases hu4 with h | h <;> rw [h] at e
            · have := hf3 b e; omega
            · cases e; omega
        refine ⟨(Mod.drew _ _).trans hg14, ?_⟩
        have hR4 : Row v4 3 1 u4 (i + 1) (nats (isort (ahead vs) (List.range (i + 1)))) := by have h5 := laidN (x := i) (L := L) (by omega) hI (by rw [hLl]; exact hr4); rwa [isort_len, List.length_range] at h5
        refine DL.p rfl rfl rfl ?_
        refine DL.done ?_
        refine RK.inBlock ?_
        refine RK.region ?_
        iterate 2 refine RL.p rfl rfl ?_
        refine RL.re (d := 11) rfl rfl (succ_i64 (by have := hv.big; omega)) ?_
        refine RL.p rfl rfl ?_
        refine RL.done ?_
        exact RK.back (ih (i + 1, u4) _ ⟨hR4, hf4, (hg.trans hgd).trans hg14, by simp only; omega⟩ (by simp only; omega)) ⟨rfl, rfl, rfl, trivial⟩
      · refine DL.op rfl (.free rfl) rfl rfl (Does.slice1 u22 i3 rfl rfl rfl rfl rfl) ?_
        rintro _ v2 ⟨b2, rfl, hn2⟩
        refine ⟨(Mod.drew _ _).trans hn2.grow, ?_⟩
        refine DL.op rfl (.free rfl) rfl rfl (Does.append u22 i3 rfl rfl rfl rfl rfl (Row.nil _ _ _) (hhi _ (hgd.trans hn2.grow)) (allOne_nats _) (by omega)) ?_
        rintro u1 v1 ⟨hr1, hm1, hu1⟩
        have hg1' : Grow v2 v1 := hm1.mono (fun b _ e => by simp [Value.ownBlock] at e)
        have hg1 : Grow w9.drew v1 := hn2.grow.trans hg1'
        refine ⟨(Mod.drew _ _).trans hg1, ?_⟩
        refine DL.op rfl (.free rfl) rfl rfl (Does.append u22 i3 rfl rfl rfl rfl rfl (hr1) ((Sl.new hn2 1 1 rfl (by omega) (fun h => h)).mod hg1') (rfl) (by omega)) ?_
        rintro u3 v3 ⟨hr3, hm3, hu3⟩
        have hf1 : Fresh w9.drew.heap.size u1 := fun b e => by
            have h2 := hn2.size
            rcases hu1 with h | h <;> rw [h] at e
            · simp [Value.ownBlock] at e
            · cases e; omega
        have hf3 : Fresh w9.drew.heap.size u3 := fun b e => by
            have h1 := hg1.size
            rcases hu3 with h | h <;> rw [h] at e
            · exact hf1 b e
            · cases e; omega
        have hg13 : Grow w9.drew v3 := hg1.then hm3 (fun b hb e => by have := hf1 b e; omega)
        refine ⟨(Mod.drew _ _).trans hg13, ?_⟩
        refine DL.op rfl (.free rfl) rfl rfl (Does.append u22 i3 rfl rfl rfl rfl rfl (hr3) (hlo _ (hgd.trans hg13)) (allOne_nats _) (by omega)) ?_
        rintro u4 v4 ⟨hr4, hm4, hu4⟩
        have hg14 : Grow w9.drew v4 := hg13.then hm4 (fun b hb e => by have := hf3 b e; omega)
        have hf4 : Fresh w.heap.size u4 := fun b e => by
            have h1 := hg13.size; have h2 := (hg.trans hgd).size
            rcases hu4 with h | h <;> rw [h] at e
            · have := hf3 b e; omega
            · cases e; omega
        refine ⟨(Mod.drew _ _).trans hg14, ?_⟩
        have hR4 : Row v4 3 1 u4 (i + 1) (nats (isort (ahead vs) (List.range (i + 1)))) := by have h5 := laidN (x := i) (L := L) (by omega) hI (by rw [hLl]; exact hr4); rwa [isort_len, List.length_range] at h5
        refine DL.p rfl rfl rfl ?_
        refine DL.done ?_
        refine RK.inBlock ?_
        refine RK.region ?_
        iterate 2 refine RL.p rfl rfl ?_
        refine RL.re (d := 11) rfl rfl (succ_i64 (by have := hv.big; omega)) ?_
        refine RL.p rfl rfl ?_
        refine RL.done ?_
        exact RK.back (ih (i + 1, u4) _ ⟨hR4, hf4, (hg.trans hgd).trans hg14, by simp only; omega⟩ (by simp only; omega)) ⟨rfl, rfl, rfl, trivial⟩
  · have ei : i = vs.length := by omega
    subst ei
    refine RK.exit rfl ?_
    refine RK.seq ?_
    refine RK.region ?_
    iterate 2 refine RL.p rfl rfl ?_
    refine RL.done ?_
    refine RK.ret_of Tryz.func95 (res1 rfl rfl) ?_ _
    exact ⟨_, rfl, hr, hfr, hg⟩
end Go.Proofs.YtffbcfcoddacmaaGreat

/- The document's own alerts: ranked, their labels counted. -/
set_option linter.unusedVariables false
set_option linter.unusedSimpArgs false
set_option maxHeartbeats 1000000
set_option maxRecDepth 100000
namespace Go.Proofs.YtffbcfcoddacmaaGreat
open Go Go.X
def rankL (L : List AlS) : List Int := (rankOf (L.map (·.2.2))).map fun i => ((L[i]?).map (·.1)).getD 0
theorem rankIds_L (s : St) : rankIds s = rankL s.al := rfl
theorem ralRank_ok (P N : Nat → Prop) (w : World) (r : Nat) (most last : Int) (vl : Value) (al : List Al) (h : RA P N w r most last vl al) (hb : al.length ≤ 1000) (hlt : ∀ a ∈ al, a.val < 18446744073709551616) :
    Fx Tryz.prog 38 [pp r] w (fun u w' => Row w' 3 1 u al.length (ints (rankL (al.map pub))) ∧ Fresh w.heap.size u ∧ Grow w w') := by
  have hsl := Sl.own (M := No) h.row (fun _ _ h => h)
  obtain ⟨ad, c, rfl⟩ := h.row.slice
  have hvl : (al.map (·.val)).length = al.length := by simp
  have hrl : (rankL (al.map pub)).length = al.length := by simp [rankL, rankOf_len]
  have hvals : ((al.map pub).map (·.2.2)) = al.map (·.val) := by simp [pub]
  refine enter Tryz.func38 rfl rfl rfl _ (Pick.sub (l := [0]) (.cons rfl .nil)) ?_
  refine RK.seq ?_
  refine RK.region ?_
  refine RL.p rfl rfl ?_
  refine RL.done ?_
  refine RK.seq ?_
  refine RK.region ?_
  refine RL.p rfl rfl ?_
  refine RL.done ?_
  iterate 2 refine RK.seq ?_
  refine RK.region ?_
  refine RL.p rfl rfl ?_
  refine RL.done ?_
  refine RK.block ?_
  refine RK.loop (fun s : Nat × Value => [(0, pp r), (3, s.2), (4, .int .i64 (s.1 : Int))]) (fun s w' => Row w' 23 1 s.2 s.1 (flts ((al.map (·.val)).take s.1)) ∧ Fresh w.heap.size s.2 ∧ Grow w w' ∧ s.1 ≤ al.length) (fun s => al.length - s.1) (0, .slice none 0 0) ⟨rfl, rfl, rfl, trivial⟩ ⟨by simpa using Row.nil _ _ _, fun b hb => by simp [Value.ownBlock] at hb, Mod.refl _ _, by omega⟩ (fun s1 w' hI ih => ?_)
  obtain ⟨k, u⟩ := s1
  obtain ⟨hr, hfr, hg, hk⟩ := hI
  simp only at hr hfr hk
  have hB := h.blk.mod hg (fun h => h)
  iterate 2 refine RK.seq ?_
  refine RK.region ?_
  iterate 3 refine RL.p rfl rfl ?_
  refine RL.q (.free rfl) rfl rfl (Yld.fieldAddr fo60_1 rfl) ?_
  refine RL.q (.free rfl) rfl rfl (Yld.load p58 rfl (at1 (hB.cell rfl))) ?_
  refine RL.q (.free rfl) rfl rfl (Yld.lenSl u58 rfl) ?_
  refine RL.p rfl rfl ?_
  refine RL.done ?_
  first | refine RK.condD rfl (fun h14 => ?_) (fun h14 => ?_) | refine RK.condN rfl (fun h14 => ?_) (fun h14 => ?_) | refine RK.cond rfl (fun h14 => ?_) (fun h14 => ?_)
  · obtain ⟨a, hx⟩ : ∃ x, al[k]? = some x := ⟨al[k]'(by omega), List.getElem?_eq_getElem (by omega)⟩
    obtain ⟨b1, o1, c1', he1, _, _, hc1⟩ := hsl.elem alC_len hx
    cases he1
    have htk : (al.map (·.val)).take (k + 1) = (al.map (·.val)).take k ++ [a.val] := by rw [List.take_succ_eq_append_getElem (by simp; omega)]; congr 2; simp [(List.getElem?_eq_some_iff.1 hx).2]
    refine RK.skip ?_
    refine RK.seq ?_
    refine RK.block ?_
    refine RK.region ?_
    iterate 3 refine RL.p rfl rfl ?_
    refine RL.q (.free rfl) rfl rfl (Yld.fieldAddr fo60_1 rfl) ?_
    refine RL.q (.free rfl) rfl rfl (Yld.load p58 rfl (at1 (hB.cell rfl))) ?_
    refine RL.p rfl rfl ?_
    refine RL.q (.free rfl) rfl rfl (Yld.indexAddrN u58 i32 rfl rfl (by omega)) ?_
    refine RL.q (.free rfl) rfl rfl (Yld.fieldAddr fo32_2 rfl) ?_
    refine RL.q (.free rfl) rfl rfl (Yld.load p23 rfl (at1 (hg.cell (hc1 2 _ rfl) (fun h => h)))) ?_
    refine RL.op (.free rfl) rfl rfl (Does.slice1 u148 i23 rfl rfl rfl rfl rfl) ?_
    rintro _ w4 ⟨b4, rfl, hn4⟩
    refine RL.op (.free rfl) rfl rfl (Does.append u148 i23 rfl rfl rfl rfl rfl (hr.mod hn4.grow (fun _ _ h => h)) (Sl.new hn4 1 1 rfl (by omega) (fun h => h)) (rfl) (by omega)) ?_
    rintro u5 w5 ⟨hr5, hm5, hu5⟩
    refine RL.p rfl rfl ?_
    refine RL.done ?_
    refine RK.inBlock ?_
    refine RK.region ?_
    iterate 2 refine RL.p rfl rfl ?_
    refine RL.re (d := 16) rfl rfl (succ_i64 (by omega)) ?_
    refine RL.p rfl rfl ?_
    refine RL.done ?_
    exact RK.back (ih (k + 1, u5) _ ⟨by rw [htk]; show Row _ _ _ _ _ (List.map _ (_ ++ _)); rw [List.map_append]; exact hr5, fun b e => by
        have h1 := hg.size; have h3 := hn4.size
        rcases hu5 with hh | hh
        · rw [hh] at e; exact hfr b e
        · rw [hh] at e; cases e; omega
      , (hg.trans hn4.grow).then hm5 (fun x hx e => by have := hfr x e; omega), by simp; omega⟩ (by simp; omega)) ⟨rfl, rfl, rfl, trivial⟩
  · have ek : k = al.length := by omega
    have et : (al.map (·.val)).take k = al.map (·.val) := List.take_of_length_le (by simp; omega)
    rw [et] at hr
    subst ek
    have hslv : Sl No w' u 1 (al.map (·.val)).length (flts (al.map (·.val))) := by rw [hvl]; exact Sl.own hr (fun _ _ h => h)
    refine RK.exit rfl ?_
    refine RK.seq ?_
    refine RK.region ?_
    refine RL.p rfl rfl ?_
    refine RL.op (.free rfl) rfl rfl (Does.call rfl e95 (rrank_ok No (al.map (·.val)) (fun v hv => by obtain ⟨a, ha, rfl⟩ := List.mem_map.1 hv; exact hlt a ha) _ _ hslv (by rw [hvl]; omega))) ?_
    rintro uo wo ⟨hro, hfo, hgo⟩
    rw [hvl] at hro
    obtain ⟨ado, co, rfl⟩ := hro.slice
    have hslo : Sl No wo (.slice ado al.length co) 1 al.length (nats (rankOf (al.map (·.val)))) := Sl.own hro (fun _ _ h => h)
    have hgwo := hg.trans hgo
    refine RL.p rfl rfl ?_
    refine RL.done ?_
    refine RK.seq ?_
    refine RK.region ?_
    refine RL.p rfl rfl ?_
    refine RL.done ?_
    iterate 2 refine RK.seq ?_
    refine RK.region ?_
    refine RL.p rfl rfl ?_
    refine RL.done ?_
    refine RK.block ?_
    refine RK.loop (fun s : Nat × Value => [(0, pp r), (5, .slice ado al.length co), (6, s.2), (7, .int .i64 (s.1 : Int))]) (fun s w' => Row w' 3 1 s.2 s.1 (ints ((rankL (al.map pub)).take s.1)) ∧ Fresh wo.heap.size s.2 ∧ Grow wo w' ∧ s.1 ≤ al.length) (fun s => al.length - s.1) (0, .slice none 0 0) ⟨rfl, rfl, rfl, rfl, trivial⟩ ⟨by simpa using Row.nil _ _ _, fun b hb => by simp [Value.ownBlock] at hb, Mod.refl _ _, by omega⟩ (fun s1 w2 hI2 ih2 => ?_)
    obtain ⟨k2, u2⟩ := s1
    obtain ⟨hr2, hfr2, hg2, hk2⟩ := hI2
    simp only at hr2 hfr2 hk2
    have hB2 := h.blk.mod (hgwo.trans hg2) (fun h => h)
    iterate 2 refine RK.seq ?_
    refine RK.region ?_
    iterate 2 refine RL.p rfl rfl ?_
    refine RL.q (.free rfl) rfl rfl (Yld.lenSl u22 rfl) ?_
    refine RL.p rfl rfl ?_
    refine RL.done ?_
    first | refine RK.condD rfl (fun h33 => ?_) (fun h33 => ?_) | refine RK.condN rfl (fun h33 => ?_) (fun h33 => ?_) | refine RK.cond rfl (fun h33 => ?_) (fun h33 => ?_)
    · have hk3 : k2 < (rankOf (al.map (·.val))).length := by rw [rankOf_len, hvl]; simp only at h33; omega
      obtain ⟨x, hx⟩ : ∃ x, (rankOf (al.map (·.val)))[k2]? = some x := ⟨_, List.getElem?_eq_getElem hk3⟩
      have hxl : x < al.length := by have := rankOf_lt (List.mem_of_getElem? hx); simpa using this
      obtain ⟨bo, oo, co', heo, _, _, hco⟩ := hslo.elem1 (k := k2) (u := .int .i64 (x : Int)) (by simp [hx])
      cases heo
      obtain ⟨a, ha⟩ : ∃ a, al[x]? = some a := ⟨al[x], List.getElem?_eq_getElem hxl⟩
      obtain ⟨b1, o1, c1', he1, _, _, hc1⟩ := hsl.elem alC_len ha
      cases he1
      have hR : (rankL (al.map pub))[k2]? = some a.id := by unfold rankL; rw [hvals, List.getElem?_map, hx]; simp [ha, pub]
      have htk : (rankL (al.map pub)).take (k2 + 1) = (rankL (al.map pub)).take k2 ++ [a.id] := by rw [List.take_succ_eq_append_getElem (by rw [hrl]; simpa using h33)]; congr 2; exact (List.getElem?_eq_some_iff.1 hR).2
      have hco' := hco k2 (.int .i64 (x : Int)) (by simp [hx])
      have hbol : bo < wo.heap.size := by have := World.block_lt_of_cell? wo _ hco'; simpa using this
      have hc10 := hgwo.cell (hc1 0 _ rfl) (fun h => h)
      have hb1l : b1 < wo.heap.size := by have := World.block_lt_of_cell? wo _ hc10; simpa using this
      have hrl' : r < wo.heap.size := by have := h.blk.lt; have := hgwo.size; omega
      have hnf : ∀ b, b < wo.heap.size → ¬ u2.ownBlock = some b := fun b h e => by have := hfr2 b e; omega
      refine RK.skip ?_
      refine RK.seq ?_
      refine RK.block ?_
      refine RK.drawM (fun b => u2.ownBlock = some b) [(0, false), (1, false), (2, false), (3, false), (4, false), (5, false), (6, false), (7, false), (8, false), (9, false), (10, false), (11, false), (12, true), (13, true), (14, false)] [] mixed (by kernel_rfl) ?_
      iterate 3 refine DL.p rfl rfl rfl ?_
      refine DL.qf rfl (.free rfl) rfl rfl (Yld.fieldAddr fo60_1 rfl) ?_
      refine DL.q rfl (.free rfl) rfl rfl rfl (Yld.load p58 rfl (atM (hB2.cell rfl) (hnf _ hrl'))) (Mod.drew _ _) ?_
      iterate 2 refine DL.p rfl rfl rfl ?_
      refine DL.qf rfl (.free rfl) rfl rfl (Yld.indexAddrN u22 i3 rfl rfl (by omega)) ?_
      refine DL.q rfl (.free rfl) rfl rfl rfl (Yld.load p3 rfl (atM (hg2.cell hco' (fun h => h)) (hnf _ hbol))) (Mod.drew _ _) ?_
      refine DL.qf rfl (.free rfl) rfl rfl (Yld.indexAddrN u58 i32 rfl rfl (by omega)) ?_
      refine DL.qf rfl (.free rfl) rfl rfl (Yld.fieldAddr fo32_0 rfl) ?_
      refine DL.q rfl (.free rfl) rfl rfl rfl (Yld.load p3 rfl (atM (hg2.cell hc10 (fun h => h)) (hnf _ hb1l))) (Mod.drew _ _) ?_
      refine DL.op rfl (.free rfl) rfl rfl (Does.slice1 u22 i3 rfl rfl rfl rfl rfl) ?_
      rintro _ w4 ⟨b4, rfl, hn4⟩
      refine ⟨(Mod.drew _ _).trans (Mod.any' hn4.grow), ?_⟩
      refine DL.op rfl (.free rfl) rfl rfl (Does.append u22 i3 rfl rfl rfl rfl rfl ((hr2.mod (Mod.drew _ _) (fun _ _ h => h)).mod hn4.grow (fun _ _ h => h)) (Sl.new hn4 1 1 rfl (by omega) (fun h => h)) (rfl) (by omega)) ?_
      rintro u5 w5 ⟨hr5, hm5, hu5⟩
      have hgd : Grow wo w4 := (hg2.trans (Mod.drew _ _)).trans hn4.grow
      have hf5 : Fresh wo.heap.size u5 := fun b e => by
          have h1 := hg2.size; have h3 := hn4.size; have h4 : w2.drew.heap.size = w2.heap.size := rfl
          rcases hu5 with hh | hh
          · rw [hh] at e; exact hfr2 b e
          · rw [hh] at e; cases e; omega
      have hg5 : Grow wo w5 := hgd.then hm5 (fun x hx e => by have := hfr2 x e; omega)
      refine ⟨((Mod.drew _ _).trans (Mod.any' hn4.grow)).trans hm5, ?_⟩
      refine DL.p rfl rfl rfl ?_
      refine DL.done ?_
      refine RK.inBlock ?_
      refine RK.region ?_
      iterate 2 refine RL.p rfl rfl ?_
      refine RL.re (d := 35) rfl rfl (succ_i64 (by omega)) ?_
      refine RL.p rfl rfl ?_
      refine RL.done ?_
      exact RK.back (ih2 (k2 + 1, u5) _ ⟨by rw [htk]; show Row _ _ _ _ _ (List.map _ (_ ++ _)); rw [List.map_append]; exact hr5, hf5, hg5, by simp at h33 ⊢; omega⟩ (by simp at h33 ⊢; omega)) ⟨rfl, rfl, rfl, rfl, trivial⟩
    · have ek : k2 = al.length := by simp only at h33; omega
      have et : (rankL (al.map pub)).take k2 = rankL (al.map pub) := List.take_of_length_le (by rw [hrl]; omega)
      rw [et] at hr2
      subst ek
      refine RK.exit rfl ?_
      refine RK.seq ?_
      refine RK.region ?_
      iterate 2 refine RL.p rfl rfl ?_
      refine RL.done ?_
      refine RK.ret_of Tryz.func38 (res1 rfl rfl) ?_ _
      exact ⟨_, rfl, hr2, fun b e => by have := hfr2 b e; have := hgwo.size; omega, hgwo.trans hg2⟩
end Go.Proofs.YtffbcfcoddacmaaGreat

/- The document's own alerts: their labels counted. -/
set_option linter.unusedVariables false
set_option linter.unusedSimpArgs false
set_option maxHeartbeats 1000000
set_option maxRecDepth 100000
namespace Go.Proofs.YtffbcfcoddacmaaGreat
open Go Go.X
def insL (D : List Lab) (x : Lab) : List Lab := if x ∈ D then D else D ++ [x]
def addL (D : List Lab) (xs : List Lab) : List Lab := xs.foldl insL D
def dstL (L : List AlS) : List Lab := addL [] (L.flatMap (·.2.1))
theorem addL_snoc (D xs : List Lab) (x : Lab) : addL D (xs ++ [x]) = insL (addL D xs) x := by simp [addL]
theorem addL_app (D xs ys : List Lab) : addL D (xs ++ ys) = addL (addL D xs) ys := by simp [addL]
theorem insL_mem {D : List Lab} {x y : Lab} : y ∈ insL D x ↔ y ∈ D ∨ y = x := by
  unfold insL
  split
  · rename_i h
    constructor
    · exact .inl
    · rintro (h1 | rfl)
      · exact h1
      · exact h
  · simp
theorem insL_nodup {D : List Lab} (h : D.Nodup) (x : Lab) : (insL D x).Nodup := by
  unfold insL
  split
  · exact h
  · rename_i hx
    rw [List.nodup_append]
    refine ⟨h, by simp, fun a ha b hb => ?_⟩
    simp at hb; subst hb
    rintro rfl
    exact hx ha
theorem addL_nodup : ∀ (xs : List Lab) {D : List Lab}, D.Nodup → (addL D xs).Nodup
  | [], _, h => h
  | x :: xs, _, h => addL_nodup xs (insL_nodup h x)
theorem addL_mem {y : Lab} : ∀ (xs : List Lab) {D : List Lab}, y ∈ addL D xs ↔ y ∈ D ∨ y ∈ xs
  | [], _ => by simp [addL]
  | x :: xs, D => by
    rw [show addL D (x :: xs) = addL (insL D x) xs from rfl, addL_mem xs, insL_mem]
    simp [or_assoc]
theorem addL_len : ∀ (xs : List Lab) (D : List Lab), (addL D xs).length ≤ D.length + xs.length
  | [], _ => Nat.le_refl _
  | x :: xs, D => by
    have h1 := addL_len xs (insL D x)
    have h2 : (insL D x).length ≤ D.length + 1 := by unfold insL; split <;> simp
    rw [show addL D (x :: xs) = addL (insL D x) xs from rfl, List.length_cons]
    omega
theorem flat_le {al : List Al} (h : ∀ a ∈ al, a.ls.length ≤ 6) : (al.flatMap (·.ls)).length ≤ 6 * al.length := by
  induction al with
  | nil => simp
  | cons a al ih =>
    have h1 := ih fun b hb => h b (by simp [hb])
    have h2 := h a (by simp)
    simp only [List.flatMap_cons, List.length_append, List.length_cons]
    omega
theorem rows_dst {s : St} (h : Gd s) : s.rows.length = (dstL s.al).length := by
  refine h.ix.len (addL_nodup _ (by simp)) fun x => ?_
  unfold dstL
  rw [addL_mem, h.has]
  simp [hasOf]
theorem ralPosts_ok (P N : Nat → Prop) (w : World) (r : Nat) (most last : Int) (vl : Value) (al : List Al) (h : RA P N w r most last vl al) (hb : al.length ≤ 1000) (hls : ∀ a ∈ al, a.ls.length ≤ 6) :
    Fx Tryz.prog 39 [pp r] w (fun u w' => u = .int .i64 (dstL (al.map pub)).length ∧ Grow w w') := by
  have hsl := Sl.own (M := No) h.row (fun _ _ h => h)
  obtain ⟨ad, c, rfl⟩ := h.row.slice
  have hd : dstL (al.map pub) = addL [] (al.flatMap (·.ls)) := by unfold dstL; rw [List.flatMap_map]; rfl
  rw [hd]
  refine enter Tryz.func39 rfl rfl rfl _ (Pick.sub (l := [0]) (.cons rfl .nil)) ?_
  refine RK.seq ?_
  refine RK.region ?_
  refine RL.p rfl rfl ?_
  refine RL.done ?_
  refine RK.seq ?_
  refine RK.region ?_
  refine RL.p rfl rfl ?_
  refine RL.done ?_
  iterate 2 refine RK.seq ?_
  refine RK.region ?_
  refine RL.p rfl rfl ?_
  refine RL.done ?_
  refine RK.block ?_
  refine RK.loop (fun s : Nat × Value => [(0, pp r), (3, s.2), (4, .int .i64 (s.1 : Int))]) (fun s w' => Row w' 46 2 s.2 (addL [] ((al.take s.1).flatMap (·.ls))).length ((addL [] ((al.take s.1).flatMap (·.ls))).flatMap labC) ∧ Fresh w.heap.size s.2 ∧ Grow w w' ∧ s.1 ≤ al.length) (fun s => al.length - s.1) (0, .slice none 0 0) ⟨rfl, rfl, rfl, trivial⟩ ⟨by simpa [addL] using Row.nil _ _ _, fun b hb => by simp [Value.ownBlock] at hb, Mod.refl _ _, by omega⟩ (fun s1 w1 hI ih => ?_)
  obtain ⟨k, u⟩ := s1
  obtain ⟨hr, hfr, hg, hk⟩ := hI
  simp only at hr hfr hk
  have hB := h.blk.mod hg (fun h => h)
  iterate 2 refine RK.seq ?_
  refine RK.region ?_
  iterate 3 refine RL.p rfl rfl ?_
  refine RL.q (.free rfl) rfl rfl (Yld.fieldAddr fo60_1 rfl) ?_
  refine RL.q (.free rfl) rfl rfl (Yld.load p58 rfl (at1 (hB.cell rfl))) ?_
  refine RL.q (.free rfl) rfl rfl (Yld.lenSl u58 rfl) ?_
  refine RL.p rfl rfl ?_
  refine RL.done ?_
  first | refine RK.condD rfl (fun h14 => ?_) (fun h14 => ?_) | refine RK.condN rfl (fun h14 => ?_) (fun h14 => ?_) | refine RK.cond rfl (fun h14 => ?_) (fun h14 => ?_)
  · obtain ⟨a, hx⟩ : ∃ x, al[k]? = some x := ⟨al[k]'(by simp only at h14; omega), List.getElem?_eq_getElem _⟩
    obtain ⟨b1, o1, c1', he1, _, _, hc1⟩ := hsl.elem alC_len hx
    cases he1
    have hsa := h.sls a (List.mem_of_getElem? hx)
    obtain ⟨ada, ca, hva⟩ := hsa.shape
    rw [hva] at hsa
    have hcl : ∀ w2, Grow w w2 → w2.cell? ⟨b1, o1 + k * 3 + 1, none⟩ = some (.slice ada a.ls.length ca) := fun w2 h2 => h2.cell (hc1 1 _ (by rw [← hva]; rfl)) (fun h => h)
    have htk : (al.take (k + 1)).flatMap (·.ls) = (al.take k).flatMap (·.ls) ++ a.ls := by rw [List.take_succ_eq_append_getElem (by simp only at h14; omega), List.flatMap_append]; simp [(List.getElem?_eq_some_iff.1 hx).2]
    have hDl : (addL [] ((al.take k).flatMap (·.ls))).length ≤ 6000 := by have h1 := addL_len ((al.take k).flatMap (·.ls)) []; have h2 := flat_le (al := al.take k) (fun a ha => hls a (List.mem_of_mem_take ha)); simp only [List.length_take, List.length_nil] at h1 h2; omega
    have hal6 := hls a (List.mem_of_getElem? hx)
    generalize hDe : addL [] ((al.take k).flatMap (·.ls)) = D at *
    refine RK.skip ?_
    refine RK.seq ?_
    refine RK.block ?_
    refine RK.seq ?_
    refine RK.region ?_
    refine RL.p rfl rfl ?_
    refine RL.done ?_
    refine RK.block ?_
    refine RK.loop (fun s : Nat × Value => [(0, pp r), (3, s.2), (4, .int .i64 (k : Int)), (5, .int .i64 (s.1 : Int))]) (fun s w' => Row w' 46 2 s.2 (addL D (a.ls.take s.1)).length ((addL D (a.ls.take s.1)).flatMap labC) ∧ Fresh w.heap.size s.2 ∧ Grow w w' ∧ s.1 ≤ a.ls.length) (fun s => a.ls.length - s.1) (0, u) ⟨rfl, rfl, rfl, rfl, trivial⟩ ⟨hr, hfr, hg, by omega⟩ (fun s2 w2 hI2 ih2 => ?_)
    obtain ⟨j, v⟩ := s2
    obtain ⟨hr2, hfr2, hg2, hj⟩ := hI2
    simp only at hr2 hfr2 hj
    have hB2 := h.blk.mod hg2 (fun h => h)
    iterate 2 refine RK.seq ?_
    refine RK.region ?_
    iterate 3 refine RL.p rfl rfl ?_
    refine RL.q (.free rfl) rfl rfl (Yld.fieldAddr fo60_1 rfl) ?_
    refine RL.q (.free rfl) rfl rfl (Yld.load p58 rfl (at1 (hB2.cell rfl))) ?_
    refine RL.p rfl rfl ?_
    refine RL.q (.free rfl) rfl rfl (Yld.indexAddrN u58 i32 rfl rfl (by simp only at h14; omega)) ?_
    refine RL.q (.free rfl) rfl rfl (Yld.fieldAddr fo32_1 rfl) ?_
    refine RL.q (.free rfl) rfl rfl (Yld.load p26 rfl (at1 (hcl _ hg2))) ?_
    refine RL.q (.free rfl) rfl rfl (Yld.lenSl u26 rfl) ?_
    refine RL.p rfl rfl ?_
    refine RL.done ?_
    first | refine RK.condD rfl (fun h27 => ?_) (fun h27 => ?_) | refine RK.condN rfl (fun h27 => ?_) (fun h27 => ?_) | refine RK.cond rfl (fun h27 => ?_) (fun h27 => ?_)
    · obtain ⟨x, hxj⟩ : ∃ x, a.ls[j]? = some x := ⟨a.ls[j]'(by simp only at h27; omega), List.getElem?_eq_getElem _⟩
      have htj : addL D (a.ls.take (j + 1)) = insL (addL D (a.ls.take j)) x := by rw [List.take_succ_eq_append_getElem (by simp only at h27; omega), addL_snoc, (List.getElem?_eq_some_iff.1 hxj).2]
      obtain ⟨b2, o2, c2', he2, _, _, hc2⟩ := hsa.elem labC_len hxj
      cases he2
      have hDl2 := addL_len (a.ls.take j) D
      simp only [List.length_take] at hDl2
      generalize hDe2 : addL D (a.ls.take j) = D2 at *
      obtain ⟨adv, cv, rfl⟩ := hr2.slice
      have hsv : Sl No w2 (.slice adv D2.length cv) 2 D2.length (D2.flatMap labC) := Sl.own hr2 (fun _ _ h => h)
      refine RK.skip ?_
      refine RK.seq ?_
      refine RK.block ?_
      refine RK.seq ?_
      refine RK.region ?_
      refine RL.p rfl rfl ?_
      refine RL.done ?_
      iterate 2 refine RK.seq ?_
      refine RK.region ?_
      refine RL.p rfl rfl ?_
      refine RL.done ?_
      refine RK.block ?_
      refine RK.loop (fun s : Nat × Bool => [(0, pp r), (3, .slice adv D2.length cv), (4, .int .i64 (k : Int)), (5, .int .i64 (j : Int)), (6, .bool s.2), (7, .int .i64 (s.1 : Int))]) (fun s w' => Grow w2 w' ∧ s.1 ≤ D2.length ∧ (s.2 = true ↔ x ∈ D2.take s.1)) (fun s => D2.length - s.1) (0, false) ⟨rfl, rfl, rfl, rfl, rfl, rfl, trivial⟩ ⟨Mod.refl _ _, by omega, by simp⟩ (fun s3 w3 hI3 ih3 => ?_)
      obtain ⟨i, fl⟩ := s3
      obtain ⟨hg3, hi, hfl⟩ := hI3
      simp only at hi hfl
      have hg03 := hg2.trans hg3
      iterate 2 refine RK.seq ?_
      refine RK.region ?_
      iterate 2 refine RL.p rfl rfl ?_
      refine RL.q (.free rfl) rfl rfl (Yld.lenSl u26 rfl) ?_
      refine RL.p rfl rfl ?_
      refine RL.done ?_
      first | refine RK.condD rfl (fun h33 => ?_) (fun h33 => ?_) | refine RK.condN rfl (fun h33 => ?_) (fun h33 => ?_) | refine RK.cond rfl (fun h33 => ?_) (fun h33 => ?_)
      · obtain ⟨y, hy⟩ : ∃ y, D2[i]? = some y := ⟨D2[i]'(by simp only at h33; omega), List.getElem?_eq_getElem _⟩
        have hti : D2.take (i + 1) = D2.take i ++ [y] := by rw [List.take_succ_eq_append_getElem (by simp only at h33; omega), (List.getElem?_eq_some_iff.1 hy).2]
        have hbig := hsv.big
        refine RK.skip ?_
        refine RK.seq ?_
        refine RK.block ?_
        refine RK.drawM No [(0, false), (1, false), (2, false), (3, false), (4, false), (5, false), (6, false), (7, false), (8, false), (9, false), (10, false), (11, false), (12, false), (13, false), (14, false), (15, false), (16, false), (17, false), (18, false), (19, false)] [] mixed (by kernel_rfl) ?_
        iterate 2 refine DL.p rfl rfl rfl ?_
        first | refine DL.splitD (d := 37) rfl rfl (fun h37 => ?_) (fun h37 => ?_) | refine DL.splitN (d := 37) rfl rfl (fun h37 => ?_) (fun h37 => ?_) | refine DL.split (d := 37) rfl rfl (fun h37 => ?_) (fun h37 => ?_)
        · iterate 16 refine DL.no rfl (.no rfl rfl rfl rfl) rfl rfl ?_
          iterate 2 refine DL.p rfl rfl rfl ?_
          refine DL.done ?_
          refine RK.inBlock ?_
          refine RK.region ?_
          iterate 2 refine RL.p rfl rfl ?_
          refine RL.re (d := 35) rfl rfl (succ_i64 (by simp only at h33; omega)) ?_
          refine RL.p rfl rfl ?_
          refine RL.done ?_
          exact RK.back (ih3 (i + 1, true) _ ⟨hg3.trans (Mod.drew _ _), by simp only at h33 ⊢; omega, by simp only [true_iff]; rw [hti]; exact List.mem_append_left _ (hfl.1 h37)⟩ (by simp only at h33 ⊢; omega)) ⟨rfl, rfl, rfl, rfl, rfl, rfl, trivial⟩
        · obtain ⟨b3, o3, c3', he3, _, _, hc3⟩ := hsv.elem labC_len hy
          cases he3
          have hB3 := h.blk.mod hg03 (fun h => h)
          iterate 2 refine DL.qf rfl (.yes rfl rfl rfl) rfl rfl (Yld.pure rfl) ?_
          refine DL.qf rfl (.yes rfl rfl rfl) rfl rfl (Yld.indexAddrN u26 i46 rfl rfl (by simp only at h33; omega)) ?_
          refine DL.q rfl (.yes rfl rfl rfl) rfl rfl rfl (Yld.loadN (cs := [.string y.name, .string y.value]) a46 rfl (atNM (fun j u hj => hg3.cell (hc3 j u hj) (fun h => h)) (id))) (Mod.drew _ _) ?_
          iterate 2 refine DL.qf rfl (.yes rfl rfl rfl) rfl rfl (Yld.pure rfl) ?_
          refine DL.qf rfl (.yes rfl rfl rfl) rfl rfl (Yld.fieldAddr fo60_1 rfl) ?_
          refine DL.q rfl (.yes rfl rfl rfl) rfl rfl rfl (Yld.load p58 rfl (atM (hB3.cell rfl) (fun h => h))) (Mod.drew _ _) ?_
          refine DL.qf rfl (.yes rfl rfl rfl) rfl rfl (Yld.pure rfl) ?_
          refine DL.qf rfl (.yes rfl rfl rfl) rfl rfl (Yld.indexAddrN u58 i32 rfl rfl (by simp only at h14; omega)) ?_
          refine DL.qf rfl (.yes rfl rfl rfl) rfl rfl (Yld.fieldAddr fo32_1 rfl) ?_
          refine DL.q rfl (.yes rfl rfl rfl) rfl rfl rfl (Yld.load p26 rfl (atM (hcl _ hg03) (fun h => h))) (Mod.drew _ _) ?_
          refine DL.qf rfl (.yes rfl rfl rfl) rfl rfl (Yld.pure rfl) ?_
          refine DL.qf rfl (.yes rfl rfl rfl) rfl rfl (Yld.indexAddrN u26 i46 rfl rfl (by simp only at h27; omega)) ?_
          refine DL.q rfl (.yes rfl rfl rfl) rfl rfl rfl (Yld.loadN (cs := [.string x.name, .string x.value]) a46 rfl (atNM (fun j u hj => hg03.cell (hc2 j u hj) (fun h => h)) (id))) (Mod.drew _ _) ?_
          refine DL.qf rfl (.yes rfl rfl rfl) rfl rfl (Yld.eqPair pair46 rfl rfl) ?_
          iterate 2 refine DL.p rfl rfl rfl ?_
          refine DL.done ?_
          refine RK.inBlock ?_
          refine RK.region ?_
          iterate 2 refine RL.p rfl rfl ?_
          refine RL.re (d := 35) rfl rfl (succ_i64 (by simp only at h33; omega)) ?_
          refine RL.p rfl rfl ?_
          refine RL.done ?_
          exact RK.back (ih3 (i + 1, decide (y.name = x.name ∧ y.value = x.value)) _ ⟨hg3.trans (Mod.drew _ _), by simp only at h33 ⊢; omega, by simp only [decide_eq_true_eq]; rw [hti, List.mem_append, List.mem_singleton, lab_eq]; constructor; (intro e; exact .inr e.symm); (rintro (e | e); (rw [hfl.2 e] at h37; cases h37); exact e.symm)⟩ (by simp only at h33 ⊢; omega)) ⟨rfl, rfl, rfl, rfl, rfl, rfl, trivial⟩
      · have hi' : D2.take i = D2 := List.take_of_length_le (by simp only at h33; omega)
        rw [hi'] at hfl
        refine RK.exit rfl ?_
        refine RK.seq ?_
        refine RK.region ?_
        iterate 2 refine RL.p rfl rfl ?_
        refine RL.done ?_
        first | refine RK.condD rfl (fun h56 => ?_) (fun h56 => ?_) | refine RK.condN rfl (fun h56 => ?_) (fun h56 => ?_) | refine RK.cond rfl (fun h56 => ?_) (fun h56 => ?_)
        · have hxn : x ∉ D2 := fun hm => by rw [hfl.2 hm] at h56; cases h56
          have hins : insL D2 x = D2 ++ [x] := if_neg hxn
          have hB3 := h.blk.mod hg03 (fun h => h)
          refine RK.region ?_
          iterate 3 refine RL.p rfl rfl ?_
          refine RL.q (.free rfl) rfl rfl (Yld.fieldAddr fo60_1 rfl) ?_
          refine RL.q (.free rfl) rfl rfl (Yld.load p58 rfl (at1 (hB3.cell rfl))) ?_
          refine RL.p rfl rfl ?_
          refine RL.q (.free rfl) rfl rfl (Yld.indexAddrN u58 i32 rfl rfl (by simp only at h14; omega)) ?_
          refine RL.q (.free rfl) rfl rfl (Yld.fieldAddr fo32_1 rfl) ?_
          refine RL.q (.free rfl) rfl rfl (Yld.load p26 rfl (at1 (hcl _ hg03))) ?_
          refine RL.p rfl rfl ?_
          refine RL.q (.free rfl) rfl rfl (Yld.indexAddrN u26 i46 rfl rfl (by simp only at h27; omega)) ?_
          refine RL.q (.free rfl) rfl rfl (Yld.loadN (cs := [.string x.name, .string x.value]) a46 rfl (atN (fun j u hj => hg03.cell (hc2 j u hj) (fun h => h)))) ?_
          refine RL.op (.free rfl) rfl rfl (Does.slice1 u26 i46 rfl rfl rfl rfl rfl) ?_
          rintro _ w4 ⟨b4, rfl, hn4⟩
          refine RL.op (.free rfl) rfl rfl (Does.append u26 i46 rfl rfl rfl rfl rfl ((hr2.mod hg3 (fun _ _ h => h)).mod hn4.grow (fun _ _ h => h)) (Sl.new hn4 2 1 rfl (by omega) (fun h => h)) (rfl) (by omega)) ?_
          rintro u5 w5 ⟨hr5, hm5, hu5⟩
          refine RL.p rfl rfl ?_
          refine RL.done ?_
          refine RK.inBlock ?_
          refine RK.region ?_
          iterate 2 refine RL.p rfl rfl ?_
          refine RL.re (d := 29) rfl rfl (succ_i64 (by have := hsa.big; simp only at h27; omega)) ?_
          refine RL.p rfl rfl ?_
          refine RL.done ?_
          exact RK.back (ih2 (j + 1, u5) _ ⟨by simp only; rw [htj, hins, List.flatMap_append, List.length_append]; exact hr5, fun b e => by
              have h1 := hg03.size; have h3 := hn4.size
              rcases hu5 with hh | hh
              · rw [hh] at e; exact hfr2 b e
              · rw [hh] at e; cases e; omega
            , (hg03.trans hn4.grow).then hm5 (fun x hx e => by have := hfr2 x e; omega), by simp only at h27 ⊢; omega⟩ (by simp only at h27 ⊢; omega)) ⟨rfl, rfl, rfl, rfl, trivial⟩
        · have hxm : x ∈ D2 := hfl.1 (by simpa using h56)
          have hins : insL D2 x = D2 := if_pos hxm
          refine RK.skip ?_
          refine RK.inBlock ?_
          refine RK.region ?_
          iterate 2 refine RL.p rfl rfl ?_
          refine RL.re (d := 29) rfl rfl (succ_i64 (by have := hsa.big; simp only at h27; omega)) ?_
          refine RL.p rfl rfl ?_
          refine RL.done ?_
          exact RK.back (ih2 (j + 1, .slice adv D2.length cv) _ ⟨by simp only; rw [htj, hins]; exact hr2.mod hg3 (fun _ _ h => h), hfr2, hg03, by simp only at h27 ⊢; omega⟩ (by simp only at h27 ⊢; omega)) ⟨rfl, rfl, rfl, rfl, trivial⟩
    · have hjl : a.ls.take j = a.ls := List.take_of_length_le (by simp only at h27; omega)
      rw [hjl] at hr2
      refine RK.exit rfl ?_
      refine RK.inBlock ?_
      refine RK.region ?_
      iterate 2 refine RL.p rfl rfl ?_
      refine RL.re (d := 16) rfl rfl (succ_i64 (by simp only at h14; omega)) ?_
      refine RL.p rfl rfl ?_
      refine RL.done ?_
      exact RK.back (ih (k + 1, v) _ ⟨by simp only; rw [htk, addL_app, hDe]; exact hr2, hfr2, hg2, by simp only at h14 ⊢; omega⟩ (by simp only at h14 ⊢; omega)) ⟨rfl, rfl, rfl, trivial⟩
  · have ek : al.take k = al := List.take_of_length_le (by simp only at h14; omega)
    rw [ek] at hr
    obtain ⟨adv, cv, rfl⟩ := hr.slice
    refine RK.exit rfl ?_
    refine RK.seq ?_
    refine RK.region ?_
    refine RL.p rfl rfl ?_
    refine RL.q (.free rfl) rfl rfl (Yld.lenSl u26 rfl) ?_
    refine RL.p rfl rfl ?_
    refine RL.done ?_
    refine RK.ret_of Tryz.func39 (res1 rfl rfl) ?_ _
    exact ⟨_, rfl, rfl, hg⟩
end Go.Proofs.YtffbcfcoddacmaaGreat

/- Chapter 15: one step, of the store and of the document's own alerts. -/
set_option linter.unusedVariables false
set_option linter.unusedSimpArgs false
set_option maxHeartbeats 1000000
set_option maxRecDepth 100000
namespace Go.Proofs.YtffbcfcoddacmaaGreat
open Go Go.X
theorem resolve_eq (s : St) (id : Int) : (resolveS s id).1.al = (resolveR s.al id).1 ∧ (resolveS s id).2 = (resolveR s.al id).2 ∧ (resolveS s id).1.most = s.most ∧ (resolveS s id).1.last = s.last := by
  unfold resolveS resolveR
  rw [show placeS s id = whereI s.al id from rfl]
  cases whereI s.al id <;> exact ⟨rfl, rfl, rfl, rfl⟩
theorem post_eq (s : St) (h : Ok s) (hl : s.last ≤ 1000) (ls : List Lab) (his : isS ls = true) (val : Nat) : (postS s ls val).1.al = (postR s.most s.last s.al ls val).1 ∧ (postS s ls val).1.last = (postR s.most s.last s.al ls val).2.1 ∧ (postS s ls val).2 = (postR s.most s.last s.al ls val).2.2 ∧ (postS s ls val).1.most = s.most := by
  have h1 := h.alOut
  have hf : fullS s.most s.last s.out = decide (s.most ≤ s.al.length) := by
    unfold fullS
    rw [Bool.eq_iff_iff]
    simp only [decide_eq_true_eq]
    omega
  unfold postS postR
  rw [if_neg (by simp [his])]
  cases findS (s.al.map (·.2.1)) ls with
  | some i => exact ⟨rfl, rfl, rfl, rfl⟩
  | none =>
    simp only [hf, decide_eq_true_eq]
    split <;> exact ⟨rfl, rfl, rfl, rfl⟩
theorem post_last (s : St) (ls : List Lab) (val : Nat) : (postS s ls val).1.last ≤ s.last + 1 := by
  unfold postS
  split
  · simp only; omega
  · split
    · simp only; omega
    · split <;> (simp only; omega)
theorem KX.pass {O M M' Q : Nat → Prop} {w w' : World} {p : Nat} {s : St} (h : KX O M w p s) (hm : Mod Q w w') (h1 : ∀ b, O b → ¬ Q b) (h2 : ∀ b, Q b → b < w.heap.size → M b) (h3 : ∀ b, O b → M' b) (h4 : ∀ b, M' b → M b ∨ w.heap.size ≤ b) (h5 : ∀ b, M' b → b < w'.heap.size) : KX O M' w' p s := by
  obtain ⟨⟨q, ix, mh, mr, vo, vl, al, hO, h⟩, hok, hgd⟩ := h
  have k3 : ∀ b, own p q ix mh mr vo vl b → ¬ Q b := fun b e => h1 b ((hO b).2 e)
  refine ⟨⟨q, ix, mh, mr, vo, vl, al, hO, h.blk.mod hm (k3 p (.inl rfl)), h.pool.mod hm (k3 q (.inr (.inl rfl))) (fun b e => k3 b (.inr (.inr (.inr (.inr (.inl e)))))), ?_, h.row.mod hm (fun b e => k3 b (.inr (.inr (.inr (.inr (.inr (.inl e))))))), h.als, fun a ha => (h.sls a ha).pass (by omega) (hm.mono fun b hb e => h2 b e hb) h4, fun b e => h3 b ((hO b).2 e), h5⟩, hok, hgd⟩
  have i1 : IdxAt (fun b => M b ∨ M' b) w ix mh mr s.has s.rows := h.idx.off fun b hb e => e.elim (fun e => e) fun e => (h4 b e).elim (fun e => e) (fun e => by omega)
  exact (i1.mod hm (fun b hb e => .inl (h2 b e hb)) (k3 ix (.inr (.inr (.inr (.inr (.inr (.inr rfl))))))) (k3 mh (.inr (.inr (.inl rfl)))) (k3 mr (.inr (.inr (.inr (.inl rfl)))))).off fun b _ e => .inr e
theorem KX.lt {O M : Nat → Prop} {w : World} {p : Nat} {s : St} (h : KX O M w p s) {b : Nat} (hb : M b) : b < w.heap.size := h.at_.lt hb
/-- A store and the document's own alerts, alike. -/
structure Twin (O P M : Nat → Prop) (w : World) (p r : Nat) (s : St) : Prop where
  km : KX O M w p s
  ra : RAt P M w r s.most s.last s.al
  off : ∀ b, O b → ¬ P b
theorem Twin.grow {O P M : Nat → Prop} {w w' : World} {p r : Nat} {s : St} (h : Twin O P M w p r s) (hg : Grow w w') : Twin O P M w' p r s := ⟨h.km.grow hg, h.ra.grow hg, h.off⟩
/-- What comes of the one, then of the other. -/
theorem Twin.both {O P M O' P' : Nat → Prop} {w w1 w2 : World} {p r : Nat} {s s' : St} (h : Twin O P M w p r s) (k1 : KX O' (fun b => M b ∨ O' b) w1 p s') (m1 : Mod O w w1) (n1 : ∀ b, O' b → O b ∨ w.heap.size ≤ b) (k2 : RAt P' (fun b => (M b ∨ O' b) ∨ P' b) w2 r s'.most s'.last s'.al) (m2 : Mod P w1 w2) (n2 : ∀ b, P' b → P b ∨ w1.heap.size ≤ b) : Twin O' P' (fun b => (M b ∨ O' b) ∨ P' b) w2 p r s' := by
  have hOlt : ∀ b, O b → b < w.heap.size := fun b e => h.km.lt (h.km.at_.sub e)
  have hPlt : ∀ b, P b → b < w.heap.size := fun b e => h.km.lt (h.ra.sub e)
  have hOP : ∀ b, O' b → ¬ P b := fun b e e2 => by
    rcases n1 b e with h1 | h1
    · exact h.off b h1 e2
    · have := hPlt b e2; omega
  refine ⟨k1.pass m2 hOP (fun b e _ => .inl (h.ra.sub e)) (fun b e => .inl (.inr e)) (fun b e => ?_) (fun b e => k2.lt e), k2, fun b e e2 => ?_⟩
  · rcases e with e | e
    · exact .inl e
    · rcases n2 b e with h1 | h1
      · exact .inl (.inl (h.ra.sub h1))
      · exact .inr h1
  · rcases n2 b e2 with h1 | h1
    · exact hOP b e h1
    · have := k1.lt (.inr e); omega
/-- The other, when the one has come. -/
theorem Twin.other {O P M O' : Nat → Prop} {w w1 : World} {p r : Nat} {s s' : St} (h : Twin O P M w p r s) (k1 : KX O' (fun b => M b ∨ O' b) w1 p s') (m1 : Mod O w w1) (n1 : ∀ b, O' b → O b ∨ w.heap.size ≤ b) : RAt P (fun b => M b ∨ O' b) w1 r s.most s.last s.al :=
  h.ra.pass m1 (fun b e e2 => h.off b e2 e) (fun b e _ => h.km.at_.sub e) (fun b e => .inl (h.ra.sub e)) (fun b e => by
    rcases e with e | e
    · exact .inl e
    · rcases n1 b e with h1 | h1
      · exact .inl (h.km.at_.sub h1)
      · exact .inr h1) (fun b e => k1.lt e)
structure Sv where
  d : Int
  id : Int
  labs : List Int
  val : Nat
  v : Value
def svC (x : Sv) : List Value := [.int .u8 x.d, .int .i64 x.id, x.v, .float .f64 x.val]
theorem svC_len (x : Sv) : (svC x).length = 4 := rfl
def Sv.Ok (w : World) (x : Sv) : Prop := Sl No w x.v 1 x.labs.length (ints x.labs) ∧ (∀ n ∈ x.labs, -9223372036854775808 ≤ n ∧ n ≤ 9223372036854775807) ∧ x.val < 18446744073709551616
theorem labels_size (l : List Int) : ∀ x ∈ labelsS l, x.name.size ≤ 9223372036854775807 := fun x hx => by
  obtain ⟨h1, _, _⟩ := raw_ok l
  have := (nmL_ok _ (h1.nm x (mem_isort.1 hx))).2.2
  omega
theorem step15_ok (w : World) (p r : Nat) (s : St) (O P M : Nat → Prop) (h : Twin O P M w p r s) (hl : s.last ≤ 1000) (w0 : World) (hM0 : ∀ b, M b → w0.heap.size ≤ b) (hg0 : Grow w0 w) (x : Sv) (hx : x.Ok w0) :
    Fx Tryz.prog 33 [pp p, pp r, .agg #[.int .u8 x.d, .int .i64 x.id, x.v, .float .f64 x.val]] w (fun u w' => ∃ s' O' P' M', u = .bool true ∧ Twin O' P' M' w' p r s' ∧ s'.last ≤ s.last + 1 ∧ (∀ b, M' b → w0.heap.size ≤ b) ∧ Grow w0 w' ∧ Mod (fun b => O b ∨ P b) w w') := by
  obtain ⟨d, id, labs, val, xv⟩ := x
  obtain ⟨hx1, hx2, hx3⟩ := hx
  simp only at hx1 hx2 hx3
  obtain ⟨adx, cx, rfl⟩ := hx1.shape
  have hlen := h.km.km.len16
  have h0P : ∀ b, P b → w0.heap.size ≤ b := fun b e => hM0 b (h.ra.sub e)
  have h0O : ∀ b, O b → w0.heap.size ≤ b := fun b e => hM0 b (h.km.at_.sub e)
  have hgw := hg0.size
  refine enter Tryz.func33 rfl rfl rfl _ (Pick.sub (l := [0, 1, 2]) (.cons rfl (.cons rfl (.cons rfl .nil)))) ?_
  refine RK.seq ?_
  refine RK.region ?_
  refine RL.op (.free rfl) rfl rfl (Does.box rfl) ?_
  rintro _ w1 ⟨b5, rfl, hn5⟩
  have h1 := h.grow hn5.grow
  have hs5 := hn5.grow.size
  refine RL.p rfl rfl ?_
  refine RL.done ?_
  iterate 2 refine RK.seq ?_
  refine RK.region ?_
  refine RL.q (.free rfl) rfl rfl (Yld.fieldAddr fo57_0 rfl) ?_
  refine RL.q (.free rfl) rfl rfl (Yld.load p5 rfl (at1 (hn5.blk.cell rfl))) ?_
  refine RL.q (.free rfl) rfl rfl (Yld.rem rfl rfl (by omega)) ?_
  refine RL.p rfl rfl ?_
  refine RL.done ?_
  first | refine RK.condD rfl (fun h17 => ?_) (fun h17 => ?_) | refine RK.condN rfl (fun h17 => ?_) (fun h17 => ?_) | refine RK.cond rfl (fun h17 => ?_) (fun h17 => ?_)
  · have hb5O : ¬ O b5 := fun e => by have h3 := h.km.lt (h.km.at_.sub e); have h4 := hn5.at_; omega
    have hb5P : ¬ P b5 := fun e => by have h3 := h.km.lt (h.ra.sub e); have h4 := hn5.at_; omega
    refine RK.seq ?_
    refine RK.drawM (fun b => O b ∨ P b) [(0, false), (1, false), (2, false), (4, false), (5, false), (6, false), (3, true), (7, true), (8, false), (9, false)] [] mixed (by kernel_rfl) ?_
    refine DL.p rfl rfl rfl ?_
    refine DL.qf rfl (.free rfl) rfl rfl (Yld.fieldAddr fo57_1 rfl) ?_
    refine DL.q rfl (.free rfl) rfl rfl rfl (Yld.load p3 rfl (atM (hn5.blk.cell rfl) (fun e => e.elim hb5O hb5P))) (Mod.drew _ _) ?_
    refine DL.p rfl rfl rfl ?_
    refine DL.qf rfl (.free rfl) rfl rfl (Yld.fieldAddr fo57_1 rfl) ?_
    refine DL.q rfl (.free rfl) rfl rfl rfl (Yld.load p3 rfl (atM (hn5.blk.cell rfl) (fun e => e.elim hb5O hb5P))) (Mod.drew _ _) ?_
    refine DL.op rfl (.free rfl) rfl rfl (Does.call rfl e24 ((h1.grow (Mod.drew _ _)).km.resolve id)) ?_
    rintro _ w3 ⟨O', rfl, k3, m3, n3⟩
    refine ⟨(Mod.drew _ _).trans (m3.mono fun b _ e => .inl e), ?_⟩
    have h2 := h1.grow (Mod.drew _ _)
    have r3 := h2.other k3 m3 n3
    obtain ⟨e1, e2, e3, e4⟩ := resolve_eq s id
    obtain ⟨vl, al, hra, hal⟩ := r3
    have hall : al.length ≤ 16 := by have h5 := congrArg List.length hal; simp at h5; omega
    refine DL.op rfl (.free rfl) rfl rfl (Does.call rfl e92 (rresolve_ok P _ _ r _ _ _ al hra (by omega) id)) ?_
    rintro _ w4 ⟨P', rfl, k4, m4, n4⟩
    refine ⟨((Mod.drew _ _).trans (m3.mono fun b _ e => .inl e)).trans (m4.mono fun b _ e => .inr e), ?_⟩
    rw [hal] at k4 ⊢
    rw [← e1, ← e3, ← e4] at k4
    have hT := h2.both k3 m3 n3 k4 m4 n4
    iterate 2 refine DL.p rfl rfl rfl ?_
    refine DL.done ?_
    refine RK.ret_of Tryz.func33 (res1 rfl rfl) ?_ _
    exact ⟨_, rfl, _, _, _, _, by rw [e2]; simp, hT, by rw [e4]; omega, fun b e => by
        have q3 := m3.size
        have q2 : w1.drew.heap.size = w1.heap.size := rfl
        rcases e with (e | e) | e
        · exact hM0 b e
        · rcases n3 b e with h9 | h9
          · exact h0O b h9
          · omega
        · rcases n4 b e with h9 | h9
          · exact h0P b h9
          · omega
      , (((hg0.trans hn5.grow).trans (Mod.drew _ _)).then m3 (fun b hb e => by have := h0O b e; omega)).then m4 (fun b hb e => by have := h0P b e; omega), ((Mod.any' (hn5.grow.trans (Mod.drew No w1))).trans (m3.mono fun b _ e => .inl e)).trans (m4.mono fun b _ e => .inr e)⟩
  · refine RK.skip ?_
    refine RK.seq ?_
    refine RK.region ?_
    refine RL.q (.free rfl) rfl rfl (Yld.fieldAddr fo57_2 rfl) ?_
    refine RL.q (.free rfl) rfl rfl (Yld.load p22 rfl (at1 (hn5.blk.cell rfl))) ?_
    refine RL.op (.free rfl) rfl rfl (Does.call rfl e17 (labels_ok No labs _ _ (hx1.mod (hg0.trans hn5.grow)) hx2)) ?_
    rintro u2 w2 ⟨ad2, c2, rfl, hr2, hf2, hg2⟩
    have his := labels_isS labs
    have hsz := labels_size labs
    generalize labelsS labs = ls at *
    have h2 := h1.grow hg2
    have hs2 := hg2.size
    have hvM : SlL M w2 (.slice ad2 ls.length c2) ls := Sl.own hr2 (fun b e e2 => by have h3 := hf2 b e; have h4 := h1.km.lt e2; omega)
    have hB2 := hn5.blk.mod hg2 (fun h => h)
    refine RL.p rfl rfl ?_
    refine RL.done ?_
    refine RK.seq ?_
    refine RK.region ?_
    iterate 2 refine RL.p rfl rfl ?_
    refine RL.q (.free rfl) rfl rfl (Yld.fieldAddr fo57_3 rfl) ?_
    refine RL.q (.free rfl) rfl rfl (Yld.load p23 rfl (at1 (hB2.cell rfl))) ?_
    refine RL.op (.free rfl) rfl rfl (Does.call rfl e18 (h2.km.post hvM hx3)) ?_
    rintro _ w3 ⟨O', rfl, k3, m3, n3⟩
    have hb5O : ¬ O b5 := fun e => by have h3 := h.km.lt (h.km.at_.sub e); have h4 := hn5.at_; omega
    have hB3 := hB2.mod m3 hb5O
    have r3 := h2.other k3 m3 n3
    obtain ⟨e1, e2, e3, e4⟩ := post_eq s h.km.ok hl ls his val
    have hv3 : SlL (fun b => M b ∨ O' b) w3 (.slice ad2 ls.length c2) ls := hvM.pass (by omega) (m3.mono fun b _ e => h.km.at_.sub e) (fun b e => e.elim .inl fun e => (n3 b e).imp (fun e => h.km.at_.sub e) (fun h => h))
    iterate 7 refine RL.p rfl rfl ?_
    refine RL.done ?_
    refine RK.seq ?_
    refine RK.region ?_
    iterate 2 refine RL.p rfl rfl ?_
    refine RL.q (.free rfl) rfl rfl (Yld.fieldAddr fo57_3 rfl) ?_
    refine RL.q (.free rfl) rfl rfl (Yld.load p23 rfl (at1 (hB3.cell rfl))) ?_
    obtain ⟨vl, al, hra, hal⟩ := r3
    have hall : al.length ≤ 16 := by have h5 := congrArg List.length hal; simp at h5; omega
    refine RL.op (.free rfl) rfl rfl (Does.call rfl e93 (rpost_ok P _ _ r _ _ _ al hra (by omega) h.km.ok.last0 (by omega) ls _ hv3 his hsz val)) ?_
    rintro _ w4 ⟨P', rfl, k4, m4, n4⟩
    rw [hal] at k4 ⊢
    rw [← e1, ← e2, ← e4] at k4
    have hT := h2.both k3 m3 n3 k4 m4 n4
    have hlast := post_last s ls val
    iterate 7 refine RL.p rfl rfl ?_
    refine RL.done ?_
    refine RK.seq ?_
    refine RK.region ?_
    iterate 4 refine RL.p rfl rfl ?_
    refine RL.knownT (d := 51) rfl rfl (decide_eq_true (by rw [e3])) ?_
    iterate 2 refine RL.q (.yes rfl rfl rfl) rfl rfl (Yld.pure rfl) ?_
    refine RL.q (.yes rfl rfl rfl) rfl rfl (Yld.eqBool u4 rfl rfl) ?_
    iterate 2 refine RL.p rfl rfl ?_
    refine RL.knownT (d := 56) rfl rfl (by rw [e3]; simp) ?_
    iterate 3 refine RL.q (.yes rfl rfl rfl) rfl rfl (Yld.pure rfl) ?_
    iterate 2 refine RL.p rfl rfl ?_
    refine RL.done ?_
    refine RK.ret_of Tryz.func33 (res1 rfl rfl) ?_ _
    exact ⟨_, rfl, _, _, _, _, by rw [e3]; simp, hT, hlast, fun b e => by
        have q3 := m3.size
        rcases e with (e | e) | e
        · exact hM0 b e
        · rcases n3 b e with h9 | h9
          · exact h0O b h9
          · omega
        · rcases n4 b e with h9 | h9
          · exact h0P b h9
          · omega
      , (((hg0.trans hn5.grow).trans hg2).then m3 (fun b hb e => by have := h0O b e; omega)).then m4 (fun b hb e => by have := h0P b e; omega), ((Mod.any' (hn5.grow.trans hg2)).trans (m3.mono fun b _ e => .inl e)).trans (m4.mono fun b _ e => .inr e)⟩
end Go.Proofs.YtffbcfcoddacmaaGreat

/- AlertPlays: the walk. -/
set_option linter.unusedVariables false
set_option linter.unusedSimpArgs false
set_option maxHeartbeats 1000000
set_option maxRecDepth 100000
namespace Go.Proofs.YtffbcfcoddacmaaGreat
open Go Go.X
theorem blk0 {w : World} {b t : Nat} {cs : List Value} (h : Blk w b t cs) : ∀ (j : Nat) (u : Value), cs[j]? = some u → w.cell? ⟨b, 0 + j, none⟩ = some u := fun j u hj => by rw [Nat.zero_add]; exact h.cell' hj
theorem get_isSome (s : St) (id : Int) : (getS s id).isSome = (whereI s.al id).isSome := by
  unfold getS
  rw [show placeS s id = whereI s.al id from rfl]
  cases h : whereI s.al id with
  | none => rfl
  | some i =>
    unfold whereI at h
    obtain ⟨h1, _⟩ := List.findIdx?_eq_some_iff_getElem.1 h
    simp [List.getElem?_eq_getElem h1]
theorem aplays_ok (n : Int) (l : List Sv) (id : Int) (vl : Value) (w : World) (hl : Sl No w vl 4 l.length (l.flatMap svC)) (hx : ∀ x ∈ l, x.Ok w) :
    Fx Tryz.prog 5 [.int .i64 n, vl, .int .i64 id] w (fun u w' => u = .bool true ∧ Grow w w') := by
  obtain ⟨adl, cl, rfl⟩ := hl.shape
  refine enter Tryz.func5 rfl rfl rfl _ (Pick.sub (l := [0, 1, 2]) (.cons rfl (.cons rfl (.cons rfl .nil)))) ?_
  refine RK.seq ?_
  refine RK.region ?_
  refine RL.p rfl rfl ?_
  refine RL.done ?_
  iterate 2 refine RK.seq ?_
  refine RK.region ?_
  refine RL.p rfl rfl ?_
  refine RL.q (.free rfl) rfl rfl (Yld.lenSl u52 rfl) ?_
  refine RL.p rfl rfl ?_
  refine RL.done ?_
  first | refine RK.condD rfl (fun h16 => ?_) (fun h16 => ?_) | refine RK.condN rfl (fun h16 => ?_) (fun h16 => ?_) | refine RK.cond rfl (fun h16 => ?_) (fun h16 => ?_)
  · refine RK.seq ?_
    refine RK.region ?_
    refine RL.op (.free rfl) rfl rfl (Does.call rfl e26 (runs_ok _)) ?_
    rintro _ w2 ⟨rfl, hg2⟩
    refine RL.p rfl rfl ?_
    refine RL.done ?_
    refine RK.ret_of Tryz.func5 (res1 rfl rfl) ?_ _
    exact ⟨_, rfl, rfl, hg2⟩
  · refine RK.skip ?_
    refine RK.seq ?_
    refine RK.region ?_
    refine RL.p rfl rfl ?_
    refine RL.op (.free rfl) rfl rfl (Does.call rfl e16 (km_new n _)) ?_
    rintro _ w1 ⟨p, O, rfl, k1, hO, hg1⟩
    refine RL.p rfl rfl ?_
    refine RL.op (.free rfl) rfl rfl (Does.call rfl e32 (newAlerts_ok n _)) ?_
    rintro _ w2 ⟨r, P, rfl, k2, hP, hg2⟩
    have hs1 := hg1.size
    have hs2 := hg2.size
    have hTw : Twin O P (fun b => O b ∨ P b) w2 p r (St.new n) := by
        have hx2 : KX O O w1 p (St.new n) := ⟨k1.at_, k1.ok, k1.gd⟩
        refine ⟨hx2.pass (Q := No) hg2 (fun _ _ h => h) (fun _ h => h.elim) (fun b e => .inl e) (fun b e => e.imp (fun h => h) (hP b)) (fun b e => e.elim (fun e => by have := k1.lt e; omega) (fun e => k2.lt e)), ?_, fun b e e2 => by have h1 := k1.lt e; have h2 := hP b e2; omega⟩
        obtain ⟨vl, al, hra, e⟩ := k2
        obtain rfl : al = [] := by simpa using e
        exact ⟨vl, [], ⟨hra.blk, hra.row, by simp, hra.own, fun b e => .inr e, fun b e => e.elim (fun e => by have := k1.lt e; omega) (fun e => hra.lt e)⟩, rfl⟩
    iterate 2 refine RL.p rfl rfl ?_
    refine RL.done ?_
    iterate 2 refine RK.seq ?_
    refine RK.region ?_
    refine RL.p rfl rfl ?_
    refine RL.q (.free rfl) rfl rfl (Yld.eqPtr Tryz.underlying24 rfl rfl) ?_
    refine RL.done ?_
    refine RK.condF (hcF rfl (rfl)) ?_
    refine RK.skip ?_
    iterate 2 refine RK.seq ?_
    refine RK.region ?_
    refine RL.p rfl rfl ?_
    refine RL.done ?_
    refine RK.block ?_
    refine RK.loop (fun k : Nat => [(1, .slice adl l.length cl), (2, .int .i64 id), (7, pp p), (8, pp r), (9, .int .i64 (k : Int))]) (fun k w' => ∃ s O P M, Twin O P M w' p r s ∧ s.last ≤ k ∧ k ≤ l.length ∧ (∀ b, M b → w.heap.size ≤ b) ∧ Grow w w') (fun k => l.length - k) 0 ⟨rfl, rfl, rfl, rfl, rfl, trivial⟩ ⟨_, O, P, _, hTw, by simp [St.new], by omega, fun b e => e.elim (hO b) (fun e => by have := hP b e; omega), hg1.trans hg2⟩ (fun k w3 hI ih => ?_)
    obtain ⟨s, O, P, M, hT, hlast, hk, hM, hg⟩ := hI
    iterate 2 refine RK.seq ?_
    refine RK.region ?_
    iterate 2 refine RL.p rfl rfl ?_
    refine RL.q (.free rfl) rfl rfl (Yld.lenSl u52 rfl) ?_
    refine RL.p rfl rfl ?_
    refine RL.done ?_
    first | refine RK.condD rfl (fun h27 => ?_) (fun h27 => ?_) | refine RK.condN rfl (fun h27 => ?_) (fun h27 => ?_) | refine RK.cond rfl (fun h27 => ?_) (fun h27 => ?_)
    · obtain ⟨x, hx'⟩ : ∃ x, l[k]? = some x := ⟨l[k]'(by omega), List.getElem?_eq_getElem (by omega)⟩
      obtain ⟨b1, o1, c1', he1, _, _, hc1⟩ := hl.elem svC_len hx'
      cases he1
      have hxo := hx x (List.mem_of_getElem? hx')
      have hb1 : ¬ w.heap.size ≤ b1 := by have := World.block_lt_of_cell? w _ (hc1 0 _ rfl); simp only at this; omega
      refine RK.skip ?_
      refine RK.seq ?_
      refine RK.block ?_
      refine RK.seq ?_
      refine RK.drawF (fun b => w.heap.size ≤ b) [(0, false), (1, false), (2, false), (3, false), (4, false), (5, false), (6, true), (7, false), (8, false), (9, false), (11, false), (12, false), (13, false)] 10 14 [(14, true), (15, false), (16, false), (17, false)] [(15, false), (10, true), (16, false), (17, false)] [] mixed (by kernel_rfl) ?_
      iterate 4 refine DL.p rfl rfl rfl ?_
      refine DL.qf rfl (.free rfl) rfl rfl (Yld.indexAddrN u52 i57 rfl rfl (by omega)) ?_
      refine DL.q rfl (.free rfl) rfl rfl rfl (Yld.loadN (cs := [.int .u8 x.d, .int .i64 x.id, x.v, .float .f64 x.val]) a57 rfl (atNM (fun j u hj => hg.cell (hc1 j u hj) (fun h => h)) (hb1))) (Mod.drew _ _) ?_
      refine DL.op rfl (.free rfl) rfl rfl (Does.call rfl e33 (step15_ok _ p r s O P M (hT.grow (Mod.drew _ _)) (by omega) w hM (hg.trans (Mod.drew _ _)) x hxo)) ?_
      rintro _ w4 ⟨s', O', P', M', rfl, hT', hl', hM', hg', hm4⟩
      have hm34 : Mod (fun b => w.heap.size ≤ b) w3 w4 := (Mod.drew _ _).trans (hm4.mono fun b _ e => hM b (e.elim (fun e => hT.km.at_.sub e) (fun e => hT.ra.sub e)))
      refine ⟨hm34, ?_⟩
      iterate 2 refine DL.p rfl rfl rfl ?_
      refine DL.knownF (d := 38) rfl rfl (rfl) ?_
      iterate 3 refine DL.qf rfl (.yes rfl rfl rfl) rfl rfl (Yld.pure rfl) ?_
      refine DL.qf rfl (.yes rfl rfl rfl) rfl rfl (Yld.fieldAddr fo60_1 rfl) ?_
      obtain ⟨vl4, al4, hra4, hal4⟩ := hT'.ra
      obtain ⟨ad4, c4, hvl4⟩ := hra4.row.slice
      subst hvl4
      have hlen4 : al4.length = s'.al.length := by have := congrArg List.length hal4; simpa using this
      refine DL.fork ?_ ?_
      · refine DL.op rfl (.yes rfl rfl rfl) rfl rfl (Does.call rfl e23 (hT'.km.km.size)) ?_
        rintro _ _ ⟨rfl, rfl⟩
        refine ⟨hm34, ?_⟩
        refine DL.lq rfl (.yes rfl rfl rfl) rfl rfl (Yld.load p58 rfl (at1 (hra4.blk.cell rfl))) ?_
        refine DL.q rfl (.yes rfl rfl rfl) rfl rfl rfl (Yld.lenSl u58 rfl) (hm34) ?_
        refine DL.qf rfl (.yes rfl rfl rfl) rfl rfl (Yld.pure rfl) ?_
        refine DL.p rfl rfl rfl ?_
        refine DL.done ?_
        refine RK.condF (hcF rfl (by rw [hlen4]; simp)) ?_
        refine RK.skip ?_
        refine RK.inBlock ?_
        refine RK.region ?_
        iterate 2 refine RL.p rfl rfl ?_
        refine RL.re (d := 29) rfl rfl (succ_i64 (by omega)) ?_
        refine RL.p rfl rfl ?_
        refine RL.done ?_
        exact RK.back (ih (k + 1) _ ⟨s', O', P', M', hT', by omega, by omega, hM', hg'⟩ (by omega)) ⟨rfl, rfl, rfl, rfl, rfl, trivial⟩
      · refine DL.lq rfl (.yes rfl rfl rfl) rfl rfl (Yld.load p58 rfl (at1 (hra4.blk.cell rfl))) ?_
        refine DL.q rfl (.yes rfl rfl rfl) rfl rfl rfl (Yld.lenSl u58 rfl) (hm34) ?_
        refine DL.op rfl (.yes rfl rfl rfl) rfl rfl (Does.call rfl e23 (hT'.km.km.size)) ?_
        rintro _ _ ⟨rfl, rfl⟩
        refine ⟨hm34, ?_⟩
        refine DL.qf rfl (.yes rfl rfl rfl) rfl rfl (Yld.pure rfl) ?_
        refine DL.p rfl rfl rfl ?_
        refine DL.done ?_
        refine RK.condF (hcF rfl (by rw [hlen4]; simp)) ?_
        refine RK.skip ?_
        refine RK.inBlock ?_
        refine RK.region ?_
        iterate 2 refine RL.p rfl rfl ?_
        refine RL.re (d := 29) rfl rfl (succ_i64 (by omega)) ?_
        refine RL.p rfl rfl ?_
        refine RL.done ?_
        exact RK.back (ih (k + 1) _ ⟨s', O', P', M', hT', by omega, by omega, hM', hg'⟩ (by omega)) ⟨rfl, rfl, rfl, rfl, rfl, trivial⟩
    · have hkm := hT.km.km
      obtain ⟨vlr, al, hra, hal⟩ := hT.ra
      have hall : al.length = s.al.length := by have := congrArg List.length hal; simpa using this
      have h16 := hkm.len16
      refine RK.exit rfl ?_
      refine RK.seq ?_
      refine RK.region ?_
      iterate 2 refine RL.p rfl rfl ?_
      refine RL.op (.free rfl) rfl rfl (Does.call rfl e19 (hkm.get id)) ?_
      rintro _ w4 ⟨ad4, c4, rfl, hr4, hg4⟩
      generalize hGe : (getS s id).getD (0, [], 0) = G at *
      iterate 3 refine RL.p rfl rfl ?_
      refine RL.op (.free rfl) rfl rfl (Does.alloc i32) ?_
      rintro _ w5 ⟨b5, rfl, hn5⟩
      refine RL.op' (.free rfl) rfl (Does.storeN i32 rfl rfl rfl rfl hn5.blk (Nat.le_refl 3)) ?_
      rintro _ w6 ⟨hb6, hm6, _⟩
      have hg46 : Grow w4 w6 := hn5.grow.then hm6 (fun y hy e => by have e' : y = b5 := e; have := hn5.at_; omega)
      have hg36 := hg4.trans hg46
      have hB6 : Blk w6 b5 32 [.int .i64 G.1, .slice ad4 G.2.1.length c4, .float .f64 G.2.2] := hb6
      refine RL.p rfl rfl ?_
      refine RL.done ?_
      refine RK.seq ?_
      refine RK.region ?_
      iterate 2 refine RL.p rfl rfl ?_
      refine RL.op (.free rfl) rfl rfl (Does.call rfl e34 (rget_ok P M _ r _ _ _ al (hra.grow hg36) (by omega) id)) ?_
      rintro _ w7 ⟨g, hg', rfl, ⟨adg, cg, hgv⟩, hgs, hg67⟩
      rw [hal] at hg' ⊢
      have hg2 : pub g = G := hg'.trans hGe
      rw [hgv]
      iterate 3 refine RL.p rfl rfl ?_
      refine RL.op (.free rfl) rfl rfl (Does.alloc i32) ?_
      rintro _ w8 ⟨b8, rfl, hn8⟩
      refine RL.op' (.free rfl) rfl (Does.storeN i32 rfl rfl rfl rfl hn8.blk (Nat.le_refl 3)) ?_
      rintro _ w9 ⟨hb9, hm9, _⟩
      have hg79 : Grow w7 w9 := hn8.grow.then hm9 (fun y hy e => by have e' : y = b8 := e; have := hn8.at_; omega)
      have hB9 : Blk w9 b8 32 [.int .i64 g.id, .slice adg g.ls.length cg, .float .f64 g.val] := hb9
      have hB69 := (hB6.mod hg67 (fun h => h)).mod hg79 (fun h => h)
      have hg39 := (hg36.trans hg67).trans hg79
      have hgs9 : SlL No w9 g.v g.ls := (Sl.noM hgs).mod hg79
      have hr9 := hr4.mod ((hg46.trans hg67).trans hg79) (fun _ _ h => h)
      refine RL.p rfl rfl ?_
      refine RL.done ?_
      refine RK.seq ?_
      refine RK.drawF No [(0, false), (1, false), (2, false), (3, false), (4, false), (6, false)] 5 7 [(7, true), (8, true), (9, false), (10, false), (11, false), (13, false), (14, false), (15, false), (16, false), (12, true), (17, true), (18, false), (19, false), (20, false), (22, false), (21, true), (23, true), (24, true), (25, false), (26, false), (27, false), (29, false), (28, true), (30, true), (31, false), (32, false), (33, false), (34, true), (35, false), (36, false)] [(5, true), (8, true), (9, false), (10, false), (11, false), (13, false), (14, false), (15, false), (16, false), (12, true), (17, true), (18, false), (19, false), (20, false), (22, false), (21, true), (23, true), (24, true), (25, false), (26, false), (27, false), (29, false), (28, true), (30, true), (31, false), (32, false), (33, false), (34, true), (35, false), (36, false)] [] mixed (by kernel_rfl) ?_
      iterate 2 refine DL.p rfl rfl rfl ?_
      refine DL.qf rfl (.free rfl) rfl rfl (Yld.eqBool u4 rfl rfl) ?_
      refine DL.p rfl rfl rfl ?_
      refine DL.knownT (d := 63) rfl rfl (by rw [get_isSome]; simp) ?_
      refine DL.q rfl (.yes rfl rfl rfl) rfl rfl rfl (Yld.loadN (cs := [.int .i64 G.1, .slice ad4 G.2.1.length c4, .float .f64 G.2.2]) a32 rfl (atNM (blk0 hB69) (fun h => h))) (Mod.drew _ _) ?_
      refine DL.q rfl (.yes rfl rfl rfl) rfl rfl rfl (Yld.loadN (cs := [.int .i64 g.id, .slice adg g.ls.length cg, .float .f64 g.val]) a32 rfl (atNM (blk0 hB9) (fun h => h))) (Mod.drew _ _) ?_
      refine DL.fork ?_ ?_
      · refine DL.op rfl (.yes rfl rfl rfl) rfl rfl (Does.slice1 u58 i32 rfl rfl rfl rfl rfl) ?_
        rintro _ wa ⟨ba, rfl, hna⟩
        have hgA : Grow w9 wa := (Mod.drew _ _).trans hna.grow
        refine ⟨hgA, ?_⟩
        refine DL.op rfl (.yes rfl rfl rfl) rfl rfl (Does.slice1 u58 i32 rfl rfl rfl rfl rfl) ?_
        rintro _ wb ⟨bb, rfl, hnb⟩
        have hgB : Grow w9 wb := hgA.trans hnb.grow
        refine ⟨hgB, ?_⟩
        have hla := (Sl.new (M := No) hna 3 1 rfl (by omega) (fun h => h)).mod hnb.grow
        have hlb := Sl.new (M := No) hnb 3 1 rfl (by omega) (fun h => h)
        refine DL.op rfl (.yes rfl rfl rfl) rfl rfl (Does.call rfl e35 (sameAlerts_ok No No [⟨G.1, G.2.1, G.2.2, .slice ad4 G.2.1.length c4⟩] [g] _ _ _ hla (by rw [show [g].flatMap alC = [.int .i64 g.id, g.v, .float .f64 g.val] from rfl, hgv]; exact hlb) (fun a ha => by simp at ha; subst ha; exact (Sl.own (hr9.mod hgB (fun _ _ h => h)) (fun _ _ h => h))) (fun a ha => by simp at ha; subst ha; exact hgs9.mod hgB) (by simp [pub, ← hg2]))) ?_
        rintro _ w10 ⟨rfl, hg10⟩
        have hg910 := hgB.trans hg10
        refine ⟨hg910, ?_⟩
        iterate 2 refine DL.p rfl rfl rfl ?_
        refine DL.knownT (d := 70) rfl rfl (rfl) ?_
        iterate 3 refine DL.qf rfl (.yes rfl rfl rfl) rfl rfl (Yld.pure rfl) ?_
        refine DL.qf rfl (.yes rfl rfl rfl) rfl rfl (Yld.fieldAddr fo60_1 rfl) ?_
        have hg310 := hg39.trans hg910
        refine DL.q rfl (.yes rfl rfl rfl) rfl rfl rfl (Yld.load p58 rfl (atM ((hra.grow hg39).blk.cell rfl) (fun h => h))) (hg910) ?_
        refine DL.op rfl (.yes rfl rfl rfl) rfl rfl (Does.call rfl e36 ((hkm.grow hg310).all)) ?_
        rintro u11 w11 ⟨al', hr11, hal', hsl11, hg11⟩
        have hg911 := hg910.trans hg11
        refine ⟨hg911, ?_⟩
        have hg311 := hg310.trans hg11
        have hra11 := hra.grow hg311
        refine DL.op rfl (.yes rfl rfl rfl) rfl rfl (Does.call rfl e35 (sameAlerts_ok No M al' al _ _ _ (Sl.own hr11 (fun _ _ h => h)) (Sl.own hra11.row (fun _ _ h => h)) hsl11 hra11.sls (by rw [hal', hal]))) ?_
        rintro _ w12 ⟨rfl, hg12⟩
        have hg912 := hg911.trans hg12
        refine ⟨hg912, ?_⟩
        iterate 2 refine DL.p rfl rfl rfl ?_
        refine DL.knownT (d := 79) rfl rfl (rfl) ?_
        iterate 2 refine DL.qf rfl (.yes rfl rfl rfl) rfl rfl (Yld.pure rfl) ?_
        have hg312 := hg311.trans hg12
        refine DL.op rfl (.yes rfl rfl rfl) rfl rfl (Does.call rfl e37 ((hkm.grow hg312).rank)) ?_
        rintro u13 w13 ⟨hr13, hf13, hg13⟩
        have hg913 := hg912.trans hg13
        refine ⟨hg913, ?_⟩
        have hg313 := hg312.trans hg13
        refine DL.op rfl (.yes rfl rfl rfl) rfl rfl (Does.call rfl e38 (ralRank_ok P M _ r _ _ _ al (hra.grow hg313) (by omega) (fun a ha => hkm.ok.vals (pub a) (by rw [← hal]; exact List.mem_map_of_mem (f := pub) ha)))) ?_
        rintro u14 w14 ⟨hr14, hf14, hg14⟩
        have hg914 := hg913.trans hg14
        refine ⟨hg914, ?_⟩
        have hg314 := hg313.trans hg14
        rw [hal, ← rankIds_L] at hr14
        refine DL.op rfl (.yes rfl rfl rfl) rfl rfl (Does.call rfl e29 (sameInts_ok No (rankIds s) (rankIds s) u13 u14 _ (by rw [rankIds_len]; exact Sl.own (hr13.mod hg14 (fun _ _ h => h)) (fun _ _ h => h)) (by rw [rankIds_len, ← hall]; exact Sl.own hr14 (fun _ _ h => h)))) ?_
        rintro _ w15 ⟨rfl, hg15⟩
        have hg915 := hg914.trans hg15
        refine ⟨hg915, ?_⟩
        iterate 2 refine DL.p rfl rfl rfl ?_
        refine DL.knownT (d := 86) rfl rfl (by simp) ?_
        iterate 2 refine DL.qf rfl (.yes rfl rfl rfl) rfl rfl (Yld.pure rfl) ?_
        have hg315 := hg314.trans hg15
        refine DL.op rfl (.yes rfl rfl rfl) rfl rfl (Does.call rfl e25 ((hkm.grow hg315).posts)) ?_
        rintro _ _ ⟨rfl, rfl⟩
        refine ⟨hg915, ?_⟩
        refine DL.op rfl (.yes rfl rfl rfl) rfl rfl (Does.call rfl e39 (ralPosts_ok P M _ r _ _ _ al (hra.grow hg315) (by omega) (fun a ha => by have := isS_len (hkm.gd.sets (pub a) (by rw [← hal]; exact List.mem_map_of_mem (f := pub) ha)); exact this.2))) ?_
        rintro _ w16 ⟨rfl, hg16⟩
        have hg916 := hg915.trans hg16
        refine ⟨hg916, ?_⟩
        rw [hal, rows_dst hkm.gd]
        refine DL.qf rfl (.yes rfl rfl rfl) rfl rfl (Yld.pure rfl) ?_
        iterate 2 refine DL.p rfl rfl rfl ?_
        refine DL.knownT (d := 93) rfl rfl (by simp) ?_
        refine DL.op rfl (.yes rfl rfl rfl) rfl rfl (Does.call rfl e26 (runs_ok _)) ?_
        rintro _ w17 ⟨rfl, hg17⟩
        have hg917 := hg916.trans hg17
        refine ⟨hg917, ?_⟩
        iterate 2 refine DL.p rfl rfl rfl ?_
        refine DL.done ?_
        refine RK.ret_of Tryz.func5 (res1 rfl rfl) ?_ _
        exact ⟨_, rfl, rfl, (hg.trans hg39).trans hg917⟩
      · refine DL.op rfl (.yes rfl rfl rfl) rfl rfl (Does.slice1 u58 i32 rfl rfl rfl rfl rfl) ?_
        rintro _ wa ⟨bb, rfl, hnb⟩
        have hgA : Grow w9 wa := (Mod.drew _ _).trans hnb.grow
        refine ⟨hgA, ?_⟩
        refine DL.op rfl (.yes rfl rfl rfl) rfl rfl (Does.slice1 u58 i32 rfl rfl rfl rfl rfl) ?_
        rintro _ wb ⟨ba, rfl, hna⟩
        have hgB : Grow w9 wb := hgA.trans hna.grow
        refine ⟨hgB, ?_⟩
        have hlb := (Sl.new (M := No) hnb 3 1 rfl (by omega) (fun h => h)).mod hna.grow
        have hla := Sl.new (M := No) hna 3 1 rfl (by omega) (fun h => h)
        refine DL.op rfl (.yes rfl rfl rfl) rfl rfl (Does.call rfl e35 (sameAlerts_ok No No [⟨G.1, G.2.1, G.2.2, .slice ad4 G.2.1.length c4⟩] [g] _ _ _ hla (by rw [show [g].flatMap alC = [.int .i64 g.id, g.v, .float .f64 g.val] from rfl, hgv]; exact hlb) (fun a ha => by simp at ha; subst ha; exact (Sl.own (hr9.mod hgB (fun _ _ h => h)) (fun _ _ h => h))) (fun a ha => by simp at ha; subst ha; exact hgs9.mod hgB) (by simp [pub, ← hg2]))) ?_
        rintro _ w10 ⟨rfl, hg10⟩
        have hg910 := hgB.trans hg10
        refine ⟨hg910, ?_⟩
        iterate 2 refine DL.p rfl rfl rfl ?_
        refine DL.knownT (d := 70) rfl rfl (rfl) ?_
        iterate 3 refine DL.qf rfl (.yes rfl rfl rfl) rfl rfl (Yld.pure rfl) ?_
        refine DL.qf rfl (.yes rfl rfl rfl) rfl rfl (Yld.fieldAddr fo60_1 rfl) ?_
        have hg310 := hg39.trans hg910
        refine DL.q rfl (.yes rfl rfl rfl) rfl rfl rfl (Yld.load p58 rfl (atM ((hra.grow hg39).blk.cell rfl) (fun h => h))) (hg910) ?_
        refine DL.op rfl (.yes rfl rfl rfl) rfl rfl (Does.call rfl e36 ((hkm.grow hg310).all)) ?_
        rintro u11 w11 ⟨al', hr11, hal', hsl11, hg11⟩
        have hg911 := hg910.trans hg11
        refine ⟨hg911, ?_⟩
        have hg311 := hg310.trans hg11
        have hra11 := hra.grow hg311
        refine DL.op rfl (.yes rfl rfl rfl) rfl rfl (Does.call rfl e35 (sameAlerts_ok No M al' al _ _ _ (Sl.own hr11 (fun _ _ h => h)) (Sl.own hra11.row (fun _ _ h => h)) hsl11 hra11.sls (by rw [hal', hal]))) ?_
        rintro _ w12 ⟨rfl, hg12⟩
        have hg912 := hg911.trans hg12
        refine ⟨hg912, ?_⟩
        iterate 2 refine DL.p rfl rfl rfl ?_
        refine DL.knownT (d := 79) rfl rfl (rfl) ?_
        iterate 2 refine DL.qf rfl (.yes rfl rfl rfl) rfl rfl (Yld.pure rfl) ?_
        have hg312 := hg311.trans hg12
        refine DL.op rfl (.yes rfl rfl rfl) rfl rfl (Does.call rfl e37 ((hkm.grow hg312).rank)) ?_
        rintro u13 w13 ⟨hr13, hf13, hg13⟩
        have hg913 := hg912.trans hg13
        refine ⟨hg913, ?_⟩
        have hg313 := hg312.trans hg13
        refine DL.op rfl (.yes rfl rfl rfl) rfl rfl (Does.call rfl e38 (ralRank_ok P M _ r _ _ _ al (hra.grow hg313) (by omega) (fun a ha => hkm.ok.vals (pub a) (by rw [← hal]; exact List.mem_map_of_mem (f := pub) ha)))) ?_
        rintro u14 w14 ⟨hr14, hf14, hg14⟩
        have hg914 := hg913.trans hg14
        refine ⟨hg914, ?_⟩
        have hg314 := hg313.trans hg14
        rw [hal, ← rankIds_L] at hr14
        refine DL.op rfl (.yes rfl rfl rfl) rfl rfl (Does.call rfl e29 (sameInts_ok No (rankIds s) (rankIds s) u13 u14 _ (by rw [rankIds_len]; exact Sl.own (hr13.mod hg14 (fun _ _ h => h)) (fun _ _ h => h)) (by rw [rankIds_len, ← hall]; exact Sl.own hr14 (fun _ _ h => h)))) ?_
        rintro _ w15 ⟨rfl, hg15⟩
        have hg915 := hg914.trans hg15
        refine ⟨hg915, ?_⟩
        iterate 2 refine DL.p rfl rfl rfl ?_
        refine DL.knownT (d := 86) rfl rfl (by simp) ?_
        iterate 2 refine DL.qf rfl (.yes rfl rfl rfl) rfl rfl (Yld.pure rfl) ?_
        have hg315 := hg314.trans hg15
        refine DL.op rfl (.yes rfl rfl rfl) rfl rfl (Does.call rfl e25 ((hkm.grow hg315).posts)) ?_
        rintro _ _ ⟨rfl, rfl⟩
        refine ⟨hg915, ?_⟩
        refine DL.op rfl (.yes rfl rfl rfl) rfl rfl (Does.call rfl e39 (ralPosts_ok P M _ r _ _ _ al (hra.grow hg315) (by omega) (fun a ha => by have := isS_len (hkm.gd.sets (pub a) (by rw [← hal]; exact List.mem_map_of_mem (f := pub) ha)); exact this.2))) ?_
        rintro _ w16 ⟨rfl, hg16⟩
        have hg916 := hg915.trans hg16
        refine ⟨hg916, ?_⟩
        rw [hal, rows_dst hkm.gd]
        refine DL.qf rfl (.yes rfl rfl rfl) rfl rfl (Yld.pure rfl) ?_
        iterate 2 refine DL.p rfl rfl rfl ?_
        refine DL.knownT (d := 93) rfl rfl (by simp) ?_
        refine DL.op rfl (.yes rfl rfl rfl) rfl rfl (Does.call rfl e26 (runs_ok _)) ?_
        rintro _ w17 ⟨rfl, hg17⟩
        have hg917 := hg916.trans hg17
        refine ⟨hg917, ?_⟩
        iterate 2 refine DL.p rfl rfl rfl ?_
        refine DL.done ?_
        refine RK.ret_of Tryz.func5 (res1 rfl rfl) ?_ _
        exact ⟨_, rfl, rfl, (hg.trans hg39).trans hg917⟩
end Go.Proofs.YtffbcfcoddacmaaGreat

