/- The document's own alerts: made, read, resolved. -/
import Derived.Test.YtffbcfcoddacmaaGreatLa
import Derived.Test.YtffbcfcoddacmaaGreatGa
set_option linter.unusedVariables false
set_option linter.unusedSimpArgs false
set_option maxHeartbeats 1000000
set_option maxRecDepth 100000
namespace Go.Proofs.YtffbcfcoddacmaaGreat
open Go Go.X

/-- The document's own alerts: their blocks are P, their labels keep off all of N. -/
structure RA (P N : Nat → Prop) (w : World) (r : Nat) (most last : Int) (vl : Value) (al : List Al) : Prop where
  blk : Blk w r 60 [.int .i64 most, vl, .int .i64 last]
  row : Row w 32 3 vl al.length (al.flatMap alC)
  sls : ∀ a ∈ al, SlL N w a.v a.ls
  own : ∀ b, P b ↔ b = r ∨ vl.ownBlock = some b
  sub : ∀ b, P b → N b
  ltN : ∀ b, N b → b < w.heap.size
def RAt (P N : Nat → Prop) (w : World) (r : Nat) (most last : Int) (L : List AlS) : Prop := ∃ vl al, RA P N w r most last vl al ∧ al.map pub = L
theorem RA.lt {P N : Nat → Prop} {w : World} {r : Nat} {most last : Int} {vl : Value} {al : List Al} (h : RA P N w r most last vl al) {b : Nat} (hb : N b) : b < w.heap.size := h.ltN b hb
theorem RA.grow {P N : Nat → Prop} {w w' : World} {r : Nat} {most last : Int} {vl : Value} {al : List Al} (h : RA P N w r most last vl al) (hg : Grow w w') : RA P N w' r most last vl al :=
  ⟨h.blk.mod hg (fun h => h), h.row.mod hg (fun _ _ h => h), fun a ha => (h.sls a ha).mod (Mod.any' hg), h.own, h.sub, fun b e => Nat.lt_of_lt_of_le (h.ltN b e) hg.size⟩
theorem RAt.grow {P N : Nat → Prop} {w w' : World} {r : Nat} {most last : Int} {L : List AlS} (h : RAt P N w r most last L) (hg : Grow w w') : RAt P N w' r most last L := by
  obtain ⟨vl, al, h, e⟩ := h
  exact ⟨vl, al, h.grow hg, e⟩
/-- What others do to blocks of theirs; what is kept off anew. -/
theorem RA.pass {P N N' Q : Nat → Prop} {w w' : World} {r : Nat} {most last : Int} {vl : Value} {al : List Al} (h : RA P N w r most last vl al) (hm : Mod Q w w') (h1 : ∀ b, P b → ¬ Q b) (h2 : ∀ b, Q b → b < w.heap.size → N b) (h3 : ∀ b, P b → N' b) (h4 : ∀ b, N' b → N b ∨ w.heap.size ≤ b) (h5 : ∀ b, N' b → b < w'.heap.size) : RA P N' w' r most last vl al :=
  ⟨h.blk.mod hm (h1 r ((h.own r).2 (.inl rfl))), h.row.mod hm (fun b e => h1 b ((h.own b).2 (.inr e))), fun a ha => (h.sls a ha).pass (by omega) (hm.mono fun b hb e => h2 b e hb) h4, h.own, h3, h5⟩
theorem RAt.pass {P N N' Q : Nat → Prop} {w w' : World} {r : Nat} {most last : Int} {L : List AlS} (h : RAt P N w r most last L) (hm : Mod Q w w') (h1 : ∀ b, P b → ¬ Q b) (h2 : ∀ b, Q b → b < w.heap.size → N b) (h3 : ∀ b, P b → N' b) (h4 : ∀ b, N' b → N b ∨ w.heap.size ≤ b) (h5 : ∀ b, N' b → b < w'.heap.size) : RAt P N' w' r most last L := by
  obtain ⟨vl, al, h, e⟩ := h
  exact ⟨vl, al, h.pass hm h1 h2 h3 h4 h5, e⟩
theorem RAt.lt {P N : Nat → Prop} {w : World} {r : Nat} {most last : Int} {L : List AlS} (h : RAt P N w r most last L) {b : Nat} (hb : N b) : b < w.heap.size := by
  obtain ⟨vl, al, h, _⟩ := h
  exact h.lt hb
theorem RAt.sub {P N : Nat → Prop} {w : World} {r : Nat} {most last : Int} {L : List AlS} (h : RAt P N w r most last L) {b : Nat} (hb : P b) : N b := by
  obtain ⟨vl, al, h, _⟩ := h
  exact h.sub b hb
theorem held_ok (n : Int) (w : World) : Fx Tryz.prog 91 [.int .i64 n, .int .i64 1, .int .i64 16] w (fun u w' => u = .int .i64 (capS n) ∧ w = w') := by
  refine enter Tryz.func91 rfl rfl rfl _ (Pick.sub (l := [0, 1, 2]) (.cons rfl (.cons rfl (.cons rfl .nil)))) ?_
  refine RK.seq ?_
  refine RK.region ?_
  refine RL.p rfl rfl ?_
  refine RL.done ?_
  iterate 2 refine RK.seq ?_
  refine RK.region ?_
  iterate 3 refine RL.p rfl rfl ?_
  refine RL.done ?_
  first | refine RK.condD rfl (fun h9 => ?_) (fun h9 => ?_) | refine RK.condN rfl (fun h9 => ?_) (fun h9 => ?_) | refine RK.cond rfl (fun h9 => ?_) (fun h9 => ?_)
  · refine RK.seq ?_
    refine RK.region ?_
    iterate 2 refine RL.p rfl rfl ?_
    refine RL.done ?_
    refine RK.ret_of Tryz.func91 (res1 rfl rfl) ?_ _
    exact ⟨_, rfl, congrArg _ (by unfold capS; split <;> (try split) <;> omega), rfl⟩
  · refine RK.skip ?_
    iterate 2 refine RK.seq ?_
    refine RK.region ?_
    iterate 3 refine RL.p rfl rfl ?_
    refine RL.done ?_
    first | refine RK.condD rfl (fun h13 => ?_) (fun h13 => ?_) | refine RK.condN rfl (fun h13 => ?_) (fun h13 => ?_) | refine RK.cond rfl (fun h13 => ?_) (fun h13 => ?_)
    · refine RK.seq ?_
      refine RK.region ?_
      iterate 2 refine RL.p rfl rfl ?_
      refine RL.done ?_
      refine RK.ret_of Tryz.func91 (res1 rfl rfl) ?_ _
      exact ⟨_, rfl, congrArg _ (by unfold capS; split <;> (try split) <;> omega), rfl⟩
    · refine RK.skip ?_
      refine RK.seq ?_
      refine RK.region ?_
      iterate 2 refine RL.p rfl rfl ?_
      refine RL.done ?_
      refine RK.ret_of Tryz.func91 (res1 rfl rfl) ?_ _
      exact ⟨_, rfl, congrArg _ (by unfold capS; split <;> (try split) <;> omega), rfl⟩
theorem newAlerts_ok (n : Int) (w : World) : Fx Tryz.prog 32 [.int .i64 n] w (fun u w' => ∃ r N, u = pp r ∧ RAt N N w' r (capS n) 0 [] ∧ (∀ b, N b → w.heap.size ≤ b) ∧ Grow w w') := by
  refine enter Tryz.func32 rfl rfl rfl _ (Pick.sub (l := [0]) (.cons rfl .nil)) ?_
  refine RK.seq ?_
  refine RK.region ?_
  refine RL.p rfl rfl ?_
  refine RL.done ?_
  refine RK.seq ?_
  refine RK.region ?_
  refine RL.p rfl rfl ?_
  refine RL.op (.free rfl) rfl rfl (Does.call rfl e91 (held_ok n _)) ?_
  rintro _ _ ⟨rfl, rfl⟩
  refine RL.q (.free rfl) rfl rfl (Yld.build (v := .agg #[.int .i64 (capS n), .slice none 0 0, .int .i64 0]) rfl (fun w => by kernel_rfl)) ?_
  refine RL.op (.free rfl) rfl rfl (Does.box rfl) ?_
  rintro _ w2 ⟨r, rfl, hn⟩
  refine RL.p rfl rfl ?_
  refine RL.done ?_
  refine RK.ret_of Tryz.func32 (res1 rfl rfl) ?_ _
  exact ⟨_, rfl, r, fun b => b = r, rfl, ⟨.slice none 0 0, [], ⟨hn.blk, Row.nil _ _ _, by simp, fun b => by simp [Value.ownBlock], fun _ e => e, fun b e => by have e' : b = r := e; rw [e']; exact hn.blk.lt⟩, rfl⟩, fun b e => by have e' : b = r := e; have := hn.at_; omega, hn.grow⟩
theorem fromBits_ok (b : Nat) (w : World) : Fx Tryz.prog 168 [.int .u64 ((canS b : Nat) : Int)] w (fun u w' => u = .tuple #[.float .f64 (canS b), .bool true] ∧ w = w') := by
  have hc : nanS (canS b) = true → canS b = 9221120237041090561 := fun h => by
    unfold canS at h ⊢
    split
    · rfl
    · rename_i hn; rw [if_neg hn] at h; exact absurd h hn
  have hno : nanS (canS b) = (Ieee.double.order (canS b) (canS b) != some .eq) := by unfold nanS; rfl
  refine enter Tryz.func168 rfl rfl rfl _ (Pick.sub (l := [0]) (.cons rfl .nil)) ?_
  refine RK.seq ?_
  refine RK.region ?_
  iterate 2 refine RL.p rfl rfl ?_
  refine RL.done ?_
  refine RK.seq ?_
  refine RK.region ?_
  refine RL.p rfl rfl ?_
  refine RL.q (.free rfl) rfl rfl (Yld.callx rfl (fun w => x124 _ w)) ?_
  refine RL.p rfl rfl ?_
  refine RL.done ?_
  iterate 2 refine RK.seq ?_
  refine RK.region ?_
  iterate 4 refine RL.p rfl rfl ?_
  first | refine RL.splitD (d := 10) rfl rfl (fun h10 => ?_) (fun h10 => ?_) | refine RL.splitN (d := 10) rfl rfl (fun h10 => ?_) (fun h10 => ?_) | refine RL.split (d := 10) rfl rfl (fun h10 => ?_) (fun h10 => ?_)
  · iterate 2 refine RL.q (.yes rfl rfl rfl) rfl rfl (Yld.pure rfl) ?_
    refine RL.p rfl rfl ?_
    refine RL.done ?_
    first | refine RK.condD rfl (fun h13 => ?_) (fun h13 => ?_) | refine RK.condN rfl (fun h13 => ?_) (fun h13 => ?_) | refine RK.cond rfl (fun h13 => ?_) (fun h13 => ?_)
    · refine RK.seq ?_
      refine RK.region ?_
      iterate 2 refine RL.p rfl rfl ?_
      refine RL.done ?_
      refine RK.ret_of Tryz.func168 (res2 rfl rfl rfl) ?_ _
      exact ⟨_, rfl, by first
          | rfl
          | (exfalso; have e9 := hc (hno.trans h10); omega), rfl⟩
    · refine RK.skip ?_
      refine RK.seq ?_
      refine RK.region ?_
      iterate 3 refine RL.p rfl rfl ?_
      refine RL.done ?_
      refine RK.ret_of Tryz.func168 (res2 rfl rfl rfl) ?_ _
      exact ⟨_, rfl, by first
          | rfl
          | (exfalso; have e9 := hc (hno.trans h10); omega), rfl⟩
  · iterate 2 refine RL.no (.no rfl rfl rfl rfl) rfl rfl ?_
    refine RL.p rfl rfl ?_
    refine RL.done ?_
    refine RK.condF rfl ?_
    refine RK.skip ?_
    refine RK.seq ?_
    refine RK.region ?_
    iterate 3 refine RL.p rfl rfl ?_
    refine RL.done ?_
    refine RK.ret_of Tryz.func168 (res2 rfl rfl rfl) ?_ _
    exact ⟨_, rfl, by first
        | rfl
        | (exfalso; have e9 := hc (hno.trans h10); omega), rfl⟩
theorem kept_okR (b : Nat) (w : World) : Fx Tryz.prog 134 [.float .f64 b] w (fun u w' => u = .float .f64 (canS b) ∧ w = w') := by
  refine enter Tryz.func134 rfl rfl rfl _ (Pick.sub (l := [0]) (.cons rfl .nil)) ?_
  refine RK.seq ?_
  refine RK.region ?_
  refine RL.p rfl rfl ?_
  refine RL.done ?_
  refine RK.seq ?_
  refine RK.region ?_
  refine RL.p rfl rfl ?_
  refine RL.op (.free rfl) rfl rfl (Does.call rfl e22 (bits1_ok b _)) ?_
  rintro _ _ ⟨rfl, rfl⟩
  rw [bits_can]
  refine RL.op (.free rfl) rfl rfl (Does.call rfl e168 (fromBits_ok b _)) ?_
  rintro _ _ ⟨rfl, rfl⟩
  iterate 5 refine RL.p rfl rfl ?_
  refine RL.done ?_
  refine RK.seq ?_
  refine RK.region ?_
  iterate 2 refine RL.p rfl rfl ?_
  refine RL.done ?_
  refine RK.ret_of Tryz.func134 (res1 rfl rfl) ?_ _
  exact ⟨_, rfl, rfl, rfl⟩
theorem sameAlerts_ok (M M' : Nat → Prop) (a1 a2 : List Al) (v1 v2 : Value) (w : World) (h1 : Sl No w v1 3 a1.length (a1.flatMap alC)) (h2 : Sl No w v2 3 a2.length (a2.flatMap alC)) (s1 : ∀ a ∈ a1, SlL M w a.v a.ls) (s2 : ∀ a ∈ a2, SlL M' w a.v a.ls) (he : a1.map pub = a2.map pub) :
    Fx Tryz.prog 35 [v1, v2] w (fun u w' => u = .bool true ∧ Grow w w') := by
  obtain ⟨ad1, c1, rfl⟩ := h1.shape
  obtain ⟨ad2, c2, rfl⟩ := h2.shape
  have hbig := h1.big
  have hl : a1.length = a2.length := by have := congrArg List.length he; simpa using this
  refine enter Tryz.func35 rfl rfl rfl _ (Pick.sub (l := [0, 1]) (.cons rfl (.cons rfl .nil))) ?_
  refine RK.seq ?_
  refine RK.region ?_
  refine RL.p rfl rfl ?_
  refine RL.done ?_
  iterate 2 refine RK.seq ?_
  refine RK.region ?_
  refine RL.p rfl rfl ?_
  refine RL.q (.free rfl) rfl rfl (Yld.lenSl u58 rfl) ?_
  refine RL.p rfl rfl ?_
  refine RL.q (.free rfl) rfl rfl (Yld.lenSl u58 rfl) ?_
  refine RL.p rfl rfl ?_
  refine RL.done ?_
  refine RK.condF (hcF rfl (decide_eq_false (by omega))) ?_
  refine RK.skip ?_
  iterate 2 refine RK.seq ?_
  refine RK.region ?_
  refine RL.p rfl rfl ?_
  refine RL.done ?_
  refine RK.block ?_
  refine RK.loop (fun k : Nat => [(0, .slice ad1 a1.length c1), (1, .slice ad2 a2.length c2), (5, .int .i64 k)]) (fun k w' => Grow w w' ∧ k ≤ a1.length) (fun k => a1.length - k) 0 ⟨rfl, rfl, rfl, trivial⟩ ⟨Mod.refl _ _, by omega⟩ (fun k w' hI ih => ?_)
  obtain ⟨hg, hk⟩ := hI
  iterate 2 refine RK.seq ?_
  refine RK.region ?_
  iterate 2 refine RL.p rfl rfl ?_
  refine RL.q (.free rfl) rfl rfl (Yld.lenSl u58 rfl) ?_
  refine RL.p rfl rfl ?_
  refine RL.done ?_
  first | refine RK.condD rfl (fun h14 => ?_) (fun h14 => ?_) | refine RK.condN rfl (fun h14 => ?_) (fun h14 => ?_) | refine RK.cond rfl (fun h14 => ?_) (fun h14 => ?_)
  · obtain ⟨x, hx⟩ : ∃ x, a1[k]? = some x := ⟨a1[k]'(by omega), List.getElem?_eq_getElem (by omega)⟩
    obtain ⟨y, hy⟩ : ∃ y, a2[k]? = some y := ⟨a2[k]'(by omega), List.getElem?_eq_getElem (by omega)⟩
    have hxy : pub x = pub y := by
        have := congrArg (fun l => l[k]?) he
        simpa [hx, hy] using this
    simp only [pub, Prod.mk.injEq] at hxy
    obtain ⟨e1, e2, e3⟩ := hxy
    obtain ⟨b1, o1, c1', he1, _, _, hc1⟩ := h1.elem alC_len hx
    obtain ⟨b2, o2, c2', he2, _, _, hc2⟩ := h2.elem alC_len hy
    cases he1
    cases he2
    have sx := s1 x (List.mem_of_getElem? hx)
    have sy := s2 y (List.mem_of_getElem? hy)
    refine RK.skip ?_
    refine RK.seq ?_
    refine RK.block ?_
    refine RK.seq ?_
    refine RK.drawM No [(0, false), (1, false), (2, false), (3, false), (4, false), (5, false), (6, false), (7, false), (8, false), (9, false), (10, false), (11, false), (12, false), (13, false), (14, false), (15, false), (16, false), (17, false), (18, false), (19, false), (20, false), (21, false), (22, true), (23, false), (24, false), (25, false), (26, false), (27, false), (28, false), (29, false), (30, false), (32, false), (33, false), (34, false), (35, false), (36, false), (31, true), (37, true), (38, false), (39, false)] [] mixed (by kernel_rfl) ?_
    iterate 2 refine DL.p rfl rfl rfl ?_
    refine DL.qf rfl (.free rfl) rfl rfl (Yld.indexAddrN u58 i32 rfl rfl (by omega)) ?_
    refine DL.qf rfl (.free rfl) rfl rfl (Yld.fieldAddr fo32_0 rfl) ?_
    refine DL.q rfl (.free rfl) rfl rfl rfl (Yld.load p3 rfl (atM (hg.cell (hc1 0 _ rfl) (fun h => h)) (fun h => h))) (Mod.drew _ _) ?_
    iterate 2 refine DL.p rfl rfl rfl ?_
    refine DL.qf rfl (.free rfl) rfl rfl (Yld.indexAddrN u58 i32 rfl rfl (by omega)) ?_
    refine DL.qf rfl (.free rfl) rfl rfl (Yld.fieldAddr fo32_0 rfl) ?_
    refine DL.q rfl (.free rfl) rfl rfl rfl (Yld.load p3 rfl (atM (hg.cell (hc2 0 _ rfl) (fun h => h)) (fun h => h))) (Mod.drew _ _) ?_
    iterate 2 refine DL.p rfl rfl rfl ?_
    refine DL.knownF (d := 28) rfl rfl (decide_eq_false (by omega)) ?_
    iterate 2 refine DL.qf rfl (.yes rfl rfl rfl) rfl rfl (Yld.pure rfl) ?_
    refine DL.qf rfl (.yes rfl rfl rfl) rfl rfl (Yld.indexAddrN u58 i32 rfl rfl (by omega)) ?_
    refine DL.qf rfl (.yes rfl rfl rfl) rfl rfl (Yld.fieldAddr fo32_1 rfl) ?_
    refine DL.q rfl (.yes rfl rfl rfl) rfl rfl rfl (Yld.load p26 rfl (atM (hg.cell (hc1 1 _ rfl) (fun h => h)) (fun h => h))) (Mod.drew _ _) ?_
    iterate 2 refine DL.qf rfl (.yes rfl rfl rfl) rfl rfl (Yld.pure rfl) ?_
    refine DL.qf rfl (.yes rfl rfl rfl) rfl rfl (Yld.indexAddrN u58 i32 rfl rfl (by omega)) ?_
    refine DL.qf rfl (.yes rfl rfl rfl) rfl rfl (Yld.fieldAddr fo32_1 rfl) ?_
    refine DL.q rfl (.yes rfl rfl rfl) rfl rfl rfl (Yld.load p26 rfl (atM (hg.cell (hc2 1 _ rfl) (fun h => h)) (fun h => h))) (Mod.drew _ _) ?_
    refine DL.op rfl (.yes rfl rfl rfl) rfl rfl (Does.call rfl e20 (sameLabels_ok M M' x.ls y.ls _ _ _ ((sx.mod (Mod.any' hg)).mod (Mod.drew _ _)) ((sy.mod (Mod.any' hg)).mod (Mod.drew _ _)))) ?_
    rintro _ w3 ⟨rfl, hg3⟩
    refine ⟨(Mod.drew _ _).trans hg3, ?_⟩
    have hgd : Grow w w3 := (hg.trans (Mod.drew _ _)).trans hg3
    refine DL.qf rfl (.yes rfl rfl rfl) rfl rfl (Yld.pure rfl) ?_
    iterate 2 refine DL.p rfl rfl rfl ?_
    refine DL.knownF (d := 42) rfl rfl (by simp [e2]) ?_
    iterate 2 refine DL.qf rfl (.yes rfl rfl rfl) rfl rfl (Yld.pure rfl) ?_
    refine DL.qf rfl (.yes rfl rfl rfl) rfl rfl (Yld.indexAddrN u58 i32 rfl rfl (by omega)) ?_
    refine DL.qf rfl (.yes rfl rfl rfl) rfl rfl (Yld.fieldAddr fo32_2 rfl) ?_
    refine DL.q rfl (.yes rfl rfl rfl) rfl rfl rfl (Yld.load p23 rfl (atM (hg.cell (hc1 2 _ rfl) (fun h => h)) (fun h => h))) ((Mod.drew _ _).trans hg3) ?_
    iterate 2 refine DL.qf rfl (.yes rfl rfl rfl) rfl rfl (Yld.pure rfl) ?_
    refine DL.qf rfl (.yes rfl rfl rfl) rfl rfl (Yld.indexAddrN u58 i32 rfl rfl (by omega)) ?_
    refine DL.qf rfl (.yes rfl rfl rfl) rfl rfl (Yld.fieldAddr fo32_2 rfl) ?_
    refine DL.q rfl (.yes rfl rfl rfl) rfl rfl rfl (Yld.load p23 rfl (atM (hg.cell (hc2 2 _ rfl) (fun h => h)) (fun h => h))) ((Mod.drew _ _).trans hg3) ?_
    refine DL.op rfl (.yes rfl rfl rfl) rfl rfl (Does.call rfl e22 (bits1_ok x.val _)) ?_
    rintro _ _ ⟨rfl, rfl⟩
    refine ⟨(Mod.drew _ _).trans hg3, ?_⟩
    refine DL.op rfl (.yes rfl rfl rfl) rfl rfl (Does.call rfl e22 (bits1_ok y.val _)) ?_
    rintro _ _ ⟨rfl, rfl⟩
    refine ⟨(Mod.drew _ _).trans hg3, ?_⟩
    refine DL.qf rfl (.yes rfl rfl rfl) rfl rfl (Yld.pure rfl) ?_
    refine DL.p rfl rfl rfl ?_
    refine DL.done ?_
    refine RK.condF (hcF rfl (by simp [e3])) ?_
    refine RK.skip ?_
    refine RK.inBlock ?_
    refine RK.region ?_
    iterate 2 refine RL.p rfl rfl ?_
    refine RL.re (d := 16) rfl rfl (succ_i64 (by omega)) ?_
    refine RL.p rfl rfl ?_
    refine RL.done ?_
    exact RK.back (ih (k + 1) _ ⟨hgd, by omega⟩ (by omega)) ⟨rfl, rfl, rfl, trivial⟩
  · refine RK.exit rfl ?_
    refine RK.seq ?_
    refine RK.region ?_
    refine RL.p rfl rfl ?_
    refine RL.done ?_
    refine RK.ret_of Tryz.func35 (res1 rfl rfl) ?_ _
    exact ⟨_, rfl, rfl, hg⟩
end Go.Proofs.YtffbcfcoddacmaaGreat

