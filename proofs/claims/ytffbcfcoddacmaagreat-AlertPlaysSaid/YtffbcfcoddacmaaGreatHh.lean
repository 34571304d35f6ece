/- Chapter 15: one step, of the store and of the document's own alerts. -/
import Derived.Test.YtffbcfcoddacmaaGreatHg
set_option linter.unusedVariables false
set_option linter.unusedSimpArgs false
set_option maxHeartbeats 1000000
set_option maxRecDepth 100000
namespace Go.Proofs.YtffbcfcoddacmaaGreat
open Go Go.X
theorem resolve_eq (s : St) (id : Int) : (resolveS s id).1.al = (resolveR s.al id).1 ∧ (resolveS s id).2 = (resolveR s.al id).2 ∧ (resolveS s id).1.most = s.most ∧ (resolveS s id).1.last = s.last := by
  unfold resolveS resolveR
  rw [show placeS s id = whereI s.al id from rfl]
  cases whereI s.al id <;> exact ⟨rfl, rfl, rfl, rfl⟩
theorem post_eq (s : St) (h : Ok s) (hl : s.last ≤ 1000) (ls : List Lab) (his : isS ls = true) (val : Nat) : (postS s ls val).1.al = (postR s.most s.last s.al ls val).1 ∧ (postS s ls val).1.last = (postR s.most s.last s.al ls val).2.1 ∧ (postS s ls val).2 = (postR s.most s.last s.al ls val).2.2 ∧ (postS s ls val).1.most = s.most := by
  have h1 := h.alOut
  have hf : fullS s.most s.last s.out = decide (s.most ≤ s.al.length) := by
    unfold fullS
    rw [Bool.eq_iff_iff]
    simp only [decide_eq_true_eq]
    omega
  unfold postS postR
  rw [if_neg (by simp [his])]
  cases findS (s.al.map (·.2.1)) ls with
  | some i => exact ⟨rfl, rfl, rfl, rfl⟩
  | none =>
    simp only [hf, decide_eq_true_eq]
    split <;> exact ⟨rfl, rfl, rfl, rfl⟩
theorem post_last (s : St) (ls : List Lab) (val : Nat) : (postS s ls val).1.last ≤ s.last + 1 := by
  unfold postS
  split
  · simp only; omega
  · split
    · simp only; omega
    · split <;> (simp only; omega)
theorem KX.pass {O M M' Q : Nat → Prop} {w w' : World} {p : Nat} {s : St} (h : KX O M w p s) (hm : Mod Q w w') (h1 : ∀ b, O b → ¬ Q b) (h2 : ∀ b, Q b → b < w.heap.size → M b) (h3 : ∀ b, O b → M' b) (h4 : ∀ b, M' b → M b ∨ w.heap.size ≤ b) (h5 : ∀ b, M' b → b < w'.heap.size) : KX O M' w' p s := by
  obtain ⟨⟨q, ix, mh, mr, vo, vl, al, hO, h⟩, hok, hgd⟩ := h
  have k3 : ∀ b, own p q ix mh mr vo vl b → ¬ Q b := fun b e => h1 b ((hO b).2 e)
  refine ⟨⟨q, ix, mh, mr, vo, vl, al, hO, h.blk.mod hm (k3 p (.inl rfl)), h.pool.mod hm (k3 q (.inr (.inl rfl))) (fun b e => k3 b (.inr (.inr (.inr (.inr (.inl e)))))), ?_, h.row.mod hm (fun b e => k3 b (.inr (.inr (.inr (.inr (.inr (.inl e))))))), h.als, fun a ha => (h.sls a ha).pass (by omega) (hm.mono fun b hb e => h2 b e hb) h4, fun b e => h3 b ((hO b).2 e), h5⟩, hok, hgd⟩
  have i1 : IdxAt (fun b => M b ∨ M' b) w ix mh mr s.has s.rows := h.idx.off fun b hb e => e.elim (fun e => e) fun e => (h4 b e).elim (fun e => e) (fun e => by omega)
  exact (i1.mod hm (fun b hb e => .inl (h2 b e hb)) (k3 ix (.inr (.inr (.inr (.inr (.inr (.inr rfl))))))) (k3 mh (.inr (.inr (.inl rfl)))) (k3 mr (.inr (.inr (.inr (.inl rfl)))))).off fun b _ e => .inr e
theorem KX.lt {O M : Nat → Prop} {w : World} {p : Nat} {s : St} (h : KX O M w p s) {b : Nat} (hb : M b) : b < w.heap.size := h.at_.lt hb
/-- A store and the document's own alerts, alike. -/
structure Twin (O P M : Nat → Prop) (w : World) (p r : Nat) (s : St) : Prop where
  km : KX O M w p s
  ra : RAt P M w r s.most s.last s.al
  off : ∀ b, O b → ¬ P b
theorem Twin.grow {O P M : Nat → Prop} {w w' : World} {p r : Nat} {s : St} (h : Twin O P M w p r s) (hg : Grow w w') : Twin O P M w' p r s := ⟨h.km.grow hg, h.ra.grow hg, h.off⟩
/-- What comes of the one, then of the other. -/
theorem Twin.both {O P M O' P' : Nat → Prop} {w w1 w2 : World} {p r : Nat} {s s' : St} (h : Twin O P M w p r s) (k1 : KX O' (fun b => M b ∨ O' b) w1 p s') (m1 : Mod O w w1) (n1 : ∀ b, O' b → O b ∨ w.heap.size ≤ b) (k2 : RAt P' (fun b => (M b ∨ O' b) ∨ P' b) w2 r s'.most s'.last s'.al) (m2 : Mod P w1 w2) (n2 : ∀ b, P' b → P b ∨ w1.heap.size ≤ b) : Twin O' P' (fun b => (M b ∨ O' b) ∨ P' b) w2 p r s' := by
  have hOlt : ∀ b, O b → b < w.heap.size := fun b e => h.km.lt (h.km.at_.sub e)
  have hPlt : ∀ b, P b → b < w.heap.size := fun b e => h.km.lt (h.ra.sub e)
  have hOP : ∀ b, O' b → ¬ P b := fun b e e2 => by
    rcases n1 b e with h1 | h1
    · exact h.off b h1 e2
    · have := hPlt b e2; omega
  refine ⟨k1.pass m2 hOP (fun b e _ => .inl (h.ra.sub e)) (fun b e => .inl (.inr e)) (fun b e => ?_) (fun b e => k2.lt e), k2, fun b e e2 => ?_⟩
  · rcases e with e | e
    · exact .inl e
    · rcases n2 b e with h1 | h1
      · exact .inl (.inl (h.ra.sub h1))
      · exact .inr h1
  · rcases n2 b e2 with h1 | h1
    · exact hOP b e h1
    · have := k1.lt (.inr e); omega
/-- The other, when the one has come. -/
theorem Twin.other {O P M O' : Nat → Prop} {w w1 : World} {p r : Nat} {s s' : St} (h : Twin O P M w p r s) (k1 : KX O' (fun b => M b ∨ O' b) w1 p s') (m1 : Mod O w w1) (n1 : ∀ b, O' b → O b ∨ w.heap.size ≤ b) : RAt P (fun b => M b ∨ O' b) w1 r s.most s.last s.al :=
  h.ra.pass m1 (fun b e e2 => h.off b e2 e) (fun b e _ => h.km.at_.sub e) (fun b e => .inl (h.ra.sub e)) (fun b e => by
    rcases e with e | e
    · exact .inl e
    · rcases n1 b e with h1 | h1
      · exact .inl (h.km.at_.sub h1)
      · exact .inr h1) (fun b e => k1.lt e)
structure Sv where
  d : Int
  id : Int
  labs : List Int
  val : Nat
  v : Value
def svC (x : Sv) : List Value := [.int .u8 x.d, .int .i64 x.id, x.v, .float .f64 x.val]
theorem svC_len (x : Sv) : (svC x).length = 4 := rfl
def Sv.Ok (w : World) (x : Sv) : Prop := Sl No w x.v 1 x.labs.length (ints x.labs) ∧ (∀ n ∈ x.labs, -9223372036854775808 ≤ n ∧ n ≤ 9223372036854775807) ∧ x.val < 18446744073709551616
theorem labels_size (l : List Int) : ∀ x ∈ labelsS l, x.name.size ≤ 9223372036854775807 := fun x hx => by
  obtain ⟨h1, _, _⟩ := raw_ok l
  have := (nmL_ok _ (h1.nm x (mem_isort.1 hx))).2.2
  omega
theorem step15_ok (w : World) (p r : Nat) (s : St) (O P M : Nat → Prop) (h : Twin O P M w p r s) (hl : s.last ≤ 1000) (w0 : World) (hM0 : ∀ b, M b → w0.heap.size ≤ b) (hg0 : Grow w0 w) (x : Sv) (hx : x.Ok w0) :
    Fx Tryz.prog 33 [pp p, pp r, .agg #[.int .u8 x.d, .int .i64 x.id, x.v, .float .f64 x.val]] w (fun u w' => ∃ s' O' P' M', u = .bool true ∧ Twin O' P' M' w' p r s' ∧ s'.last ≤ s.last + 1 ∧ (∀ b, M' b → w0.heap.size ≤ b) ∧ Grow w0 w' ∧ Mod (fun b => O b ∨ P b) w w') := by
  obtain ⟨d, id, labs, val, xv⟩ := x
  obtain ⟨hx1, hx2, hx3⟩ := hx
  simp only at hx1 hx2 hx3
  obtain ⟨adx, cx, rfl⟩ := hx1.shape
  have hlen := h.km.km.len16
  have h0P : ∀ b, P b → w0.heap.size ≤ b := fun b e => hM0 b (h.ra.sub e)
  have h0O : ∀ b, O b → w0.heap.size ≤ b := fun b e => hM0 b (h.km.at_.sub e)
  have hgw := hg0.size
  refine enter Tryz.func33 rfl rfl rfl _ (Pick.sub (l := [0, 1, 2]) (.cons rfl (.cons rfl (.cons rfl .nil)))) ?_
  refine RK.seq ?_
  refine RK.region ?_
  refine RL.op (.free rfl) rfl rfl (Does.box rfl) ?_
  rintro _ w1 ⟨b5, rfl, hn5⟩
  have h1 := h.grow hn5.grow
  have hs5 := hn5.grow.size
  refine RL.p rfl rfl ?_
  refine RL.done ?_
  iterate 2 refine RK.seq ?_
  refine RK.region ?_
  refine RL.q (.free rfl) rfl rfl (Yld.fieldAddr fo57_0 rfl) ?_
  refine RL.q (.free rfl) rfl rfl (Yld.load p5 rfl (at1 (hn5.blk.cell rfl))) ?_
  refine RL.q (.free rfl) rfl rfl (Yld.rem rfl rfl (by omega)) ?_
  refine RL.p rfl rfl ?_
  refine RL.done ?_
  first | refine RK.condD rfl (fun h17 => ?_) (fun h17 => ?_) | refine RK.condN rfl (fun h17 => ?_) (fun h17 => ?_) | refine RK.cond rfl (fun h17 => ?_) (fun h17 => ?_)
  · have hb5O : ¬ O b5 := fun e => by have h3 := h.km.lt (h.km.at_.sub e); have h4 := hn5.at_; omega
    have hb5P : ¬ P b5 := fun e => by have h3 := h.km.lt (h.ra.sub e); have h4 := hn5.at_; omega
    refine RK.seq ?_
    refine RK.drawM (fun b => O b ∨ P b) [(0, false), (1, false), (2, false), (4, false), (5, false), (6, false), (3, true), (7, true), (8, false), (9, false)] [] mixed (by kernel_rfl) ?_
    refine DL.p rfl rfl rfl ?_
    refine DL.qf rfl (.free rfl) rfl rfl (Yld.fieldAddr fo57_1 rfl) ?_
    refine DL.q rfl (.free rfl) rfl rfl rfl (Yld.load p3 rfl (atM (hn5.blk.cell rfl) (fun e => e.elim hb5O hb5P))) (Mod.drew _ _) ?_
    refine DL.p rfl rfl rfl ?_
    refine DL.qf rfl (.free rfl) rfl rfl (Yld.fieldAddr fo57_1 rfl) ?_
    refine DL.q rfl (.free rfl) rfl rfl rfl (Yld.load p3 rfl (atM (hn5.blk.cell rfl) (fun e => e.elim hb5O hb5P))) (Mod.drew _ _) ?_
    refine DL.op rfl (.free rfl) rfl rfl (Does.call rfl e24 ((h1.grow (Mod.drew _ _)).km.resolve id)) ?_
    rintro _ w3 ⟨O', rfl, k3, m3, n3⟩
    refine ⟨(Mod.drew _ _).trans (m3.mono fun b _ e => .inl e), ?_⟩
    have h2 := h1.grow (Mod.drew _ _)
    have r3 := h2.other k3 m3 n3
    obtain ⟨e1, e2, e3, e4⟩ := resolve_eq s id
    obtain ⟨vl, al, hra, hal⟩ := r3
    have hall : al.length ≤ 16 := by have h5 := congrArg List.length hal; simp at h5; omega
    refine DL.op rfl (.free rfl) rfl rfl (Does.call rfl e92 (rresolve_ok P _ _ r _ _ _ al hra (by omega) id)) ?_
    rintro _ w4 ⟨P', rfl, k4, m4, n4⟩
    refine ⟨((Mod.drew _ _).trans (m3.mono fun b _ e => .inl e)).trans (m4.mono fun b _ e => .inr e), ?_⟩
    rw [hal] at k4 ⊢
    rw [← e1, ← e3, ← e4] at k4
    have hT := h2.both k3 m3 n3 k4 m4 n4
    iterate 2 refine DL.p rfl rfl rfl ?_
    refine DL.done ?_
    refine RK.ret_of Tryz.func33 (res1 rfl rfl) ?_ _
    exact ⟨_, rfl, _, _, _, _, by rw [e2]; simp, hT, by rw [e4]; omega, fun b e => by
        have q3 := m3.size
        have q2 : w1.drew.heap.size = w1.heap.size := rfl
        rcases e with (e | e) | e
        · exact hM0 b e
        · rcases n3 b e with h9 | h9
          · exact h0O b h9
          · omega
        · rcases n4 b e with h9 | h9
          · exact h0P b h9
          · omega
      , (((hg0.trans hn5.grow).trans (Mod.drew _ _)).then m3 (fun b hb e => by have := h0O b e; omega)).then m4 (fun b hb e => by have := h0P b e; omega), ((Mod.any' (hn5.grow.trans (Mod.drew No w1))).trans (m3.mono fun b _ e => .inl e)).trans (m4.mono fun b _ e => .inr e)⟩
  · refine RK.skip ?_
    refine RK.seq ?_
    refine RK.region ?_
    refine RL.q (.free rfl) rfl rfl (Yld.fieldAddr fo57_2 rfl) ?_
    refine RL.q (.free rfl) rfl rfl (Yld.load p22 rfl (at1 (hn5.blk.cell rfl))) ?_
    refine RL.op (.free rfl) rfl rfl (Does.call rfl e17 (labels_ok No labs _ _ (hx1.mod (hg0.trans hn5.grow)) hx2)) ?_
    rintro u2 w2 ⟨ad2, c2, rfl, hr2, hf2, hg2⟩
    have his := labels_isS labs
    have hsz := labels_size labs
    generalize labelsS labs = ls at *
    have h2 := h1.grow hg2
    have hs2 := hg2.size
    have hvM : SlL M w2 (.slice ad2 ls.length c2) ls := Sl.own hr2 (fun b e e2 => by have h3 := hf2 b e; have h4 := h1.km.lt e2; omega)
    have hB2 := hn5.blk.mod hg2 (fun h => h)
    refine RL.p rfl rfl ?_
    refine RL.done ?_
    refine RK.seq ?_
    refine RK.region ?_
    iterate 2 refine RL.p rfl rfl ?_
    refine RL.q (.free rfl) rfl rfl (Yld.fieldAddr fo57_3 rfl) ?_
    refine RL.q (.free rfl) rfl rfl (Yld.load p23 rfl (at1 (hB2.cell rfl))) ?_
    refine RL.op (.free rfl) rfl rfl (Does.call rfl e18 (h2.km.post hvM hx3)) ?_
    rintro _ w3 ⟨O', rfl, k3, m3, n3⟩
    have hb5O : ¬ O b5 := fun e => by have h3 := h.km.lt (h.km.at_.sub e); have h4 := hn5.at_; omega
    have hB3 := hB2.mod m3 hb5O
    have r3 := h2.other k3 m3 n3
    obtain ⟨e1, e2, e3, e4⟩ := post_eq s h.km.ok hl ls his val
    have hv3 : SlL (fun b => M b ∨ O' b) w3 (.slice ad2 ls.length c2) ls := hvM.pass (by omega) (m3.mono fun b _ e => h.km.at_.sub e) (fun b e => e.elim .inl fun e => (n3 b e).imp (fun e => h.km.at_.sub e) (fun h => h))
    iterate 7 refine RL.p rfl rfl ?_
    refine RL.done ?_
    refine RK.seq ?_
    refine RK.region ?_
    iterate 2 refine RL.p rfl rfl ?_
    refine RL.q (.free rfl) rfl rfl (Yld.fieldAddr fo57_3 rfl) ?_
    refine RL.q (.free rfl) rfl rfl (Yld.load p23 rfl (at1 (hB3.cell rfl))) ?_
    obtain ⟨vl, al, hra, hal⟩ := r3
    have hall : al.length ≤ 16 := by have h5 := congrArg List.length hal; simp at h5; omega
    refine RL.op (.free rfl) rfl rfl (Does.call rfl e93 (rpost_ok P _ _ r _ _ _ al hra (by omega) h.km.ok.last0 (by omega) ls _ hv3 his hsz val)) ?_
    rintro _ w4 ⟨P', rfl, k4, m4, n4⟩
    rw [hal] at k4 ⊢
    rw [← e1, ← e2, ← e4] at k4
    have hT := h2.both k3 m3 n3 k4 m4 n4
    have hlast := post_last s ls val
    iterate 7 refine RL.p rfl rfl ?_
    refine RL.done ?_
    refine RK.seq ?_
    refine RK.region ?_
    iterate 4 refine RL.p rfl rfl ?_
    refine RL.knownT (d := 51) rfl rfl (decide_eq_true (by rw [e3])) ?_
    iterate 2 refine RL.q (.yes rfl rfl rfl) rfl rfl (Yld.pure rfl) ?_
    refine RL.q (.yes rfl rfl rfl) rfl rfl (Yld.eqBool u4 rfl rfl) ?_
    iterate 2 refine RL.p rfl rfl ?_
    refine RL.knownT (d := 56) rfl rfl (by rw [e3]; simp) ?_
    iterate 3 refine RL.q (.yes rfl rfl rfl) rfl rfl (Yld.pure rfl) ?_
    iterate 2 refine RL.p rfl rfl ?_
    refine RL.done ?_
    refine RK.ret_of Tryz.func33 (res1 rfl rfl) ?_ _
    exact ⟨_, rfl, _, _, _, _, by rw [e3]; simp, hT, hlast, fun b e => by
        have q3 := m3.size
        rcases e with (e | e) | e
        · exact hM0 b e
        · rcases n3 b e with h9 | h9
          · exact h0O b h9
          · omega
        · rcases n4 b e with h9 | h9
          · exact h0P b h9
          · omega
      , (((hg0.trans hn5.grow).trans hg2).then m3 (fun b hb e => by have := h0O b e; omega)).then m4 (fun b hb e => by have := h0P b e; omega), ((Mod.any' (hn5.grow.trans hg2)).trans (m3.mono fun b _ e => .inl e)).trans (m4.mono fun b _ e => .inr e)⟩
end Go.Proofs.YtffbcfcoddacmaaGreat

