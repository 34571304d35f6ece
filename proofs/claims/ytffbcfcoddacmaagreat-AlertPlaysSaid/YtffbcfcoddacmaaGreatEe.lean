/- Alerts resolved, told. -/
import Derived.Test.YtffbcfcoddacmaaGreatEd
set_option linter.unusedVariables false
set_option linter.unusedSimpArgs false
set_option maxHeartbeats 800000
set_option maxRecDepth 100000
namespace Go.Proofs.YtffbcfcoddacmaaGreat
open Go Go.X

def placeS (s : St) (id : Int) : Option Nat := s.al.findIdx? fun a => decide (a.1 = id)
def resolveS (s : St) (id : Int) : St × Int :=
  match placeS s id with
  | none => (s, 5)
  | some i => ({ s with al := s.al.eraseIdx i, out := giveS s.out id, has := cutM s.has id, rows := dropRows s.rows id ((lookM s.has id).getD []) }, 0)
theorem placeS_eq (s : St) (id : Int) (i : Nat) (hs : Ris (s.al.map (·.1))) (hlo : ∀ (t : Nat) (x : Int), t < i → (s.al.map (·.1))[t]? = some x → x < id) (hhi : ∀ (t : Nat) (x : Int), i ≤ t → (s.al.map (·.1))[t]? = some x → id ≤ x) : placeS s id = if (s.al.map (·.1))[i]? = some id then some i else none := by
  have hget : ∀ t (ht : t < s.al.length), (s.al.map (·.1))[t]? = some s.al[t].1 := fun t ht => by rw [List.getElem?_map, List.getElem?_eq_getElem ht]; rfl
  unfold placeS
  split
  · rename_i he
    have hil : i < s.al.length := by simpa using (List.getElem?_eq_some_iff.1 he).1
    rw [List.findIdx?_eq_some_iff_getElem]
    refine ⟨hil, ?_, fun j hj => ?_⟩
    · rw [hget i hil] at he
      simpa using he
    · have := hlo j _ hj (hget j (by omega))
      simp only [decide_eq_true_eq]
      omega
  · rename_i he
    rw [List.findIdx?_eq_none_iff]
    intro x hx
    obtain ⟨t, ht, rfl⟩ := List.getElem_of_mem hx
    simp only [decide_eq_false_iff_not]
    intro e
    rcases Nat.lt_trichotomy t i with h1 | h1 | h1
    · have := hlo t _ h1 (hget t ht); omega
    · subst h1; exact he (by rw [hget t ht, e])
    · have h2 := hhi i _ (Nat.le_refl _) (hget i (by omega))
      have h3 := List.pairwise_iff_getElem.1 hs i t (by simp; omega) (by simp; omega) h1
      simp only [List.getElem_map] at h3
      omega
theorem find_ok (w : World) (p : Nat) (s : St) (M : Nat → Prop) (q ix mh mr : Nat) (vo vl : Value) (al : List Al) (h : SA w p s M q ix mh mr vo vl al) (hs : Ris (s.al.map (·.1))) (hb : s.al.length ≤ 1000000) (id : Int) :
    Fx Tryz.prog 81 [pp p, .int .i64 id] w (fun u w' => (∃ i : Nat, i ≤ al.length ∧ u = .tuple #[.int .i64 i, .bool (placeS s id).isSome] ∧ (∀ j, placeS s id = some j → j = i ∧ i < al.length)) ∧ Grow w w') := by
  have hal : al.map (·.id) = s.al.map (·.1) := by rw [← h.als]; simp [pub]
  have hlen : al.length = s.al.length := by rw [← h.als]; simp
  obtain ⟨ad, c, rfl⟩ := h.row.slice
  have hcall := bsFunc_ok al id _ w (Sl.own h.row (fun _ _ h => h)) (fun a ha => by obtain ⟨ad, c, e⟩ := (h.sls a ha).shape; exact ⟨ad, _, c, e⟩) (by rw [hal]; exact hs) (by omega)
  refine enter Tryz.func81 rfl rfl rfl _ (Pick.sub (l := [0, 1]) (.cons rfl (.cons rfl .nil))) ?_
  refine RK.seq ?_
  refine RK.region ?_
  iterate 2 refine RL.p rfl rfl ?_
  refine RL.done ?_
  refine RK.seq ?_
  refine RK.region ?_
  iterate 2 refine RL.p rfl rfl ?_
  refine RL.q (.free rfl) rfl rfl (Yld.fieldAddr fo124_2 rfl) ?_
  refine RL.q (.free rfl) rfl rfl (Yld.load p58 rfl (at1 (h.blk.cell rfl))) ?_
  refine RL.p rfl rfl ?_
  refine RL.op (.free rfl) rfl rfl (Does.call rfl e126 (hcall)) ?_
  rintro _ w2 ⟨⟨i, hi, hlo, hhi, rfl⟩, hg2⟩
  have hp := placeS_eq s id i hs (fun t x ht hx => by
      rw [← hal, List.getElem?_map] at hx
      cases ha : al[t]? with
      | none => rw [ha] at hx; cases hx
      | some a => rw [ha] at hx; cases hx; exact hlo t a ht ha) (fun t x ht hx => by
      rw [← hal, List.getElem?_map] at hx
      cases ha : al[t]? with
      | none => rw [ha] at hx; cases hx
      | some a => rw [ha] at hx; cases hx; exact hhi t a ht ha)
  rw [hal]
  iterate 4 refine RL.p rfl rfl ?_
  refine RL.done ?_
  refine RK.ret_of Tryz.func81 (res2 rfl rfl rfl) ?_ _
  exact ⟨_, rfl, ⟨i, hi, by
      rw [hp]
      by_cases he : (s.al.map (·.1))[i]? = some id
      · rw [if_pos he, he]; simp
      · rw [if_neg he, beq_eq_false_iff_ne.2 he]; rfl
    , fun j hj => by
      rw [hp] at hj
      split at hj
      · rename_i he
        cases hj
        have := (List.getElem?_eq_some_iff.1 he).1
        exact ⟨rfl, by rw [hlen]; simpa using this⟩
      · cases hj
    ⟩, hg2⟩
theorem resolveX_ok (w : World) (p : Nat) (s : St) (O M : Nat → Prop) (h : StoreX O M w p s) (hs : Ris (s.al.map (·.1))) (ho : Ris s.out) (hb : s.al.length ≤ 1000000) (hbo : s.out.length ≤ 1000000) (hrows : ∀ t ∈ s.rows, t.2.length ≤ 1000000000000) (id : Int) :
    Fx Tryz.prog 24 [pp p, .int .i64 id] w (fun u w' => ∃ O', u = .int .i64 (resolveS s id).2 ∧ StoreX O' (fun b => M b ∨ O' b) w' p (resolveS s id).1 ∧ Mod O w w' ∧ ∀ b, O' b → O b ∨ w.heap.size ≤ b) := by
  have hself := h
  have hOM : ∀ b, O b → M b := fun b e => h.sub e
  obtain ⟨q, ix, mh, mr, vo, vl, al, hO, h⟩ := h
  have hlen : al.length = s.al.length := by rw [← h.als]; simp
  have hfind := find_ok w p s M q ix mh mr vo vl al h hs hb id
  cases hpl : placeS s id with
  | none =>
    have e : resolveS s id = (s, 5) := by unfold resolveS; rw [hpl]
    rw [hpl] at hfind
    rw [e]
    refine enter Tryz.func24 rfl rfl rfl _ (Pick.sub (l := [0, 1]) (.cons rfl (.cons rfl .nil))) ?_
    refine RK.seq ?_
    refine RK.region ?_
    refine RL.p rfl rfl ?_
    refine RL.done ?_
    refine RK.seq ?_
    refine RK.region ?_
    iterate 2 refine RL.p rfl rfl ?_
    refine RL.op (.free rfl) rfl rfl (Does.call rfl e81 (hfind)) ?_
    rintro _ w2 ⟨⟨i, hi, rfl, _⟩, hg2⟩
    iterate 5 refine RL.p rfl rfl ?_
    refine RL.done ?_
    iterate 2 refine RK.seq ?_
    refine RK.region ?_
    iterate 2 refine RL.p rfl rfl ?_
    refine RL.done ?_
    refine RK.condT (hcT rfl (rfl)) ?_
    refine RK.seq ?_
    refine RK.region ?_
    refine RL.p rfl rfl ?_
    refine RL.done ?_
    refine RK.ret_of Tryz.func24 (res1 rfl rfl) ?_ _
    exact ⟨_, rfl, O, rfl, (hself.grow hg2).off (fun b e => .inr e) (fun b e => e.elim (fun h => h) (hOM b)), Mod.any' hg2, fun b hb => .inl hb⟩
  | some j =>
    have e : resolveS s id = ({ s with al := s.al.eraseIdx j, out := giveS s.out id, has := cutM s.has id, rows := dropRows s.rows id ((lookM s.has id).getD []) }, 0) := by unfold resolveS; rw [hpl]
    rw [hpl] at hfind
    rw [e]
    obtain ⟨ad, c, rfl⟩ := h.row.slice
    have hsh : ∀ a ∈ al, ∃ ad n c, a.v = .slice ad n c := fun a ha => by obtain ⟨ad, c, e⟩ := (h.sls a ha).shape; exact ⟨ad, _, c, e⟩
    obtain ⟨hp1, hp2, hp3, hp4, hp5⟩ := apart4 h.blk h.pool h.idx h.row
    have hOp : O p := (hO p).2 (.inl rfl)
    have hOq : O q := (hO q).2 (.inr (.inl rfl))
    have hOh : O mh := (hO mh).2 (.inr (.inr (.inl rfl)))
    have hOr : O mr := (hO mr).2 (.inr (.inr (.inr (.inl rfl))))
    have hOx : O ix := (hO ix).2 (.inr (.inr (.inr (.inr (.inr (.inr rfl))))))
    have hOo : ∀ b, vo.ownBlock = some b → O b := fun b e => (hO b).2 (.inr (.inr (.inr (.inr (.inl e)))))
    have hOl : ∀ b, (Value.slice ad al.length c).ownBlock = some b → O b := fun b e => (hO b).2 (.inr (.inr (.inr (.inr (.inr (.inl e))))))
    have hMp := hOM p hOp
    have hMq := hOM q hOq
    have hMh := hOM mh hOh
    have hMr := hOM mr hOr
    have hMl : ∀ b, (Value.slice ad al.length c).ownBlock = some b → M b := fun b e => hOM b (hOl b e)
    have hMlt : ∀ b, M b → b < w.heap.size := fun b hb => h.lt hb
    refine enter Tryz.func24 rfl rfl rfl _ (Pick.sub (l := [0, 1]) (.cons rfl (.cons rfl .nil))) ?_
    refine RK.seq ?_
    refine RK.region ?_
    refine RL.p rfl rfl ?_
    refine RL.done ?_
    refine RK.seq ?_
    refine RK.region ?_
    iterate 2 refine RL.p rfl rfl ?_
    refine RL.op (.free rfl) rfl rfl (Does.call rfl e81 (hfind)) ?_
    rintro _ w2 ⟨⟨i, hi, rfl, hij⟩, hg2⟩
    obtain ⟨rfl, hil⟩ := hij j rfl
    iterate 5 refine RL.p rfl rfl ?_
    refine RL.done ?_
    iterate 2 refine RK.seq ?_
    refine RK.region ?_
    iterate 2 refine RL.p rfl rfl ?_
    refine RL.done ?_
    refine RK.condF (hcF rfl (rfl)) ?_
    refine RK.skip ?_
    refine RK.seq ?_
    refine RK.region ?_
    iterate 3 refine RL.p rfl rfl ?_
    refine RL.q (.free rfl) rfl rfl (Yld.fieldAddr fo124_2 rfl) ?_
    refine RL.q (.free rfl) rfl rfl (Yld.load p58 rfl (at1 ((h.blk.mod hg2 (fun h => h)).cell rfl))) ?_
    iterate 3 refine RL.p rfl rfl ?_
    refine RL.re (d := 22) rfl rfl (succ_i64 (by omega)) ?_
    refine RL.op (.free rfl) rfl rfl (Does.call rfl e83 (deleteA_ok al j _ _ (h.row.mod hg2 (fun _ _ h => h)) hsh hil (by omega))) ?_
    rintro u3 w3 ⟨hr3, hu3, hm3⟩
    have hm03 : Mod O w w3 := (Mod.any' hg2).trans (hm3.mono fun b _ e => hOl b e)
    have hB3 := (h.blk.mod hg2 (fun h => h)).mod hm3 (fun e => (hp5 p e).1 rfl)
    obtain ⟨ad3, c3, rfl⟩ := hr3.slice
    refine RL.p rfl rfl ?_
    refine RL.q (.free rfl) rfl rfl (Yld.fieldAddr fo124_2 rfl) ?_
    refine RL.op' (.free rfl) rfl (Does.store i58 rfl rfl rfl hB3 (.s (.s .z))) ?_
    rintro _ w4 ⟨hb4, hm4, hs4⟩
    have hm24 : Mod (fun b => (Value.slice ad al.length c).ownBlock = some b ∨ b = p) w2 w4 := (hm3.mono fun b _ e => .inl e).trans (hm4.mono fun b _ e => .inr e)
    have hm04 : Mod O w w4 := hm03.trans (hm4.mono fun b _ e => e ▸ hOp)
    have hI4 : IdxAt M w4 ix mh mr s.has s.rows := (h.idx.mod hg2 (fun _ _ h => h.elim) (fun h => h) (fun h => h) (fun h => h)).mod hm24 (fun b _ e => by rcases e with e | rfl; exact hMl b e; exact hMp) (by rintro (e | e); exact (hp5 ix e).2.2.1 rfl; exact hp1.2.1 e.symm) (by rintro (e | e); exact (hp5 mh e).2.2.2.1 rfl; exact hp1.2.2.1 e.symm) (by rintro (e | e); exact (hp5 mr e).2.2.2.2 rfl; exact hp1.2.2.2 e.symm)
    have hP4 : PoolAt w4 q s.most s.last s.out vo := (PoolAt.mod h.pool hg2 (fun h => h) (fun _ _ h => h)).mod hm24 (by rintro (e | e); exact (hp5 q e).2.1 rfl; exact hp1.1 e.symm) (fun b e => by rintro (e2 | e2); exact (hp4 b e).2.2.2.2.2 e2; exact (hp4 b e).1 e2)
    have hR4 : Row w4 32 3 (.slice ad3 (al.eraseIdx j).length c3) (al.eraseIdx j).length ((al.eraseIdx j).flatMap alC) := hr3.mod hm4 (fun b e e2 => (hp5 b (hu3 ▸ e)).1 e2)
    refine RL.done ?_
    refine RK.seq ?_
    refine RK.region ?_
    iterate 2 refine RL.p rfl rfl ?_
    refine RL.q (.free rfl) rfl rfl (Yld.fieldAddr fo124_1 rfl) ?_
    refine RL.q (.free rfl) rfl rfl (Yld.load p42 rfl (at1 (hb4.cell rfl))) ?_
    refine RL.p rfl rfl ?_
    refine RL.op (.free rfl) rfl rfl (Does.call rfl e52 (drop_ok M _ ix mh mr _ _ hI4 hMh hMr (fun b hb => by have := hMlt b hb; have := hm04.size; omega) id hrows)) ?_
    rintro _ w5 ⟨rfl, hI5, hm5⟩
    have hB5 := hb4.mod hm5 (by rintro (e | e); exact hp1.2.2.1 e; exact hp1.2.2.2 e)
    have hP5 := hP4.mod hm5 (by rintro (e | e); exact hp2.2.1 e; exact hp2.2.2 e) (fun b e => by rintro (e2 | e2); exact (hp4 b e).2.2.2.1 e2; exact (hp4 b e).2.2.2.2.1 e2)
    have hR5 := hR4.mod hm5 (fun b e => by rintro (e2 | e2); exact (hp5 b (hu3 ▸ e)).2.2.2.1 e2; exact (hp5 b (hu3 ▸ e)).2.2.2.2 e2)
    have hm05 : Mod O w w5 := hm04.trans (hm5.mono fun b _ e => by rcases e with rfl | rfl; exact hOh; exact hOr)
    refine RL.done ?_
    refine RK.seq ?_
    refine RK.region ?_
    iterate 2 refine RL.p rfl rfl ?_
    refine RL.q (.free rfl) rfl rfl (Yld.fieldAddr fo124_0 rfl) ?_
    refine RL.q (.free rfl) rfl rfl (Yld.load p121 rfl (at1 (hB5.cell rfl))) ?_
    refine RL.p rfl rfl ?_
    refine RL.op (.free rfl) rfl rfl (Does.call rfl e84 (give_ok _ q _ _ _ vo id hP5 ho hbo)) ?_
    rintro _ w6 ⟨rfl, vo', hP6, hm6, hvo'⟩
    have hs05 := hm05.size
    have hB6 := hB5.mod hm6 (fun e => hp1.1 e)
    have hR6 := hR5.mod hm6 (fun b e e2 => (hp5 b (hu3 ▸ e)).2.1 e2)
    have hm06 : Mod O w w6 := hm05.trans (hm6.mono fun b _ e => e ▸ hOq)
    have hown : ∀ b, own p q ix mh mr vo' (.slice ad3 (al.eraseIdx j).length c3) b → O b ∨ w5.heap.size ≤ b := fun b hb => by
        rcases hb with rfl | rfl | rfl | rfl | e | e | rfl
        · exact .inl hOp
        · exact .inl hOq
        · exact .inl hOh
        · exact .inl hOr
        · rcases hvo' b e with h1 | h1
          · exact .inl (hOo b h1)
          · exact .inr h1
        · exact .inl (hOl b (hu3 ▸ e))
        · exact .inl hOx
    have hoff : ∀ b, b < w5.heap.size → (M b ∨ own p q ix mh mr vo' (.slice ad3 (al.eraseIdx j).length c3) b) → M b := fun b hb e => by
        rcases e with e | e
        · exact e
        · rcases hown b e with h1 | h1
          · exact hOM b h1
          · omega
    have hI6 := (hI5.off hoff).mod hm6 (fun b _ e => e ▸ .inr (.inr (.inl rfl))) (fun e => hp2.1 e.symm) (fun e => hp2.2.1 e.symm) (fun e => hp2.2.2 e.symm)
    have hlt6 : ∀ b, (M b ∨ own p q ix mh mr vo' (.slice ad3 (al.eraseIdx j).length c3) b) → b < w6.heap.size := fun b hb => by
        rcases hb with e | e
        · have h1 := hMlt b e; have h2 := hm06.size; omega
        · exact own_lt hB6 hP6 hI6 hR6 b e
    refine RL.done ?_
    refine RK.seq ?_
    refine RK.region ?_
    refine RL.p rfl rfl ?_
    refine RL.done ?_
    refine RK.ret_of Tryz.func24 (res1 rfl rfl) ?_ _
    exact ⟨_, rfl, own p q ix mh mr vo' (.slice ad3 (al.eraseIdx j).length c3), rfl, ⟨q, ix, mh, mr, vo', _, al.eraseIdx j, fun _ => Iff.rfl, ⟨hB6, hP6, hI6, hR6, by rw [map_eraseIdx', h.als], fun a ha => (((h.sls a (List.mem_of_mem_eraseIdx ha)).mod (hm05.mono fun b _ e => hOM b e)).off (by omega) hoff).mod (hm6.mono fun b _ e => e ▸ .inr (.inr (.inl rfl))), fun _ e => .inr e, hlt6⟩⟩, hm06, fun b hb => by
        rcases hown b hb with h1 | h1
        · exact .inl h1
        · exact .inr (by omega)
      ⟩
theorem resolve_ok (w : World) (p : Nat) (s : St) (M : Nat → Prop) (h : StoreAt w p s M) (hs : Ris (s.al.map (·.1))) (ho : Ris s.out) (hb : s.al.length ≤ 1000000) (hbo : s.out.length ≤ 1000000) (hrows : ∀ t ∈ s.rows, t.2.length ≤ 1000000000000) (id : Int) :
    Fx Tryz.prog 24 [pp p, .int .i64 id] w (fun u w' => ∃ M', u = .int .i64 (resolveS s id).2 ∧ StoreAt w' p (resolveS s id).1 M' ∧ Mod M w w' ∧ ∀ b, M' b → M b ∨ w.heap.size ≤ b) :=
  Fx.mono (resolveX_ok w p s M M h hs ho hb hbo hrows id) fun u w' ⟨M', h1, h2, h3, h4⟩ => ⟨M', h1, h2.at_, h3, h4⟩
end Go.Proofs.YtffbcfcoddacmaaGreat

