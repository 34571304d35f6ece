/- Alerts posted: the walk. -/
import Derived.Test.YtffbcfcoddacmaaGreatQ
set_option linter.unusedVariables false
set_option linter.unusedSimpArgs false
set_option maxHeartbeats 400000
set_option maxRecDepth 100000
namespace Go.Proofs.YtffbcfcoddacmaaGreat
open Go Go.X

theorem postX_ok (w : World) (p : Nat) (s : St) (O M : Nat → Prop) (h : StoreX O M w p s) (hok : Ok s) (ls : List Lab) (v : Value) (hv : SlL M w v ls) (val : Nat) :
    Fx Tryz.prog 18 [pp p, v, .float .f64 val] w (fun u w' => ∃ O', u = .tuple #[.int .i64 (postS s ls val).2.1, .bool (postS s ls val).2.2.1, .int .i64 (postS s ls val).2.2.2] ∧ StoreX O' (fun b => M b ∨ O' b) w' p (postS s ls val).1 ∧ Mod O w w' ∧ ∀ b, O' b → O b ∨ w.heap.size ≤ b) := by
  have hself := h
  have hOM : ∀ b, O b → M b := fun b e => h.sub e
  obtain ⟨q, ix, mh, mr, vo, vl, al, hO, h⟩ := h
  obtain ⟨adl, cl, rfl⟩ := h.row.slice
  obtain ⟨ad, c, rfl⟩ := hv.shape
  have hal : al.length = s.al.length := by rw [← h.als]; simp
  have hlab : al.map (·.ls) = s.al.map (·.2.1) := by rw [← h.als]; simp [pub]
  have hal16 : al.length ≤ 16 := by have h1 := hok.most; have h2 := hok.outLe; have h3 := hok.alOut; omega
  have hMlt : ∀ b, M b → b < w.heap.size := fun b hb => h.lt hb
  refine enter Tryz.func18 rfl rfl rfl _ (Pick.sub (l := [0, 1, 2]) (.cons rfl (.cons rfl (.cons rfl .nil)))) ?_
  refine RK.seq ?_
  refine RK.region ?_
  refine RL.op (.free rfl) rfl rfl (Does.box rfl) ?_
  rintro _ w1 ⟨b4, rfl, hn4⟩
  iterate 3 refine RL.p rfl rfl ?_
  refine RL.done ?_
  iterate 2 refine RK.seq ?_
  refine RK.region ?_
  refine RL.q (.free rfl) rfl rfl (Yld.load p26 rfl (at1 (hn4.blk.cell rfl))) ?_
  refine RL.op (.free rfl) rfl rfl (Does.call rfl e73 (is_ok M ls _ _ (hv.mod (Mod.any' hn4.grow)))) ?_
  rintro _ w2 ⟨rfl, hg2⟩
  refine RL.p rfl rfl ?_
  refine RL.done ?_
  first | refine RK.condD rfl (fun h14 => ?_) (fun h14 => ?_) | refine RK.condN rfl (fun h14 => ?_) (fun h14 => ?_) | refine RK.cond rfl (fun h14 => ?_) (fun h14 => ?_)
  · have his : isS ls = false := by simpa using h14
    have e : postS s ls val = (s, 0, false, 1) := by unfold postS; rw [if_pos his]
    rw [e]
    refine RK.seq ?_
    refine RK.region ?_
    iterate 3 refine RL.p rfl rfl ?_
    refine RL.done ?_
    refine RK.ret_of Tryz.func18 (res3 rfl rfl rfl rfl) ?_ _
    exact ⟨_, rfl, O, rfl, (hself.grow (hn4.grow.trans hg2)).off (fun b e => .inr e) (fun b e => e.elim id (hOM b)), Mod.any' (hn4.grow.trans hg2), fun b hb => .inl hb⟩
  · have his : isS ls = true := by simpa using h14
    have hg02 : Grow w w2 := hn4.grow.trans hg2
    have h2 := h.grow hg02
    have hb42 := hn4.blk.mod hg2 (fun h => h)
    refine RK.skip ?_
    refine RK.seq ?_
    refine RK.region ?_
    refine RL.p rfl rfl ?_
    refine RL.op (.free rfl) rfl rfl (Does.call rfl e75 (bits_ok _ _)) ?_
    rintro _ _ ⟨rfl, rfl⟩
    refine RL.op (.free rfl) rfl rfl (Does.call rfl e74 (of_ok _ _)) ?_
    rintro _ _ ⟨rfl, rfl⟩
    iterate 4 refine RL.p rfl rfl ?_
    refine RL.done ?_
    iterate 2 refine RK.seq ?_
    refine RK.region ?_
    iterate 2 refine RL.p rfl rfl ?_
    refine RL.q (.free rfl) rfl rfl (Yld.fieldAddr fo124_2 rfl) ?_
    refine RL.q (.free rfl) rfl rfl (Yld.load p58 rfl (at1 (h2.blk.cell rfl))) ?_
    refine RL.p rfl rfl ?_
    refine RL.op (.free rfl) rfl rfl (Does.call rfl e76 (indexFunc_ok M al ls _ _ b4 _ (Sl.own h2.row (fun _ _ h => h)) h2.sls (hv.mod (Mod.any' hg02)) hb42)) ?_
    rintro _ w3 ⟨rfl, hg3⟩
    rw [hlab]
    have h3 := h2.grow hg3
    have hg03 := hg02.trans hg3
    refine RL.p rfl rfl ?_
    refine RL.done ?_
    refine RK.seq ?_
    refine RK.region ?_
    iterate 2 refine RL.p rfl rfl ?_
    refine RL.done ?_
    first | refine RK.condD rfl (fun h28 => ?_) (fun h28 => ?_) | refine RK.condN rfl (fun h28 => ?_) (fun h28 => ?_) | refine RK.cond rfl (fun h28 => ?_) (fun h28 => ?_)
    · obtain ⟨i, hi⟩ : ∃ i, findS (s.al.map (·.2.1)) ls = some i := by
          cases hf : findS (s.al.map (·.2.1)) ls with
          | none => rw [hf] at h28; simp [optI] at h28
          | some i => exact ⟨i, rfl⟩
      have hil : i < al.length := by
          unfold findS at hi
          have := (List.findIdx?_eq_some_iff_getElem.1 hi).1
          simpa [hal] using this
      have e : postS s ls val = ({ s with al := s.al.modify i fun a => (a.1, a.2.1, canS val) }, ((s.al[i]?).map (·.1)).getD 0, false, 0) := by unfold postS; rw [if_neg (by simp [his]), hi]
      rw [e, hi]
      obtain ⟨a, ha⟩ : ∃ a, al[i]? = some a := ⟨al[i]'hil, List.getElem?_eq_getElem hil⟩
      obtain ⟨hp1, hp2, hp3, hp4, hp5⟩ := apart4 h3.blk h3.pool h3.idx h3.row
      have hOg : ∀ b, (Value.slice adl al.length cl).ownBlock = some b → O b := fun b e => (hO b).2 (.inr (.inr (.inr (.inr (.inr (.inl e))))))
      obtain ⟨g, cap, tl, hvl, hbg, hclose⟩ := h3.row.open (by omega)
      cases hvl
      have hOg := hOg g rfl
      have hMg := hOM g hOg
      have hg5 := hp5 g rfl
      have hflat : (al.flatMap alC).length = al.length * 3 := flat_len alC 3 alC_len al
      refine RK.seq ?_
      refine RK.region ?_
      iterate 2 refine RL.p rfl rfl ?_
      refine RL.q (.free rfl) rfl rfl (Yld.fieldAddr fo124_2 rfl) ?_
      refine RL.q (.free rfl) rfl rfl (Yld.load p58 rfl (at1 (h3.blk.cell rfl))) ?_
      iterate 2 refine RL.p rfl rfl ?_
      refine RL.q (.free rfl) rfl rfl (Yld.indexAddrN u58 i32 rfl rfl (hil)) ?_
      refine RL.q (.free rfl) rfl rfl (Yld.fieldAddr fo32_2 rfl) ?_
      refine RL.op' (.free rfl) rfl (Does.store i23 rfl rfl rfl hbg (SetAt.of (by simp only [List.length_append, hflat]; omega))) ?_
      rintro _ w4 ⟨hb4, hm4, _⟩
      have hset : (al.flatMap alC ++ tl).set (0 + i * 3 + 2) (.float .f64 (canS val)) = (al.modify i fun a => setVal a (canS val)).flatMap alC ++ tl := by
          rw [List.set_append_left _ _ (by rw [hflat]; omega), Nat.zero_add, set_val _ _ _ hil]
      have hlen' : ((al.modify i fun a => setVal a (canS val)).flatMap alC).length = (al.flatMap alC).length := by rw [hflat, flat_len alC 3 alC_len]; simp
      have hrow4 := hclose w4 _ hlen' (by rw [← hset]; exact hb4)
      have ha' : (al.modify i fun a => setVal a (canS val))[i]? = some (setVal a (canS val)) := by simp [ha]
      have hrl : (al.modify i fun a => setVal a (canS val)).length = al.length := by simp
      have hsl4 : Sl No w4 (.slice (some ⟨g, 0, none⟩) al.length cl) 3 (al.modify i fun a => setVal a (canS val)).length ((al.modify i fun a => setVal a (canS val)).flatMap alC) := by rw [hrl]; exact Sl.own hrow4 (fun _ _ h => h)
      obtain ⟨b1, o1, c1', he1, _, _, hc1⟩ := hsl4.elem alC_len ha'
      rw [hrl] at he1
      cases he1
      have hid : ((s.al[i]?).map (·.1)).getD 0 = a.id := by rw [← h.als]; simp [ha, pub]
      have hm03 : Mod O w w4 := (Mod.any' hg03).trans (hm4.mono fun b _ e => e ▸ hOg)
      refine RL.done ?_
      refine RK.seq ?_
      refine RK.region ?_
      iterate 2 refine RL.p rfl rfl ?_
      refine RL.q (.free rfl) rfl rfl (Yld.fieldAddr fo124_2 rfl) ?_
      refine RL.q (.free rfl) rfl rfl (Yld.load p58 rfl (at1 ((h3.blk.mod hm4 hg5.1.symm).cell rfl))) ?_
      refine RL.p rfl rfl ?_
      refine RL.q (.free rfl) rfl rfl (Yld.indexAddrN u58 i32 rfl rfl (hil)) ?_
      refine RL.q (.free rfl) rfl rfl (Yld.fieldAddr fo32_0 rfl) ?_
      refine RL.q (.free rfl) rfl rfl (Yld.load p3 rfl (at1 (hc1 0 _ rfl))) ?_
      iterate 3 refine RL.p rfl rfl ?_
      refine RL.done ?_
      refine RK.ret_of Tryz.func18 (res3 rfl rfl rfl rfl) ?_ _
      exact ⟨_, rfl, O, by rw [hid]; rfl, StoreX.off (M := M) ⟨q, ix, mh, mr, vo, _, al.modify i fun a => setVal a (canS val), hO, ⟨h3.blk.mod hm4 hg5.1.symm, h3.pool.mod hm4 hg5.2.1.symm (fun b e e' => (hp4 b e).2.2.2.2.2 (e' ▸ rfl)), h3.idx.mod hm4 (fun b _ e => e ▸ hMg) hg5.2.2.1.symm hg5.2.2.2.1.symm hg5.2.2.2.2.symm, by rw [hrl]; exact hrow4, by
          rw [← h.als]
          apply List.ext_getElem?
          intro j
          simp only [List.getElem?_map, List.getElem?_modify]
          cases al[j]? with
          | none => rfl
          | some x => by_cases hj : i = j <;> simp [hj, pub, setVal]
        , fun x hx => by
          obtain ⟨j, hj⟩ := List.getElem?_of_mem hx
          simp only [List.getElem?_modify] at hj
          cases hy : al[j]? with
          | none => simp [hy] at hj
          | some y =>
            have h5 := (h3.sls y (List.mem_of_getElem? hy)).mod (hm4.mono fun b _ e => e ▸ hMg)
            simp only [hy, Option.map_some] at hj
            split at hj <;> (simp at hj; subst hj; exact h5)
        , h.ownM, fun b hb => Nat.lt_of_lt_of_le (h.ltM b hb) hm03.size⟩⟩ (fun b e => .inr e) (fun b e => e.elim id (hOM b)), hm03, fun b hb => .inl hb⟩
    · have hi : findS (s.al.map (·.2.1)) ls = none := by
          cases hf : findS (s.al.map (·.2.1)) ls with
          | none => rfl
          | some i => rw [hf] at h28; simp [optI] at h28
      refine RK.skip ?_
      refine RK.seq ?_
      refine RK.region ?_
      iterate 2 refine RL.p rfl rfl ?_
      refine RL.q (.free rfl) rfl rfl (Yld.fieldAddr fo124_0 rfl) ?_
      refine RL.q (.free rfl) rfl rfl (Yld.load p121 rfl (at1 (h3.blk.cell rfl))) ?_
      refine RL.op (.free rfl) rfl rfl (Does.call rfl e79 (take_any _ q _ _ _ vo h3.pool hok.last0 hok.last1 (by have h1 := hok.alOut; omega))) ?_
      rintro _ w4 ⟨rfl, vo', hP4, hm4, hvo'⟩
      obtain ⟨hp1, hp2, hp3, hp4, hp5⟩ := apart4 h3.blk h3.pool h3.idx h3.row
      have hOp : O p := (hO p).2 (.inl rfl)
      have hOq : O q := (hO q).2 (.inr (.inl rfl))
      have hOh : O mh := (hO mh).2 (.inr (.inr (.inl rfl)))
      have hOr : O mr := (hO mr).2 (.inr (.inr (.inr (.inl rfl))))
      have hOx : O ix := (hO ix).2 (.inr (.inr (.inr (.inr (.inr (.inr rfl))))))
      have hOo : ∀ b, vo.ownBlock = some b → O b := fun b e => (hO b).2 (.inr (.inr (.inr (.inr (.inl e)))))
      have hOl : ∀ b, (Value.slice adl al.length cl).ownBlock = some b → O b := fun b e => (hO b).2 (.inr (.inr (.inr (.inr (.inr (.inl e))))))
      have hMp := hOM p hOp
      have hMq := hOM q hOq
      have hMh := hOM mh hOh
      have hMr := hOM mr hOr
      have hMo : ∀ b, vo.ownBlock = some b → M b := fun b e => hOM b (hOo b e)
      have hMl : ∀ b, (Value.slice adl al.length cl).ownBlock = some b → M b := fun b e => hOM b (hOl b e)
      have hoff : ∀ b, b < w3.heap.size → (M b ∨ vo'.ownBlock = some b) → M b := fun b hb e => by
          rcases e with e | e
          · exact e
          · rcases hvo' b e with h1 | h1
            · exact hMo b h1
            · omega
      have hsubO : ∀ b, (b = q ∨ vo.ownBlock = some b) → O b := fun b e => by rcases e with rfl | e; exact hOq; exact hOo b e
      have hsub : ∀ b, (b = q ∨ vo.ownBlock = some b) → M b := fun b e => hOM b (hsubO b e)
      have hB4 := h3.blk.mod hm4 (by rintro (e | e); exact hp1.1 e; exact (hp4 p e).1 rfl)
      have hI4 : IdxAt (fun b => M b ∨ vo'.ownBlock = some b) w4 ix mh mr s.has s.rows := (h3.idx.off hoff).mod hm4 (fun b _ e => .inl (hsub b e)) (by rintro (e | e); exact hp2.1 e.symm; exact (hp4 ix e).2.2.1 rfl) (by rintro (e | e); exact hp2.2.1 e.symm; exact (hp4 mh e).2.2.2.1 rfl) (by rintro (e | e); exact hp2.2.2 e.symm; exact (hp4 mr e).2.2.2.2.1 rfl)
      have hR4 := h3.row.mod hm4 (fun b e e' => by rcases e' with rfl | e'; exact (hp5 _ e).2.1 rfl; exact (hp4 b e').2.2.2.2.2 e)
      have hS4 : ∀ a ∈ al, SlL (fun b => M b ∨ vo'.ownBlock = some b) w4 a.v a.ls := fun a ha => ((h3.sls a ha).off (by omega) hoff).mod (hm4.mono fun b _ e => .inl (hsub b e))
      have hm04 : Mod O w w4 := (Mod.any' hg03).then hm4 (fun b _ e => hsubO b e)
      have hs03 := hg03.size
      have hs34 := hm4.size
      iterate 5 refine RL.p rfl rfl ?_
      refine RL.done ?_
      iterate 2 refine RK.seq ?_
      refine RK.region ?_
      iterate 2 refine RL.p rfl rfl ?_
      refine RL.done ?_
      first | refine RK.condD rfl (fun h54 => ?_) (fun h54 => ?_) | refine RK.condN rfl (fun h54 => ?_) (fun h54 => ?_) | refine RK.cond rfl (fun h54 => ?_) (fun h54 => ?_)
      · have hfull : fullS s.most s.last s.out = true := by simpa using h54
        have e : postS s ls val = (s, 0, false, 10) := by unfold postS; rw [if_neg (by simp [his]), hi]; simp [hfull]
        rw [e]
        rw [hfull] at hP4
        have hown : ∀ b, own p q ix mh mr vo' (.slice adl al.length cl) b → O b ∨ vo'.ownBlock = some b := fun b hb => by
            rcases hb with rfl | rfl | rfl | rfl | e | e | rfl
            · exact .inl hOp
            · exact .inl hOq
            · exact .inl hOh
            · exact .inl hOr
            · exact .inr e
            · exact .inl (hOl b e)
            · exact .inl hOx
        have hown2 : ∀ b, (M b ∨ own p q ix mh mr vo' (.slice adl al.length cl) b) → M b ∨ vo'.ownBlock = some b := fun b hb => hb.elim .inl fun e => (hown b e).imp (hOM b) id
        have hlt4 : ∀ b, (M b ∨ own p q ix mh mr vo' (.slice adl al.length cl) b) → b < w4.heap.size := fun b hb => by
            rcases hb with e | e
            · have := hMlt b e; omega
            · exact own_lt hB4 hP4 hI4 hR4 b e
        refine RK.seq ?_
        refine RK.region ?_
        iterate 3 refine RL.p rfl rfl ?_
        refine RL.done ?_
        refine RK.ret_of Tryz.func18 (res3 rfl rfl rfl rfl) ?_ _
        exact ⟨_, rfl, own p q ix mh mr vo' (.slice adl al.length cl), rfl, ⟨q, ix, mh, mr, vo', _, al, fun _ => Iff.rfl, ⟨hB4, hP4, hI4.off fun b _ hb => hown2 b hb, hR4, h.als, fun a ha => (hS4 a ha).off (by omega) fun b _ hb => hown2 b hb, fun _ e => .inr e, hlt4⟩⟩, hm04, fun b hb => by
            rcases hown b hb with e | e
            · exact .inl e
            · rcases hvo' b e with h1 | h1
              · exact .inl (hOo b h1)
              · exact .inr (by omega)
          ⟩
      · have hfull : fullS s.most s.last s.out = false := by simpa using h54
        have e : postS s ls val = ({ most := s.most, last := s.last + 1, out := s.out ++ [s.last + 1], al := s.al ++ [(s.last + 1, ls, canS val)], has := putM s.has (s.last + 1) ls, rows := addRows s.rows (s.last + 1) ls }, s.last + 1, true, 0) := by unfold postS; rw [if_neg (by simp [his]), hi]; simp [hfull]
        rw [e, hfull]
        rw [hfull] at hP4
        have hl16 := isS_len his
        have hnew : lookM s.has (s.last + 1) = none := by
            unfold lookM
            rw [placeM_none.2 fun hm => by obtain ⟨t, ht, h1⟩ := List.mem_map.1 hm; have := hok.has t ht; omega]
            rfl
        have hbv : Blk w4 b4 26 [.slice ad ls.length c] := (hb42.mod hg3 (fun h => h)).mod hm4 (fun e => by have := hMlt b4 (hsub b4 e); have := hn4.at_; omega)
        have hb4M : ¬ M b4 := fun e => by have := hMlt b4 e; have := hn4.at_; omega
        obtain ⟨ha1, ha2, ha3, ha4, ha5⟩ := apart4 hB4 hP4 hI4 hR4
        have hv4 : SlL (fun b => M b ∨ vo'.ownBlock = some b) w4 (.slice ad ls.length c) ls := (hv.off (by omega) (fun b hb e => hoff b (by omega) e)).mod (hm04.mono fun b _ e => .inl (hOM b e))
        have hnp : ¬ (p = mh ∨ p = mr) := by rintro (e | e); exact hp1.2.2.1 e; exact hp1.2.2.2 e
        have hnb : ¬ (b4 = mh ∨ b4 = mr) := by rintro (e | e); exact hb4M (e ▸ hMh); exact hb4M (e ▸ hMr)
        refine RK.skip ?_
        refine RK.seq ?_
        refine RK.drawM (fun b => b = mh ∨ b = mr) [(0, false), (1, false), (2, false), (3, false), (4, false), (5, false), (6, true)] [] mixed (by kernel_rfl) ?_
        iterate 2 refine DL.p rfl rfl rfl ?_
        refine DL.qf rfl (.free rfl) rfl rfl (Yld.fieldAddr fo124_1 rfl) ?_
        refine DL.q rfl (.free rfl) rfl rfl rfl (Yld.load p42 rfl (atM (hB4.cell rfl) (hnp))) (Mod.drew _ _) ?_
        refine DL.p rfl rfl rfl ?_
        refine DL.q rfl (.free rfl) rfl rfl rfl (Yld.load p26 rfl (atM (hbv.cell rfl) (hnb))) (Mod.drew _ _) ?_
        refine DL.op rfl (.free rfl) rfl rfl (Does.call rfl e28 (add_ok (fun b => M b ∨ vo'.ownBlock = some b) _ ix mh mr s.has s.rows (hI4.mod (Mod.drew No _) (fun _ _ h => h.elim) (fun h => h) (fun h => h) (fun h => h)) (.inl hMh) (.inl hMr) (fun b e => by rcases e with e | e; (have := hMlt b e; simp only [World.drew]; omega); exact hP4.row.lt e) (s.last + 1) ls _ (hv4.mod (Mod.drew _ _)) hnew his (fun t ht => by have h1 := hok.rows t ht; have h2 := hok.last1; omega))) ?_
        rintro _ w5 ⟨rfl, hI5, hm5⟩
        refine ⟨(Mod.drew _ _).trans hm5, ?_⟩
        have hm45 : Mod (fun b => b = mh ∨ b = mr) w4 w5 := (Mod.drew _ _).trans hm5
        have hs45 := hm45.size
        have hB5 := hB4.mod hm45 (by rintro (e | e); exact hp1.2.2.1 e; exact hp1.2.2.2 e)
        have hbv5 := hbv.mod hm45 (by rintro (e | e); exact hb4M (e ▸ hMh); exact hb4M (e ▸ hMr))
        have hR5 := hR4.mod hm45 (fun b e e' => by rcases e' with rfl | rfl; exact (ha5 _ e).2.2.2.1 rfl; exact (ha5 _ e).2.2.2.2 rfl)
        have hv5 := hv4.mod (hm45.mono fun b _ e => by rcases e with rfl | rfl; exact .inl hMh; exact .inl hMr)
        refine DL.done ?_
        refine RK.seq ?_
        refine RK.drawM (fun b => (Value.slice adl al.length cl).ownBlock = some b) [(0, false), (1, false), (2, false), (3, false), (4, false), (5, false), (6, false), (8, false), (7, true), (9, false), (10, true), (11, true), (12, false), (13, false), (14, true)] [14] mixed (by kernel_rfl) ?_
        iterate 3 refine DL.p rfl rfl rfl ?_
        refine DL.qf rfl (.free rfl) rfl rfl (Yld.fieldAddr fo124_2 rfl) ?_
        refine DL.q rfl (.free rfl) rfl rfl rfl (Yld.load p58 rfl (atM (hB5.cell rfl) (fun e => (hp5 p e).1 rfl))) (Mod.drew _ _) ?_
        refine DL.p rfl rfl rfl ?_
        refine DL.q rfl (.free rfl) rfl rfl rfl (Yld.load p26 rfl (atM (hbv5.cell rfl) (fun e => hb4M (hMl b4 e)))) (Mod.drew _ _) ?_
        refine DL.p rfl rfl rfl ?_
        refine DL.op rfl (.free rfl) rfl rfl (Does.call rfl e80 (cloneL_ok (fun b => M b ∨ vo'.ownBlock = some b) ls _ _ (hv5.mod (Mod.drew _ _)) (by omega))) ?_
        rintro u6 w6 ⟨hr6, hf6, hg6⟩
        refine ⟨(Mod.drew _ _).trans (Mod.any' hg6), ?_⟩
        obtain ⟨ad6, c6, rfl⟩ := hr6.slice
        have hs56 : w5.heap.size ≤ w6.heap.size := hg6.size
        refine DL.qf rfl (.free rfl) rfl rfl (Yld.build (v := .agg #[.int .i64 (s.last + 1), .slice ad6 ls.length c6, .float .f64 (canS val)]) rfl (fun w => by kernel_rfl)) ?_
        refine DL.op rfl (.free rfl) rfl rfl (Does.slice1 u58 i32 rfl rfl rfl rfl rfl) ?_
        rintro _ w7 ⟨b7, rfl, hn7⟩
        refine ⟨((Mod.drew _ _).trans (Mod.any' hg6)).trans (Mod.any' hn7.grow), ?_⟩
        have hg57 : Grow w5 w7 := ((Mod.drew _ _).trans hg6).trans hn7.grow
        have hs67 := hn7.size
        refine DL.op rfl (.free rfl) rfl rfl (Does.append u58 i32 rfl rfl rfl rfl rfl (hR5.mod hg57 (fun _ _ h => h)) (Sl.new hn7 3 1 rfl (by omega) (fun h => h)) (rfl) (by omega)) ?_
        rintro u8 w8 ⟨hr8, hm8, hu8⟩
        refine ⟨(((Mod.drew _ _).trans (Mod.any' hg6)).trans (Mod.any' hn7.grow)).trans hm8, ?_⟩
        obtain ⟨ad8, c8, rfl⟩ := hr8.slice
        have hm58 : Mod (fun b => (Value.slice adl al.length cl).ownBlock = some b) w5 w8 := (Mod.any' hg57).trans hm8
        have hB8 := hB5.mod hm58 (fun e => (hp5 p e).1 rfl)
        refine DL.p rfl rfl rfl ?_
        refine DL.qf rfl (.free rfl) rfl rfl (Yld.fieldAddr fo124_2 rfl) ?_
        refine DL.opT rfl (.free rfl) rfl rfl (Does.store i58 rfl rfl rfl hB8 (.s (.s .z))) ?_
        rintro _ w9 ⟨hb9, hm9, _⟩
        have hplt := hB4.lt
        have hu8' : ∀ b, (Value.slice ad8 (al.length + 1) c8).ownBlock = some b → (Value.slice adl al.length cl).ownBlock = some b ∨ b = w7.heap.size := fun b e => by
            rcases hu8 with h1 | h1
            · rw [h1] at e; exact .inl e
            · rw [h1] at e; cases e; exact .inr rfl
        have hm59 : Mod (fun b => (Value.slice adl al.length cl).ownBlock = some b ∨ b = p) w5 w9 := (hm58.mono fun b _ e => .inl e).trans (hm9.mono fun b _ e => .inr e)
        have hm69 : Mod (fun b => (Value.slice adl al.length cl).ownBlock = some b ∨ b = p) w6 w9 := ((Mod.any' hn7.grow).trans (hm8.mono fun b _ e => .inl e)).trans (hm9.mono fun b _ e => .inr e)
        have hm49 : Mod (fun b => b = mh ∨ b = mr ∨ (Value.slice adl al.length cl).ownBlock = some b ∨ b = p) w4 w9 := (hm45.mono fun b _ e => by rcases e with e | e; exact .inl e; exact .inr (.inl e)).trans (hm59.mono fun b _ e => by rcases e with e | e; exact .inr (.inr (.inl e)); exact .inr (.inr (.inr e)))
        have hO59 : ∀ b, ((Value.slice adl al.length cl).ownBlock = some b ∨ b = p) → O b := fun b e => by rcases e with e | rfl; exact hOl b e; exact hOp
        have hM59 : ∀ b, ((Value.slice adl al.length cl).ownBlock = some b ∨ b = p) → M b := fun b e => hOM b (hO59 b e)
        have hO49 : ∀ b, (b = mh ∨ b = mr ∨ (Value.slice adl al.length cl).ownBlock = some b ∨ b = p) → O b := fun b e => by rcases e with rfl | rfl | e; exact hOh; exact hOr; exact hO59 b e
        have hM49 : ∀ b, (b = mh ∨ b = mr ∨ (Value.slice adl al.length cl).ownBlock = some b ∨ b = p) → M b := fun b e => hOM b (hO49 b e)
        have hoff8 : ∀ b, b < w6.heap.size → ((M b ∨ vo'.ownBlock = some b) ∨ (Value.slice ad8 (al.length + 1) c8).ownBlock = some b) → (M b ∨ vo'.ownBlock = some b) := fun b hb e => by
            rcases e with e | e
            · exact e
            · rcases hu8' b e with h1 | h1
              · exact .inl (hMl b h1)
              · omega
        have hownO : ∀ b, own p q ix mh mr vo' (.slice ad8 (al.length + 1) c8) b → (O b ∨ vo'.ownBlock = some b) ∨ (Value.slice ad8 (al.length + 1) c8).ownBlock = some b := fun b hb => by
            rcases hb with rfl | rfl | rfl | rfl | e | e | rfl
            · exact .inl (.inl hOp)
            · exact .inl (.inl hOq)
            · exact .inl (.inl hOh)
            · exact .inl (.inl hOr)
            · exact .inl (.inr e)
            · exact .inr e
            · exact .inl (.inl hOx)
        have hown : ∀ b, (M b ∨ own p q ix mh mr vo' (.slice ad8 (al.length + 1) c8) b) → (M b ∨ vo'.ownBlock = some b) ∨ (Value.slice ad8 (al.length + 1) c8).ownBlock = some b := fun b hb => hb.elim (fun e => .inl (.inl e)) fun e => (hownO b e).imp (Or.imp (hOM b) id) id
        have hP9 := hP4.mod hm49 (by rintro (e | e | e | e); exact ha2.2.1 e; exact ha2.2.2 e; exact (ha5 q e).2.1 rfl; exact ha1.1 e.symm) (fun b e e' => by obtain ⟨k1, k2, k3, k4, k5, k6⟩ := ha4 b e; rcases e' with e' | e' | e' | e'; exact k4 e'; exact k5 e'; exact k6 e'; exact k1 e')
        have hI9 : IdxAt (fun b => M b ∨ own p q ix mh mr vo' (.slice ad8 (al.length + 1) c8) b) w9 ix mh mr (putM s.has (s.last + 1) ls) (addRows s.rows (s.last + 1) ls) := ((hI5.off fun b hb e => hoff8 b (by omega) e).mod hm59 (fun b _ e => .inl (.inl (hM59 b e))) (by rintro (e | e); exact (ha5 ix e).2.2.1 rfl; exact ha1.2.1 e.symm) (by rintro (e | e); exact (ha5 mh e).2.2.2.1 rfl; exact ha1.2.2.1 e.symm) (by rintro (e | e); exact (ha5 mr e).2.2.2.2 rfl; exact ha1.2.2.2 e.symm)).off fun b _ hb => hown b hb
        have hr9 := hr8.mod hm9 (fun b e e' => by have e'' : b = p := e'; rcases hu8' b e with h1 | h1; exact (hp5 b h1).1 e''; omega)
        have hs9 : ∀ a ∈ al, SlL (fun b => M b ∨ own p q ix mh mr vo' (.slice ad8 (al.length + 1) c8) b) w9 a.v a.ls := fun a ha => (((hS4 a ha).off (by omega) fun b hb e => hoff8 b (by omega) e).mod (hm49.mono fun b _ e => .inl (.inl (hM49 b e)))).off (by omega) fun b _ hb => hown b hb
        have hs9' : SlL (fun b => M b ∨ own p q ix mh mr vo' (.slice ad8 (al.length + 1) c8) b) w9 (.slice ad6 ls.length c6) ls := ((Sl.own (M := fun b => (M b ∨ vo'.ownBlock = some b) ∨ (Value.slice ad8 (al.length + 1) c8).ownBlock = some b) hr6 (fun b e e' => by
            have h1 : w5.heap.size ≤ b := hf6 b e
            have h2 := hr6.lt e
            rcases hoff8 b h2 e' with h3 | h3
            · have := hMlt b h3; omega
            · have := hP4.row.lt h3; omega)).mod (hm69.mono fun b _ e => .inl (.inl (hM59 b e)))).off (by omega) fun b _ hb => hown b hb
        have hr9' : Row w9 32 3 (.slice ad8 (al.length + 1) c8) (al ++ [⟨s.last + 1, ls, canS val, .slice ad6 ls.length c6⟩] : List Al).length ((al ++ [⟨s.last + 1, ls, canS val, .slice ad6 ls.length c6⟩] : List Al).flatMap alC) := by rw [List.length_append, List.flatMap_append]; exact hr9
        have hlt9 : ∀ b, (M b ∨ own p q ix mh mr vo' (.slice ad8 (al.length + 1) c8) b) → b < w9.heap.size := fun b hb => by
            rcases hb with e | e
            · have h1 := hMlt b e; have h2 := hm49.size; omega
            · exact own_lt hb9 hP9 hI9 hr9' b e
        refine DL.done ?_
        refine RK.seq ?_
        refine RK.region ?_
        iterate 4 refine RL.p rfl rfl ?_
        refine RL.done ?_
        refine RK.ret_of Tryz.func18 (res3 rfl rfl rfl rfl) ?_ _
        exact ⟨_, rfl, own p q ix mh mr vo' (.slice ad8 (al.length + 1) c8), rfl, ⟨q, ix, mh, mr, vo', _, al ++ [⟨s.last + 1, ls, canS val, .slice ad6 ls.length c6⟩], fun _ => Iff.rfl, ⟨hb9, hP9, hI9, hr9', by simp [h.als, pub], fun a ha => by
            simp only [List.mem_append, List.mem_singleton] at ha
            rcases ha with ha | rfl
            · exact hs9 a ha
            · exact hs9'
          , fun _ e => .inr e, hlt9⟩⟩, hm04.trans (hm49.mono fun b _ e => hO49 b e), fun b hb => by
            rcases hownO b hb with (e | e) | e
            · exact .inl e
            · rcases hvo' b e with h1 | h1
              · exact .inl (hOo b h1)
              · exact .inr (by omega)
            · rcases hu8' b e with h1 | h1
              · exact .inl (hOl b h1)
              · exact .inr (by omega)
          ⟩
theorem post_ok (w : World) (p : Nat) (s : St) (M : Nat → Prop) (h : StoreAt w p s M) (hok : Ok s) (ls : List Lab) (v : Value) (hv : SlL M w v ls) (val : Nat) :
    Fx Tryz.prog 18 [pp p, v, .float .f64 val] w (fun u w' => ∃ M', u = .tuple #[.int .i64 (postS s ls val).2.1, .bool (postS s ls val).2.2.1, .int .i64 (postS s ls val).2.2.2] ∧ StoreAt w' p (postS s ls val).1 M' ∧ Mod M w w' ∧ ∀ b, M' b → M b ∨ w.heap.size ≤ b) :=
  Fx.mono (postX_ok w p s M M h hok ls v hv val) fun u w' ⟨M', h1, h2, h3, h4⟩ => ⟨M', h1, h2.at_, h3, h4⟩
end Go.Proofs.YtffbcfcoddacmaaGreat

