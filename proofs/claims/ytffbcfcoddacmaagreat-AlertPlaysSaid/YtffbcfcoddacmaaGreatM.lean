/- Alerts: a store, made, counted, ranked. -/
import Derived.Test.YtffbcfcoddacmaaGreatL
set_option linter.unusedVariables false
set_option linter.unusedSimpArgs false
set_option maxHeartbeats 400000
set_option maxRecDepth 100000
namespace Go.Proofs.YtffbcfcoddacmaaGreat
open Go Go.X

/-- What a store of alerts holds. -/
structure St where
  most : Int
  last : Int
  out : List Int
  al : List (Int × List Lab × Nat)
  has : List (Int × List Lab)
  rows : List (LabK × List Int)
def own (p q ix mh mr : Nat) (vo vl : Value) : Nat → Prop := fun b => b = p ∨ b = q ∨ b = mh ∨ b = mr ∨ vo.ownBlock = some b ∨ vl.ownBlock = some b ∨ b = ix
def pub (a : Al) : Int × List Lab × Nat := (a.id, a.ls, a.val)
structure SA (w : World) (p : Nat) (s : St) (M : Nat → Prop) (q ix mh mr : Nat) (vo vl : Value) (al : List Al) : Prop where
  blk : Blk w p 124 [pp q, pp ix, vl]
  pool : PoolAt w q s.most s.last s.out vo
  idx : IdxAt M w ix mh mr s.has s.rows
  row : Row w 32 3 vl al.length (al.flatMap alC)
  als : al.map pub = s.al
  sls : ∀ a ∈ al, SlL M w a.v a.ls
  ownM : ∀ b, own p q ix mh mr vo vl b → M b
  ltM : ∀ b, M b → b < w.heap.size
/-- A store whose blocks are O; its labels keep off all of M. -/
def StoreX (O M : Nat → Prop) (w : World) (p : Nat) (s : St) : Prop := ∃ q ix mh mr vo vl al, (∀ b, O b ↔ own p q ix mh mr vo vl b) ∧ SA w p s M q ix mh mr vo vl al
abbrev StoreAt (w : World) (p : Nat) (s : St) (M : Nat → Prop) : Prop := StoreX M M w p s
theorem IdxAt.mps {M : Nat → Prop} {w : World} {ix mh mr : Nat} {has : List (Int × List Lab)} {rows : List (LabK × List Int)} (h : IdxAt M w ix mh mr has rows) : Mp w mh ∧ Mp w mr := by
  obtain ⟨l, _, h2, _⟩ := h.hl
  obtain ⟨r, _, h3, _⟩ := h.rl
  exact ⟨h2.mp, h3.mp⟩
theorem SA.own_lt {w : World} {p : Nat} {s : St} {M : Nat → Prop} {q ix mh mr : Nat} {vo vl : Value} {al : List Al} (h : SA w p s M q ix mh mr vo vl al) {b : Nat} (hb : own p q ix mh mr vo vl b) : b < w.heap.size := h.ltM b (h.ownM b hb)
theorem SA.lt {w : World} {p : Nat} {s : St} {M : Nat → Prop} {q ix mh mr : Nat} {vo vl : Value} {al : List Al} (h : SA w p s M q ix mh mr vo vl al) {b : Nat} (hb : M b) : b < w.heap.size := h.ltM b hb
theorem own_lt {w : World} {p q ix mh mr : Nat} {cs : List Value} {tp : TypeId} {m l : Int} {o : List Int} {vo vl : Value} {tl k n : Nat} {xs : List Value} {M : Nat → Prop} {has : List (Int × List Lab)} {rows : List (LabK × List Int)} (hb : Blk w p tp cs) (hp : PoolAt w q m l o vo) (hi : IdxAt M w ix mh mr has rows) (hr : Row w tl k vl n xs) : ∀ b, own p q ix mh mr vo vl b → b < w.heap.size := by
  rintro b (rfl | rfl | rfl | rfl | e | e | rfl)
  · exact hb.lt
  · exact hp.blk.lt
  · exact hi.mps.1.lt
  · exact hi.mps.2.lt
  · exact hp.row.lt e
  · exact hr.lt e
  · exact hi.blk.lt
theorem StoreX.lt {w : World} {p : Nat} {s : St} {O M : Nat → Prop} (h : StoreX O M w p s) {b : Nat} (hb : M b) : b < w.heap.size := by
  obtain ⟨q, ix, mh, mr, vo, vl, al, hO, h⟩ := h
  exact h.lt hb
theorem PoolAt.mod {w w' : World} {p : Nat} {most last : Int} {out : List Int} {v : Value} {M0 : Nat → Prop} (h : PoolAt w p most last out v) (hm : Mod M0 w w') (n1 : ¬ M0 p) (n2 : ∀ b, v.ownBlock = some b → ¬ M0 b) : PoolAt w' p most last out v :=
  ⟨h.blk.mod hm n1, h.row.mod hm n2, h.ne⟩
theorem SA.grow {w w' : World} {p : Nat} {s : St} {M : Nat → Prop} {q ix mh mr : Nat} {vo vl : Value} {al : List Al} (h : SA w p s M q ix mh mr vo vl al) (hg : Grow w w') : SA w' p s M q ix mh mr vo vl al :=
  ⟨h.blk.mod hg (fun h => h), h.pool.mod hg (fun h => h) (fun _ _ h => h), h.idx.mod hg (fun _ _ h => h.elim) (fun h => h) (fun h => h) (fun h => h), h.row.mod hg (fun _ _ h => h), h.als, fun a ha => (h.sls a ha).mod (Mod.any' hg), h.ownM, fun b hb => Nat.lt_of_lt_of_le (h.ltM b hb) hg.size⟩
theorem StoreX.grow {w w' : World} {p : Nat} {s : St} {O M : Nat → Prop} (h : StoreX O M w p s) (hg : Grow w w') : StoreX O M w' p s := by
  obtain ⟨q, ix, mh, mr, vo, vl, al, hO, h⟩ := h
  exact ⟨q, ix, mh, mr, vo, vl, al, hO, h.grow hg⟩
theorem StoreX.sub {w : World} {p : Nat} {s : St} {O M : Nat → Prop} (h : StoreX O M w p s) {b : Nat} (hb : O b) : M b := by
  obtain ⟨q, ix, mh, mr, vo, vl, al, hO, h⟩ := h
  exact h.ownM b ((hO b).1 hb)
/-- Its labels keep off fewer blocks, or off some more that aren't theirs. -/
theorem StoreX.off {w : World} {p : Nat} {s : St} {O M M' : Nat → Prop} (h : StoreX O M w p s) (h1 : ∀ b, O b → M' b) (h2 : ∀ b, M' b → M b) : StoreX O M' w p s := by
  obtain ⟨q, ix, mh, mr, vo, vl, al, hO, h⟩ := h
  exact ⟨q, ix, mh, mr, vo, vl, al, hO, h.blk, h.pool, h.idx.off fun b _ e => h2 b e, h.row, h.als, fun a ha => (h.sls a ha).off (by omega) (fun b _ e => h2 b e), fun b e => h1 b ((hO b).2 e), fun b e => h.ltM b (h2 b e)⟩
theorem StoreX.at_ {w : World} {p : Nat} {s : St} {O M : Nat → Prop} (h : StoreX O M w p s) : StoreAt w p s O := h.off (fun _ e => e) (fun _ e => h.sub e)
/-- What others do to blocks of theirs. -/
theorem StoreX.mod {w w' : World} {p : Nat} {s : St} {O M N : Nat → Prop} (h : StoreX O M w p s) (hm : Mod N w w') (h1 : ∀ b, O b → ¬ N b) (h2 : ∀ b, N b → b < w.heap.size → M b) : StoreX O M w' p s := by
  obtain ⟨q, ix, mh, mr, vo, vl, al, hO, h⟩ := h
  have h3 : ∀ b, own p q ix mh mr vo vl b → ¬ N b := fun b e => h1 b ((hO b).2 e)
  exact ⟨q, ix, mh, mr, vo, vl, al, hO, h.blk.mod hm (h3 p (.inl rfl)), h.pool.mod hm (h3 q (.inr (.inl rfl))) (fun b e => h3 b (.inr (.inr (.inr (.inr (.inl e)))))), h.idx.mod hm (fun b hb e => h2 b e hb) (h3 ix (.inr (.inr (.inr (.inr (.inr (.inr rfl))))))) (h3 mh (.inr (.inr (.inl rfl)))) (h3 mr (.inr (.inr (.inr (.inl rfl))))), h.row.mod hm (fun b e => h3 b (.inr (.inr (.inr (.inr (.inr (.inl e))))))), h.als, fun a ha => (h.sls a ha).mod (hm.mono fun b hb e => h2 b e hb), h.ownM, fun b e => Nat.lt_of_lt_of_le (h.ltM b e) hm.size⟩
def capS (m : Int) : Int := if 16 < (if 1 > m then 1 else m) then 16 else if 1 > m then 1 else m
def St.new (m : Int) : St := ⟨capS m, 0, [], [], [], []⟩
theorem alertNew_ok (m : Int) (w : World) : Fx Tryz.prog 16 [.int .i64 m] w (fun u w' => ∃ p M, u = pp p ∧ StoreAt w' p (St.new m) M ∧ (∀ b, M b → w.heap.size ≤ b) ∧ Grow w w') := by
  refine enter Tryz.func16 rfl rfl rfl _ (Pick.sub (l := [0]) (.cons rfl .nil)) ?_
  refine RK.seq ?_
  refine RK.region ?_
  refine RL.p rfl rfl ?_
  refine RL.done ?_
  refine RK.seq ?_
  refine RK.region ?_
  refine RL.p rfl rfl ?_
  refine RL.q (.free rfl) rfl rfl (Yld.max2 rfl rfl) ?_
  refine RL.q (.free rfl) rfl rfl (Yld.min2 rfl rfl) ?_
  refine RL.op (.free rfl) rfl rfl (Does.call rfl e68 (poolNew_ok _ _)) ?_
  rintro _ w1 ⟨q, rfl, hq, hp1, hg1, _⟩
  refine RL.op (.free rfl) rfl rfl (Does.call rfl e27 (idxNew_ok _)) ?_
  rintro _ w2 ⟨ix, mh, mr, rfl, hix, hi2, hg2⟩
  refine RL.q (.free rfl) rfl rfl (Yld.build (v := .agg #[pp q, pp ix, .slice none 0 0]) rfl (fun w => by kernel_rfl)) ?_
  refine RL.op (.free rfl) rfl rfl (Does.box rfl) ?_
  rintro _ w3 ⟨p, rfl, hn3⟩
  refine RL.p rfl rfl ?_
  refine RL.done ?_
  refine RK.ret_of Tryz.func16 (res1 rfl rfl) ?_ _
  exact ⟨_, rfl, p, own p q ix mh mr (.slice none 0 0) (.slice none 0 0), rfl, ⟨q, ix, mh, mr, .slice none 0 0, .slice none 0 0, [], fun _ => Iff.rfl, hn3.blk, by
      have e : (if 0 > capS m then 0 else capS m) = capS m := by unfold capS; split <;> omega
      have h1 : PoolAt w3 q (if 0 > capS m then 0 else capS m) 0 [] (.slice none 0 0) := hp1.mod (hg2.trans hn3.grow) (fun h => h) (fun _ _ h => h)
      rw [e] at h1
      exact h1, (hi2 _).mod hn3.grow (fun _ _ h => h.elim) (fun h => h) (fun h => h) (fun h => h), Row.nil _ _ _, rfl, by simp, fun _ e => e, own_lt hn3.blk (hp1.mod (hg2.trans hn3.grow) (fun h => h) (fun _ _ h => h)) ((hi2 No).mod hn3.grow (fun _ _ h => h.elim) (fun h => h) (fun h => h) (fun h => h)) (Row.nil w3 3 1)⟩, fun b hb => by
      have h1 := hn3.at_; have h2 := hg1.size; have h3 := hg2.size
      rcases hb with rfl | rfl | rfl | rfl | e | e | rfl
      · omega
      · omega
      · have := hix b (.inr (.inl rfl)); omega
      · have := hix b (.inr (.inr rfl)); omega
      · simp [Value.ownBlock] at e
      · simp [Value.ownBlock] at e
      · have := hix b (.inl rfl); omega
    , (hg1.trans hg2).trans hn3.grow⟩
theorem alertLen_ok (w : World) (p : Nat) (s : St) (M : Nat → Prop) (h : StoreAt w p s M) : Fx Tryz.prog 23 [pp p] w (fun u w' => u = .int .i64 s.al.length ∧ w = w') := by
  obtain ⟨q, ix, mh, mr, vo, vl, al, hO, h⟩ := h
  obtain ⟨ad, c, rfl⟩ := h.row.slice
  refine enter Tryz.func23 rfl rfl rfl _ (Pick.sub (l := [0]) (.cons rfl .nil)) ?_
  refine RK.seq ?_
  refine RK.region ?_
  refine RL.p rfl rfl ?_
  refine RL.done ?_
  refine RK.seq ?_
  refine RK.region ?_
  iterate 2 refine RL.p rfl rfl ?_
  refine RL.q (.free rfl) rfl rfl (Yld.fieldAddr fo124_2 rfl) ?_
  refine RL.q (.free rfl) rfl rfl (Yld.load p58 rfl (at1 (h.blk.cell rfl))) ?_
  refine RL.q (.free rfl) rfl rfl (Yld.lenSl u58 rfl) ?_
  refine RL.p rfl rfl ?_
  refine RL.done ?_
  refine RK.ret_of Tryz.func23 (res1 rfl rfl) ?_ _
  exact ⟨_, rfl, by rw [← h.als]; simp, rfl⟩
theorem alertPosts_ok (w : World) (p : Nat) (s : St) (M : Nat → Prop) (h : StoreAt w p s M) : Fx Tryz.prog 25 [pp p] w (fun u w' => u = .int .i64 s.rows.length ∧ w = w') := by
  obtain ⟨q, ix, mh, mr, vo, vl, al, hO, h⟩ := h
  refine enter Tryz.func25 rfl rfl rfl _ (Pick.sub (l := [0]) (.cons rfl .nil)) ?_
  refine RK.seq ?_
  refine RK.region ?_
  refine RL.p rfl rfl ?_
  refine RL.done ?_
  refine RK.seq ?_
  refine RK.region ?_
  iterate 2 refine RL.p rfl rfl ?_
  refine RL.q (.free rfl) rfl rfl (Yld.fieldAddr fo124_1 rfl) ?_
  refine RL.q (.free rfl) rfl rfl (Yld.load p42 rfl (at1 (h.blk.cell rfl))) ?_
  refine RL.op (.free rfl) rfl rfl (Does.call rfl e31 (idxLen_ok M _ ix mh mr _ _ h.idx)) ?_
  rintro _ w2 ⟨rfl, rfl⟩
  refine RL.p rfl rfl ?_
  refine RL.done ?_
  refine RK.ret_of Tryz.func25 (res1 rfl rfl) ?_ _
  exact ⟨_, rfl, rfl, rfl⟩
end Go.Proofs.YtffbcfcoddacmaaGreat

