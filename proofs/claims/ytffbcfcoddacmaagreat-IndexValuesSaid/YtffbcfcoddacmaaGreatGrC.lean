import Derived.Test.YtffbcfcoddacmaaGreatGrB
/- Alerts: a store, made, counted, ranked. -/
set_option linter.unusedVariables false
set_option linter.unusedSimpArgs false
set_option maxHeartbeats 400000
set_option maxRecDepth 100000
namespace Go.Proofs.YtffbcfcoddacmaaGreat
open Go Go.X

/-- What a store of alerts holds. -/
structure St where
  most : Int
  last : Int
  out : List Int
  al : List (Int × List Lab × Nat)
  has : List (Int × List Lab)
  rows : List (LabK × List Int)
def own (p q ix mh mr : Nat) (vo vl : Value) : Nat → Prop := fun b => b = p ∨ b = q ∨ b = mh ∨ b = mr ∨ vo.ownBlock = some b ∨ vl.ownBlock = some b ∨ b = ix
def pub (a : Al) : Int × List Lab × Nat := (a.id, a.ls, a.val)
structure SA (w : World) (p : Nat) (s : St) (M : Nat → Prop) (q ix mh mr : Nat) (vo vl : Value) (al : List Al) : Prop where
  blk : Blk w p 124 [pp q, pp ix, vl]
  pool : PoolAt w q s.most s.last s.out vo
  idx : IdxAt M w ix mh mr s.has s.rows
  row : Row w 32 3 vl al.length (al.flatMap alC)
  als : al.map pub = s.al
  sls : ∀ a ∈ al, SlL M w a.v a.ls
  ownM : ∀ b, own p q ix mh mr vo vl b → M b
  ltM : ∀ b, M b → b < w.heap.size
/-- A store whose blocks are O; its labels keep off all of M. -/
def StoreX (O M : Nat → Prop) (w : World) (p : Nat) (s : St) : Prop := ∃ q ix mh mr vo vl al, (∀ b, O b ↔ own p q ix mh mr vo vl b) ∧ SA w p s M q ix mh mr vo vl al
abbrev StoreAt (w : World) (p : Nat) (s : St) (M : Nat → Prop) : Prop := StoreX M M w p s
theorem IdxAt.mps {M : Nat → Prop} {w : World} {ix mh mr : Nat} {has : List (Int × List Lab)} {rows : List (LabK × List Int)} (h : IdxAt M w ix mh mr has rows) : Mp w mh ∧ Mp w mr := by
  obtain ⟨l, _, h2, _⟩ := h.hl
  obtain ⟨r, _, h3, _⟩ := h.rl
  exact ⟨h2.mp, h3.mp⟩
theorem SA.own_lt {w : World} {p : Nat} {s : St} {M : Nat → Prop} {q ix mh mr : Nat} {vo vl : Value} {al : List Al} (h : SA w p s M q ix mh mr vo vl al) {b : Nat} (hb : own p q ix mh mr vo vl b) : b < w.heap.size := h.ltM b (h.ownM b hb)
theorem SA.lt {w : World} {p : Nat} {s : St} {M : Nat → Prop} {q ix mh mr : Nat} {vo vl : Value} {al : List Al} (h : SA w p s M q ix mh mr vo vl al) {b : Nat} (hb : M b) : b < w.heap.size := h.ltM b hb
theorem own_lt {w : World} {p q ix mh mr : Nat} {cs : List Value} {tp : TypeId} {m l : Int} {o : List Int} {vo vl : Value} {tl k n : Nat} {xs : List Value} {M : Nat → Prop} {has : List (Int × List Lab)} {rows : List (LabK × List Int)} (hb : Blk w p tp cs) (hp : PoolAt w q m l o vo) (hi : IdxAt M w ix mh mr has rows) (hr : Row w tl k vl n xs) : ∀ b, own p q ix mh mr vo vl b → b < w.heap.size := by
  rintro b (rfl | rfl | rfl | rfl | e | e | rfl)
  · exact hb.lt
  · exact hp.blk.lt
  · exact hi.mps.1.lt
  · exact hi.mps.2.lt
  · exact hp.row.lt e
  · exact hr.lt e
  · exact hi.blk.lt
theorem StoreX.lt {w : World} {p : Nat} {s : St} {O M : Nat → Prop} (h : StoreX O M w p s) {b : Nat} (hb : M b) : b < w.heap.size := by
  obtain ⟨q, ix, mh, mr, vo, vl, al, hO, h⟩ := h
  exact h.lt hb
theorem PoolAt.mod {w w' : World} {p : Nat} {most last : Int} {out : List Int} {v : Value} {M0 : Nat → Prop} (h : PoolAt w p most last out v) (hm : Mod M0 w w') (n1 : ¬ M0 p) (n2 : ∀ b, v.ownBlock = some b → ¬ M0 b) : PoolAt w' p most last out v :=
  ⟨h.blk.mod hm n1, h.row.mod hm n2, h.ne⟩
theorem SA.grow {w w' : World} {p : Nat} {s : St} {M : Nat → Prop} {q ix mh mr : Nat} {vo vl : Value} {al : List Al} (h : SA w p s M q ix mh mr vo vl al) (hg : Grow w w') : SA w' p s M q ix mh mr vo vl al :=
  ⟨h.blk.mod hg (fun h => h), h.pool.mod hg (fun h => h) (fun _ _ h => h), h.idx.mod hg (fun _ _ h => h.elim) (fun h => h) (fun h => h) (fun h => h), h.row.mod hg (fun _ _ h => h), h.als, fun a ha => (h.sls a ha).mod (Mod.any' hg), h.ownM, fun b hb => Nat.lt_of_lt_of_le (h.ltM b hb) hg.size⟩
theorem StoreX.grow {w w' : World} {p : Nat} {s : St} {O M : Nat → Prop} (h : StoreX O M w p s) (hg : Grow w w') : StoreX O M w' p s := by
  obtain ⟨q, ix, mh, mr, vo, vl, al, hO, h⟩ := h
  exact ⟨q, ix, mh, mr, vo, vl, al, hO, h.grow hg⟩
theorem StoreX.sub {w : World} {p : Nat} {s : St} {O M : Nat → Prop} (h : StoreX O M w p s) {b : Nat} (hb : O b) : M b := by
  obtain ⟨q, ix, mh, mr, vo, vl, al, hO, h⟩ := h
  exact h.ownM b ((hO b).1 hb)
/-- Its labels keep off fewer blocks, or off some more that aren't theirs. -/
theorem StoreX.off {w : World} {p : Nat} {s : St} {O M M' : Nat → Prop} (h : StoreX O M w p s) (h1 : ∀ b, O b → M' b) (h2 : ∀ b, M' b → M b) : StoreX O M' w p s := by
  obtain ⟨q, ix, mh, mr, vo, vl, al, hO, h⟩ := h
  exact ⟨q, ix, mh, mr, vo, vl, al, hO, h.blk, h.pool, h.idx.off fun b _ e => h2 b e, h.row, h.als, fun a ha => (h.sls a ha).off (by omega) (fun b _ e => h2 b e), fun b e => h1 b ((hO b).2 e), fun b e => h.ltM b (h2 b e)⟩
theorem StoreX.at_ {w : World} {p : Nat} {s : St} {O M : Nat → Prop} (h : StoreX O M w p s) : StoreAt w p s O := h.off (fun _ e => e) (fun _ e => h.sub e)
/-- What others do to blocks of theirs. -/
theorem StoreX.mod {w w' : World} {p : Nat} {s : St} {O M N : Nat → Prop} (h : StoreX O M w p s) (hm : Mod N w w') (h1 : ∀ b, O b → ¬ N b) (h2 : ∀ b, N b → b < w.heap.size → M b) : StoreX O M w' p s := by
  obtain ⟨q, ix, mh, mr, vo, vl, al, hO, h⟩ := h
  have h3 : ∀ b, own p q ix mh mr vo vl b → ¬ N b := fun b e => h1 b ((hO b).2 e)
  exact ⟨q, ix, mh, mr, vo, vl, al, hO, h.blk.mod hm (h3 p (.inl rfl)), h.pool.mod hm (h3 q (.inr (.inl rfl))) (fun b e => h3 b (.inr (.inr (.inr (.inr (.inl e)))))), h.idx.mod hm (fun b hb e => h2 b e hb) (h3 ix (.inr (.inr (.inr (.inr (.inr (.inr rfl))))))) (h3 mh (.inr (.inr (.inl rfl)))) (h3 mr (.inr (.inr (.inr (.inl rfl))))), h.row.mod hm (fun b e => h3 b (.inr (.inr (.inr (.inr (.inr (.inl e))))))), h.als, fun a ha => (h.sls a ha).mod (hm.mono fun b hb e => h2 b e hb), h.ownM, fun b e => Nat.lt_of_lt_of_le (h.ltM b e) hm.size⟩
def capS (m : Int) : Int := if 16 < (if 1 > m then 1 else m) then 16 else if 1 > m then 1 else m
def St.new (m : Int) : St := ⟨capS m, 0, [], [], [], []⟩
theorem alertNew_ok (m : Int) (w : World) : Fx Tryz.prog 16 [.int .i64 m] w (fun u w' => ∃ p M, u = pp p ∧ StoreAt w' p (St.new m) M ∧ (∀ b, M b → w.heap.size ≤ b) ∧ Grow w w') := by
  refine enter Tryz.func16 rfl rfl rfl _ (Pick.sub (l := [0]) (.cons rfl .nil)) ?_
  refine RK.seq ?_
  refine RK.region ?_
  refine RL.p rfl rfl ?_
  refine RL.done ?_
  refine RK.seq ?_
  refine RK.region ?_
  refine RL.p rfl rfl ?_
  refine RL.q (.free rfl) rfl rfl (Yld.max2 rfl rfl) ?_
  refine RL.q (.free rfl) rfl rfl (Yld.min2 rfl rfl) ?_
  refine RL.op (.free rfl) rfl rfl (Does.call rfl e68 (poolNew_ok _ _)) ?_
  rintro _ w1 ⟨q, rfl, hq, hp1, hg1, _⟩
  refine RL.op (.free rfl) rfl rfl (Does.call rfl e27 (idxNew_ok _)) ?_
  rintro _ w2 ⟨ix, mh, mr, rfl, hix, hi2, hg2⟩
  refine RL.q (.free rfl) rfl rfl (Yld.build (v := .agg #[pp q, pp ix, .slice none 0 0]) rfl (fun w => by kernel_rfl)) ?_
  refine RL.op (.free rfl) rfl rfl (Does.box rfl) ?_
  rintro _ w3 ⟨p, rfl, hn3⟩
  refine RL.p rfl rfl ?_
  refine RL.done ?_
  refine RK.ret_of Tryz.func16 (res1 rfl rfl) ?_ _
  exact ⟨_, rfl, p, own p q ix mh mr (.slice none 0 0) (.slice none 0 0), rfl, ⟨q, ix, mh, mr, .slice none 0 0, .slice none 0 0, [], fun _ => Iff.rfl, hn3.blk, by
      have e : (if 0 > capS m then 0 else capS m) = capS m := by unfold capS; split <;> omega
      have h1 : PoolAt w3 q (if 0 > capS m then 0 else capS m) 0 [] (.slice none 0 0) := hp1.mod (hg2.trans hn3.grow) (fun h => h) (fun _ _ h => h)
      rw [e] at h1
      exact h1, (hi2 _).mod hn3.grow (fun _ _ h => h.elim) (fun h => h) (fun h => h) (fun h => h), Row.nil _ _ _, rfl, by simp, fun _ e => e, own_lt hn3.blk (hp1.mod (hg2.trans hn3.grow) (fun h => h) (fun _ _ h => h)) ((hi2 No).mod hn3.grow (fun _ _ h => h.elim) (fun h => h) (fun h => h) (fun h => h)) (Row.nil w3 3 1)⟩, fun b hb => by
      have h1 := hn3.at_; have h2 := hg1.size; have h3 := hg2.size
      rcases hb with rfl | rfl | rfl | rfl | e | e | rfl
      · omega
      · omega
      · have := hix b (.inr (.inl rfl)); omega
      · have := hix b (.inr (.inr rfl)); omega
      · simp [Value.ownBlock] at e
      · simp [Value.ownBlock] at e
      · have := hix b (.inl rfl); omega
    , (hg1.trans hg2).trans hn3.grow⟩
theorem alertLen_ok (w : World) (p : Nat) (s : St) (M : Nat → Prop) (h : StoreAt w p s M) : Fx Tryz.prog 23 [pp p] w (fun u w' => u = .int .i64 s.al.length ∧ w = w') := by
  obtain ⟨q, ix, mh, mr, vo, vl, al, hO, h⟩ := h
  obtain ⟨ad, c, rfl⟩ := h.row.slice
  refine enter Tryz.func23 rfl rfl rfl _ (Pick.sub (l := [0]) (.cons rfl .nil)) ?_
  refine RK.seq ?_
  refine RK.region ?_
  refine RL.p rfl rfl ?_
  refine RL.done ?_
  refine RK.seq ?_
  refine RK.region ?_
  iterate 2 refine RL.p rfl rfl ?_
  refine RL.q (.free rfl) rfl rfl (Yld.fieldAddr fo124_2 rfl) ?_
  refine RL.q (.free rfl) rfl rfl (Yld.load p58 rfl (at1 (h.blk.cell rfl))) ?_
  refine RL.q (.free rfl) rfl rfl (Yld.lenSl u58 rfl) ?_
  refine RL.p rfl rfl ?_
  refine RL.done ?_
  refine RK.ret_of Tryz.func23 (res1 rfl rfl) ?_ _
  exact ⟨_, rfl, by rw [← h.als]; simp, rfl⟩
theorem alertPosts_ok (w : World) (p : Nat) (s : St) (M : Nat → Prop) (h : StoreAt w p s M) : Fx Tryz.prog 25 [pp p] w (fun u w' => u = .int .i64 s.rows.length ∧ w = w') := by
  obtain ⟨q, ix, mh, mr, vo, vl, al, hO, h⟩ := h
  refine enter Tryz.func25 rfl rfl rfl _ (Pick.sub (l := [0]) (.cons rfl .nil)) ?_
  refine RK.seq ?_
  refine RK.region ?_
  refine RL.p rfl rfl ?_
  refine RL.done ?_
  refine RK.seq ?_
  refine RK.region ?_
  iterate 2 refine RL.p rfl rfl ?_
  refine RL.q (.free rfl) rfl rfl (Yld.fieldAddr fo124_1 rfl) ?_
  refine RL.q (.free rfl) rfl rfl (Yld.load p42 rfl (at1 (h.blk.cell rfl))) ?_
  refine RL.op (.free rfl) rfl rfl (Does.call rfl e31 (idxLen_ok M _ ix mh mr _ _ h.idx)) ?_
  rintro _ w2 ⟨rfl, rfl⟩
  refine RL.p rfl rfl ?_
  refine RL.done ?_
  refine RK.ret_of Tryz.func25 (res1 rfl rfl) ?_ _
  exact ⟨_, rfl, rfl, rfl⟩
end Go.Proofs.YtffbcfcoddacmaaGreat

/- Alerts ranked. -/
set_option linter.unusedVariables false
set_option linter.unusedSimpArgs false
set_option maxHeartbeats 400000
set_option maxRecDepth 100000
namespace Go.Proofs.YtffbcfcoddacmaaGreat
open Go Go.X

def valsS (s : St) : List Nat := s.al.map (·.2.2)
/-- The numbers of the alerts, in the rank. -/
def rankIds (s : St) : List Int := (rankOf (valsS s)).map fun i => ((s.al[i]?).map (·.1)).getD 0
theorem rankIds_len (s : St) : (rankIds s).length = s.al.length := by simp [rankIds, rankOf_len, valsS]
theorem rankOf_lt {vs : List Nat} {x : Nat} (h : x ∈ rankOf vs) : x < vs.length := List.mem_range.1 ((isort_perm _ _).mem_iff.1 h)
theorem set_rank {R : List Int} {O : List Nat} {k : Nat} {x : Int} (hl : R.length = O.length) (hx : R[k]? = some x) : (ints (R.take k) ++ nats (O.drop k)).set k (.int .i64 x) = ints (R.take (k + 1)) ++ nats (O.drop (k + 1)) := by
  have hk : k < R.length := (List.getElem?_eq_some_iff.1 hx).1
  have e2 : nats (O.drop k) = .int .i64 (O[k]'(by omega) : Int) :: nats (O.drop (k + 1)) := by rw [List.drop_eq_getElem_cons (by omega : k < O.length)]; rfl
  rw [List.take_succ_eq_append_getElem hk, e2, (List.getElem?_eq_some_iff.1 hx).2]
  have e : (ints (R.take k)).length = k := by simp; omega
  rw [List.set_append_right _ _ (by omega), e]
  simp
theorem alertRank_ok (w : World) (p : Nat) (s : St) (M : Nat → Prop) (h : StoreAt w p s M) (hlt : ∀ a ∈ s.al, a.2.2 < 18446744073709551616) (hn : s.al.length < 20) :
    Fx Tryz.prog 37 [pp p] w (fun u w' => Row w' 3 1 u s.al.length (ints (rankIds s)) ∧ Fresh w.heap.size u ∧ Grow w w') := by
  obtain ⟨q, ix, mh, mr, vo, vl, al, hO, h⟩ := h
  obtain ⟨ad, c, rfl⟩ := h.row.slice
  have hal : al.length = s.al.length := by rw [← h.als]; simp
  have hvals : al.map (·.val) = valsS s := by unfold valsS; rw [← h.als]; simp [pub]
  have hvl : (valsS s).length = al.length := by simp [valsS, hal]
  have hrow : Sl No w (.slice ad al.length c) 3 al.length (al.flatMap alC) := Sl.own h.row (fun _ _ h => h)
  refine enter Tryz.func37 rfl rfl rfl _ (Pick.sub (l := [0]) (.cons rfl .nil)) ?_
  refine RK.seq ?_
  refine RK.region ?_
  refine RL.p rfl rfl ?_
  refine RL.done ?_
  refine RK.seq ?_
  refine RK.region ?_
  refine RL.p rfl rfl ?_
  refine RL.done ?_
  iterate 2 refine RK.seq ?_
  refine RK.region ?_
  iterate 2 refine RL.p rfl rfl ?_
  refine RL.q (.free rfl) rfl rfl (Yld.fieldAddr fo124_2 rfl) ?_
  refine RL.q (.free rfl) rfl rfl (Yld.load p58 rfl (at1 (h.blk.cell rfl))) ?_
  refine RL.q (.free rfl) rfl rfl (Yld.lenSl u58 rfl) ?_
  refine RL.p rfl rfl ?_
  refine RL.done ?_
  refine RK.block ?_
  refine RK.loop (fun s : Nat × Value => [(0, pp p), (12, .slice ad al.length c), (13, .int .i64 al.length), (14, .int .i64 s.1), (3, s.2)]) (fun s w' => Row w' 23 1 s.2 s.1 (flts ((al.map (·.val)).take s.1)) ∧ Fresh w.heap.size s.2 ∧ Grow w w' ∧ s.1 ≤ al.length) (fun s => al.length - s.1) (0, .slice none 0 0) ⟨rfl, rfl, rfl, rfl, rfl, trivial⟩ ⟨by simpa using Row.nil _ _ _, fun b hb => by simp [Value.ownBlock] at hb, Mod.refl _ _, by omega⟩ (fun s1 w' hI ih => ?_)
  obtain ⟨k, u⟩ := s1
  obtain ⟨hr, hfr, hg, hk⟩ := hI
  simp only at hr hfr hk
  refine RK.seq ?_
  refine RK.region ?_
  refine RL.p rfl rfl ?_
  refine RL.done ?_
  refine RK.seq ?_
  first | refine RK.condD rfl (fun h15 => ?_) (fun h15 => ?_) | refine RK.condN rfl (fun h15 => ?_) (fun h15 => ?_) | refine RK.cond rfl (fun h15 => ?_) (fun h15 => ?_)
  · obtain ⟨a, hx⟩ : ∃ x, al[k]? = some x := ⟨al[k]'(by omega), List.getElem?_eq_getElem (by omega)⟩
    obtain ⟨b1, o1, c1', he1, _, _, hc1⟩ := hrow.elem alC_len hx
    cases he1
    obtain ⟨ada, ca, hva⟩ := (h.sls a (List.mem_of_getElem? hx)).shape
    have htk : (al.map (·.val)).take (k + 1) = (al.map (·.val)).take k ++ [a.val] := by rw [List.take_succ_eq_append_getElem (by simp; omega)]; congr 2; simp [(List.getElem?_eq_some_iff.1 hx).2]
    refine RK.skip ?_
    refine RK.seq ?_
    refine RK.block ?_
    refine RK.seq ?_
    refine RK.region ?_
    refine RL.q (.free rfl) rfl rfl (Yld.indexAddrN u58 i32 rfl rfl (by omega)) ?_
    refine RL.q (.free rfl) rfl rfl (Yld.loadN (cs := [.int .i64 a.id, .slice ada a.ls.length ca, .float .f64 a.val]) a32 rfl (atN (fun j u hj => hg.cell (hc1 j u (by rw [alC, hva]; exact hj)) (fun h => h)))) ?_
    refine RL.op (.free rfl) rfl rfl (Does.alloc i32) ?_
    rintro _ w2 ⟨b2, rfl, hn2⟩
    refine RL.op' (.free rfl) rfl (Does.storeN i32 rfl rfl rfl rfl hn2.blk (Nat.le_refl 3)) ?_
    rintro _ w3 ⟨hb3, hm3, _⟩
    have hB3 : Blk w3 b2 32 [.int .i64 a.id, .slice ada a.ls.length ca, .float .f64 a.val] := hb3
    have hg3 : Grow w' w3 := hn2.grow.then hm3 (fun y hy e => by have e' : y = b2 := e; have := hn2.at_; omega)
    refine RL.done ?_
    refine RK.region ?_
    refine RL.p rfl rfl ?_
    refine RL.q (.free rfl) rfl rfl (Yld.fieldAddr fo32_2 rfl) ?_
    refine RL.q (.free rfl) rfl rfl (Yld.load p23 rfl (at1 (hB3.cell rfl))) ?_
    refine RL.op (.free rfl) rfl rfl (Does.slice1 u148 i23 rfl rfl rfl rfl rfl) ?_
    rintro _ w4 ⟨b4, rfl, hn4⟩
    refine RL.op (.free rfl) rfl rfl (Does.append u148 i23 rfl rfl rfl rfl rfl ((hr.mod hg3 (fun _ _ h => h)).mod hn4.grow (fun _ _ h => h)) (Sl.new hn4 1 1 rfl (by omega) (fun h => h)) (rfl) (by omega)) ?_
    rintro u5 w5 ⟨hr5, hm5, hu5⟩
    refine RL.p rfl rfl ?_
    refine RL.done ?_
    refine RK.inBlock ?_
    refine RK.region ?_
    refine RL.p rfl rfl ?_
    refine RL.re (d := 23) rfl rfl (succ_i64 (by omega)) ?_
    refine RL.p rfl rfl ?_
    refine RL.done ?_
    exact RK.back (ih (k + 1, u5) _ ⟨by rw [htk]; show Row _ _ _ _ _ (List.map _ (_ ++ _)); rw [List.map_append]; exact hr5, fun b e => by
        have h1 := hg.size; have h2 := hg3.size; have h3 := hn4.size
        rcases hu5 with hh | hh
        · rw [hh] at e; exact hfr b e
        · rw [hh] at e; cases e; omega
      , ((hg.trans hg3).trans hn4.grow).then hm5 (fun x hx e => by have := hfr x e; omega), by simp; omega⟩ (by simp; omega)) ⟨rfl, rfl, rfl, rfl, rfl, trivial⟩
  · have ek : (al.map (·.val)).take k = valsS s := by rw [← hvals]; exact List.take_of_length_le (by simp; omega)
    have hkl : k = (valsS s).length := by omega
    rw [ek] at hr
    subst hkl
    refine RK.exit rfl ?_
    refine RK.seq ?_
    refine RK.region ?_
    refine RL.p rfl rfl ?_
    refine RL.op (.free rfl) rfl rfl (Does.call rfl e94 (rank_ok No (valsS s) (by intro v hv; simp only [valsS, List.mem_map] at hv; obtain ⟨a, ha, rfl⟩ := hv; exact hlt a ha) (by omega) u _ (Sl.own hr (fun _ _ h => h)))) ?_
    rintro _ w2 ⟨g, rfl, hbg, hgw, hg2⟩
    have hW : Grow w w2 := hg.trans hg2
    have hgw' : w.heap.size ≤ g := by have := hg.size; omega
    have hrowg : Sl (· = g) w (.slice ad al.length c) 3 al.length (al.flatMap alC) := Sl.own h.row (fun k e hk => by have := h.row.lt e; have e' : k = g := hk; omega)
    have hpg : ¬ (p = g) := by have := h.blk.lt; omega
    refine RL.p rfl rfl ?_
    refine RL.done ?_
    iterate 2 refine RK.seq ?_
    refine RK.region ?_
    refine RL.p rfl rfl ?_
    refine RL.q (.free rfl) rfl rfl (Yld.lenSl u22 rfl) ?_
    refine RL.p rfl rfl ?_
    refine RL.done ?_
    refine RK.block ?_
    refine RK.loop (fun k : Nat => [(0, pp p), (6, .slice (some ⟨g, 0, none⟩) (valsS s).length (valsS s).length), (26, .slice (some ⟨g, 0, none⟩) (valsS s).length (valsS s).length), (27, .int .i64 (valsS s).length), (28, .int .i64 k)]) (fun k w' => Blk w' g 3 (ints ((rankIds s).take k) ++ nats ((rankOf (valsS s)).drop k)) ∧ Mod (· = g) w2 w' ∧ k ≤ (valsS s).length) (fun k => (valsS s).length - k) 0 ⟨rfl, rfl, rfl, rfl, rfl, trivial⟩ ⟨by simpa using hbg, Mod.refl _ _, by omega⟩ (fun k w3 hI2 ih2 => ?_)
    obtain ⟨hb3, hm3, hk3⟩ := hI2
    have hm03 : Mod (· = g) w w3 := (Mod.any' hW).trans hm3
    refine RK.seq ?_
    refine RK.region ?_
    refine RL.p rfl rfl ?_
    refine RL.done ?_
    refine RK.seq ?_
    first | refine RK.condD rfl (fun h29 => ?_) (fun h29 => ?_) | refine RK.condN rfl (fun h29 => ?_) (fun h29 => ?_) | refine RK.cond rfl (fun h29 => ?_) (fun h29 => ?_)
    · have hrl := rankOf_len (valsS s)
      obtain ⟨x, hx⟩ : ∃ x, (rankOf (valsS s))[k]? = some x := ⟨(rankOf (valsS s))[k]'(by omega), List.getElem?_eq_getElem (by omega)⟩
      have hxl : x < (valsS s).length := rankOf_lt (List.mem_of_getElem? hx)
      obtain ⟨a, ha⟩ : ∃ a, al[x]? = some a := ⟨al[x]'(by omega), List.getElem?_eq_getElem (by omega)⟩
      obtain ⟨b1, o1, c1', he1, hb1g, _, hc1⟩ := hrowg.elem alC_len ha
      cases he1
      have hid : (rankIds s)[k]? = some a.id := by unfold rankIds; rw [List.getElem?_map, hx, ← h.als]; simp [ha, pub]
      have hcell : (ints ((rankIds s).take k) ++ nats ((rankOf (valsS s)).drop k))[k]? = some (.int .i64 (x : Int)) := by
          have e : (ints ((rankIds s).take k)).length = k := by have := rankIds_len s; simp; omega
          rw [List.getElem?_append_right (by omega), e]
          simp [hx]
      refine RK.skip ?_
      refine RK.seq ?_
      refine RK.block ?_
      refine RK.seq ?_
      refine RK.region ?_
      refine RL.p rfl rfl ?_
      refine RL.q (.free rfl) rfl rfl (Yld.indexAddrN u22 i3 rfl rfl (by omega)) ?_
      refine RL.q (.free rfl) rfl rfl (Yld.load p3 rfl (at1 (hb3.at1 hcell))) ?_
      iterate 2 refine RL.p rfl rfl ?_
      refine RL.done ?_
      refine RK.region ?_
      iterate 4 refine RL.p rfl rfl ?_
      refine RL.q (.free rfl) rfl rfl (Yld.fieldAddr fo124_2 rfl) ?_
      refine RL.q (.free rfl) rfl rfl (Yld.load p58 rfl (at1 ((h.blk.mod hm03 hpg).cell rfl))) ?_
      refine RL.p rfl rfl ?_
      refine RL.q (.free rfl) rfl rfl (Yld.indexAddrN u58 i32 rfl rfl (by omega)) ?_
      refine RL.q (.free rfl) rfl rfl (Yld.fieldAddr fo32_0 rfl) ?_
      refine RL.q (.free rfl) rfl rfl (Yld.load p3 rfl (at1 (hm03.cell (hc1 0 _ rfl) hb1g))) ?_
      refine RL.q (.free rfl) rfl rfl (Yld.indexAddrN u22 i3 rfl rfl (by omega)) ?_
      refine RL.op' (.free rfl) rfl (Does.store i3 rfl rfl rfl hb3 (SetAt.of (by simp [rankIds_len, rankOf_len]; have := rankIds_len s; omega))) ?_
      rintro _ w4 ⟨hb4, hm4, _⟩
      refine RL.done ?_
      refine RK.inBlock ?_
      refine RK.region ?_
      refine RL.p rfl rfl ?_
      refine RL.re (d := 44) rfl rfl (succ_i64 (by omega)) ?_
      refine RL.p rfl rfl ?_
      refine RL.done ?_
      exact RK.back (ih2 (k + 1) _ ⟨by rw [← set_rank (by rw [rankIds_len, rankOf_len]; omega) hid]; simpa using hb4, hm3.trans hm4, by omega⟩ (by omega)) ⟨rfl, rfl, rfl, rfl, rfl, trivial⟩
    · have e1 : (rankIds s).take k = rankIds s := List.take_of_length_le (by rw [rankIds_len]; omega)
      have e2 : (rankOf (valsS s)).drop k = [] := List.drop_eq_nil_of_le (by rw [rankOf_len]; omega)
      rw [e1, e2] at hb3
      have e3 : s.al.length = (valsS s).length := by omega
      rw [e3]
      refine RK.exit rfl ?_
      refine RK.seq ?_
      refine RK.region ?_
      iterate 2 refine RL.p rfl rfl ?_
      refine RL.done ?_
      refine RK.ret_of Tryz.func37 (res1 rfl rfl) ?_ _
      exact ⟨_, rfl, Row.blk (by simpa using hb3) 1 _ (by simp [rankIds_len]; omega) (by omega), fun b hb => by simp [Value.ownBlock] at hb; omega, hW.then hm3 (fun x hx e => by have e' : x = g := e; omega)⟩
end Go.Proofs.YtffbcfcoddacmaaGreat

/- Alerts posted. -/
set_option linter.unusedVariables false
set_option linter.unusedSimpArgs false
set_option maxHeartbeats 400000
set_option maxRecDepth 100000
namespace Go.Proofs.YtffbcfcoddacmaaGreat
open Go Go.X

def fullS (most last : Int) (out : List Int) : Bool := decide (most ≤ out.length ∨ last = 2147483647)
theorem take_any (w : World) (p : Nat) (most last : Int) (out : List Int) (v : Value) (hp : PoolAt w p most last out v) (h3 : 0 ≤ last) (h4 : last ≤ 2147483647) (h5 : out.length ≤ 1000000) :
    Fx Tryz.prog 79 [pp p] w (fun u w' => u = .tuple #[.int .i64 (if fullS most last out then 0 else last + 1), .bool (!fullS most last out)] ∧ ∃ v', PoolAt w' p most (if fullS most last out then last else last + 1) (if fullS most last out then out else out ++ [last + 1]) v' ∧ Mod (fun b => b = p ∨ v.ownBlock = some b) w w' ∧ (∀ b, v'.ownBlock = some b → v.ownBlock = some b ∨ w.heap.size ≤ b)) := by
  cases hf : fullS most last out with
  | true =>
    refine Fx.mono (take_no w p most last out v hp (of_decide_eq_true hf)) ?_
    rintro u w' ⟨rfl, h1, h2⟩
    exact ⟨rfl, v, h1, Mod.any' h2, fun b e => .inl e⟩
  | false =>
    have := of_decide_eq_false hf
    exact take_ok w p most last out v hp (by omega) (by omega) h3 h4 h5
structure Ok (s : St) : Prop where
  last0 : 0 ≤ s.last
  last1 : s.last ≤ 2147483647
  most : s.most ≤ 16
  outLe : (s.out.length : Int) ≤ s.most
  alOut : s.al.length = s.out.length
  has : ∀ t ∈ s.has, t.1 ≤ s.last
  rows : ∀ t ∈ s.rows, (t.2.length : Int) ≤ 6 * s.last
  vals : ∀ a ∈ s.al, a.2.2 < 18446744073709551616
def postS (s : St) (ls : List Lab) (val : Nat) : St × Int × Bool × Int :=
  if isS ls = false then (s, 0, false, 1) else
  match findS (s.al.map (·.2.1)) ls with
  | some i => ({ s with al := s.al.modify i fun a => (a.1, a.2.1, canS val) }, ((s.al[i]?).map (·.1)).getD 0, false, 0)
  | none => if fullS s.most s.last s.out then (s, 0, false, 10) else
    ({ most := s.most, last := s.last + 1, out := s.out ++ [s.last + 1], al := s.al ++ [(s.last + 1, ls, canS val)], has := putM s.has (s.last + 1) ls, rows := addRows s.rows (s.last + 1) ls }, s.last + 1, true, 0)
theorem Ok.new (m : Int) : Ok (St.new m) := by
  refine ⟨by simp [St.new], by simp [St.new], ?_, ?_, rfl, by simp [St.new], by simp [St.new], by simp [St.new]⟩
  · simp only [St.new, capS]; split <;> omega
  · simp only [St.new, capS]; simp; split <;> omega
theorem addRows_bound' {r : List (LabK × List Int)} {last : Int} {id : Int} {ls : List Lab} (h : ∀ t ∈ r, (t.2.length : Int) ≤ 6 * last) (h0 : 0 ≤ last) (hl : ls.length ≤ 6) : ∀ t ∈ addRows r id ls, (t.2.length : Int) ≤ 6 * (last + 1) := by
  intro t ht
  have := addRows_bound (B := (6 * last).toNat) (fun t ht => by have := h t ht; omega) id ls t ht
  omega
theorem Ok.post {s : St} (h : Ok s) (ls : List Lab) {val : Nat} (hv : val < 18446744073709551616) : Ok (postS s ls val).1 := by
  have hc := can_lt hv
  unfold postS
  by_cases his : isS ls = false
  · rw [if_pos his]; exact h
  · rw [if_neg his]
    split
    · rename_i i hi
      refine ⟨h.last0, h.last1, h.most, h.outLe, by simp [h.alOut], h.has, h.rows, fun a ha => ?_⟩
      obtain ⟨j, hj⟩ := List.getElem?_of_mem ha
      simp only [List.getElem?_modify] at hj
      cases hx : s.al[j]? with
      | none => simp [hx] at hj
      | some x =>
        have := h.vals x (List.mem_of_getElem? hx)
        simp only [hx, Option.map_some] at hj
        split at hj <;> (simp at hj; subst hj; first | exact hc | exact this)
    · cases hf : fullS s.most s.last s.out with
      | true => simpa using h
      | false =>
        have hf' := of_decide_eq_false hf
        have hl := h.last0
        have hl1 := h.last1
        have ho := h.outLe
        simp only [Bool.false_eq_true, if_false]
        refine ⟨by simp only; omega, by simp only; omega, h.most, by simp; omega, by simp [h.alOut], fun t ht => ?_, addRows_bound' h.rows hl (isS_len (by simpa using his)).2, fun a ha => ?_⟩
        · rcases mem_putM ht with h1 | rfl
          · have := h.has t h1; simp only; omega
          · exact Int.le_refl _
        · simp at ha
          rcases ha with h1 | rfl
          · exact h.vals a h1
          · exact hc
theorem apart4 {w : World} {p q ix mh mr : Nat} {cs : List Value} {vo vl : Value} {M : Nat → Prop} {m l : Int} {o : List Int} {has : List (Int × List Lab)} {rows : List (LabK × List Int)} {k : Nat} {xs : List Value}
    (hB : Blk w p 124 cs) (hP : PoolAt w q m l o vo) (hI : IdxAt M w ix mh mr has rows) (hR : Row w 32 3 vl k xs) :
    (p ≠ q ∧ p ≠ ix ∧ p ≠ mh ∧ p ≠ mr) ∧ (q ≠ ix ∧ q ≠ mh ∧ q ≠ mr) ∧ (ix ≠ mh ∧ ix ≠ mr) ∧ (∀ b, vo.ownBlock = some b → b ≠ p ∧ b ≠ q ∧ b ≠ ix ∧ b ≠ mh ∧ b ≠ mr ∧ vl.ownBlock ≠ some b) ∧ (∀ b, vl.ownBlock = some b → b ≠ p ∧ b ≠ q ∧ b ≠ ix ∧ b ≠ mh ∧ b ≠ mr) := by
  have h1 := hB.ty
  have h2 := hP.blk.ty
  have h3 := hI.blk.ty
  obtain ⟨h4, h5⟩ := hI.mps
  exact ⟨⟨h1.ne h2 rfl, h1.ne h3 rfl, h1.nem h4, h1.nem h5⟩, ⟨h2.ne h3 rfl, h2.nem h4, h2.nem h5⟩, ⟨h3.nem h4, h3.nem h5⟩, fun b e => ⟨(hP.row.ty e).ne h1 rfl, (hP.row.ty e).ne h2 rfl, (hP.row.ty e).ne h3 rfl, (hP.row.ty e).nem h4, (hP.row.ty e).nem h5, fun e2 => (hP.row.ty e).ne (hR.ty e2) rfl rfl⟩, fun b e => ⟨(hR.ty e).ne h1 rfl, (hR.ty e).ne h2 rfl, (hR.ty e).ne h3 rfl, (hR.ty e).nem h4, (hR.ty e).nem h5⟩⟩
def setVal (a : Al) (x : Nat) : Al := { a with val := x }
theorem set_val (x : Nat) : ∀ (al : List Al) (i : Nat), i < al.length → (al.flatMap alC).set (i * 3 + 2) (.float .f64 x) = (al.modify i fun a => setVal a x).flatMap alC
  | [], i, h => by simp at h
  | a :: al, 0, h => by simp [alC, setVal]
  | a :: al, i + 1, h => by
    have e : (i + 1) * 3 + 2 = (alC a).length + (i * 3 + 2) := by rw [alC_len]; omega
    rw [List.flatMap_cons, e, List.set_append_right _ _ (by omega), Nat.add_sub_cancel_left, set_val x al i (by simpa using h)]
    simp
end Go.Proofs.YtffbcfcoddacmaaGreat

/- Alerts posted: the walk. -/
set_option linter.unusedVariables false
set_option linter.unusedSimpArgs false
set_option maxHeartbeats 400000
set_option maxRecDepth 100000
namespace Go.Proofs.YtffbcfcoddacmaaGreat
open Go Go.X

theorem postX_ok (w : World) (p : Nat) (s : St) (O M : Nat → Prop) (h : StoreX O M w p s) (hok : Ok s) (ls : List Lab) (v : Value) (hv : SlL M w v ls) (val : Nat) :
    Fx Tryz.prog 18 [pp p, v, .float .f64 val] w (fun u w' => ∃ O', u = .tuple #[.int .i64 (postS s ls val).2.1, .bool (postS s ls val).2.2.1, .int .i64 (postS s ls val).2.2.2] ∧ StoreX O' (fun b => M b ∨ O' b) w' p (postS s ls val).1 ∧ Mod O w w' ∧ ∀ b, O' b → O b ∨ w.heap.size ≤ b) := by
  have hself := h
  have hOM : ∀ b, O b → M b := fun b e => h.sub e
  obtain ⟨q, ix, mh, mr, vo, vl, al, hO, h⟩ := h
  obtain ⟨adl, cl, rfl⟩ := h.row.slice
  obtain ⟨ad, c, rfl⟩ := hv.shape
  have hal : al.length = s.al.length := by rw [← h.als]; simp
  have hlab : al.map (·.ls) = s.al.map (·.2.1) := by rw [← h.als]; simp [pub]
  have hal16 : al.length ≤ 16 := by have h1 := hok.most; have h2 := hok.outLe; have h3 := hok.alOut; omega
  have hMlt : ∀ b, M b → b < w.heap.size := fun b hb => h.lt hb
  refine enter Tryz.func18 rfl rfl rfl _ (Pick.sub (l := [0, 1, 2]) (.cons rfl (.cons rfl (.cons rfl .nil)))) ?_
  refine RK.seq ?_
  refine RK.region ?_
  refine RL.op (.free rfl) rfl rfl (Does.box rfl) ?_
  rintro _ w1 ⟨b4, rfl, hn4⟩
  iterate 3 refine RL.p rfl rfl ?_
  refine RL.done ?_
  iterate 2 refine RK.seq ?_
  refine RK.region ?_
  refine RL.q (.free rfl) rfl rfl (Yld.load p26 rfl (at1 (hn4.blk.cell rfl))) ?_
  refine RL.op (.free rfl) rfl rfl (Does.call rfl e73 (is_ok M ls _ _ (hv.mod (Mod.any' hn4.grow)))) ?_
  rintro _ w2 ⟨rfl, hg2⟩
  refine RL.p rfl rfl ?_
  refine RL.done ?_
  first | refine RK.condD rfl (fun h14 => ?_) (fun h14 => ?_) | refine RK.condN rfl (fun h14 => ?_) (fun h14 => ?_) | refine RK.cond rfl (fun h14 => ?_) (fun h14 => ?_)
  · have his : isS ls = false := by simpa using h14
    have e : postS s ls val = (s, 0, false, 1) := by unfold postS; rw [if_pos his]
    rw [e]
    refine RK.seq ?_
    refine RK.region ?_
    iterate 3 refine RL.p rfl rfl ?_
    refine RL.done ?_
    refine RK.ret_of Tryz.func18 (res3 rfl rfl rfl rfl) ?_ _
    exact ⟨_, rfl, O, rfl, (hself.grow (hn4.grow.trans hg2)).off (fun b e => .inr e) (fun b e => e.elim id (hOM b)), Mod.any' (hn4.grow.trans hg2), fun b hb => .inl hb⟩
  · have his : isS ls = true := by simpa using h14
    have hg02 : Grow w w2 := hn4.grow.trans hg2
    have h2 := h.grow hg02
    have hb42 := hn4.blk.mod hg2 (fun h => h)
    refine RK.skip ?_
    refine RK.seq ?_
    refine RK.region ?_
    refine RL.p rfl rfl ?_
    refine RL.op (.free rfl) rfl rfl (Does.call rfl e75 (bits_ok _ _)) ?_
    rintro _ _ ⟨rfl, rfl⟩
    refine RL.op (.free rfl) rfl rfl (Does.call rfl e74 (of_ok _ _)) ?_
    rintro _ _ ⟨rfl, rfl⟩
    iterate 4 refine RL.p rfl rfl ?_
    refine RL.done ?_
    iterate 2 refine RK.seq ?_
    refine RK.region ?_
    iterate 2 refine RL.p rfl rfl ?_
    refine RL.q (.free rfl) rfl rfl (Yld.fieldAddr fo124_2 rfl) ?_
    refine RL.q (.free rfl) rfl rfl (Yld.load p58 rfl (at1 (h2.blk.cell rfl))) ?_
    refine RL.p rfl rfl ?_
    refine RL.op (.free rfl) rfl rfl (Does.call rfl e76 (indexFunc_ok M al ls _ _ b4 _ (Sl.own h2.row (fun _ _ h => h)) h2.sls (hv.mod (Mod.any' hg02)) hb42)) ?_
    rintro _ w3 ⟨rfl, hg3⟩
    rw [hlab]
    have h3 := h2.grow hg3
    have hg03 := hg02.trans hg3
    refine RL.p rfl rfl ?_
    refine RL.done ?_
    refine RK.seq ?_
    refine RK.region ?_
    iterate 2 refine RL.p rfl rfl ?_
    refine RL.done ?_
    first | refine RK.condD rfl (fun h28 => ?_) (fun h28 => ?_) | refine RK.condN rfl (fun h28 => ?_) (fun h28 => ?_) | refine RK.cond rfl (fun h28 => ?_) (fun h28 => ?_)
    · obtain ⟨i, hi⟩ : ∃ i, findS (s.al.map (·.2.1)) ls = some i := by
          cases hf : findS (s.al.map (·.2.1)) ls with
          | none => rw [hf] at h28; simp [optI] at h28
          | some i => exact ⟨i, rfl⟩
      have hil : i < al.length := by
          unfold findS at hi
          have := (List.findIdx?_eq_some_iff_getElem.1 hi).1
          simpa [hal] using this
      have e : postS s ls val = ({ s with al := s.al.modify i fun a => (a.1, a.2.1, canS val) }, ((s.al[i]?).map (·.1)).getD 0, false, 0) := by unfold postS; rw [if_neg (by simp [his]), hi]
      rw [e, hi]
      obtain ⟨a, ha⟩ : ∃ a, al[i]? = some a := ⟨al[i]'hil, List.getElem?_eq_getElem hil⟩
      obtain ⟨hp1, hp2, hp3, hp4, hp5⟩ := apart4 h3.blk h3.pool h3.idx h3.row
      have hOg : ∀ b, (Value.slice adl al.length cl).ownBlock = some b → O b := fun b e => (hO b).2 (.inr (.inr (.inr (.inr (.inr (.inl e))))))
      obtain ⟨g, cap, tl, hvl, hbg, hclose⟩ := h3.row.open (by omega)
      cases hvl
      have hOg := hOg g rfl
      have hMg := hOM g hOg
      have hg5 := hp5 g rfl
      have hflat : (al.flatMap alC).length = al.length * 3 := flat_len alC 3 alC_len al
      refine RK.seq ?_
      refine RK.region ?_
      iterate 2 refine RL.p rfl rfl ?_
      refine RL.q (.free rfl) rfl rfl (Yld.fieldAddr fo124_2 rfl) ?_
      refine RL.q (.free rfl) rfl rfl (Yld.load p58 rfl (at1 (h3.blk.cell rfl))) ?_
      iterate 2 refine RL.p rfl rfl ?_
      refine RL.q (.free rfl) rfl rfl (Yld.indexAddrN u58 i32 rfl rfl (hil)) ?_
      refine RL.q (.free rfl) rfl rfl (Yld.fieldAddr fo32_2 rfl) ?_
      refine RL.op' (.free rfl) rfl (Does.store i23 rfl rfl rfl hbg (SetAt.of (by simp only [List.length_append, hflat]; omega))) ?_
      rintro _ w4 ⟨hb4, hm4, _⟩
      have hset : (al.flatMap alC ++ tl).set (0 + i * 3 + 2) (.float .f64 (canS val)) = (al.modify i fun a => setVal a (canS val)).flatMap alC ++ tl := by
          rw [List.set_append_left _ _ (by rw [hflat]; omega), Nat.zero_add, set_val _ _ _ hil]
      have hlen' : ((al.modify i fun a => setVal a (canS val)).flatMap alC).length = (al.flatMap alC).length := by rw [hflat, flat_len alC 3 alC_len]; simp
      have hrow4 := hclose w4 _ hlen' (by rw [← hset]; exact hb4)
      have ha' : (al.modify i fun a => setVal a (canS val))[i]? = some (setVal a (canS val)) := by simp [ha]
      have hrl : (al.modify i fun a => setVal a (canS val)).length = al.length := by simp
      have hsl4 : Sl No w4 (.slice (some ⟨g, 0, none⟩) al.length cl) 3 (al.modify i fun a => setVal a (canS val)).length ((al.modify i fun a => setVal a (canS val)).flatMap alC) := by rw [hrl]; exact Sl.own hrow4 (fun _ _ h => h)
      obtain ⟨b1, o1, c1', he1, _, _, hc1⟩ := hsl4.elem alC_len ha'
      rw [hrl] at he1
      cases he1
      have hid : ((s.al[i]?).map (·.1)).getD 0 = a.id := by rw [← h.als]; simp [ha, pub]
      have hm03 : Mod O w w4 := (Mod.any' hg03).trans (hm4.mono fun b _ e => e ▸ hOg)
      refine RL.done ?_
      refine RK.seq ?_
      refine RK.region ?_
      iterate 2 refine RL.p rfl rfl ?_
      refine RL.q (.free rfl) rfl rfl (Yld.fieldAddr fo124_2 rfl) ?_
      refine RL.q (.free rfl) rfl rfl (Yld.load p58 rfl (at1 ((h3.blk.mod hm4 hg5.1.symm).cell rfl))) ?_
      refine RL.p rfl rfl ?_
      refine RL.q (.free rfl) rfl rfl (Yld.indexAddrN u58 i32 rfl rfl (hil)) ?_
      refine RL.q (.free rfl) rfl rfl (Yld.fieldAddr fo32_0 rfl) ?_
      refine RL.q (.free rfl) rfl rfl (Yld.load p3 rfl (at1 (hc1 0 _ rfl))) ?_
      iterate 3 refine RL.p rfl rfl ?_
      refine RL.done ?_
      refine RK.ret_of Tryz.func18 (res3 rfl rfl rfl rfl) ?_ _
      exact ⟨_, rfl, O, by rw [hid]; rfl, StoreX.off (M := M) ⟨q, ix, mh, mr, vo, _, al.modify i fun a => setVal a (canS val), hO, ⟨h3.blk.mod hm4 hg5.1.symm, h3.pool.mod hm4 hg5.2.1.symm (fun b e e' => (hp4 b e).2.2.2.2.2 (e' ▸ rfl)), h3.idx.mod hm4 (fun b _ e => e ▸ hMg) hg5.2.2.1.symm hg5.2.2.2.1.symm hg5.2.2.2.2.symm, by rw [hrl]; exact hrow4, by
          rw [← h.als]
          apply List.ext_getElem?
          intro j
          simp only [List.getElem?_map, List.getElem?_modify]
          cases al[j]? with
          | none => rfl
          | some x => by_cases hj : i = j <;> simp [hj, pub, setVal]
        , fun x hx => by
          obtain ⟨j, hj⟩ := List.getElem?_of_mem hx
          simp only [List.getElem?_modify] at hj
          cases hy : al[j]? with
          | none => simp [hy] at hj
          | some y =>
            have h5 := (h3.sls y (List.mem_of_getElem? hy)).mod (hm4.mono fun b _ e => e ▸ hMg)
            simp only [hy, Option.map_some] at hj
            split at hj <;> (simp at hj; subst hj; exact h5)
        , h.ownM, fun b hb => Nat.lt_of_lt_of_le (h.ltM b hb) hm03.size⟩⟩ (fun b e => .inr e) (fun b e => e.elim id (hOM b)), hm03, fun b hb => .inl hb⟩
    · have hi : findS (s.al.map (·.2.1)) ls = none := by
          cases hf : findS (s.al.map (·.2.1)) ls with
          | none => rfl
          | some i => rw [hf] at h28; simp [optI] at h28
      refine RK.skip ?_
      refine RK.seq ?_
      refine RK.region ?_
      iterate 2 refine RL.p rfl rfl ?_
      refine RL.q (.free rfl) rfl rfl (Yld.fieldAddr fo124_0 rfl) ?_
      refine RL.q (.free rfl) rfl rfl (Yld.load p121 rfl (at1 (h3.blk.cell rfl))) ?_
      refine RL.op (.free rfl) rfl rfl (Does.call rfl e79 (take_any _ q _ _ _ vo h3.pool hok.last0 hok.last1 (by have h1 := hok.alOut; omega))) ?_
      rintro _ w4 ⟨rfl, vo', hP4, hm4, hvo'⟩
      obtain ⟨hp1, hp2, hp3, hp4, hp5⟩ := apart4 h3.blk h3.pool h3.idx h3.row
      have hOp : O p := (hO p).2 (.inl rfl)
      have hOq : O q := (hO q).2 (.inr (.inl rfl))
      have hOh : O mh := (hO mh).2 (.inr (.inr (.inl rfl)))
      have hOr : O mr := (hO mr).2 (.inr (.inr (.inr (.inl rfl))))
      have hOx : O ix := (hO ix).2 (.inr (.inr (.inr (.inr (.inr (.inr rfl))))))
      have hOo : ∀ b, vo.ownBlock = some b → O b := fun b e => (hO b).2 (.inr (.inr (.inr (.inr (.inl e)))))
      have hOl : ∀ b, (Value.slice adl al.length cl).ownBlock = some b → O b := fun b e => (hO b).2 (.inr (.inr (.inr (.inr (.inr (.inl e))))))
      have hMp := hOM p hOp
      have hMq := hOM q hOq
      have hMh := hOM mh hOh
      have hMr := hOM mr hOr
      have hMo : ∀ b, vo.ownBlock = some b → M b := fun b e => hOM b (hOo b e)
      have hMl : ∀ b, (Value.slice adl al.length cl).ownBlock = some b → M b := fun b e => hOM b (hOl b e)
      have hoff : ∀ b, b < w3.heap.size → (M b ∨ vo'.ownBlock = some b) → M b := fun b hb e => by
          rcases e with e | e
          · exact e
          · rcases hvo' b e with h1 | h1
            · exact hMo b h1
            · omega
      have hsubO : ∀ b, (b = q ∨ vo.ownBlock = some b) → O b := fun b e => by rcases e with rfl | e; exact hOq; exact hOo b e
      have hsub : ∀ b, (b = q ∨ vo.ownBlock = some b) → M b := fun b e => hOM b (hsubO b e)
      have hB4 := h3.blk.mod hm4 (by rintro (e | e); exact hp1.1 e; exact (hp4 p e).1 rfl)
      have hI4 : IdxAt (fun b => M b ∨ vo'.ownBlock = some b) w4 ix mh mr s.has s.rows := (h3.idx.off hoff).mod hm4 (fun b _ e => .inl (hsub b e)) (by rintro (e | e); exact hp2.1 e.symm; exact (hp4 ix e).2.2.1 rfl) (by rintro (e | e); exact hp2.2.1 e.symm; exact (hp4 mh e).2.2.2.1 rfl) (by rintro (e | e); exact hp2.2.2 e.symm; exact (hp4 mr e).2.2.2.2.1 rfl)
      have hR4 := h3.row.mod hm4 (fun b e e' => by rcases e' with rfl | e'; exact (hp5 _ e).2.1 rfl; exact (hp4 b e').2.2.2.2.2 e)
      have hS4 : ∀ a ∈ al, SlL (fun b => M b ∨ vo'.ownBlock = some b) w4 a.v a.ls := fun a ha => ((h3.sls a ha).off (by omega) hoff).mod (hm4.mono fun b _ e => .inl (hsub b e))
      have hm04 : Mod O w w4 := (Mod.any' hg03).then hm4 (fun b _ e => hsubO b e)
      have hs03 := hg03.size
      have hs34 := hm4.size
      iterate 5 refine RL.p rfl rfl ?_
      refine RL.done ?_
      iterate 2 refine RK.seq ?_
      refine RK.region ?_
      iterate 2 refine RL.p rfl rfl ?_
      refine RL.done ?_
      first | refine RK.condD rfl (fun h54 => ?_) (fun h54 => ?_) | refine RK.condN rfl (fun h54 => ?_) (fun h54 => ?_) | refine RK.cond rfl (fun h54 => ?_) (fun h54 => ?_)
      · have hfull : fullS s.most s.last s.out = true := by simpa using h54
        have e : postS s ls val = (s, 0, false, 10) := by unfold postS; rw [if_neg (by simp [his]), hi]; simp [hfull]
        rw [e]
        rw [hfull] at hP4
        have hown : ∀ b, own p q ix mh mr vo' (.slice adl al.length cl) b → O b ∨ vo'.ownBlock = some b := fun b hb => by
            rcases hb with rfl | rfl | rfl | rfl | e | e | rfl
            · exact .inl hOp
            · exact .inl hOq
            · exact .inl hOh
            · exact .inl hOr
            · exact .inr e
            · exact .inl (hOl b e)
            · exact .inl hOx
        have hown2 : ∀ b, (M b ∨ own p q ix mh mr vo' (.slice adl al.length cl) b) → M b ∨ vo'.ownBlock = some b := fun b hb => hb.elim .inl fun e => (hown b e).imp (hOM b) id
        have hlt4 : ∀ b, (M b ∨ own p q ix mh mr vo' (.slice adl al.length cl) b) → b < w4.heap.size := fun b hb => by
            rcases hb with e | e
            · have := hMlt b e; omega
            · exact own_lt hB4 hP4 hI4 hR4 b e
        refine RK.seq ?_
        refine RK.region ?_
        iterate 3 refine RL.p rfl rfl ?_
        refine RL.done ?_
        refine RK.ret_of Tryz.func18 (res3 rfl rfl rfl rfl) ?_ _
        exact ⟨_, rfl, own p q ix mh mr vo' (.slice adl al.length cl), rfl, ⟨q, ix, mh, mr, vo', _, al, fun _ => Iff.rfl, ⟨hB4, hP4, hI4.off fun b _ hb => hown2 b hb, hR4, h.als, fun a ha => (hS4 a ha).off (by omega) fun b _ hb => hown2 b hb, fun _ e => .inr e, hlt4⟩⟩, hm04, fun b hb => by
            rcases hown b hb with e | e
            · exact .inl e
            · rcases hvo' b e with h1 | h1
              · exact .inl (hOo b h1)
              · exact .inr (by omega)
          ⟩
      · have hfull : fullS s.most s.last s.out = false := by simpa using h54
        have e : postS s ls val = ({ most := s.most, last := s.last + 1, out := s.out ++ [s.last + 1], al := s.al ++ [(s.last + 1, ls, canS val)], has := putM s.has (s.last + 1) ls, rows := addRows s.rows (s.last + 1) ls }, s.last + 1, true, 0) := by unfold postS; rw [if_neg (by simp [his]), hi]; simp [hfull]
        rw [e, hfull]
        rw [hfull] at hP4
        have hl16 := isS_len his
        have hnew : lookM s.has (s.last + 1) = none := by
            unfold lookM
            rw [placeM_none.2 fun hm => by obtain ⟨t, ht, h1⟩ := List.mem_map.1 hm; have := hok.has t ht; omega]
            rfl
        have hbv : Blk w4 b4 26 [.slice ad ls.length c] := (hb42.mod hg3 (fun h => h)).mod hm4 (fun e => by have := hMlt b4 (hsub b4 e); have := hn4.at_; omega)
        have hb4M : ¬ M b4 := fun e => by have := hMlt b4 e; have := hn4.at_; omega
        obtain ⟨ha1, ha2, ha3, ha4, ha5⟩ := apart4 hB4 hP4 hI4 hR4
        have hv4 : SlL (fun b => M b ∨ vo'.ownBlock = some b) w4 (.slice ad ls.length c) ls := (hv.off (by omega) (fun b hb e => hoff b (by omega) e)).mod (hm04.mono fun b _ e => .inl (hOM b e))
        have hnp : ¬ (p = mh ∨ p = mr) := by rintro (e | e); exact hp1.2.2.1 e; exact hp1.2.2.2 e
        have hnb : ¬ (b4 = mh ∨ b4 = mr) := by rintro (e | e); exact hb4M (e ▸ hMh); exact hb4M (e ▸ hMr)
        refine RK.skip ?_
        refine RK.seq ?_
        refine RK.drawM (fun b => b = mh ∨ b = mr) [(0, false), (1, false), (2, false), (3, false), (4, false), (5, false), (6, true)] [] mixed (by kernel_rfl) ?_
        iterate 2 refine DL.p rfl rfl rfl ?_
        refine DL.qf rfl (.free rfl) rfl rfl (Yld.fieldAddr fo124_1 rfl) ?_
        refine DL.q rfl (.free rfl) rfl rfl rfl (Yld.load p42 rfl (atM (hB4.cell rfl) (hnp))) (Mod.drew _ _) ?_
        refine DL.p rfl rfl rfl ?_
        refine DL.q rfl (.free rfl) rfl rfl rfl (Yld.load p26 rfl (atM (hbv.cell rfl) (hnb))) (Mod.drew _ _) ?_
        refine DL.op rfl (.free rfl) rfl rfl (Does.call rfl e28 (add_ok (fun b => M b ∨ vo'.ownBlock = some b) _ ix mh mr s.has s.rows (hI4.mod (Mod.drew No _) (fun _ _ h => h.elim) (fun h => h) (fun h => h) (fun h => h)) (.inl hMh) (.inl hMr) (fun b e => by rcases e with e | e; (have := hMlt b e; simp only [World.drew]; omega); exact hP4.row.lt e) (s.last + 1) ls _ (hv4.mod (Mod.drew _ _)) hnew his (fun t ht => by have h1 := hok.rows t ht; have h2 := hok.last1; omega))) ?_
        rintro _ w5 ⟨rfl, hI5, hm5⟩
        refine ⟨(Mod.drew _ _).trans hm5, ?_⟩
        have hm45 : Mod (fun b => b = mh ∨ b = mr) w4 w5 := (Mod.drew _ _).trans hm5
        have hs45 := hm45.size
        have hB5 := hB4.mod hm45 (by rintro (e | e); exact hp1.2.2.1 e; exact hp1.2.2.2 e)
        have hbv5 := hbv.mod hm45 (by rintro (e | e); exact hb4M (e ▸ hMh); exact hb4M (e ▸ hMr))
        have hR5 := hR4.mod hm45 (fun b e e' => by rcases e' with rfl | rfl; exact (ha5 _ e).2.2.2.1 rfl; exact (ha5 _ e).2.2.2.2 rfl)
        have hv5 := hv4.mod (hm45.mono fun b _ e => by rcases e with rfl | rfl; exact .inl hMh; exact .inl hMr)
        refine DL.done ?_
        refine RK.seq ?_
        refine RK.drawM (fun b => (Value.slice adl al.length cl).ownBlock = some b) [(0, false), (1, false), (2, false), (3, false), (4, false), (5, false), (6, false), (8, false), (7, true), (9, false), (10, true), (11, true), (12, false), (13, false), (14, true)] [14] mixed (by kernel_rfl) ?_
        iterate 3 refine DL.p rfl rfl rfl ?_
        refine DL.qf rfl (.free rfl) rfl rfl (Yld.fieldAddr fo124_2 rfl) ?_
        refine DL.q rfl (.free rfl) rfl rfl rfl (Yld.load p58 rfl (atM (hB5.cell rfl) (fun e => (hp5 p e).1 rfl))) (Mod.drew _ _) ?_
        refine DL.p rfl rfl rfl ?_
        refine DL.q rfl (.free rfl) rfl rfl rfl (Yld.load p26 rfl (atM (hbv5.cell rfl) (fun e => hb4M (hMl b4 e)))) (Mod.drew _ _) ?_
        refine DL.p rfl rfl rfl ?_
        refine DL.op rfl (.free rfl) rfl rfl (Does.call rfl e80 (cloneL_ok (fun b => M b ∨ vo'.ownBlock = some b) ls _ _ (hv5.mod (Mod.drew _ _)) (by omega))) ?_
        rintro u6 w6 ⟨hr6, hf6, hg6⟩
        refine ⟨(Mod.drew _ _).trans (Mod.any' hg6), ?_⟩
        obtain ⟨ad6, c6, rfl⟩ := hr6.slice
        have hs56 : w5.heap.size ≤ w6.heap.size := hg6.size
        refine DL.qf rfl (.free rfl) rfl rfl (Yld.build (v := .agg #[.int .i64 (s.last + 1), .slice ad6 ls.length c6, .float .f64 (canS val)]) rfl (fun w => by kernel_rfl)) ?_
        refine DL.op rfl (.free rfl) rfl rfl (Does.slice1 u58 i32 rfl rfl rfl rfl rfl) ?_
        rintro _ w7 ⟨b7, rfl, hn7⟩
        refine ⟨((Mod.drew _ _).trans (Mod.any' hg6)).trans (Mod.any' hn7.grow), ?_⟩
        have hg57 : Grow w5 w7 := ((Mod.drew _ _).trans hg6).trans hn7.grow
        have hs67 := hn7.size
        refine DL.op rfl (.free rfl) rfl rfl (Does.append u58 i32 rfl rfl rfl rfl rfl (hR5.mod hg57 (fun _ _ h => h)) (Sl.new hn7 3 1 rfl (by omega) (fun h => h)) (rfl) (by omega)) ?_
        rintro u8 w8 ⟨hr8, hm8, hu8⟩
        refine ⟨(((Mod.drew _ _).trans (Mod.any' hg6)).trans (Mod.any' hn7.grow)).trans hm8, ?_⟩
        obtain ⟨ad8, c8, rfl⟩ := hr8.slice
        have hm58 : Mod (fun b => (Value.slice adl al.length cl).ownBlock = some b) w5 w8 := (Mod.any' hg57).trans hm8
        have hB8 := hB5.mod hm58 (fun e => (hp5 p e).1 rfl)
        refine DL.p rfl rfl rfl ?_
        refine DL.qf rfl (.free rfl) rfl rfl (Yld.fieldAddr fo124_2 rfl) ?_
        refine DL.opT rfl (.free rfl) rfl rfl (Does.store i58 rfl rfl rfl hB8 (.s (.s .z))) ?_
        rintro _ w9 ⟨hb9, hm9, _⟩
        have hplt := hB4.lt
        have hu8' : ∀ b, (Value.slice ad8 (al.length + 1) c8).ownBlock = some b → (Value.slice adl al.length cl).ownBlock = some b ∨ b = w7.heap.size := fun b e => by
            rcases hu8 with h1 | h1
            · rw [h1] at e; exact .inl e
            · rw [h1] at e; cases e; exact .inr rfl
        have hm59 : Mod (fun b => (Value.slice adl al.length cl).ownBlock = some b ∨ b = p) w5 w9 := (hm58.mono fun b _ e => .inl e).trans (hm9.mono fun b _ e => .inr e)
        have hm69 : Mod (fun b => (Value.slice adl al.length cl).ownBlock = some b ∨ b = p) w6 w9 := ((Mod.any' hn7.grow).trans (hm8.mono fun b _ e => .inl e)).trans (hm9.mono fun b _ e => .inr e)
        have hm49 : Mod (fun b => b = mh ∨ b = mr ∨ (Value.slice adl al.length cl).ownBlock = some b ∨ b = p) w4 w9 := (hm45.mono fun b _ e => by rcases e with e | e; exact .inl e; exact .inr (.inl e)).trans (hm59.mono fun b _ e => by rcases e with e | e; exact .inr (.inr (.inl e)); exact .inr (.inr (.inr e)))
        have hO59 : ∀ b, ((Value.slice adl al.length cl).ownBlock = some b ∨ b = p) → O b := fun b e => by rcases e with e | rfl; exact hOl b e; exact hOp
        have hM59 : ∀ b, ((Value.slice adl al.length cl).ownBlock = some b ∨ b = p) → M b := fun b e => hOM b (hO59 b e)
        have hO49 : ∀ b, (b = mh ∨ b = mr ∨ (Value.slice adl al.length cl).ownBlock = some b ∨ b = p) → O b := fun b e => by rcases e with rfl | rfl | e; exact hOh; exact hOr; exact hO59 b e
        have hM49 : ∀ b, (b = mh ∨ b = mr ∨ (Value.slice adl al.length cl).ownBlock = some b ∨ b = p) → M b := fun b e => hOM b (hO49 b e)
        have hoff8 : ∀ b, b < w6.heap.size → ((M b ∨ vo'.ownBlock = some b) ∨ (Value.slice ad8 (al.length + 1) c8).ownBlock = some b) → (M b ∨ vo'.ownBlock = some b) := fun b hb e => by
            rcases e with e | e
            · exact e
            · rcases hu8' b e with h1 | h1
              · exact .inl (hMl b h1)
              · omega
        have hownO : ∀ b, own p q ix mh mr vo' (.slice ad8 (al.length + 1) c8) b → (O b ∨ vo'.ownBlock = some b) ∨ (Value.slice ad8 (al.length + 1) c8).ownBlock = some b := fun b hb => by
            rcases hb with rfl | rfl | rfl | rfl | e | e | rfl
            · exact .inl (.inl hOp)
            · exact .inl (.inl hOq)
            · exact .inl (.inl hOh)
            · exact .inl (.inl hOr)
            · exact .inl (.inr e)
            · exact .inr e
            · exact .inl (.inl hOx)
        have hown : ∀ b, (M b ∨ own p q ix mh mr vo' (.slice ad8 (al.length + 1) c8) b) → (M b ∨ vo'.ownBlock = some b) ∨ (Value.slice ad8 (al.length + 1) c8).ownBlock = some b := fun b hb => hb.elim (fun e => .inl (.inl e)) fun e => (hownO b e).imp (Or.imp (hOM b) id) id
        have hP9 := hP4.mod hm49 (by rintro (e | e | e | e); exact ha2.2.1 e; exact ha2.2.2 e; exact (ha5 q e).2.1 rfl; exact ha1.1 e.symm) (fun b e e' => by obtain ⟨k1, k2, k3, k4, k5, k6⟩ := ha4 b e; rcases e' with e' | e' | e' | e'; exact k4 e'; exact k5 e'; exact k6 e'; exact k1 e')
        have hI9 : IdxAt (fun b => M b ∨ own p q ix mh mr vo' (.slice ad8 (al.length + 1) c8) b) w9 ix mh mr (putM s.has (s.last + 1) ls) (addRows s.rows (s.last + 1) ls) := ((hI5.off fun b hb e => hoff8 b (by omega) e).mod hm59 (fun b _ e => .inl (.inl (hM59 b e))) (by rintro (e | e); exact (ha5 ix e).2.2.1 rfl; exact ha1.2.1 e.symm) (by rintro (e | e); exact (ha5 mh e).2.2.2.1 rfl; exact ha1.2.2.1 e.symm) (by rintro (e | e); exact (ha5 mr e).2.2.2.2 rfl; exact ha1.2.2.2 e.symm)).off fun b _ hb => hown b hb
        have hr9 := hr8.mod hm9 (fun b e e' => by have e'' : b = p := e'; rcases hu8' b e with h1 | h1; exact (hp5 b h1).1 e''; omega)
        have hs9 : ∀ a ∈ al, SlL (fun b => M b ∨ own p q ix mh mr vo' (.slice ad8 (al.length + 1) c8) b) w9 a.v a.ls := fun a ha => (((hS4 a ha).off (by omega) fun b hb e => hoff8 b (by omega) e).mod (hm49.mono fun b _ e => .inl (.inl (hM49 b e)))).off (by omega) fun b _ hb => hown b hb
        have hs9' : SlL (fun b => M b ∨ own p q ix mh mr vo' (.slice ad8 (al.length + 1) c8) b) w9 (.slice ad6 ls.length c6) ls := ((Sl.own (M := fun b => (M b ∨ vo'.ownBlock = some b) ∨ (Value.slice ad8 (al.length + 1) c8).ownBlock = some b) hr6 (fun b e e' => by
            have h1 : w5.heap.size ≤ b := hf6 b e
            have h2 := hr6.lt e
            rcases hoff8 b h2 e' with h3 | h3
            · have := hMlt b h3; omega
            · have := hP4.row.lt h3; omega)).mod (hm69.mono fun b _ e => .inl (.inl (hM59 b e)))).off (by omega) fun b _ hb => hown b hb
        have hr9' : Row w9 32 3 (.slice ad8 (al.length + 1) c8) (al ++ [⟨s.last + 1, ls, canS val, .slice ad6 ls.length c6⟩] : List Al).length ((al ++ [⟨s.last + 1, ls, canS val, .slice ad6 ls.length c6⟩] : List Al).flatMap alC) := by rw [List.length_append, List.flatMap_append]; exact hr9
        have hlt9 : ∀ b, (M b ∨ own p q ix mh mr vo' (.slice ad8 (al.length + 1) c8) b) → b < w9.heap.size := fun b hb => by
            rcases hb with e | e
            · have h1 := hMlt b e; have h2 := hm49.size; omega
            · exact own_lt hb9 hP9 hI9 hr9' b e
        refine DL.done ?_
        refine RK.seq ?_
        refine RK.region ?_
        iterate 4 refine RL.p rfl rfl ?_
        refine RL.done ?_
        refine RK.ret_of Tryz.func18 (res3 rfl rfl rfl rfl) ?_ _
        exact ⟨_, rfl, own p q ix mh mr vo' (.slice ad8 (al.length + 1) c8), rfl, ⟨q, ix, mh, mr, vo', _, al ++ [⟨s.last + 1, ls, canS val, .slice ad6 ls.length c6⟩], fun _ => Iff.rfl, ⟨hb9, hP9, hI9, hr9', by simp [h.als, pub], fun a ha => by
            simp only [List.mem_append, List.mem_singleton] at ha
            rcases ha with ha | rfl
            · exact hs9 a ha
            · exact hs9'
          , fun _ e => .inr e, hlt9⟩⟩, hm04.trans (hm49.mono fun b _ e => hO49 b e), fun b hb => by
            rcases hownO b hb with (e | e) | e
            · exact .inl e
            · rcases hvo' b e with h1 | h1
              · exact .inl (hOo b h1)
              · exact .inr (by omega)
            · rcases hu8' b e with h1 | h1
              · exact .inl (hOl b h1)
              · exact .inr (by omega)
          ⟩
theorem post_ok (w : World) (p : Nat) (s : St) (M : Nat → Prop) (h : StoreAt w p s M) (hok : Ok s) (ls : List Lab) (v : Value) (hv : SlL M w v ls) (val : Nat) :
    Fx Tryz.prog 18 [pp p, v, .float .f64 val] w (fun u w' => ∃ M', u = .tuple #[.int .i64 (postS s ls val).2.1, .bool (postS s ls val).2.2.1, .int .i64 (postS s ls val).2.2.2] ∧ StoreAt w' p (postS s ls val).1 M' ∧ Mod M w w' ∧ ∀ b, M' b → M b ∨ w.heap.size ≤ b) :=
  Fx.mono (postX_ok w p s M M h hok ls v hv val) fun u w' ⟨M', h1, h2, h3, h4⟩ => ⟨M', h1, h2.at_, h3, h4⟩
end Go.Proofs.YtffbcfcoddacmaaGreat

/- Chapter 15's runs. -/
set_option linter.unusedVariables false
set_option linter.unusedSimpArgs false
set_option maxHeartbeats 400000
set_option maxRecDepth 100000
namespace Go.Proofs.YtffbcfcoddacmaaGreat
open Go Go.X

/-- A store that was made behind world w0. -/
def At (w0 w : World) (p : Nat) (s : St) : Prop := ∃ M, StoreAt w p s M ∧ (∀ b, M b → w0.heap.size ≤ b) ∧ Grow w0 w ∧ Ok s
theorem At.grow {w0 w w' : World} {p : Nat} {s : St} (h : At w0 w p s) (hg : Grow w w') : At w0 w' p s := by
  obtain ⟨M, h1, h2, h3, h4⟩ := h
  exact ⟨M, h1.grow hg, h2, h3.trans hg, h4⟩
theorem At.all {w0 w : World} {p : Nat} {s : St} (h : At w0 w p s) : Grow w0 w := by
  obtain ⟨M, h1, h2, h3, h4⟩ := h
  exact h3
theorem new_at (m : Int) (w : World) : Fx Tryz.prog 16 [.int .i64 m] w (fun u w' => ∃ p, u = pp p ∧ At w w' p (St.new m)) :=
  Fx.mono (alertNew_ok m w) fun u w' ⟨p, M, h1, h2, h3, h4⟩ => ⟨p, h1, M, h2, h3, h4, Ok.new m⟩
theorem post_at {w0 w : World} {p : Nat} {s : St} {M : Nat → Prop} (h : StoreAt w p s M) (hM : ∀ b, M b → w0.heap.size ≤ b) (hg : Grow w0 w) (hok : Ok s) {ls : List Lab} {v : Value} (hv : SlL M w v ls) {val : Nat} (hval : val < 18446744073709551616) {s' : St} {id code : Int} {fr : Bool} (he : postS s ls val = (s', id, fr, code)) :
    Fx Tryz.prog 18 [pp p, v, .float .f64 val] w (fun u w' => u = .tuple #[.int .i64 id, .bool fr, .int .i64 code] ∧ At w0 w' p s') := by
  refine Fx.mono (post_ok w p s M h hok ls v hv val) ?_
  rintro u w' ⟨M', h1, h2, h3, h4⟩
  have hok' := hok.post ls hval
  rw [he] at h1 h2 hok'
  have := hg.size
  exact ⟨h1, M', h2, fun b hb => (h4 b hb).elim (hM b) (fun h => by omega), hg.then h3 (fun b hb e => by have := hM b e; omega), hok'⟩
/-- Labels that were just built are posted. -/
theorem At.postN {w0 w1 w2 : World} {p : Nat} {s : St} (h : At w0 w1 p s) {b : Nat} {t : TypeId} {cs : List Value} (hn : New w1 w2 b t cs) {ls : List Lab} {k : Nat} (hk : ls.length = k) (hcs : ls.flatMap labC = cs) (hbig : k ≤ 1000) {val : Nat} (hval : val < 18446744073709551616) {s' : St} {id code : Int} {fr : Bool} (he : postS s ls val = (s', id, fr, code)) :
    Fx Tryz.prog 18 [pp p, .slice (some ⟨b, 0, none⟩) k k, .float .f64 val] w2 (fun u w' => u = .tuple #[.int .i64 id, .bool fr, .int .i64 code] ∧ At w0 w' p s') := by
  obtain ⟨M, h1, h2, h3, h4⟩ := h
  subst hcs
  subst hk
  exact post_at (h1.grow hn.grow) h2 (h3.trans hn.grow) h4 (Sl.new hn 2 ls.length (flat_len labC 2 labC_len ls) (by omega) (fun e => by have := h1.lt e; have := hn.at_; omega)) hval he
theorem At.rank {w0 w : World} {p : Nat} {s : St} (h : At w0 w p s) : Fx Tryz.prog 37 [pp p] w (fun u w' => Row w' 3 1 u s.al.length (ints (rankIds s)) ∧ Fresh w.heap.size u ∧ Grow w w') := by
  obtain ⟨M, h1, h2, h3, h4⟩ := h
  exact alertRank_ok w p s M h1 h4.vals (by have h5 := h4.most; have h6 := h4.outLe; have h7 := h4.alOut; omega)
theorem At.len {w0 w : World} {p : Nat} {s : St} (h : At w0 w p s) : Fx Tryz.prog 23 [pp p] w (fun u w' => u = .int .i64 s.al.length ∧ w = w') := by
  obtain ⟨M, h1, h2, h3, h4⟩ := h
  exact alertLen_ok w p s M h1
theorem At.posts {w0 w : World} {p : Nat} {s : St} (h : At w0 w p s) : Fx Tryz.prog 25 [pp p] w (fun u w' => u = .int .i64 s.rows.length ∧ w = w') := by
  obtain ⟨M, h1, h2, h3, h4⟩ := h
  exact alertPosts_ok w p s M h1

/-! ### the runs -/
def lsA (c : UInt8) : List Lab := [⟨⟨#[97]⟩, ⟨#[c]⟩⟩]
def sR1 : St := (postS (St.new 5) (lsA 120) 9223372036854775808).1
def sR2 : St := (postS sR1 (lsA 121) 9221120237041090561).1
def sR3 : St := (postS sR2 (lsA 122) 0).1
def sR4 : St := (postS sR3 (lsA 121) 9221120237041090561).1
theorem eR1 : postS (St.new 5) (lsA 120) 9223372036854775808 = (sR1, 1, true, 0) := by kernel_rfl
theorem eR2 : postS sR1 (lsA 121) 9221120237041090561 = (sR2, 2, true, 0) := by kernel_rfl
theorem eR3 : postS sR2 (lsA 122) 0 = (sR3, 3, true, 0) := by kernel_rfl
theorem eR4 : postS sR3 (lsA 121) 9221120237041090561 = (sR4, 2, false, 0) := by kernel_rfl
theorem rR4 : rankIds sR4 = [3, 1, 2] := by kernel_rfl
theorem lR4 : sR4.al.length = 3 := by kernel_rfl
theorem pR4 : sR4.rows.length = 3 := by kernel_rfl
theorem runs_ok (w : World) : Fx Tryz.prog 26 [] w (fun u w' => u = .bool true ∧ Grow w w') := by
  refine enter Tryz.func26 rfl rfl rfl _ (Pick.sub (l := []) .nil) ?_
  refine RK.seq ?_
  refine RK.region ?_
  refine RL.p rfl rfl ?_
  refine RL.done ?_
  refine RK.seq ?_
  refine RK.region ?_
  refine RL.op (.free rfl) rfl rfl (Does.call rfl e16 (new_at _ _)) ?_
  rintro _ w1 ⟨p, rfl, h1⟩
  refine RL.p rfl rfl ?_
  refine RL.done ?_
  iterate 2 refine RK.seq ?_
  refine RK.region ?_
  refine RL.p rfl rfl ?_
  refine RL.q (.free rfl) rfl rfl (Yld.eqPtr Tryz.underlying24 rfl rfl) ?_
  refine RL.done ?_
  refine RK.condF rfl ?_
  refine RK.skip ?_
  refine RK.seq ?_
  refine RK.region ?_
  refine RL.p rfl rfl ?_
  refine RL.q (.free rfl) rfl rfl (Yld.build (v := .agg #[.string ⟨#[97]⟩, .string ⟨#[120]⟩]) rfl (fun w => by kernel_rfl)) ?_
  refine RL.op (.free rfl) rfl rfl (Does.slice1 u26 i46 rfl rfl rfl rfl rfl) ?_
  rintro _ w2 ⟨b1, rfl, hn1⟩
  refine RL.op (.free rfl) rfl rfl (Does.call rfl e85 (copysign0_ok _)) ?_
  rintro _ _ ⟨rfl, rfl⟩
  refine RL.op (.free rfl) rfl rfl (Does.call rfl e18 (h1.postN hn1 (ls := lsA 120) rfl rfl (by decide) (by omega) eR1)) ?_
  rintro _ w3 ⟨rfl, h3⟩
  iterate 7 refine RL.p rfl rfl ?_
  refine RL.done ?_
  refine RK.seq ?_
  refine RK.region ?_
  refine RL.p rfl rfl ?_
  refine RL.q (.free rfl) rfl rfl (Yld.build (v := .agg #[.string ⟨#[97]⟩, .string ⟨#[121]⟩]) rfl (fun w => by kernel_rfl)) ?_
  refine RL.op (.free rfl) rfl rfl (Does.slice1 u26 i46 rfl rfl rfl rfl rfl) ?_
  rintro _ w4 ⟨b2, rfl, hn2⟩
  refine RL.op (.free rfl) rfl rfl (Does.call rfl e86 (nan_ok _)) ?_
  rintro _ _ ⟨rfl, rfl⟩
  refine RL.op (.free rfl) rfl rfl (Does.call rfl e18 (h3.postN hn2 (ls := lsA 121) rfl rfl (by decide) (by omega) eR2)) ?_
  rintro _ w5 ⟨rfl, h5⟩
  iterate 7 refine RL.p rfl rfl ?_
  refine RL.done ?_
  refine RK.seq ?_
  refine RK.region ?_
  refine RL.p rfl rfl ?_
  refine RL.q (.free rfl) rfl rfl (Yld.build (v := .agg #[.string ⟨#[97]⟩, .string ⟨#[122]⟩]) rfl (fun w => by kernel_rfl)) ?_
  refine RL.op (.free rfl) rfl rfl (Does.slice1 u26 i46 rfl rfl rfl rfl rfl) ?_
  rintro _ w6 ⟨b3, rfl, hn3⟩
  refine RL.op (.free rfl) rfl rfl (Does.call rfl e18 (h5.postN hn3 (ls := lsA 122) rfl rfl (by decide) (by omega) eR3)) ?_
  rintro _ w7 ⟨rfl, h7⟩
  iterate 7 refine RL.p rfl rfl ?_
  refine RL.done ?_
  refine RK.seq ?_
  refine RK.region ?_
  refine RL.p rfl rfl ?_
  refine RL.q (.free rfl) rfl rfl (Yld.build (v := .agg #[.string ⟨#[97]⟩, .string ⟨#[121]⟩]) rfl (fun w => by kernel_rfl)) ?_
  refine RL.op (.free rfl) rfl rfl (Does.slice1 u26 i46 rfl rfl rfl rfl rfl) ?_
  rintro _ w8 ⟨b4, rfl, hn4⟩
  refine RL.op (.free rfl) rfl rfl (Does.call rfl e86 (nan_ok _)) ?_
  rintro _ _ ⟨rfl, rfl⟩
  refine RL.op (.free rfl) rfl rfl (Does.call rfl e18 (h7.postN hn4 (ls := lsA 121) rfl rfl (by decide) (by omega) eR4)) ?_
  rintro _ w9 ⟨rfl, h9⟩
  iterate 7 refine RL.p rfl rfl ?_
  refine RL.done ?_
  refine RK.seq ?_
  refine RK.region ?_
  iterate 3 refine RL.p rfl rfl ?_
  refine RL.knownT (d := 54) rfl rfl (rfl) ?_
  refine RL.q (.yes rfl rfl rfl) rfl rfl (Yld.pure rfl) ?_
  iterate 2 refine RL.p rfl rfl ?_
  refine RL.knownT (d := 57) rfl rfl (rfl) ?_
  iterate 2 refine RL.q (.yes rfl rfl rfl) rfl rfl (Yld.pure rfl) ?_
  iterate 2 refine RL.p rfl rfl ?_
  refine RL.knownT (d := 61) rfl rfl (rfl) ?_
  iterate 2 refine RL.q (.yes rfl rfl rfl) rfl rfl (Yld.pure rfl) ?_
  iterate 2 refine RL.p rfl rfl ?_
  refine RL.knownT (d := 65) rfl rfl (rfl) ?_
  iterate 2 refine RL.q (.yes rfl rfl rfl) rfl rfl (Yld.pure rfl) ?_
  iterate 2 refine RL.p rfl rfl ?_
  refine RL.knownT (d := 69) rfl rfl (rfl) ?_
  iterate 2 refine RL.q (.yes rfl rfl rfl) rfl rfl (Yld.pure rfl) ?_
  iterate 2 refine RL.p rfl rfl ?_
  refine RL.knownT (d := 73) rfl rfl (rfl) ?_
  iterate 2 refine RL.q (.yes rfl rfl rfl) rfl rfl (Yld.pure rfl) ?_
  iterate 2 refine RL.p rfl rfl ?_
  refine RL.knownT (d := 77) rfl rfl (rfl) ?_
  refine RL.q (.yes rfl rfl rfl) rfl rfl (Yld.pure rfl) ?_
  refine RL.op (.yes rfl rfl rfl) rfl rfl (Does.call rfl e37 (h9.rank)) ?_
  rintro u10 w10 ⟨hr10, _, hg10⟩
  refine RL.op (.yes rfl rfl rfl) rfl rfl (Does.bslice (el := 3) ([.int .i64 3, .int .i64 1, .int .i64 2]) rfl (fun w => by kernel_rfl)) ?_
  rintro _ w11 ⟨b5, rfl, hn5⟩
  refine RL.op (.yes rfl rfl rfl) rfl rfl (Does.call rfl e29 (sameInts_ok No (rankIds sR4) [3, 1, 2] u10 _ _ (by have := Sl.own (M := No) (hr10.mod hn5.grow (fun _ _ h => h)) (fun _ _ h => h); rw [show (rankIds sR4).length = sR4.al.length from rankIds_len _]; exact this) (Sl.new hn5 1 3 rfl (by omega) (fun h => h)))) ?_
  rintro _ w12 ⟨rfl, hg12⟩
  have h12 := ((h9.grow hg10).grow hn5.grow).grow hg12
  iterate 2 refine RL.p rfl rfl ?_
  refine RL.knownT (d := 83) rfl rfl (decide_eq_true rR4) ?_
  refine RL.q (.yes rfl rfl rfl) rfl rfl (Yld.pure rfl) ?_
  refine RL.op (.yes rfl rfl rfl) rfl rfl (Does.call rfl e23 (h12.len)) ?_
  rintro _ _ ⟨rfl, rfl⟩
  refine RL.q (.yes rfl rfl rfl) rfl rfl (Yld.pure rfl) ?_
  iterate 2 refine RL.p rfl rfl ?_
  refine RL.knownT (d := 88) rfl rfl (by rw [lR4]; rfl) ?_
  refine RL.q (.yes rfl rfl rfl) rfl rfl (Yld.pure rfl) ?_
  refine RL.op (.yes rfl rfl rfl) rfl rfl (Does.call rfl e25 (h12.posts)) ?_
  rintro _ _ ⟨rfl, rfl⟩
  refine RL.q (.yes rfl rfl rfl) rfl rfl (Yld.pure rfl) ?_
  iterate 2 refine RL.p rfl rfl ?_
  refine RL.done ?_
  refine RK.ret_of Tryz.func26 (res1 rfl rfl) ?_ _
  exact ⟨_, rfl, by rw [pR4]; rfl, h12.all⟩
end Go.Proofs.YtffbcfcoddacmaaGreat

