/- Alerts told. -/
import Derived.Test.YtffbcfcoddacmaaGreatEe
set_option linter.unusedVariables false
set_option linter.unusedSimpArgs false
set_option maxHeartbeats 800000
set_option maxRecDepth 100000
namespace Go.Proofs.YtffbcfcoddacmaaGreat
open Go Go.X

theorem told_ok (M : Nat → Prop) (a : Al) (w : World) (ha : SlL M w a.v a.ls) (hb : a.ls.length ≤ 1000) :
    Fx Tryz.prog 82 [.agg #[.int .i64 a.id, a.v, .float .f64 a.val]] w (fun u w' => ∃ ad c, u = .agg #[.int .i64 a.id, .slice ad a.ls.length c, .float .f64 a.val] ∧ Row w' 46 2 (.slice ad a.ls.length c) a.ls.length (a.ls.flatMap labC) ∧ Fresh w.heap.size (.slice ad a.ls.length c) ∧ Grow w w') := by
  obtain ⟨ad, c, hva⟩ := ha.shape
  obtain ⟨aid, als, val, va⟩ := a
  simp only at hva ha hb
  subst hva
  refine enter Tryz.func82 rfl rfl rfl _ (Pick.sub (l := [0]) (.cons rfl .nil)) ?_
  refine RK.seq ?_
  refine RK.region ?_
  refine RL.op (.free rfl) rfl rfl (Does.box rfl) ?_
  rintro _ w1 ⟨b1, rfl, hn1⟩
  refine RL.op (.free rfl) rfl rfl (Does.alloc i32) ?_
  rintro _ w2 ⟨b2, rfl, hn2⟩
  have hg02 := hn1.grow.trans hn2.grow
  have h11 := hn1.at_
  have h12 := hn1.size
  have h21 := hn2.at_
  have h22 := hn2.size
  refine RL.done ?_
  refine RK.seq ?_
  refine RK.region ?_
  refine RL.q (.free rfl) rfl rfl (Yld.fieldAddr fo32_1 rfl) ?_
  refine RL.q (.free rfl) rfl rfl (Yld.load p26 rfl (at1 ((hn1.blk.mod hn2.grow (fun h => h)).cell rfl))) ?_
  refine RL.op (.free rfl) rfl rfl (Does.call rfl e80 (cloneL_ok M als _ _ (ha.mod (Mod.any' hg02)) hb)) ?_
  rintro u3 w3 ⟨hr3, hf3, hg3⟩
  obtain ⟨ad3, c3, rfl⟩ := hr3.slice
  refine RL.q (.free rfl) rfl rfl (Yld.fieldAddr fo32_1 rfl) ?_
  refine RL.op' (.free rfl) rfl (Does.store i26 rfl rfl rfl (hn1.blk.mod (hn2.grow.trans hg3) (fun h => h)) (.s .z)) ?_
  rintro _ w4 ⟨hb4, hm4, hs4⟩
  refine RL.done ?_
  refine RK.seq ?_
  refine RK.region ?_
  refine RL.q (.free rfl) rfl rfl (Yld.loadN (cs := [.int .i64 aid, .slice ad3 als.length c3, .float .f64 val]) a32 rfl (atN (fun j u hj => by rw [Nat.zero_add]; exact Blk.cell' hb4 hj))) ?_
  refine RL.op' (.free rfl) rfl (Does.storeN i32 rfl rfl rfl rfl ((hn2.blk.mod hg3 (fun h => h)).mod hm4 (by omega)) (Nat.le_refl 3)) ?_
  rintro _ w5 ⟨hb5, hm5, _⟩
  refine RL.done ?_
  refine RK.ret_of Tryz.func82 (resC (cs := [.int .i64 aid, .slice ad3 als.length c3, .float .f64 val]) rfl rfl a32 hb5) ?_ _
  exact ⟨_, rfl, ad3, c3, rfl, (hr3.mod hm4 (fun b e e2 => by have e2' : b = b1 := e2; have := hf3 b e; omega)).mod hm5 (fun b e e2 => by have e2' : b = b2 := e2; have := hf3 b e; omega), fun b e => by have := hf3 b e; omega, ((hg02.trans hg3).then hm4 (fun b hb e => by have e' : b = b1 := e; omega)).then hm5 (fun b hb e => by have e' : b = b2 := e; omega)⟩
def getS (s : St) (id : Int) : Option (Int × List Lab × Nat) := (placeS s id).bind fun i => s.al[i]?
theorem get_ok (w : World) (p : Nat) (s : St) (M : Nat → Prop) (h : StoreAt w p s M) (hs : Ris (s.al.map (·.1))) (hb : s.al.length ≤ 1000000) (hl : ∀ a ∈ s.al, a.2.1.length ≤ 1000) (id : Int) :
    Fx Tryz.prog 19 [pp p, .int .i64 id] w (fun u w' => ∃ ad c, u = .tuple #[.agg #[.int .i64 ((getS s id).getD (0, [], 0)).1, .slice ad ((getS s id).getD (0, [], 0)).2.1.length c, .float .f64 ((getS s id).getD (0, [], 0)).2.2], .bool (getS s id).isSome] ∧ Row w' 46 2 (.slice ad ((getS s id).getD (0, [], 0)).2.1.length c) ((getS s id).getD (0, [], 0)).2.1.length (((getS s id).getD (0, [], 0)).2.1.flatMap labC) ∧ Grow w w') := by
  obtain ⟨q, ix, mh, mr, vo, vl, al, hO, h⟩ := h
  have hlen : al.length = s.al.length := by rw [← h.als]; simp
  cases hpl : placeS s id with
  | none =>
    have e : getS s id = none := by unfold getS; rw [hpl]; rfl
    rw [e]
    refine enter Tryz.func19 rfl rfl rfl _ (Pick.sub (l := [0, 1]) (.cons rfl (.cons rfl .nil))) ?_
    refine RK.seq ?_
    refine RK.region ?_
    refine RL.op (.free rfl) rfl rfl (Does.alloc i32) ?_
    rintro _ w1 ⟨b1, rfl, hn1⟩
    have hfind := find_ok w1 p s M q ix mh mr vo vl al (h.grow hn1.grow) hs hb id
    rw [hpl] at hfind
    refine RL.p rfl rfl ?_
    refine RL.done ?_
    refine RK.seq ?_
    refine RK.region ?_
    iterate 2 refine RL.p rfl rfl ?_
    refine RL.op (.free rfl) rfl rfl (Does.call rfl e81 (hfind)) ?_
    rintro _ w2 ⟨⟨i, hi, rfl, _⟩, hg2⟩
    iterate 5 refine RL.p rfl rfl ?_
    refine RL.done ?_
    iterate 2 refine RK.seq ?_
    refine RK.region ?_
    iterate 2 refine RL.p rfl rfl ?_
    refine RL.done ?_
    refine RK.condT (hcT rfl (rfl)) ?_
    refine RK.seq ?_
    refine RK.region ?_
    refine RL.q (.free rfl) rfl rfl (Yld.build (v := .agg #[.int .i64 0, .slice none 0 0, .float .f64 0]) rfl (fun w => by kernel_rfl)) ?_
    refine RL.op' (.free rfl) rfl (Does.storeN i32 rfl rfl rfl rfl (hn1.blk.mod hg2 (fun h => h)) (Nat.le_refl 3)) ?_
    rintro _ w5 ⟨hb5, hm5, _⟩
    refine RL.p rfl rfl ?_
    refine RL.done ?_
    refine RK.ret_of Tryz.func19 (resCT (cs := [.int .i64 0, .slice none 0 0, .float .f64 0]) rfl rfl a32 hb5 rfl) ?_ _
    exact ⟨_, rfl, none, 0, rfl, Row.nil _ _ _, (hn1.grow.trans hg2).then hm5 (fun b hb e => by have e' : b = b1 := e; have := hn1.at_; omega)⟩
  | some j =>
    obtain ⟨ad, c, rfl⟩ := h.row.slice
    refine enter Tryz.func19 rfl rfl rfl _ (Pick.sub (l := [0, 1]) (.cons rfl (.cons rfl .nil))) ?_
    refine RK.seq ?_
    refine RK.region ?_
    refine RL.op (.free rfl) rfl rfl (Does.alloc i32) ?_
    rintro _ w1 ⟨b1, rfl, hn1⟩
    have hfind := find_ok w1 p s M q ix mh mr vo _ al (h.grow hn1.grow) hs hb id
    rw [hpl] at hfind
    refine RL.p rfl rfl ?_
    refine RL.done ?_
    refine RK.seq ?_
    refine RK.region ?_
    iterate 2 refine RL.p rfl rfl ?_
    refine RL.op (.free rfl) rfl rfl (Does.call rfl e81 (hfind)) ?_
    rintro _ w2 ⟨⟨i, hi, rfl, hij⟩, hg2⟩
    obtain ⟨rfl, hil⟩ := hij j rfl
    obtain ⟨a, hx⟩ : ∃ a, al[j]? = some a := ⟨al[j]'hil, List.getElem?_eq_getElem hil⟩
    have hsx : s.al[j]? = some (a.id, a.ls, a.val) := by rw [← h.als, List.getElem?_map, hx]; rfl
    have e : getS s id = some (a.id, a.ls, a.val) := by unfold getS; rw [hpl]; exact hsx
    rw [e]
    have hg02 := hn1.grow.trans hg2
    obtain ⟨ad', o1, c1', he1, _, _, hc1⟩ := (Sl.own (M := No) h.row (fun _ _ h => h)).elem alC_len hx
    cases he1
    have hsl := h.sls a (List.mem_of_getElem? hx)
    iterate 5 refine RL.p rfl rfl ?_
    refine RL.done ?_
    iterate 2 refine RK.seq ?_
    refine RK.region ?_
    iterate 2 refine RL.p rfl rfl ?_
    refine RL.done ?_
    refine RK.condF (hcF rfl (rfl)) ?_
    refine RK.skip ?_
    refine RK.seq ?_
    refine RK.region ?_
    iterate 2 refine RL.p rfl rfl ?_
    refine RL.q (.free rfl) rfl rfl (Yld.fieldAddr fo124_2 rfl) ?_
    refine RL.q (.free rfl) rfl rfl (Yld.load p58 rfl (at1 ((h.blk.mod hg02 (fun h => h)).cell rfl))) ?_
    refine RL.p rfl rfl ?_
    refine RL.q (.free rfl) rfl rfl (Yld.indexAddrN u58 i32 rfl rfl (hil)) ?_
    refine RL.q (.free rfl) rfl rfl (Yld.loadN (cs := [.int .i64 a.id, a.v, .float .f64 a.val]) a32 rfl (atN (fun q u hq => hg02.cell (hc1 q u hq) (fun h => h)))) ?_
    refine RL.op (.free rfl) rfl rfl (Does.call rfl e82 (told_ok M a _ (hsl.mod (Mod.any' hg02)) (hl _ (List.mem_of_getElem? hsx)))) ?_
    rintro _ w3 ⟨ad3, c3, rfl, hr3, hf3, hg3⟩
    refine RL.op' (.free rfl) rfl (Does.storeN i32 rfl rfl rfl rfl (hn1.blk.mod (hg2.trans hg3) (fun h => h)) (Nat.le_refl 3)) ?_
    rintro _ w5 ⟨hb5, hm5, _⟩
    refine RL.p rfl rfl ?_
    refine RL.done ?_
    refine RK.ret_of Tryz.func19 (resCT (cs := [.int .i64 a.id, .slice ad3 a.ls.length c3, .float .f64 a.val]) rfl rfl a32 hb5 rfl) ?_ _
    exact ⟨_, rfl, ad3, c3, rfl, hr3.mod hm5 (fun b e e2 => by have e2' : b = b1 := e2; have := hf3 b e; have := hg2.size; have := hn1.at_; have := hn1.size; omega), (hg02.trans hg3).then hm5 (fun b hb e => by have e' : b = b1 := e; have := hn1.at_; omega)⟩
theorem all_ok (w : World) (p : Nat) (s : St) (M : Nat → Prop) (h : StoreAt w p s M) (hb : s.al.length ≤ 1000000) (hl : ∀ a ∈ s.al, a.2.1.length ≤ 1000) :
    Fx Tryz.prog 36 [pp p] w (fun u w' => ∃ al' : List Al, Row w' 32 3 u al'.length (al'.flatMap alC) ∧ al'.map pub = s.al ∧ (∀ a ∈ al', SlL No w' a.v a.ls) ∧ Grow w w') := by
  obtain ⟨q, ix, mh, mr, vo, vl, al, hO, h⟩ := h
  have hlen : al.length = s.al.length := by rw [← h.als]; simp
  have hsl := Sl.own (M := No) h.row (fun _ _ h => h)
  obtain ⟨ad, c, rfl⟩ := h.row.slice
  refine enter Tryz.func36 rfl rfl rfl _ (Pick.sub (l := [0]) (.cons rfl .nil)) ?_
  refine RK.seq ?_
  refine RK.region ?_
  refine RL.p rfl rfl ?_
  refine RL.done ?_
  refine RK.seq ?_
  refine RK.region ?_
  refine RL.p rfl rfl ?_
  refine RL.done ?_
  iterate 2 refine RK.seq ?_
  refine RK.region ?_
  iterate 2 refine RL.p rfl rfl ?_
  refine RL.q (.free rfl) rfl rfl (Yld.fieldAddr fo124_2 rfl) ?_
  refine RL.q (.free rfl) rfl rfl (Yld.load p58 rfl (at1 (h.blk.cell rfl))) ?_
  refine RL.q (.free rfl) rfl rfl (Yld.lenSl u58 rfl) ?_
  refine RL.p rfl rfl ?_
  refine RL.done ?_
  refine RK.block ?_
  refine RK.loop (fun s : Nat × Value => [(9, .slice ad al.length c), (10, .int .i64 al.length), (11, .int .i64 (s.1 : Int)), (3, s.2)]) (fun s w' => (∃ al' : List Al, al'.length = s.1 ∧ Row w' 32 3 s.2 s.1 (al'.flatMap alC) ∧ al'.map pub = (al.take s.1).map pub ∧ ∀ a ∈ al', SlL (fun b => s.2.ownBlock = some b) w' a.v a.ls) ∧ Fresh w.heap.size s.2 ∧ Grow w w' ∧ s.1 ≤ al.length) (fun s => al.length - s.1) (0, .slice none 0 0) ⟨rfl, rfl, rfl, rfl, trivial⟩ ⟨⟨[], rfl, Row.nil _ _ _, rfl, by simp⟩, fun b hb => by simp [Value.ownBlock] at hb, Mod.refl _ _, by simp⟩ (fun s w' hI ih => ?_)
  obtain ⟨k, u⟩ := s
  obtain ⟨⟨al', hl', hr, hpub, hsls⟩, hf, hg, hk⟩ := hI
  simp only at hl' hr hpub hsls hf hk
  refine RK.seq ?_
  refine RK.region ?_
  refine RL.p rfl rfl ?_
  refine RL.done ?_
  refine RK.seq ?_
  first | refine RK.condD rfl (fun h12 => ?_) (fun h12 => ?_) | refine RK.condN rfl (fun h12 => ?_) (fun h12 => ?_) | refine RK.cond rfl (fun h12 => ?_) (fun h12 => ?_)
  · obtain ⟨a, hx⟩ : ∃ a, al[k]? = some a := ⟨al[k]'(by omega), List.getElem?_eq_getElem (by omega)⟩
    obtain ⟨b1, o1, c1', he1, _, _, hc1⟩ := hsl.elem alC_len hx
    cases he1
    have hsx : (a.id, a.ls, a.val) ∈ s.al := by rw [← h.als]; exact List.mem_map_of_mem (f := pub) (List.mem_of_getElem? hx)
    have hsla := h.sls a (List.mem_of_getElem? hx)
    obtain ⟨ada, ca, hva⟩ := hsla.shape
    obtain ⟨aid, als, aval, av⟩ := a
    simp only at hva hsx hsla
    subst hva
    refine RK.skip ?_
    refine RK.seq ?_
    refine RK.block ?_
    refine RK.seq ?_
    refine RK.region ?_
    refine RL.q (.free rfl) rfl rfl (Yld.indexAddrN u58 i32 rfl rfl (by omega)) ?_
    refine RL.q (.free rfl) rfl rfl (Yld.loadN (cs := [.int .i64 aid, .slice ada als.length ca, .float .f64 aval]) a32 rfl (atN (fun q u hq => hg.cell (hc1 q u hq) (fun h => h)))) ?_
    refine RL.op (.free rfl) rfl rfl (Does.alloc i32) ?_
    rintro _ w2 ⟨b2, rfl, hn2⟩
    refine RL.op' (.free rfl) rfl (Does.storeN i32 rfl rfl rfl rfl hn2.blk (Nat.le_refl 3)) ?_
    rintro _ w3 ⟨hb3, hm3, _⟩
    have hB3 : Blk w3 b2 32 [.int .i64 aid, .slice ada als.length ca, .float .f64 aval] := hb3
    have hg3 : Grow w' w3 := hn2.grow.then hm3 (fun y hy e => by have e' : y = b2 := e; have := hn2.at_; omega)
    refine RL.done ?_
    refine RK.region ?_
    refine RL.p rfl rfl ?_
    refine RL.q (.free rfl) rfl rfl (Yld.loadN (cs := [.int .i64 aid, .slice ada als.length ca, .float .f64 aval]) a32 rfl (atN (fun q u hq => by rw [Nat.zero_add]; exact hB3.cell' hq))) ?_
    refine RL.op (.free rfl) rfl rfl (Does.call rfl e82 (told_ok M ⟨aid, als, aval, .slice ada als.length ca⟩ _ (hsla.mod (Mod.any' (hg.trans hg3))) (hl _ hsx))) ?_
    rintro _ w4 ⟨ad4, c4, rfl, hr4, hf4, hg4⟩
    refine RL.op (.free rfl) rfl rfl (Does.slice1 u58 i32 rfl rfl rfl rfl rfl) ?_
    rintro _ w5 ⟨b5, rfl, hn5⟩
    have hg35 := (hg3.trans hg4).trans hn5.grow
    have hb5 : al'.length + 1 ≤ 1000001 := by omega
    refine RL.op (.free rfl) rfl rfl (Does.append u58 i32 rfl rfl rfl rfl rfl (hr.mod hg35 (fun _ _ h => h)) (Sl.new hn5 3 1 rfl (by omega) (fun h => h)) (rfl) (by omega)) ?_
    rintro u6 w6 ⟨hr6, hm6, hu6⟩
    have hs35 := hg35.size
    have hs3 := hg3.size
    have hs4 := hg4.size
    have hs5 := hn5.grow.size
    have hlt5 : ∀ b, u.ownBlock = some b → b < w'.heap.size := fun b e => hr.lt e
    have hoff : ∀ b, b < w5.heap.size → (u.ownBlock = some b ∨ u6.ownBlock = some b) → u.ownBlock = some b := fun b hb e => by
        rcases e with e | e
        · exact e
        · rcases hu6 with h1 | h1
          · rw [← h1]; exact e
          · rw [h1] at e; cases e; omega
    have hr4' := hr4.mod hn5.grow (fun _ _ h => h)
    have hslN : SlL (fun b => u.ownBlock = some b ∨ u6.ownBlock = some b) w5 (.slice ad4 als.length c4) als := Sl.own hr4' (fun b e hb => by have h1 := hr4'.lt e; have h2 := hf4 b e; have h3 := hlt5 b (hoff b h1 hb); omega)
    refine RL.p rfl rfl ?_
    refine RL.done ?_
    refine RK.inBlock ?_
    refine RK.region ?_
    refine RL.p rfl rfl ?_
    refine RL.re (d := 20) rfl rfl (succ_i64 (by omega)) ?_
    refine RL.p rfl rfl ?_
    refine RL.done ?_
    exact RK.back (ih (k + 1, u6) _ ⟨⟨al' ++ [⟨aid, als, aval, .slice ad4 als.length c4⟩], by simp [hl'], by
        have e1 : (al' ++ [(⟨aid, als, aval, .slice ad4 als.length c4⟩ : Al)]).flatMap alC = al'.flatMap alC ++ (Value.agg #[.int .i64 aid, .slice ad4 als.length c4, .float .f64 aval]).cells.toList := by simp [alC, Value.cells]
        rw [e1]; exact hr6, by
        rw [List.map_append, hpub, List.take_succ_eq_append_getElem (by omega), List.map_append, (List.getElem?_eq_some_iff.1 hx).2]
        rfl, fun a' ha' => by
        rcases List.mem_append.1 ha' with h1 | h1
        · exact ((((hsls a' h1).mod (Mod.any' hg35)).off (by omega) hoff).mod (hm6.mono fun b _ e => .inl e)).off (by omega) (fun b _ e => .inr e)
        · simp at h1; subst h1
          exact (hslN.mod (hm6.mono fun b _ e => .inl e)).off (by omega) (fun b _ e => .inr e)⟩, fun b e => by
        rcases hu6 with h1 | h1
        · exact hf b (h1 ▸ e)
        · simp only at e; rw [h1] at e; cases e; have := hg.size; omega, (hg.trans hg35).then hm6 (fun b hb e => by have := hf b e; omega), by simp only; omega⟩ (by simp only; omega)) ⟨rfl, rfl, rfl, rfl, trivial⟩
  · have ek : al.take k = al := List.take_of_length_le (by omega)
    rw [ek, h.als] at hpub
    refine RK.exit rfl ?_
    refine RK.seq ?_
    refine RK.region ?_
    iterate 2 refine RL.p rfl rfl ?_
    refine RL.done ?_
    refine RK.ret_of Tryz.func36 (res1 rfl rfl) ?_ _
    exact ⟨_, rfl, al', by rw [hl']; exact hr, hpub, fun a ha => (hsls a ha).noM, hg⟩
end Go.Proofs.YtffbcfcoddacmaaGreat

