/- What the claim stands on, part 10. Of own lemmas only those that it reaches. -/
import Derived.Test.YthbjfhhiajihfaaGreatKd9
set_option linter.unusedVariables false
set_option linter.unusedSimpArgs false
set_option maxHeartbeats 4000000
set_option maxRecDepth 100000
namespace Go.Proofs.YthbjfhhiajihfaaGreat
open Go Go.X Go.Rex
noncomputable def isSrc (r : Ru) (a : Al) : Bool := sourceS r a.ls a.val
def keyOf (r : Ru) (a : Al) : ByteArray := keyT r.eq a.ls
noncomputable def srcsS (r : Ru) (al : List Al) (k : ByteArray) : List Int := (al.filter fun b => isSrc r b && decide (keyOf r b = k)).map (·.id)
theorem srcsS_snoc {al : List Al} {j : Nat} {b : Al} (h : al[j]? = some b) (r : Ru) (k : ByteArray) : srcsS r (al.take (j + 1)) k = srcsS r (al.take j) k ++ (if (isSrc r b && decide (keyOf r b = k)) = true then [b.id] else []) := by
 have hj := (List.getElem?_eq_some_iff.1 h).1
 unfold srcsS
 rw [List.take_succ_eq_append_getElem hj, (List.getElem?_eq_some_iff.1 h).2, List.filter_append, List.map_append]
 by_cases e : (isSrc r b && decide (keyOf r b = k)) = true <;> simp only [List.filter_cons, List.filter_nil, e, if_true, if_false] <;> simp
theorem srcsS_len (r : Ru) (al : List Al) (k : ByteArray) : (srcsS r al k).length ≤ al.length := by unfold srcsS; rw [List.length_map]; exact List.length_filter_le _ _
open Classical in
noncomputable def kStep (r : Ru) (D : List ByteArray) (a : Al) : List ByteArray := if isSrc r a = true ∧ keyOf r a ∉ D then D ++ [keyOf r a] else D
theorem kStep_yes {r : Ru} {D : List ByteArray} {a : Al} (h : isSrc r a = true ∧ keyOf r a ∉ D) : kStep r D a = D ++ [keyOf r a] := by unfold kStep; exact if_pos h
theorem kStep_no {r : Ru} {D : List ByteArray} {a : Al} (h : ¬ (isSrc r a = true ∧ keyOf r a ∉ D)) : kStep r D a = D := by unfold kStep; exact if_neg h
noncomputable def keysD (r : Ru) (al : List Al) : List ByteArray := al.foldl (kStep r) []
theorem keysD_snoc (r : Ru) (al : List Al) (a : Al) : keysD r (al ++ [a]) = kStep r (keysD r al) a := by simp [keysD]
theorem keysD_spec (r : Ru) (al : List Al) : (keysD r al).Nodup ∧ ∀ x, x ∈ keysD r al ↔ ∃ a ∈ al, isSrc r a = true ∧ keyOf r a = x := by
 have key : ∀ (al : List Al) (D : List ByteArray) (al0 : List Al), (D.Nodup ∧ ∀ x, x ∈ D ↔ ∃ a ∈ al0, isSrc r a = true ∧ keyOf r a = x) → ((al.foldl (kStep r) D).Nodup ∧ ∀ x, x ∈ (al.foldl (kStep r) D) ↔ ∃ a ∈ al0 ++ al, isSrc r a = true ∧ keyOf r a = x) := by
  intro al
  induction al with
  | nil => intro D al0 h; simpa using h
  | cons a al ih =>
   intro D al0 h
   rw [List.foldl_cons]
   have := ih (kStep r D a) (al0 ++ [a]) ?_
   ·simpa using this
   ·by_cases e : isSrc r a = true ∧ keyOf r a ∉ D
    ·rw [kStep_yes e]
     refine ⟨List.nodup_append.2 ⟨h.1, by simp, fun x hx y hy e2 => by rw [List.mem_singleton] at hy; exact e.2 (hy ▸ e2 ▸ hx)⟩, fun x => ?_⟩
     rw [List.mem_append, h.2, List.mem_singleton]
     constructor
     ·rintro (⟨b, hb, h1⟩ | rfl)
      ·exact ⟨b, List.mem_append_left _ hb, h1⟩
      ·exact ⟨a, by simp, e.1, rfl⟩
     ·rintro ⟨b, hb, h1⟩
      rcases List.mem_append.1 hb with hb | hb
      ·exact .inl ⟨b, hb, h1⟩
      ·rw [List.mem_singleton] at hb; subst hb; exact .inr h1.2.symm
    ·rw [kStep_no e]
     refine ⟨h.1, fun x => ?_⟩
     rw [h.2]
     constructor
     ·rintro ⟨b, hb, h1⟩
      exact ⟨b, List.mem_append_left _ hb, h1⟩
     ·rintro ⟨b, hb, h1⟩
      rcases List.mem_append.1 hb with hb | hb
      ·exact ⟨b, hb, h1⟩
      ·rw [List.mem_singleton] at hb; subst hb
       have h3 : keyOf r b ∈ D := Classical.byContradiction fun hn => e ⟨h1.1, hn⟩
       rw [h1.2] at h3
       exact (h.2 x).1 h3
 have := key al [] [] (by simp)
 rwa [List.nil_append] at this
theorem keysD_len (r : Ru) : ∀ al : List Al, (keysD r al).length ≤ al.length := by
 have key : ∀ (al : List Al) (D : List ByteArray), (al.foldl (kStep r) D).length ≤ D.length + al.length := by
  intro al
  induction al with
  | nil => intro D; simp
  | cons a al ih =>
   intro D
   rw [List.foldl_cons]
   have := ih (kStep r D a)
   have h2 : (kStep r D a).length ≤ D.length + 1 := by unfold kStep; split <;> simp
   simp only [List.length_cons]
   omega
 intro al
 have := key al []
 rwa [List.length_nil, Nat.zero_add] at this
noncomputable def cntS (r : Ru) (al : List Al) : Nat := (al.filter (isSrc r)).length
theorem cntS_snoc (r : Ru) (al : List Al) (a : Al) : cntS r (al ++ [a]) = cntS r al + if isSrc r a = true then 1 else 0 := by
 unfold cntS
 rw [List.filter_append, List.length_append]
 by_cases e : isSrc r a = true <;> simp [e]
theorem cntS_le (r : Ru) (al : List Al) : cntS r al ≤ al.length := List.length_filter_le _ _
theorem CR.counts {r : Ru} {c : CRows × CKeys} {al : List Al} (h : CR (·.1) (srcA r) (keyA r) c (al.map pub)) : c.2.length = cntS r al ∧ c.1.length = (keysD r al).length := by
 have hnd : (al.map (·.id)).Nodup := by have := h.nd; rw [List.map_map] at this; exact this
 constructor
 ·have hs : ((al.filter (isSrc r)).map (·.id)).Nodup := hnd.sublist (List.filter_sublist.map _)
  have hp : (c.2.map (·.1)).Perm ((al.filter (isSrc r)).map (·.id)) := (List.perm_ext_iff_of_nodup h.ci.nk hs).2 fun j => by
   constructor
   ·intro hj
    obtain ⟨t, ht, rfl⟩ := List.mem_map.1 hj
    obtain ⟨a, ha, e1, e2, _⟩ := (h.look t.1 t.2).1 ((lookM_iff h.ci.nk).2 ht)
    obtain ⟨b, hb, rfl⟩ := List.mem_map.1 ha
    exact List.mem_map.2 ⟨b, List.mem_filter.2 ⟨hb, e2⟩, e1⟩
   ·intro hj
    obtain ⟨b, hb, rfl⟩ := List.mem_map.1 hj
    obtain ⟨hb1, hb2⟩ := List.mem_filter.1 hb
    have := (h.look b.id (keyA r (pub b))).2 ⟨pub b, List.mem_map_of_mem hb1, rfl, hb2, rfl⟩
    exact List.mem_map_of_mem (f := (·.1)) (lookM_mem this)
  have := hp.length_eq
  simpa [cntS] using this
 ·obtain ⟨hD, hm⟩ := keysD_spec r al
  have hp : (c.1.map (·.1)).Perm (keysD r al) := (List.perm_ext_iff_of_nodup h.ci.nr hD).2 fun k => by
   rw [hm]
   constructor
   ·intro hk
    obtain ⟨t, ht, rfl⟩ := List.mem_map.1 hk
    obtain ⟨_, hne⟩ := h.ci.row t ht
    obtain ⟨j, hj⟩ := List.exists_mem_of_ne_nil _ hne
    have h3 := (h.ci.mem t.1 j).1 (by rw [(lookM_iff h.ci.nr).2 ht]; exact hj)
    obtain ⟨a, ha, _, e2, e3⟩ := (h.look j t.1).1 h3
    obtain ⟨b, hb, rfl⟩ := List.mem_map.1 ha
    exact ⟨b, hb, e2, e3⟩
   ·rintro ⟨b, hb, e2, e3⟩
    have h3 := (h.look b.id k).2 ⟨pub b, List.mem_map_of_mem hb, rfl, e2, e3⟩
    have h4 := (h.ci.mem k b.id).2 h3
    refine Classical.byContradiction fun hn => ?_
    rw [lookM_none.2 hn] at h4
    cases h4
  simpa using hp.length_eq
theorem CR.row_eq {r : Ru} {c : CRows × CKeys} {al : List Al} (h : CR (·.1) (srcA r) (keyA r) c (al.map pub)) (k : ByteArray) : rowC c k = rise (srcsS r al k) := ext_ris (rowC_ris _ _) (rise_ris _) fun j => by
 rw [h.mem_row, mem_rise]
 unfold srcsS
 constructor
 ·rintro ⟨a, ha, e1, e2, e3⟩
  obtain ⟨b, hb, rfl⟩ := List.mem_map.1 ha
  exact List.mem_map.2 ⟨b, List.mem_filter.2 ⟨hb, by rw [Bool.and_eq_true, decide_eq_true_eq]; exact ⟨e2, e3⟩⟩, e1⟩
 ·intro hj
  obtain ⟨b, hb, e1⟩ := List.mem_map.1 hj
  obtain ⟨hb1, hb2⟩ := List.mem_filter.1 hb
  rw [Bool.and_eq_true, decide_eq_true_eq] at hb2
  exact ⟨pub b, List.mem_map_of_mem hb1, e1, hb2.1, hb2.2⟩
theorem sources17_ok (r : Ru) (al : List Al) (vl : Value) (a : Al) (w : World) (hr : r.Ok No w) (hz : r.Sz) (h4 : r.eq.length ≤ 1000) (hl : Sl No w vl 3 al.length (al.flatMap alC)) (hal : ∀ b ∈ al, AlOk No w b) (ha : AlOk No w a) (hb : al.length ≤ 1000) :
  Fx Tryz.prog 35 [.agg (ruC r).toArray, vl, .agg (alC a).toArray] w (fun u w' => Row w' 3 1 u (rise (srcsS r al (keyOf r a))).length (ints (rise (srcsS r al (keyOf r a)))) ∧ Fresh w.heap.size u ∧ Grow w w') := by
 obtain ⟨adl, cl, rfl⟩ := hl.shape
 refine enter Tryz.func35 rfl rfl rfl _ (Pick.sub (l := [0, 1, 2]) (.cons rfl (.cons rfl (.cons rfl .nil)))) ?_
 refine GG ?_
 refine OP (Does.box rfl) ?_
 rintro _ w1 ⟨b3, rfl, hn3⟩
 refine OP (Does.box rfl) ?_
 rintro _ w2 ⟨b5, rfl, hn5⟩
 have hg02 := hn3.grow.trans hn5.grow
 have hB3 := hn3.blk.mod hn5.grow (fun h => h)
 have hB5 := hn5.blk
 refine GG ?_
 refine RK.loop (fun s : Nat × Value => [(1, .slice adl al.length cl), (3, pp b3), (5, pp b5), (7, s.2), (8, .int .i64 (s.1 : Int))]) (fun s w' => Row w' 3 1 s.2 (srcsS r (al.take s.1) (keyOf r a)).length (ints (srcsS r (al.take s.1) (keyOf r a))) ∧ Fresh w2.heap.size s.2 ∧ Grow w2 w' ∧ s.1 ≤ al.length) (fun s => al.length - s.1) (0, .slice none 0 0) ⟨rfl, rfl, rfl, rfl, rfl, trivial⟩ ⟨by rw [List.take_zero]; exact Row.nil _ _ _, fun b e => by simp [Value.ownBlock] at e, Mod.refl _ _, by simp⟩ (fun s w' hI ih => ?_)
 obtain ⟨k, u⟩ := s
 obtain ⟨hrw, hf, hg, hk⟩ := hI
 simp only at hrw hf hk
 have hlen := srcsS_len r (al.take k) (keyOf r a)
 rw [List.length_take] at hlen
 have hg0 := hg02.trans hg
 refine GG ?_
 refine QQ (Yld.lenSl u49 rfl) ?_
 refine GG ?_
 refine CD (fun h12 => ?_) (fun h12 => ?_)
 ·obtain ⟨b, hbk⟩ : ∃ b, al[k]? = some b := ⟨al[k]'(by omega), List.getElem?_eq_getElem (by omega)⟩
  have hbo := hal b (List.mem_of_getElem? hbk)
  obtain ⟨b1, o1, c1', he1, _, _, hc1⟩ := hl.elem alC_len hbk
  cases he1
  have hsn := srcsS_snoc hbk r (keyOf r a)
  have hB3k := hB3.mod hg (fun h => h)
  have hB5k := hB5.mod hg (fun h => h)
  refine GG ?_
  refine RK.drawM No [(0, false), (1, false), (2, false), (3, false), (4, false), (5, true), (6, false), (7, false), (8, false), (9, false), (10, false), (11, false), (12, false), (13, false), (15, false), (16, false), (17, false), (18, false), (14, true), (19, true), (20, false), (21, false)] [] mixed (by kernel_rfl) ?_
  refine DQ (Yld.loadN (cs := ruC r) a30 rfl (atNM (blk0' hB3k) (fun h => h))) (Mod.drew _ _) ?_
  refine GG ?_
  refine DF (Yld.indexAddrN u49 i35 rfl rfl (by omega)) ?_
  refine DQ (Yld.loadN (cs := alC b) a35 rfl (atNM (fun q z hq => hg0.cell (hc1 q z hq) (fun h => h)) (fun h => h))) (Mod.drew _ _) ?_
  refine OD (Does.call rfl e33 (sourceR_ok No No r b _ ((hr.mod hg0).mod (Mod.drew _ _)) hz ((hbo.mod hg0).mod (Mod.drew _ _)))) ?_
  rintro _ w3 ⟨rfl, hg3⟩
  have hd3 := (Mod.drew No w').trans hg3
  refine ⟨hd3, ?_⟩
  refine DL.p rfl rfl rfl ?_
  refine SD 21 (fun h21 => ?_) (fun h21 => ?_)
  ·iterate 2 refine DF (Yld.pure rfl) ?_
   refine DF (Yld.indexAddrN u49 i35 rfl rfl (by omega)) ?_
   refine DF (Yld.fieldAddr fo35_1 rfl) ?_
   refine DQ (Yld.load p33 rfl (atM (hg0.cell (hc1 1 _ rfl) (fun h => h)) (fun h => h))) (hd3) ?_
   refine DF (Yld.fieldAddr fo30_3 rfl) ?_
   refine DQ (Yld.load p28 rfl (atM (hB3k.cell rfl) (fun h => h))) (hd3) ?_
   refine DF (Yld.fieldAddr fo35_1 rfl) ?_
   refine DQ (Yld.load p33 rfl (atM (hB5k.cell rfl) (fun h => h))) (hd3) ?_
   refine DF (Yld.fieldAddr fo30_3 rfl) ?_
   refine DQ (Yld.load p28 rfl (atM (hB3k.cell rfl) (fun h => h))) (hd3) ?_
   refine OD (Does.call rfl e34 (rproject_ok No No r.eq h4 b.ls hbo.z _ _ _ ((hbo.l.mod hg0).mod hd3) ((hr.e.mod hg0).mod hd3))) ?_
   rintro _ w4 ⟨rfl, hg4⟩
   have hd4 := hd3.trans hg4
   refine ⟨hd4, ?_⟩
   refine OD (Does.call rfl e34 (rproject_ok No No r.eq h4 a.ls ha.z _ _ _ ((ha.l.mod hg0).mod hd4) ((hr.e.mod hg0).mod hd4))) ?_
   rintro _ w5 ⟨rfl, hg5⟩
   have hd5 := hd4.trans hg5
   refine ⟨hd5, ?_⟩
   refine DF (Yld.pure rfl) ?_
   refine GG ?_
   refine CD (fun h36 => ?_) (fun h36 => ?_)
   ·have hyes : (isSrc r b && decide (keyOf r b = keyOf r a)) = true := by rw [show isSrc r b = true from h21, decide_eq_true (show keyOf r b = keyOf r a from h36)]; rfl
    have hgd := hg0.trans hd5
    refine GG ?_
    refine QQ (Yld.indexAddrN u49 i35 rfl rfl (by omega)) ?_
    refine QQ (Yld.fieldAddr fo35_0 rfl) ?_
    refine QQ (Yld.load p3 rfl (at1 (hgd.cell (hc1 0 _ rfl) (fun h => h)))) ?_
    refine OP (Does.slice1 u37 i3 rfl rfl rfl rfl rfl) ?_
    rintro _ w6 ⟨b6, rfl, hn6⟩
    refine OP (Does.append u37 i3 rfl rfl rfl rfl rfl ((hrw.mod hd5 (fun _ _ h => h)).mod hn6.grow (fun _ _ h => h)) (Sl.new hn6 1 1 rfl (by omega) (fun h => h)) (rfl) (by omega)) ?_
    rintro z7 w7 ⟨hr7, hm7, hu7⟩
    have hs5 := hd5.size
    have hs6 := hn6.grow.size
    have hs0 := hg.size
    refine RL.p rfl rfl ?_
    refine RL.done ?_
    refine RK.inBlock ?_
    refine RK.region ?_
    iterate 2 refine RL.p rfl rfl ?_
    refine RL.re (d := 14) rfl rfl (succ_i64 (by omega)) ?_
    refine GG ?_
    exact RK.back (ih (k + 1, z7) _ ⟨by
      simp only
      rw [hsn, if_pos hyes, List.length_append]
      have := hr7
      simp only [ints, List.map_append] at this ⊢
      exact this, fun y e => by
      rcases hu7 with h1 | h1
      ·exact hf y (h1 ▸ e)
      ·rw [h1] at e; cases e; omega, ((hg.trans hd5).trans hn6.grow).then hm7 (fun y hy e => by have := hf y e; omega), by simp only; omega⟩ (by simp only; omega)) ⟨rfl, rfl, rfl, rfl, rfl, trivial⟩
   ·have hno : ¬ (isSrc r b && decide (keyOf r b = keyOf r a)) = true := by rw [Bool.and_eq_true, decide_eq_true_eq]; exact fun h => h36 h.2
    refine RK.skip ?_
    refine RK.inBlock ?_
    refine RK.region ?_
    iterate 2 refine RL.p rfl rfl ?_
    refine RL.re (d := 14) rfl rfl (succ_i64 (by omega)) ?_
    refine GG ?_
    exact RK.back (ih (k + 1, u) _ ⟨by simp only; rw [hsn, if_neg hno, List.append_nil]; exact hrw.mod hd5 (fun _ _ h => h), hf, hg.trans hd5, by simp only; omega⟩ (by simp only; omega)) ⟨rfl, rfl, rfl, rfl, rfl, trivial⟩
  ·have hno : ¬ (isSrc r b && decide (keyOf r b = keyOf r a)) = true := by rw [show isSrc r b = false from by unfold isSrc; simpa using h21]; simp
   iterate 11 refine DL.no rfl (.no rfl rfl rfl rfl) rfl rfl ?_
   iterate 2 refine DL.lno rfl (.no rfl rfl rfl rfl) rfl rfl ?_
   refine DL.no rfl (.no rfl rfl rfl rfl) rfl rfl ?_
   refine GG ?_
   refine RK.condF rfl ?_
   refine RK.skip ?_
   refine RK.inBlock ?_
   refine RK.region ?_
   iterate 2 refine RL.p rfl rfl ?_
   refine RL.re (d := 14) rfl rfl (succ_i64 (by omega)) ?_
   refine GG ?_
   exact RK.back (ih (k + 1, u) _ ⟨by simp only; rw [hsn, if_neg hno, List.append_nil]; exact hrw.mod hd3 (fun _ _ h => h), hf, hg.trans hd3, by simp only; omega⟩ (by simp only; omega)) ⟨rfl, rfl, rfl, rfl, rfl, trivial⟩
 ·have ek : al.take k = al := List.take_of_length_le (by omega)
  rw [ek] at hrw hlen
  refine RK.exit rfl ?_
  refine GG ?_
  refine OP (Does.call rfl e92 (rising_ok No _ u _ (Sl.own hrw (fun _ _ h => h)) (by have := srcsS_len r al (keyOf r a); omega))) ?_
  rintro u3 w3 ⟨hr3, hf3, hg3⟩
  refine GG ?_
  refine RK.ret_of Tryz.func35 (res1 rfl rfl) ?_ _
  exact ⟨_, rfl, hr3, fun y e => by have h1 := hf3 y e; have h2 := hg0.size; omega, hg0.trans hg3⟩
end Go.Proofs.YthbjfhhiajihfaaGreat
set_option linter.unusedVariables false
set_option linter.unusedSimpArgs false
set_option maxHeartbeats 2000000
set_option maxRecDepth 100000
namespace Go.Proofs.YthbjfhhiajihfaaGreat
open Go Go.X Go.Rex
theorem eqF_mem (l : List Int) : ∀ (ns out : List ByteArray), ∀ x ∈ eqF l ns out, x ∈ out ∨ x ∈ ns
 | [], out, x, h => .inl h
 | nm :: ns, out, x, h => by
  unfold eqF at h
  split at h
  ·rcases eqF_mem l ns _ x h with h1 | h1
   ·split at h1
    ·rcases List.mem_append.1 h1 with h2 | h2
     ·exact .inl h2
     ·right; simp only [List.mem_singleton] at h2; subst h2; simp
    ·exact .inl h1
   ·exact .inr (List.mem_cons_of_mem _ h1)
  ·exact .inl h
theorem eqOf_size (l : List Int) : ∀ x ∈ eqOf l, x.size ≤ 9223372036854775807 := fun x hx => by
 rcases eqF_mem l enL [] x hx with h | h
 ·cases h
 ·simp only [enL, List.mem_cons, List.not_mem_nil, or_false] at h
  rcases h with rfl | rfl | rfl | rfl | rfl <;> decide
end Go.Proofs.YthbjfhhiajihfaaGreat
set_option linter.unusedVariables false
set_option linter.unusedSimpArgs false
set_option maxHeartbeats 4000000
set_option maxRecDepth 100000
namespace Go.Proofs.YthbjfhhiajihfaaGreat
open Go Go.X Go.Rex
theorem isRu_at2 (r : Ru) (v1 v2 v3 : Value) : isRu (ruAt r v1 v2 v3) = isRu r := by unfold isRu ruAt; rfl
theorem works_at (r : Ru) (v1 v2 v3 : Value) : worksRu (ruAt r v1 v2 v3) = worksRu r := by unfold worksRu largeRu; rw [isRu_at2]; rfl
theorem srcA_at (r : Ru) (v1 v2 v3 : Value) : srcA (ruAt r v1 v2 v3) = srcA r := by funext a; unfold srcA sourceS; rw [works_at]; rfl
theorem keyA_at (r : Ru) (v1 v2 v3 : Value) : keyA (ruAt r v1 v2 v3) = keyA r := rfl
theorem take_snoc {α : Type} {l : List α} {k : Nat} {x : α} (h : l[k]? = some x) : l.take (k + 1) = l.take k ++ [x] := by
 have hk := (List.getElem?_eq_some_iff.1 h).1
 rw [List.take_succ_eq_append_getElem hk, (List.getElem?_eq_some_iff.1 h).2]
noncomputable def freshN (r : Ru) (al : List Al) (k : ByteArray) : Nat := by classical exact if k ∈ keysD r al then 0 else 1
theorem freshN_yes {r : Ru} {al : List Al} {k : ByteArray} (h : k ∈ keysD r al) : freshN r al k = 0 := by unfold freshN; exact if_pos h
theorem freshN_no {r : Ru} {al : List Al} {k : ByteArray} (h : k ∉ keysD r al) : freshN r al k = 1 := by unfold freshN; exact if_neg h
theorem freshN_hit {r : Ru} {al : List Al} {b : Al} {k : ByteArray} (h1 : isSrc r b = true) (h2 : keyOf r b = k) : freshN r (al ++ [b]) k = 0 := freshN_yes (((keysD_spec r _).2 k).2 ⟨b, by simp, h1, h2⟩)
theorem freshN_miss {r : Ru} {al : List Al} {b : Al} {k : ByteArray} (h : ¬ (isSrc r b = true ∧ keyOf r b = k)) : freshN r (al ++ [b]) k = freshN r al k := by
 by_cases e : k ∈ keysD r al
 ·rw [freshN_yes e]
  obtain ⟨a, ha, h1⟩ := ((keysD_spec r _).2 k).1 e
  exact freshN_yes (((keysD_spec r _).2 k).2 ⟨a, List.mem_append_left _ ha, h1⟩)
 ·rw [freshN_no e]
  refine freshN_no fun h2 => ?_
  obtain ⟨a, ha, h1⟩ := ((keysD_spec r _).2 k).1 h2
  rcases List.mem_append.1 ha with ha | ha
  ·exact e (((keysD_spec r _).2 k).2 ⟨a, ha, h1⟩)
  ·rw [List.mem_singleton] at ha; subst ha; exact h h1
theorem keysD_grow {r : Ru} {al : List Al} {a : Al} (h : isSrc r a = true) : (keysD r (al ++ [a])).length = (keysD r al).length + freshN r al (keyOf r a) := by
 rw [keysD_snoc]
 by_cases e : keyOf r a ∈ keysD r al
 ·rw [kStep_no (fun h2 => h2.2 e), freshN_yes e]; rfl
 ·rw [kStep_yes ⟨h, e⟩, freshN_no e, List.length_append]; rfl
theorem keysD_same {r : Ru} {al : List Al} {a : Al} (h : isSrc r a = false) : keysD r (al ++ [a]) = keysD r al := by
 rw [keysD_snoc]
 exact kStep_no (fun h2 => by rw [h] at h2; exact absurd h2.1 (by decide))
theorem freshN_le (r : Ru) (al : List Al) (k : ByteArray) : freshN r al k ≤ 1 := by
 by_cases e : k ∈ keysD r al
 ·rw [freshN_yes e]; omega
 ·rw [freshN_no e]; omega
theorem cplays_ok (rd : Rd) (l : List S7) (vl : Value) (lb : List Int) (vb : Value) (w : World) (hrd : rd.Ok w) (hl : Sl No w vl 4 l.length (l.flatMap s7C)) (hls : ∀ s ∈ l, s.Ok No w)
    (hb : Sl No w vb 1 lb.length (ints lb)) (hbr : ∀ x ∈ lb, -9223372036854775808 ≤ x ∧ x ≤ 9223372036854775807) :
    Fx Tryz.prog 6 [.agg (rdC rd).toArray, vl, vb] w (fun u w' => u = .bool true ∧ Grow w w') := by
  refine enter Tryz.func6 rfl rfl rfl _ (Pick.sub (l := [0, 1, 2]) (.cons rfl (.cons rfl (.cons rfl .nil)))) ?_
  refine RK.seq ?_
  refine RK.region ?_
  refine RL.op (.free rfl) rfl rfl (Does.box rfl) ?_
  rintro _ w1 ⟨b3, rfl, hn3⟩
  refine RL.p rfl rfl ?_
  refine RL.done ?_
  refine RK.seq ?_
  refine RK.region ?_
  refine RL.q (.free rfl) rfl rfl (Yld.loadN (cs := rdC rd) a46 rfl (atN (blk0' hn3.blk))) ?_
  refine RL.op (.free rfl) rfl rfl (Does.call rfl e27 (rule62_ok rd _ (hrd.mod hn3.grow))) ?_
  rintro _ w2 ⟨x1, x2, x3, rfl, hok2, hg2⟩
  refine RL.op (.free rfl) rfl rfl (Does.alloc i30) ?_
  rintro _ w3 ⟨b7, rfl, hn7⟩
  refine RL.op' (.free rfl) rfl (Does.storeN i30 rfl rfl rfl (ruC_one hok2) hn7.blk (Nat.le_refl 6)) ?_
  rintro _ w4 ⟨hb4', hm4, _⟩
  have ha7 := hn7.at_
  have hz2 := (hn3.grow.trans hg2).size
  have hg24 : Grow w2 w4 := hn7.grow.then hm4 (fun y hy e => by have e' : y = b7 := e; omega)
  have hr4 : (ruOf rd x1 x2 x3).Ok No w4 := hok2.noM.mod hg24
  have hrz : (ruOf rd x1 x2 x3).Sz := ⟨matsS_name _ _, matsS_name _ _, eqOf_size _⟩
  have hrf := ruOf_few rd x1 x2 x3
  have h4 : (ruOf rd x1 x2 x3).eq.length ≤ 4 := eqOf_len _
  have hB4 : Blk w4 b7 30 (ruC (ruOf rd x1 x2 x3)) := hb4'
  generalize ruOf rd x1 x2 x3 = r at *
  refine RL.done ?_
  refine RK.seq ?_
  refine RK.region ?_
  refine RL.q (.free rfl) rfl rfl (Yld.loadN (cs := ruC r) a30 rfl (atN (blk0' hB4))) ?_
  refine RL.op (.free rfl) rfl rfl (Does.call rfl e18 (cacheNew_ok _ _ _ hr4 hrf)) ?_
  rintro _ w5 ⟨p, mr, mk, v1, v2, v3, rfl, ⟨hp, hmr, hmk, hpl⟩, hc0, hg5⟩
  have hg04 : Grow w w4 := (hn3.grow.trans hg2).trans hg24
  have hg05 := hg04.trans hg5
  have hz4 := hg04.size
  have hc5 : CacheAt (fun b => b = mr ∨ b = mk) w5 p mr mk (ruAt r v1 v2 v3) ([], []) := hc0 _ (fun b _ e => .inr e)
  have hMM : ∀ b, (b = mr ∨ b = mk) → No b ∨ w.heap.size ≤ b := fun b e => .inr (by rcases e with rfl | rfl <;> omega)
  have h4' : (ruAt r v1 v2 v3).eq.length ≤ 4 := h4
  have hfew' : (ruAt r v1 v2 v3).Few := ⟨hrf.s, hrf.t, hrf.e⟩
  refine RL.p rfl rfl ?_
  refine RL.done ?_
  iterate 2 refine RK.seq ?_
  refine RK.region ?_
  refine RL.p rfl rfl ?_
  refine RL.q (.free rfl) rfl rfl (Yld.eqPtr Tryz.underlying22 rfl rfl) ?_
  refine RL.done ?_
  refine RK.condF (hcF rfl (rfl)) ?_
  refine RK.skip ?_
  refine RK.seq ?_
  refine RK.region ?_
  iterate 2 refine RL.p rfl rfl ?_
  refine RL.op (.free rfl) rfl rfl (Does.call rfl e28 (played_ok (fun b => b = mr ∨ b = mk) _ p mr mk _ hc5 (.inl rfl) (.inr rfl) hc5.lts l vl (hl.pass (by omega) hg05 hMM) (fun s hs => ⟨(hls s hs).s.pass (by omega) hg05 hMM, (hls s hs).r, (hls s hs).k⟩))) ?_
  rintro u6 w6 ⟨al, hal, hr6, hok6, hf6, hc6, hm6⟩
  have hcr0 := playS_CR (ruAt r v1 v2 v3) (l.take 60)
  obtain ⟨hcb, hcl⟩ := playS_B (ruAt r v1 v2 v3) l 60
  rw [← hal, srcA_at, keyA_at] at hcr0
  rw [← hal, List.length_map] at hcl
  generalize (playS (ruAt r v1 v2 v3) (l.take 60)).1 = c at *
  have hcr : CR (·.1) (srcA r) (keyA r) c (al.map pub) := hcr0
  obtain ⟨hn2, hn1⟩ := hcr.counts
  have hg06 : Grow w w6 := hg05.then hm6 (fun b hb e => by rcases e with rfl | rfl <;> omega)
  have hB6 := (hB4.mod hg5 (fun h => h)).mod hm6 (fun e => by have := hB4.lt; rcases e with rfl | rfl <;> omega)
  have hr6ok : r.Ok No w6 := by
      have h1 : r.Ok (fun b => b = mr ∨ b = mk) w5 := ⟨hr4.s.pass (by omega) hg5 (fun b e => .inr (by rcases e with rfl | rfl <;> omega)), hr4.t.pass (by omega) hg5 (fun b e => .inr (by rcases e with rfl | rfl <;> omega)), hr4.e.pass (by omega) hg5 (fun b e => .inr (by rcases e with rfl | rfl <;> omega))⟩
      exact (h1.mod hm6).noM
  obtain ⟨adu, cu, rfl⟩ := hr6.slice
  have hsl : Sl No w6 (.slice adu al.length cu) 3 al.length (al.flatMap alC) := Sl.own hr6 (fun _ _ h => h)
  have hak : ∀ a ∈ al, AlOk No w6 a := fun a ha => (hok6 a ha).noM
  clear hok6 hal hcr0 hc0 hc5 hl hls hm6 hB4 hr4 hok2
  refine RL.p rfl rfl ?_
  refine RL.done ?_
  refine RK.seq ?_
  refine RK.region ?_
  iterate 2 refine RL.p rfl rfl ?_
  refine RL.done ?_
  iterate 2 refine RK.seq ?_
  refine RK.region ?_
  refine RL.p rfl rfl ?_
  refine RL.done ?_
  refine RK.block ?_
  refine RK.loop (fun k : Nat => [(2, vb), (7, pp b7), (8, pp p), (9, .slice adu al.length cu), (10, .int .i64 (cntS r (al.take k) : Int)), (11, .int .i64 ((keysD r (al.take k)).length : Int)), (12, .int .i64 (k : Int))]) (fun k w' => Grow w6 w' ∧ k ≤ al.length) (fun k => al.length - k) 0 ⟨rfl, rfl, rfl, rfl, rfl, rfl, rfl, trivial⟩ ⟨Mod.refl _ _, by omega⟩ (fun k w' hI ih => ?_)
  obtain ⟨hg, hk⟩ := hI
  have hck := hc6.grow hg
  have hBk := hB6.mod hg (fun h => h)
  have hcnt := cntS_le r (al.take k)
  have hkd := keysD_len r (al.take k)
  rw [List.length_take] at hcnt hkd
  iterate 2 refine RK.seq ?_
  refine RK.region ?_
  iterate 2 refine RL.p rfl rfl ?_
  refine RL.q (.free rfl) rfl rfl (Yld.lenSl u49 rfl) ?_
  refine RL.p rfl rfl ?_
  refine RL.done ?_
  first | refine RK.condD rfl (fun h28 => ?_) (fun h28 => ?_) | refine RK.condN rfl (fun h28 => ?_) (fun h28 => ?_) | refine RK.cond rfl (fun h28 => ?_) (fun h28 => ?_)
  · obtain ⟨a, hak1⟩ : ∃ a, al[k]? = some a := ⟨al[k]'(by omega), List.getElem?_eq_getElem (by omega)⟩
    have hao := hak a (List.mem_of_getElem? hak1)
    obtain ⟨b1, o1, c1', he1, _, _, hc1⟩ := hsl.elem alC_len hak1
    cases he1
    have htk := take_snoc hak1
    refine RK.skip ?_
    refine RK.seq ?_
    refine RK.block ?_
    iterate 2 refine RK.seq ?_
    refine RK.drawM No [(0, false), (1, false), (2, false), (3, false), (4, false), (5, true), (6, false)] [] mixed (by kernel_rfl) ?_
    refine DL.q rfl (.free rfl) rfl rfl rfl (Yld.loadN (cs := ruC r) a30 rfl (atNM (blk0' hBk) (fun h => h))) (Mod.drew _ _) ?_
    iterate 2 refine DL.p rfl rfl rfl ?_
    refine DL.qf rfl (.free rfl) rfl rfl (Yld.indexAddrN u49 i35 rfl rfl (by omega)) ?_
    refine DL.q rfl (.free rfl) rfl rfl rfl (Yld.loadN (cs := alC a) a35 rfl (atNM (fun q z hq => hg.cell (hc1 q z hq) (fun h => h)) (fun h => h))) (Mod.drew _ _) ?_
    refine DL.op rfl (.free rfl) rfl rfl (Does.call rfl e33 (sourceR_ok No No r a _ ((hr6ok.mod hg).mod (Mod.drew _ _)) hrz ((hao.mod hg).mod (Mod.drew _ _)))) ?_
    rintro _ w7 ⟨rfl, hg7⟩
    have hd7 := (Mod.drew No w').trans hg7
    refine ⟨hd7, ?_⟩
    refine DL.p rfl rfl rfl ?_
    refine DL.done ?_
    first | refine RK.condD rfl (fun h37 => ?_) (fun h37 => ?_) | refine RK.condN rfl (fun h37 => ?_) (fun h37 => ?_) | refine RK.cond rfl (fun h37 => ?_) (fun h37 => ?_)
    · have hno : isSrc r a = false := by unfold isSrc; simpa using h37
      refine RK.exit rfl ?_
      refine RK.region ?_
      iterate 2 refine RL.p rfl rfl ?_
      refine RL.re (d := 30) rfl rfl (succ_i64 (by omega)) ?_
      refine RL.p rfl rfl ?_
      refine RL.done ?_
      exact RK.back (ih (k + 1) _ ⟨hg.trans hd7, by omega⟩ (by omega)) ⟨rfl, rfl, rfl, rfl, by rw [htk, cntS_snoc, if_neg (by rw [hno]; decide)]; rfl, by rw [htk, keysD_same hno]; rfl, rfl, trivial⟩
    · have hyes : isSrc r a = true := by unfold isSrc; simpa using h37
      have hg7' := hg.trans hd7
      refine RK.skip ?_
      refine RK.seq ?_
      refine RK.region ?_
      iterate 2 refine RL.p rfl rfl ?_
      refine RL.re (d := 39) rfl rfl (succ_i64 (by omega)) ?_
      refine RL.p rfl rfl ?_
      refine RL.done ?_
      refine RK.seq ?_
      refine RK.region ?_
      refine RL.p rfl rfl ?_
      refine RL.done ?_
      iterate 2 refine RK.seq ?_
      refine RK.region ?_
      refine RL.p rfl rfl ?_
      refine RL.done ?_
      refine RK.block ?_
      refine RK.loop (fun j : Nat => [(2, vb), (7, pp b7), (8, pp p), (9, .slice (some ⟨b1, o1, none⟩) al.length cu), (10, .int .i64 ((cntS r (al.take k) : Int) + 1)), (11, .int .i64 ((keysD r (al.take k)).length : Int)), (12, .int .i64 (k : Int)), (13, .int .i64 (freshN r (al.take j) (keyOf r a) : Int)), (14, .int .i64 (j : Int))]) (fun j w' => Grow w6 w' ∧ j ≤ k) (fun j => k - j) 0 ⟨rfl, rfl, rfl, rfl, rfl, rfl, rfl, by rw [List.take_zero, freshN_no (by simp [keysD])]; rfl, rfl, trivial⟩ ⟨hg7', by omega⟩ (fun j w8 hI2 ih2 => ?_)
      obtain ⟨hg8, hj⟩ := hI2
      have hB8 := hB6.mod hg8 (fun h => h)
      iterate 2 refine RK.seq ?_
      refine RK.region ?_
      iterate 3 refine RL.p rfl rfl ?_
      refine RL.done ?_
      first | refine RK.condD rfl (fun h42 => ?_) (fun h42 => ?_) | refine RK.condN rfl (fun h42 => ?_) (fun h42 => ?_) | refine RK.cond rfl (fun h42 => ?_) (fun h42 => ?_)
      · obtain ⟨b, hbj⟩ : ∃ b, al[j]? = some b := ⟨al[j]'(by omega), List.getElem?_eq_getElem (by omega)⟩
        have hbo := hak b (List.mem_of_getElem? hbj)
        obtain ⟨b2, o2, c2', he2, _, _, hc2⟩ := hsl.elem alC_len hbj
        cases he2
        have htj := take_snoc hbj
        refine RK.skip ?_
        refine RK.seq ?_
        refine RK.block ?_
        refine RK.seq ?_
        refine RK.drawM No [(0, false), (1, false), (2, false), (3, false), (4, false), (5, true), (6, false), (7, false), (8, false), (9, false), (10, false), (11, false), (12, false), (13, false), (15, false), (16, false), (17, false), (18, false), (19, false), (20, false), (21, false), (14, true), (22, true), (23, false), (24, false)] [] mixed (by kernel_rfl) ?_
        refine DL.q rfl (.free rfl) rfl rfl rfl (Yld.loadN (cs := ruC r) a30 rfl (atNM (blk0' hB8) (fun h => h))) (Mod.drew _ _) ?_
        iterate 2 refine DL.p rfl rfl rfl ?_
        refine DL.qf rfl (.free rfl) rfl rfl (Yld.indexAddrN u49 i35 rfl rfl (by omega)) ?_
        refine DL.q rfl (.free rfl) rfl rfl rfl (Yld.loadN (cs := alC b) a35 rfl (atNM (fun q z hq => hg8.cell (hc2 q z hq) (fun h => h)) (fun h => h))) (Mod.drew _ _) ?_
        refine DL.op rfl (.free rfl) rfl rfl (Does.call rfl e33 (sourceR_ok No No r b _ ((hr6ok.mod hg8).mod (Mod.drew _ _)) hrz ((hbo.mod hg8).mod (Mod.drew _ _)))) ?_
        rintro _ w9 ⟨rfl, hg9⟩
        have hd9 := (Mod.drew No w8).trans hg9
        refine ⟨hd9, ?_⟩
        refine DL.p rfl rfl rfl ?_
        first | refine DL.splitD (d := 51) rfl rfl (fun h51 => ?_) (fun h51 => ?_) | refine DL.splitN (d := 51) rfl rfl (fun h51 => ?_) (fun h51 => ?_) | refine DL.split (d := 51) rfl rfl (fun h51 => ?_) (fun h51 => ?_)
        · iterate 2 refine DL.qf rfl (.yes rfl rfl rfl) rfl rfl (Yld.pure rfl) ?_
          refine DL.qf rfl (.yes rfl rfl rfl) rfl rfl (Yld.indexAddrN u49 i35 rfl rfl (by omega)) ?_
          refine DL.qf rfl (.yes rfl rfl rfl) rfl rfl (Yld.fieldAddr fo35_1 rfl) ?_
          refine DL.q rfl (.yes rfl rfl rfl) rfl rfl rfl (Yld.load p33 rfl (atM (hg8.cell (hc2 1 _ rfl) (fun h => h)) (fun h => h))) (hd9) ?_
          refine DL.qf rfl (.yes rfl rfl rfl) rfl rfl (Yld.fieldAddr fo30_3 rfl) ?_
          refine DL.q rfl (.yes rfl rfl rfl) rfl rfl rfl (Yld.load p28 rfl (atM (hB8.cell rfl) (fun h => h))) (hd9) ?_
          iterate 2 refine DL.qf rfl (.yes rfl rfl rfl) rfl rfl (Yld.pure rfl) ?_
          refine DL.qf rfl (.yes rfl rfl rfl) rfl rfl (Yld.indexAddrN u49 i35 rfl rfl (by omega)) ?_
          refine DL.qf rfl (.yes rfl rfl rfl) rfl rfl (Yld.fieldAddr fo35_1 rfl) ?_
          refine DL.q rfl (.yes rfl rfl rfl) rfl rfl rfl (Yld.load p33 rfl (atM (hg8.cell (hc1 1 _ rfl) (fun h => h)) (fun h => h))) (hd9) ?_
          refine DL.qf rfl (.yes rfl rfl rfl) rfl rfl (Yld.fieldAddr fo30_3 rfl) ?_
          refine DL.q rfl (.yes rfl rfl rfl) rfl rfl rfl (Yld.load p28 rfl (atM (hB8.cell rfl) (fun h => h))) (hd9) ?_
          refine DL.op rfl (.yes rfl rfl rfl) rfl rfl (Does.call rfl e34 (rproject_ok No No r.eq (by omega) b.ls hbo.z _ _ _ ((hbo.l.mod hg8).mod hd9) ((hr6ok.e.mod hg8).mod hd9))) ?_
          rintro _ w10 ⟨rfl, hg10⟩
          have hd10 := hd9.trans hg10
          refine ⟨hd10, ?_⟩
          refine DL.op rfl (.yes rfl rfl rfl) rfl rfl (Does.call rfl e34 (rproject_ok No No r.eq (by omega) a.ls hao.z _ _ _ ((hao.l.mod hg8).mod hd10) ((hr6ok.e.mod hg8).mod hd10))) ?_
          rintro _ w11 ⟨rfl, hg11⟩
          have hd11 := hd10.trans hg11
          refine ⟨hd11, ?_⟩
          refine DL.qf rfl (.yes rfl rfl rfl) rfl rfl (Yld.pure rfl) ?_
          refine DL.p rfl rfl rfl ?_
          refine DL.done ?_
          first | refine RK.condD rfl (fun h69 => ?_) (fun h69 => ?_) | refine RK.condN rfl (fun h69 => ?_) (fun h69 => ?_) | refine RK.cond rfl (fun h69 => ?_) (fun h69 => ?_)
          · refine RK.region ?_
            refine RL.p rfl rfl ?_
            refine RL.done ?_
            refine RK.inBlock ?_
            refine RK.region ?_
            iterate 2 refine RL.p rfl rfl ?_
            refine RL.re (d := 44) rfl rfl (succ_i64 (by omega)) ?_
            refine RL.p rfl rfl ?_
            refine RL.done ?_
            exact RK.back (ih2 (j + 1) _ ⟨hg8.trans hd11, by omega⟩ (by omega)) ⟨rfl, rfl, rfl, rfl, rfl, rfl, rfl, by rw [htj, freshN_hit (k := keyOf r a) h51 h69]; rfl, rfl, trivial⟩
          · refine RK.skip ?_
            refine RK.inBlock ?_
            refine RK.region ?_
            iterate 2 refine RL.p rfl rfl ?_
            refine RL.re (d := 44) rfl rfl (succ_i64 (by omega)) ?_
            refine RL.p rfl rfl ?_
            refine RL.done ?_
            exact RK.back (ih2 (j + 1) _ ⟨hg8.trans hd11, by omega⟩ (by omega)) ⟨rfl, rfl, rfl, rfl, rfl, rfl, rfl, by rw [htj, freshN_miss (k := keyOf r a) (fun h => h69 h.2)]; rfl, rfl, trivial⟩
        · have hmiss : ¬ (isSrc r b = true ∧ keyOf r b = keyOf r a) := fun h => by
              have h1 : sourceS r b.ls b.val = false := by simpa using h51
              have h2 : sourceS r b.ls b.val = true := h.1
              rw [h1] at h2; cases h2
          iterate 14 refine DL.no rfl (.no rfl rfl rfl rfl) rfl rfl ?_
          iterate 2 refine DL.lno rfl (.no rfl rfl rfl rfl) rfl rfl ?_
          refine DL.no rfl (.no rfl rfl rfl rfl) rfl rfl ?_
          refine DL.p rfl rfl rfl ?_
          refine DL.done ?_
          refine RK.condF rfl ?_
          refine RK.skip ?_
          refine RK.inBlock ?_
          refine RK.region ?_
          iterate 2 refine RL.p rfl rfl ?_
          refine RL.re (d := 44) rfl rfl (succ_i64 (by omega)) ?_
          refine RL.p rfl rfl ?_
          refine RL.done ?_
          exact RK.back (ih2 (j + 1) _ ⟨hg8.trans hd9, by omega⟩ (by omega)) ⟨rfl, rfl, rfl, rfl, rfl, rfl, rfl, by rw [htj, freshN_miss hmiss]; rfl, rfl, trivial⟩
      · obtain rfl : j = k := by omega
        have hfl := freshN_le r (al.take j) (keyOf r a)
        have hck8 := hc6.grow hg8
        refine RK.exit rfl ?_
        refine RK.seq ?_
        refine RK.region ?_
        iterate 3 refine RL.p rfl rfl ?_
        refine RL.re (d := 72) rfl rfl (add_i64 (z := (((keysD r (al.take j)).length + freshN r (al.take j) (keyOf r a) : Nat) : Int)) (by omega) (by omega) (by omega)) ?_
        refine RL.p rfl rfl ?_
        refine RL.done ?_
        refine RK.seq ?_
        refine RK.drawM No [(0, false), (1, false), (2, false), (3, false), (4, false), (6, false), (7, false), (8, false), (9, false), (10, false), (11, false), (5, true), (12, true), (13, true), (14, false)] [] mixed (by kernel_rfl) ?_
        iterate 3 refine DL.p rfl rfl rfl ?_
        refine DL.qf rfl (.free rfl) rfl rfl (Yld.indexAddrN u49 i35 rfl rfl (by omega)) ?_
        refine DL.q rfl (.free rfl) rfl rfl rfl (Yld.loadN (cs := alC a) a35 rfl (atNM (fun q z hq => hg8.cell (hc1 q z hq) (fun h => h)) (fun h => h))) (Mod.drew _ _) ?_
        refine DL.q rfl (.free rfl) rfl rfl rfl (Yld.loadN (cs := ruC r) a30 rfl (atNM (blk0' hB8) (fun h => h))) (Mod.drew _ _) ?_
        iterate 3 refine DL.p rfl rfl rfl ?_
        refine DL.qf rfl (.free rfl) rfl rfl (Yld.indexAddrN u49 i35 rfl rfl (by omega)) ?_
        refine DL.q rfl (.free rfl) rfl rfl rfl (Yld.loadN (cs := alC a) a35 rfl (atNM (fun q z hq => hg8.cell (hc1 q z hq) (fun h => h)) (fun h => h))) (Mod.drew _ _) ?_
        refine DL.op rfl (.free rfl) rfl rfl (Does.call rfl e22 (cacheSources_ok (fun b => b = mr ∨ b = mk) No _ p mr mk _ c (hck8.grow (Mod.drew _ _)) h4' a ((hao.mod hg8).mod (Mod.drew _ _)) (hcb.mono (by omega)))) ?_
        rintro z9 w9 ⟨hr9, hf9, hg9⟩
        have hd9 := (Mod.drew No w8).trans hg9
        refine ⟨hd9, ?_⟩
        refine DL.op rfl (.free rfl) rfl rfl (Does.call rfl e35 (sources17_ok r al _ a _ ((hr6ok.mod hg8).mod hd9) hrz (by omega) ((hsl.mod hg8).mod hd9) (fun b hb => ((hak b hb).mod hg8).mod hd9) ((hao.mod hg8).mod hd9) (by omega))) ?_
        rintro z10 w10 ⟨hr10, hf10, hg10⟩
        have hd10 := hd9.trans hg10
        refine ⟨hd10, ?_⟩
        refine DL.op rfl (.free rfl) rfl rfl (Does.call rfl e23 (sameInts_ok No _ _ z9 z10 _ (Sl.own (hr9.mod hg10 (fun _ _ h => h)) (fun _ _ h => h)) (Sl.own hr10 (fun _ _ h => h)))) ?_
        rintro _ w11 ⟨rfl, hg11⟩
        have hd11 := hd10.trans hg11
        refine ⟨hd11, ?_⟩
        refine DL.p rfl rfl rfl ?_
        refine DL.done ?_
        refine RK.condF (hcF rfl (congrArg (fun b => !b) (decide_eq_true (hcr.row_eq (keyOf r a))))) ?_
        refine RK.skip ?_
        refine RK.inBlock ?_
        refine RK.region ?_
        iterate 2 refine RL.p rfl rfl ?_
        refine RL.re (d := 30) rfl rfl (succ_i64 (by omega)) ?_
        refine RL.p rfl rfl ?_
        refine RL.done ?_
        exact RK.back (ih (j + 1) _ ⟨hg8.trans hd11, by omega⟩ (by omega)) ⟨rfl, rfl, rfl, rfl, by rw [htk, cntS_snoc, if_pos hyes]; rfl, by rw [htk, keysD_grow hyes]; rfl, rfl, trivial⟩
  · have ek : al.take k = al := List.take_of_length_le (by omega)
    rw [ek]
    refine RK.exit rfl ?_
    refine RK.seq ?_
    refine RK.region ?_
    refine RL.p rfl rfl ?_
    refine RL.op (.free rfl) rfl rfl (Does.call rfl e31 (labels_ok No lb vb _ ((hb.mod hg06).mod hg) hbr)) ?_
    rintro _ w7 ⟨ad7, c7, rfl, hr7, hf7, hg7⟩
    refine RL.q (.free rfl) rfl rfl (Yld.build (v := .agg (alC ⟨0, labelsS lb, 0, .slice ad7 (labelsS lb).length c7⟩).toArray) rfl (fun w => by kernel_rfl)) ?_
    refine RL.op (.free rfl) rfl rfl (Does.alloc i35) ?_
    rintro _ w8 ⟨b15, rfl, hn15⟩
    refine RL.op' (.free rfl) rfl (Does.storeN i35 rfl rfl rfl rfl hn15.blk (Nat.le_refl 3)) ?_
    rintro _ w9 ⟨hb9', hm9, _⟩
    have ha15 := hn15.at_
    have hb9 : Blk w9 b15 35 (alC ⟨0, labelsS lb, 0, .slice ad7 (labelsS lb).length c7⟩) := hb9'
    have hg79 : Grow w7 w9 := hn15.grow.then hm9 (fun y hy e => by have e' : y = b15 := e; omega)
    have hA9 : AlOk No w9 ⟨0, labelsS lb, 0, .slice ad7 (labelsS lb).length c7⟩ := ⟨(Sl.own hr7 (fun _ _ h => h)).mod hg79, labelsS_z lb⟩
    have hg9 := (hg.trans hg7).trans hg79
    generalize (⟨0, labelsS lb, 0, .slice ad7 (labelsS lb).length c7⟩ : Al) = a at *
    have hck9 := hc6.grow hg9
    have hB9 := hB6.mod hg9 (fun h => h)
    refine RL.done ?_
    refine RK.seq ?_
    refine RK.drawM No [(0, false), (1, false), (3, false), (4, false), (5, false), (2, true), (6, true), (7, true), (8, false), (9, false), (11, false), (10, true), (12, false), (13, false), (14, false), (15, false), (17, false), (16, true), (18, false), (19, false), (20, false), (21, false), (23, false), (22, true), (24, true), (25, false), (26, false), (27, true), (28, false), (29, false)] [] mixed (by kernel_rfl) ?_
    refine DL.p rfl rfl rfl ?_
    refine DL.q rfl (.free rfl) rfl rfl rfl (Yld.loadN (cs := alC a) a35 rfl (atNM (blk0' hb9) (fun h => h))) (Mod.drew _ _) ?_
    refine DL.q rfl (.free rfl) rfl rfl rfl (Yld.loadN (cs := ruC r) a30 rfl (atNM (blk0' hB9) (fun h => h))) (Mod.drew _ _) ?_
    refine DL.p rfl rfl rfl ?_
    refine DL.q rfl (.free rfl) rfl rfl rfl (Yld.loadN (cs := alC a) a35 rfl (atNM (blk0' hb9) (fun h => h))) (Mod.drew _ _) ?_
    refine DL.op rfl (.free rfl) rfl rfl (Does.call rfl e22 (cacheSources_ok (fun b => b = mr ∨ b = mk) No _ p mr mk _ c (hck9.grow (Mod.drew _ _)) h4' a (hA9.mod (Mod.drew _ _)) (hcb.mono (by omega)))) ?_
    rintro z10 w10 ⟨hr10, hf10, hg10⟩
    have hd10 := (Mod.drew No w9).trans hg10
    refine ⟨hd10, ?_⟩
    refine DL.op rfl (.free rfl) rfl rfl (Does.call rfl e35 (sources17_ok r al _ a _ ((hr6ok.mod hg9).mod hd10) hrz (by omega) ((hsl.mod hg9).mod hd10) (fun b hb => ((hak b hb).mod hg9).mod hd10) (hA9.mod hd10) (by omega))) ?_
    rintro z11 w11 ⟨hr11, hf11, hg11⟩
    have hd11 := hd10.trans hg11
    refine ⟨hd11, ?_⟩
    refine DL.op rfl (.free rfl) rfl rfl (Does.call rfl e23 (sameInts_ok No _ _ z10 z11 _ (Sl.own (hr10.mod hg11 (fun _ _ h => h)) (fun _ _ h => h)) (Sl.own hr11 (fun _ _ h => h)))) ?_
    rintro _ w12 ⟨rfl, hg12⟩
    have hd12 := hd11.trans hg12
    refine ⟨hd12, ?_⟩
    refine DL.p rfl rfl rfl ?_
    refine DL.knownT (d := 99) rfl rfl (decide_eq_true (hcr.row_eq (keyOf r a))) ?_
    iterate 2 refine DL.qf rfl (.yes rfl rfl rfl) rfl rfl (Yld.pure rfl) ?_
    refine DL.op rfl (.yes rfl rfl rfl) rfl rfl (Does.call rfl e24 (cacheLen_ok _ _ p mr mk _ _ (hck9.grow hd12))) ?_
    rintro _ w13 ⟨rfl, hg13⟩
    have hd13 := hd12.trans hg13
    refine ⟨hd13, ?_⟩
    refine DL.qf rfl (.yes rfl rfl rfl) rfl rfl (Yld.pure rfl) ?_
    iterate 2 refine DL.p rfl rfl rfl ?_
    refine DL.knownT (d := 105) rfl rfl (decide_eq_true (by rw [hn2])) ?_
    iterate 2 refine DL.qf rfl (.yes rfl rfl rfl) rfl rfl (Yld.pure rfl) ?_
    refine DL.op rfl (.yes rfl rfl rfl) rfl rfl (Does.call rfl e25 (cacheKeys_ok _ _ p mr mk _ _ (hck9.grow hd13))) ?_
    rintro _ w14 ⟨rfl, hg14⟩
    have hd14 := hd13.trans hg14
    refine ⟨hd14, ?_⟩
    refine DL.qf rfl (.yes rfl rfl rfl) rfl rfl (Yld.pure rfl) ?_
    iterate 2 refine DL.p rfl rfl rfl ?_
    refine DL.knownT (d := 111) rfl rfl (decide_eq_true (by rw [hn1])) ?_
    refine DL.qf rfl (.yes rfl rfl rfl) rfl rfl (Yld.pure rfl) ?_
    refine DL.q rfl (.yes rfl rfl rfl) rfl rfl rfl (Yld.loadN (cs := ruC r) a30 rfl (atNM (blk0' hB9) (fun h => h))) (hd14) ?_
    refine DL.op rfl (.yes rfl rfl rfl) rfl rfl (Does.call rfl e37 (cacheRule_ok _ _ p mr mk _ _ (hck9.grow hd14) hfew')) ?_
    rintro _ w15 ⟨y1, y2, y3, rfl, hok15, hg15⟩
    have hd15 := hd14.trans hg15
    refine ⟨hd15, ?_⟩
    refine DL.op rfl (.yes rfl rfl rfl) rfl rfl (Does.call rfl e36 (alikeRu_ok No No r (ruAt (ruAt r v1 v2 v3) y1 y2 y3) rfl _ ((hr6ok.mod hg9).mod hd15) hok15)) ?_
    rintro _ w16 ⟨rfl, hg16⟩
    have hd16 := hd15.trans hg16
    refine ⟨hd16, ?_⟩
    iterate 2 refine DL.p rfl rfl rfl ?_
    refine DL.knownT (d := 117) rfl rfl (rfl) ?_
    refine DL.op rfl (.yes rfl rfl rfl) rfl rfl (Does.call rfl e3 (cruns_ok _)) ?_
    rintro _ w17 ⟨rfl, hg17⟩
    have hd17 := hd16.trans hg17
    refine ⟨hd17, ?_⟩
    iterate 2 refine DL.p rfl rfl rfl ?_
    refine DL.done ?_
    refine RK.ret_of Tryz.func6 (res1 rfl rfl) ?_ _
    exact ⟨_, rfl, rfl, (hg06.trans hg9).trans hd17⟩
end Go.Proofs.YthbjfhhiajihfaaGreat
namespace Go.Proofs.YthbjfhhiajihfaaGreat.cachePlays
open Go.ChangeShapes Go.WideShapes Go.ChangeAt Go.RowKit Go.X
set_option linter.unusedVariables false
theorem own : ownKnob Tryz.prog.godebug = none := by kernel_rfl
theorem laidOut : laidOutB Tryz.prog = true := by kernel_rfl
theorem params_ok : ∀ t ∈ Tryz.f6.params.toList, Tryz.prog.readableRec t = true ∧ t < Tryz.prog.types.size := by
 rw [Tryz.params6]
 intro t ht
 simp only [List.mem_cons, List.not_mem_nil, or_false] at ht
 rcases ht with rfl | rfl | rfl <;> exact ⟨by kernel_rfl, of_decide_eq_true (by kernel_rfl)⟩
set_option maxRecDepth 100000 in
theorem lifted (os : Os) (started : os.Started) (H : Type) (enc : TypeId × Value → H) :
  ReturnsInHanded {} Tryz.checked os 6 .any (Rows.cachePlaysSpec.pre6 enc Tryz.prog Tryz.f6 Rows.cachePlaysRow.domain false) (Rows.cachePlaysSpec.post enc Tryz.prog Tryz.f6 false true false false) := by
 refine returnsInHanded_of_change (C := Tryz.checked) own started (by kernel_rfl) Tryz.func6
  (ChangeSpec.witness6 (enc := enc) (C := Tryz.checked) false ⟨#[], #[.agg #[.slice none 0 0, .slice none 0 0, .int .i64 0, .float .f64 0, .float .f64 0, .slice none 0 0], .slice none 0 0, .slice none 0 0], []⟩ 8 (by kernel_rfl) (by kernel_rfl) (by kernel_rfl) (by kernel_rfl)) ?_
 intro W base args ds gs before hval0 hW hcnd _
 have hval : ∀ (j : Nat) t v, Tryz.f6.params[j]? = some t → args[j]? = some v → Value.okWide Tryz.prog W .any base t v := hval0
 have hW' := hW
 obtain ⟨p, q, hA0, hV, rfl, hfz, hnd⟩ := hW
 have hlt : ∀ x ∈ p, x.block < W.heap.size := fun x hx => hW'.lt x (List.mem_append_left _ hx)
 have hA : DataW.TrodAll enc Tryz.prog W 0 (fun _ => true) true Tryz.f6.params.toList args.toList ds p := hA0
 have hA1 := hA
 rw [Tryz.params6] at hA hval
 obtain ⟨v0, vs0, d0, ds0, p0, q0, hargs, rfl, rfl, h0, r0⟩ := trodAll_cons hA
 obtain ⟨v1, vs1, d1, ds1, p1, q1, rfl, rfl, rfl, h1, r1⟩ := trodAll_cons r0
 obtain ⟨v2, vs2, d2, ds2, p2, q2, rfl, rfl, rfl, h2, r2⟩ := trodAll_cons r1
 obtain ⟨rfl, rfl, rfl⟩ := trodAll_nil r2
 obtain rfl : args = #[v0, v1, v2] := by cases args; simp_all
 obtain ⟨rfl, rfl⟩ := trodVars_none hV
 have hv0 := hval 0 46 v0 rfl rfl
 have hv1 := hval 1 47 v1 rfl rfl
 have hv2 := hval 2 37 v2 rfl rfl
 clear hval0 hval
 simp only [List.append_nil] at hW' hlt
 have dmO : ∀ (m : Nat) (cs : List Value) (y : DataW H × List MemPlace), DataW.trod enc Tryz.prog W 0 (fun _ => true) true m 196 cs = some y → ∃ d : Dm, cs = dmC d ∧ True := fun m cs y h => by
  obtain ⟨a, b, c, rfl, ⟨_, _, ha⟩, ⟨_, _, hb⟩, _, _, hc⟩ := trod_3 Tryz.underlying196 (t0 := 3) (t1 := 3) (t2 := 3) rfl (by kernel_rfl) (by kernel_rfl) (by kernel_rfl) (by kernel_rfl) h
  obtain ⟨x, hx, _⟩ := trod_i64 Tryz.underlying3 ha
  obtain ⟨y, hy, _⟩ := trod_i64 Tryz.underlying3 hb
  obtain ⟨z, hz, _⟩ := trod_i64 Tryz.underlying3 hc
  obtain rfl : a = .int .i64 x := by simpa using hx
  obtain rfl : b = .int .i64 y := by simpa using hy
  obtain rfl : c = .int .i64 z := by simpa using hz
  exact ⟨⟨x, y, z⟩, rfl, trivial⟩
 have bnO : ∀ (m : Nat) (cs : List Value) (y : DataW H × List MemPlace), DataW.trod enc Tryz.prog W 0 (fun _ => true) true m 44 cs = some y → ∃ d : Bn, cs = bnC d := fun m cs y h => by
  obtain ⟨a, b, c, rfl, ⟨_, _, ha⟩, ⟨_, _, hb⟩, _, _, hc⟩ := trod_3 Tryz.underlying44 (t0 := 3) (t1 := 25) (t2 := 25) rfl (by kernel_rfl) (by kernel_rfl) (by kernel_rfl) (by kernel_rfl) h
  obtain ⟨x, hx, _⟩ := trod_i64 Tryz.underlying3 ha
  obtain ⟨y, hy, _⟩ := trod_f64 Tryz.underlying25 hb
  obtain ⟨z, hz, _⟩ := trod_f64 Tryz.underlying25 hc
  obtain rfl : a = .int .i64 x := by simpa using hx
  obtain rfl : b = .float .f64 y := by simpa using hy
  obtain rfl : c = .float .f64 z := by simpa using hz
  exact ⟨⟨x, y, z⟩, rfl⟩
 have rdO : ∀ (m : Nat) (cs : List Value) (y : DataW H × List MemPlace), DataW.trod enc Tryz.prog W 0 (fun _ => true) true m 46 cs = some y → ∃ d : Rd, cs = rdC d ∧ d.Ok W := fun m cs y h => by
  obtain ⟨a, b, c, d, e, f, rfl, ⟨_, _, ha⟩, ⟨_, _, hb⟩, ⟨_, _, hc⟩, _, _, hf⟩ := trod_r6 Tryz.underlying46 (t0 := 42) (t1 := 42) (t2 := 44) (t3 := 37) rfl (by kernel_rfl) (by kernel_rfl) (by kernel_rfl) (by kernel_rfl) (by kernel_rfl) h
  obtain ⟨va, xa, hva, hsa, _, _⟩ := trod_list dmC (fun _ => True) dmC_len Tryz.underlying42 (by kernel_rfl) (by omega) ha dmO
  obtain ⟨vb, xb, hvb, hsb, _, _⟩ := trod_list dmC (fun _ => True) dmC_len Tryz.underlying42 (by kernel_rfl) (by omega) hb dmO
  obtain ⟨bn, hbn⟩ := bnO _ _ _ hc
  obtain ⟨v, xs, hv, hs, hr, _⟩ := trod_list (fun x : Int => [Value.int .i64 x]) (fun x => -9223372036854775808 ≤ x ∧ x ≤ 9223372036854775807) (sz := 1) (fun _ => rfl) Tryz.underlying37 (by kernel_rfl) (by omega) hf (fun m cs y h => trod_i64 Tryz.underlying3 h)
  obtain rfl : a = va := by simpa using hva
  obtain rfl : b = vb := by simpa using hvb
  obtain rfl : f = v := by simpa using hv
  simp only [bnC, List.cons.injEq, and_true] at hbn
  obtain ⟨rfl, rfl, rfl⟩ := hbn
  rw [flat_one] at hs
  exact ⟨⟨a, b, f, xa, xb, bn, xs⟩, rfl, hsa, hsb, hs⟩
 have s7O : ∀ (m : Nat) (cs : List Value) (y : DataW H × List MemPlace), DataW.trod enc Tryz.prog W 0 (fun _ => true) true m 141 cs = some y → ∃ d : S7, cs = s7C d ∧ d.Ok No W := fun m cs y h => by
  obtain ⟨a, b, c, e, rfl, ⟨_, _, ha⟩, ⟨_, _, hb⟩, ⟨_, _, hc⟩, _, _, he⟩ := trod_4 Tryz.underlying141 (t0 := 5) (t1 := 3) (t2 := 37) (t3 := 25) rfl (by kernel_rfl) (by kernel_rfl) (by kernel_rfl) (by kernel_rfl) (by kernel_rfl) h
  obtain ⟨d, hd, hdr⟩ := trod_int Tryz.underlying5 ha
  obtain ⟨i, hi, hir⟩ := trod_i64 Tryz.underlying3 hb
  obtain ⟨v, xs, hv, hs, hr, _⟩ := trod_list (fun x : Int => [Value.int .i64 x]) (fun x => -9223372036854775808 ≤ x ∧ x ≤ 9223372036854775807) (sz := 1) (fun _ => rfl) Tryz.underlying37 (by kernel_rfl) (by omega) hc (fun m cs y h => trod_i64 Tryz.underlying3 h)
  obtain ⟨f, hf, hfl⟩ := trod_f64 Tryz.underlying25 he
  obtain rfl : a = .int .u8 d := by simpa using hd
  obtain rfl : b = .int .i64 i := by simpa using hi
  obtain rfl : c = v := by simpa using hv
  obtain rfl : e = .float .f64 f := by simpa using hf
  rw [flat_one] at hs
  exact ⟨⟨d, i, xs, c, f⟩, rfl, ⟨hs, hr, by simp [Lit.wf, IntKind.min, IntKind.max, IntKind.signed, IntKind.bits] at hdr; show 0 ≤ d ∧ d < 256; omega⟩⟩
 obtain ⟨cs0, rfl, _⟩ := okWide_struct Tryz.underlying46 hv0
 obtain ⟨rd, rfl, hrd⟩ : ∃ d : Rd, cs0 = (rdC d).toArray ∧ d.Ok W := by
  obtain ⟨fuel, hf⟩ := h0
  obtain ⟨d, he, hd⟩ := rdO _ _ _ hf
  exact ⟨d, by cases cs0; exact congrArg Array.mk he, hd⟩
 obtain ⟨l, hl, hls, _⟩ := open_list s7C (fun d => d.Ok No W) s7C_len Tryz.underlying47 (by kernel_rfl) (by omega) hv1 h1 s7O
 obtain ⟨x2, hx2, hr2, _⟩ := open_list (fun x : Int => [Value.int .i64 x]) (fun x => -9223372036854775808 ≤ x ∧ x ≤ 9223372036854775807) (sz := 1) (fun _ => rfl) Tryz.underlying37 (by kernel_rfl) (by omega) hv2 h2 (fun m cs y h => trod_i64 Tryz.underlying3 h)
 rw [flat_one] at hx2
 have hwalk := cplays_ok rd l v1 x2 v2 W hrd hl hls hx2 hr2
 refine Calls.mono hwalk ?_
 rintro e W' ⟨v, rfl, rfl, hg⟩
 refine ⟨_, rfl, post_grow hW' (fun _ _ _ => trodAll_cons_mk (shut_bool Tryz.underlying4 _) trodAll_mk0) (fun sp hsp => ?_) (fun _ => rfl) hg (ok_one (by kernel_rfl) rfl (okWide_bool_mk Tryz.underlying4 _))⟩
 have hA2 := hA1
 simp only [List.append_nil] at hA2 hsp
 exact trodAll_grow laidOut hg sp _ _ _ _ params_ok hlt hsp hA2
end Go.Proofs.YthbjfhhiajihfaaGreat.cachePlays
