/- What the claim stands on, part 10. Of own lemmas only those that it reaches. -/
import Derived.Test.YthbjfhhiajihfaaGreatKf9
set_option linter.unusedVariables false
set_option linter.unusedSimpArgs false
set_option maxHeartbeats 1000000
set_option maxRecDepth 100000
namespace Go.Proofs.YthbjfhhiajihfaaGreat
open Go Go.X
structure RA (P N : Nat → Prop) (w : World) (r : Nat) (most last : Int) (vl : Value) (al : List Al) : Prop where
 blk : Blk w r 192 [.int .i64 most, vl, .int .i64 last]
 row : Row w 35 3 vl al.length (al.flatMap alC)
 sls : ∀ a ∈ al, SlL N w a.v a.ls
 own : ∀ b, P b ↔ b = r ∨ vl.ownBlock = some b
 sub : ∀ b, P b → N b
 ltN : ∀ b, N b → b < w.heap.size
def RAt (P N : Nat → Prop) (w : World) (r : Nat) (most last : Int) (L : List AlS) : Prop := ∃ vl al, RA P N w r most last vl al ∧ al.map pub = L
theorem RA.lt {P N : Nat → Prop} {w : World} {r : Nat} {most last : Int} {vl : Value} {al : List Al} (h : RA P N w r most last vl al) {b : Nat} (hb : N b) : b < w.heap.size := h.ltN b hb
theorem RA.grow {P N : Nat → Prop} {w w' : World} {r : Nat} {most last : Int} {vl : Value} {al : List Al} (h : RA P N w r most last vl al) (hg : Grow w w') : RA P N w' r most last vl al :=
 ⟨h.blk.mod hg (fun h => h), h.row.mod hg (fun _ _ h => h), fun a ha => (h.sls a ha).mod (Mod.any' hg), h.own, h.sub, fun b e => Nat.lt_of_lt_of_le (h.ltN b e) hg.size⟩
theorem RAt.grow {P N : Nat → Prop} {w w' : World} {r : Nat} {most last : Int} {L : List AlS} (h : RAt P N w r most last L) (hg : Grow w w') : RAt P N w' r most last L := by
 obtain ⟨vl, al, h, e⟩ := h
 exact ⟨vl, al, h.grow hg, e⟩
theorem RA.pass {P N N' Q : Nat → Prop} {w w' : World} {r : Nat} {most last : Int} {vl : Value} {al : List Al} (h : RA P N w r most last vl al) (hm : Mod Q w w') (h1 : ∀ b, P b → ¬ Q b) (h2 : ∀ b, Q b → b < w.heap.size → N b) (h3 : ∀ b, P b → N' b) (h4 : ∀ b, N' b → N b ∨ w.heap.size ≤ b) (h5 : ∀ b, N' b → b < w'.heap.size) : RA P N' w' r most last vl al :=
 ⟨h.blk.mod hm (h1 r ((h.own r).2 (.inl rfl))), h.row.mod hm (fun b e => h1 b ((h.own b).2 (.inr e))), fun a ha => (h.sls a ha).pass (by omega) (hm.mono fun b hb e => h2 b e hb) h4, h.own, h3, h5⟩
theorem RAt.pass {P N N' Q : Nat → Prop} {w w' : World} {r : Nat} {most last : Int} {L : List AlS} (h : RAt P N w r most last L) (hm : Mod Q w w') (h1 : ∀ b, P b → ¬ Q b) (h2 : ∀ b, Q b → b < w.heap.size → N b) (h3 : ∀ b, P b → N' b) (h4 : ∀ b, N' b → N b ∨ w.heap.size ≤ b) (h5 : ∀ b, N' b → b < w'.heap.size) : RAt P N' w' r most last L := by
 obtain ⟨vl, al, h, e⟩ := h
 exact ⟨vl, al, h.pass hm h1 h2 h3 h4 h5, e⟩
theorem RAt.lt {P N : Nat → Prop} {w : World} {r : Nat} {most last : Int} {L : List AlS} (h : RAt P N w r most last L) {b : Nat} (hb : N b) : b < w.heap.size := by
 obtain ⟨vl, al, h, _⟩ := h
 exact h.lt hb
theorem RAt.sub {P N : Nat → Prop} {w : World} {r : Nat} {most last : Int} {L : List AlS} (h : RAt P N w r most last L) {b : Nat} (hb : P b) : N b := by
 obtain ⟨vl, al, h, _⟩ := h
 exact h.sub b hb
theorem held_ok (n : Int) (w : World) : Fx Tryz.prog 111 [.int .i64 n, .int .i64 1, .int .i64 16] w (fun u w' => u = .int .i64 (capS n) ∧ w = w') := by
 refine enter Tryz.func111 rfl rfl rfl _ (Pick.sub (l := [0, 1, 2]) (.cons rfl (.cons rfl (.cons rfl .nil)))) ?_
 refine GG ?_
 refine CD (fun h9 => ?_) (fun h9 => ?_)
 ·refine GG ?_
  refine RK.ret_of Tryz.func111 (res1 rfl rfl) ?_ _
  exact ⟨_, rfl, congrArg _ (by unfold capS; split <;> (try split) <;> omega), rfl⟩
 ·refine GG ?_
  refine CD (fun h13 => ?_) (fun h13 => ?_)
  ·refine GG ?_
   refine RK.ret_of Tryz.func111 (res1 rfl rfl) ?_ _
   exact ⟨_, rfl, congrArg _ (by unfold capS; split <;> (try split) <;> omega), rfl⟩
  ·refine GG ?_
   refine RK.ret_of Tryz.func111 (res1 rfl rfl) ?_ _
   exact ⟨_, rfl, congrArg _ (by unfold capS; split <;> (try split) <;> omega), rfl⟩
theorem newAlerts_ok (n : Int) (w : World) : Fx Tryz.prog 69 [.int .i64 n] w (fun u w' => ∃ r N, u = pp r ∧ RAt N N w' r (capS n) 0 [] ∧ (∀ b, N b → w.heap.size ≤ b) ∧ Grow w w') := by
 refine enter Tryz.func69 rfl rfl rfl _ (Pick.sub (l := [0]) (.cons rfl .nil)) ?_
 refine GG ?_
 refine OP (Does.call rfl e111 (held_ok n _)) ?_
 rintro _ _ ⟨rfl, rfl⟩
 refine QQ (Yld.build (v := .agg #[.int .i64 (capS n), .slice none 0 0, .int .i64 0]) rfl (fun w => by kernel_rfl)) ?_
 refine OP (Does.box rfl) ?_
 rintro _ w2 ⟨r, rfl, hn⟩
 refine GG ?_
 refine RK.ret_of Tryz.func69 (res1 rfl rfl) ?_ _
 exact ⟨_, rfl, r, fun b => b = r, rfl, ⟨.slice none 0 0, [], ⟨hn.blk, Row.nil _ _ _, by simp, fun b => by simp [Value.ownBlock], fun _ e => e, fun b e => by have e' : b = r := e; rw [e']; exact hn.blk.lt⟩, rfl⟩, fun b e => by have e' : b = r := e; have := hn.at_; omega, hn.grow⟩
theorem fromBits_ok (b : Nat) (w : World) : Fx Tryz.prog 228 [.int .u64 ((canS b : Nat) : Int)] w (fun u w' => u = .tuple #[.float .f64 (canS b), .bool true] ∧ w = w') := by
 have hc : nanS (canS b) = true → canS b = 9221120237041090561 := fun h => by
  unfold canS at h ⊢
  split
  ·rfl
  ·rename_i hn; rw [if_neg hn] at h; exact absurd h hn
 have hno : nanS (canS b) = (Ieee.double.order (canS b) (canS b) != some .eq) := by unfold nanS; rfl
 refine enter Tryz.func228 rfl rfl rfl _ (Pick.sub (l := [0]) (.cons rfl .nil)) ?_
 refine GG ?_
 refine QQ (Yld.callx rfl (fun w => x95 _ w)) ?_
 refine GG ?_
 refine SP 10 (fun h10 => ?_) (fun h10 => ?_)
 ·iterate 2 refine QQ (Yld.pure rfl) ?_
  refine GG ?_
  refine CD (fun h13 => ?_) (fun h13 => ?_)
  ·refine GG ?_
   refine RK.ret_of Tryz.func228 (res2 rfl rfl rfl) ?_ _
   exact ⟨_, rfl, by first
     | rfl
     | (exfalso; have e9 := hc (hno.trans h10); omega), rfl⟩
  ·refine GG ?_
   refine RK.ret_of Tryz.func228 (res2 rfl rfl rfl) ?_ _
   exact ⟨_, rfl, by first
     | rfl
     | (exfalso; have e9 := hc (hno.trans h10); omega), rfl⟩
 ·iterate 2 refine RL.no (.no rfl rfl rfl rfl) rfl rfl ?_
  refine GG ?_
  refine RK.condF rfl ?_
  refine GG ?_
  refine RK.ret_of Tryz.func228 (res2 rfl rfl rfl) ?_ _
  exact ⟨_, rfl, by first
    | rfl
    | (exfalso; have e9 := hc (hno.trans h10); omega), rfl⟩
theorem kept_okR (b : Nat) (w : World) : Fx Tryz.prog 185 [.float .f64 b] w (fun u w' => u = .float .f64 (canS b) ∧ w = w') := by
 refine enter Tryz.func185 rfl rfl rfl _ (Pick.sub (l := [0]) (.cons rfl .nil)) ?_
 refine GG ?_
 refine OP (Does.call rfl e120 (bits1_ok b _)) ?_
 rintro _ _ ⟨rfl, rfl⟩
 rw [bits_can]
 refine OP (Does.call rfl e228 (fromBits_ok b _)) ?_
 rintro _ _ ⟨rfl, rfl⟩
 refine GG ?_
 refine RK.ret_of Tryz.func185 (res1 rfl rfl) ?_ _
 exact ⟨_, rfl, rfl, rfl⟩
end Go.Proofs.YthbjfhhiajihfaaGreat
set_option linter.unusedVariables false
set_option linter.unusedSimpArgs false
set_option maxHeartbeats 1000000
set_option maxRecDepth 100000
namespace Go.Proofs.YthbjfhhiajihfaaGreat
open Go Go.X
theorem where_get {al : List Al} {id : Int} {k : Nat} {a : Al} (ha : al[k]? = some a) (he : a.id = id) (hno : ∀ (i : Nat) (b : Al), i < k → al[i]? = some b → b.id ≠ id) : whereI (al.map pub) id = some k := by
 unfold whereI
 obtain ⟨hk, e⟩ := List.getElem?_eq_some_iff.1 ha
 rw [List.findIdx?_eq_some_iff_getElem]
 refine ⟨by simpa using hk, by simp [e, pub, he], fun j hj => ?_⟩
 have := hno j al[j] hj (List.getElem?_eq_getElem (by omega))
 simpa [pub] using this
theorem where_no {al : List Al} {id : Int} (hno : ∀ (i : Nat) (b : Al), al[i]? = some b → b.id ≠ id) : whereI (al.map pub) id = none := where_none fun i a hi => by
 rw [List.getElem?_map] at hi
 cases h : al[i]? with
 | none => rw [h] at hi; cases hi
 | some b => rw [h] at hi; cases hi; exact hno i b h
def resolveR (L : List AlS) (id : Int) : List AlS × Int := match whereI L id with
 | none => (L, 5)
 | some i => (L.eraseIdx i, 0)
theorem rresolve_ok (P N : Nat → Prop) (w : World) (r : Nat) (most last : Int) (vl : Value) (al : List Al) (h : RA P N w r most last vl al) (hb : al.length ≤ 1000000) (id : Int) :
    Fx Tryz.prog 134 [pp r, .int .i64 id] w (fun u w' => ∃ P', u = .int .i64 (resolveR (al.map pub) id).2 ∧ RAt P' (fun b => N b ∨ P' b) w' r most last (resolveR (al.map pub) id).1 ∧ Mod P w w' ∧ ∀ b, P' b → P b ∨ w.heap.size ≤ b) := by
  have hsl := Sl.own (M := No) h.row (fun _ _ h => h)
  have hsh : ∀ a ∈ al, ∃ ad n c, a.v = .slice ad n c := fun a ha => by obtain ⟨ad, c, e⟩ := (h.sls a ha).shape; exact ⟨ad, _, c, e⟩
  obtain ⟨ad, c, rfl, hlc⟩ := h.row.cap
  have hPr : P r := (h.own r).2 (.inl rfl)
  have hNr := h.sub r hPr
  refine enter Tryz.func134 rfl rfl rfl _ (Pick.sub (l := [0, 1]) (.cons rfl (.cons rfl .nil))) ?_
  refine RK.seq ?_
  refine RK.region ?_
  refine RL.p rfl rfl ?_
  refine RL.done ?_
  iterate 2 refine RK.seq ?_
  refine RK.region ?_
  refine RL.p rfl rfl ?_
  refine RL.done ?_
  refine RK.block ?_
  refine RK.loop (fun k : Nat => [(0, pp r), (1, .int .i64 id), (5, .int .i64 k)]) (fun k w' => w = w' ∧ k ≤ al.length ∧ ∀ (i : Nat) (b : Al), i < k → al[i]? = some b → b.id ≠ id) (fun k => al.length - k) 0 ⟨rfl, rfl, rfl, trivial⟩ ⟨rfl, by omega, fun i b h => by omega⟩ (fun k w' hI ih => ?_)
  obtain ⟨rfl, hk, hno⟩ := hI
  iterate 2 refine RK.seq ?_
  refine RK.region ?_
  iterate 3 refine RL.p rfl rfl ?_
  refine RL.q (.free rfl) rfl rfl (Yld.fieldAddr fo192_1 rfl) ?_
  refine RL.q (.free rfl) rfl rfl (Yld.load p49 rfl (at1 (h.blk.cell rfl))) ?_
  refine RL.q (.free rfl) rfl rfl (Yld.lenSl u49 rfl) ?_
  refine RL.p rfl rfl ?_
  refine RL.done ?_
  first | refine RK.condD rfl (fun h12 => ?_) (fun h12 => ?_) | refine RK.condN rfl (fun h12 => ?_) (fun h12 => ?_) | refine RK.cond rfl (fun h12 => ?_) (fun h12 => ?_)
  · obtain ⟨a, ha⟩ : ∃ a, al[k]? = some a := ⟨al[k]'(by omega), List.getElem?_eq_getElem (by omega)⟩
    obtain ⟨b1, o1, c1', he1, _, _, hc1⟩ := hsl.elem alC_len ha
    cases he1
    refine RK.skip ?_
    refine RK.seq ?_
    refine RK.block ?_
    refine RK.seq ?_
    refine RK.region ?_
    iterate 2 refine RL.p rfl rfl ?_
    refine RL.q (.free rfl) rfl rfl (Yld.fieldAddr fo192_1 rfl) ?_
    refine RL.q (.free rfl) rfl rfl (Yld.load p49 rfl (at1 (h.blk.cell rfl))) ?_
    refine RL.p rfl rfl ?_
    refine RL.q (.free rfl) rfl rfl (Yld.indexAddrN u49 i35 rfl rfl (by omega)) ?_
    refine RL.q (.free rfl) rfl rfl (Yld.fieldAddr fo35_0 rfl) ?_
    refine RL.q (.free rfl) rfl rfl (Yld.load p3 rfl (at1 (hc1 0 _ rfl))) ?_
    iterate 2 refine RL.p rfl rfl ?_
    refine RL.done ?_
    first | refine RK.condD rfl (fun h24 => ?_) (fun h24 => ?_) | refine RK.condN rfl (fun h24 => ?_) (fun h24 => ?_) | refine RK.cond rfl (fun h24 => ?_) (fun h24 => ?_)
    · have hwh := where_get ha h24 hno
      have er : resolveR (al.map pub) id = ((al.map pub).eraseIdx k, 0) := by unfold resolveR; rw [hwh]
      rw [er]
      refine RK.seq ?_
      refine RK.drawM No [(0, false), (1, false), (2, false), (3, false), (4, false), (5, false), (6, false), (8, false), (9, false), (10, false), (11, false), (12, false), (13, false), (14, false), (7, true), (15, true), (16, false), (17, false), (18, true)] [18] mixed (by kernel_rfl) ?_
      iterate 3 refine DL.p rfl rfl rfl ?_
      refine DL.qf rfl (.free rfl) rfl rfl (Yld.fieldAddr fo192_1 rfl) ?_
      refine DL.q rfl (.free rfl) rfl rfl rfl (Yld.load p49 rfl (atM (h.blk.cell rfl) (fun h => h))) (Mod.drew _ _) ?_
      refine DL.p rfl rfl rfl ?_
      refine DL.qf rfl (.free rfl) rfl rfl (Yld.sliceHi u49 i35 (m := k) rfl rfl (by omega)) ?_
      iterate 2 refine DL.p rfl rfl rfl ?_
      refine DL.qf rfl (.free rfl) rfl rfl (Yld.fieldAddr fo192_1 rfl) ?_
      refine DL.q rfl (.free rfl) rfl rfl rfl (Yld.load p49 rfl (atM (h.blk.cell rfl) (fun h => h))) (Mod.drew _ _) ?_
      iterate 2 refine DL.p rfl rfl rfl ?_
      refine DL.re (d := 38) rfl rfl (succ_i64 (by omega)) ?_
      refine DL.qf rfl (.free rfl) rfl rfl (Yld.sliceFrom u49 i35 (m := k + 1) rfl rfl (by omega)) ?_
      refine DL.op rfl (.free rfl) rfl rfl (Does.append u49 i35 rfl rfl rfl rfl rfl (Row.nil _ _ _) ((hsl.mod (Mod.drew _ _)).takeF alC_len (by omega)) (allOne_als (fun a ha => hsh a (List.mem_of_mem_take ha))) (by omega)) ?_
      rintro u4 w4 ⟨hr4, hm4, hu4⟩
      have hg4 : Grow w w4 := (Mod.drew No w).trans (hm4.mono fun b _ e => by simp [Value.ownBlock] at e)
      refine ⟨hg4, ?_⟩
      refine DL.op rfl (.free rfl) rfl rfl (Does.append u49 i35 rfl rfl rfl rfl rfl (hr4) ((hsl.mod hg4).fromF alC_len (by omega) hlc) (allOne_als (fun a ha => hsh a (List.mem_of_mem_drop ha))) (by omega)) ?_
      rintro u5 w5 ⟨hr5, hm5, hu5⟩
      have hs34 := hg4.size
      have hf4 : Fresh w.heap.size u4 := fun b e => by rcases hu4 with h1 | h1; (rw [h1] at e; simp [Value.ownBlock] at e); (rw [h1] at e; cases e; simp only [World.drew]; omega)
      have hg5 : Grow w w5 := hg4.then hm5 (fun b hb e => by have := hf4 b e; omega)
      have hf5 : Fresh w.heap.size u5 := fun b e => by rcases hu5 with h1 | h1; (rw [h1] at e; exact hf4 b e); (rw [h1] at e; cases e; omega)
      refine ⟨hg5, ?_⟩
      have hel : (al.take k).flatMap alC ++ (al.drop (k + 1)).flatMap alC = (al.eraseIdx k).flatMap alC := by rw [List.eraseIdx_eq_take_drop_succ, List.flatMap_append]
      have hell : (al.eraseIdx k).length = k + (al.length - (k + 1)) := by rw [List.length_eraseIdx]; simp [(List.getElem?_eq_some_iff.1 ha).1]; omega
      have hr5' : Row w5 35 3 u5 (al.eraseIdx k).length ((al.eraseIdx k).flatMap alC) := by
          rw [hell, ← hel]
          have h9 := hr5
          simp only [List.nil_append, Nat.zero_add] at h9
          exact h9
      obtain ⟨ad5, c5, rfl⟩ := hr5'.slice
      refine DL.p rfl rfl rfl ?_
      refine DL.qf rfl (.free rfl) rfl rfl (Yld.fieldAddr fo192_1 rfl) ?_
      refine DL.opT rfl (.free rfl) rfl rfl (Does.store i49 rfl rfl rfl (h.blk.mod hg5 (fun h => h)) (.s .z)) ?_
      rintro _ w6 ⟨hb6, hm6, _⟩
      have hlt := h.blk.lt
      have hrne : ∀ b, (Value.slice ad5 (al.eraseIdx k).length c5).ownBlock = some b → b ≠ r := fun b e e2 => by have := hf5 b e; omega
      have hm06 : Mod P w w6 := (hg5.any P).trans (hm6.mono fun b _ e => e ▸ hPr)
      have hP' : ∀ b, (b = r ∨ (Value.slice ad5 (al.eraseIdx k).length c5).ownBlock = some b) → P b ∨ w.heap.size ≤ b := fun b e => by rcases e with rfl | e; exact .inl hPr; exact .inr (hf5 b e)
      have hN' : ∀ b, (N b ∨ (b = r ∨ (Value.slice ad5 (al.eraseIdx k).length c5).ownBlock = some b)) → N b ∨ w.heap.size ≤ b := fun b e => e.elim .inl fun e => (hP' b e).imp (h.sub b) (fun h => h)
      have hlt' : ∀ b, (N b ∨ (b = r ∨ (Value.slice ad5 (al.eraseIdx k).length c5).ownBlock = some b)) → b < w6.heap.size := fun b e => by
          rcases e with e | rfl | e
          · have := h.lt e; have := hm06.size; omega
          · exact hb6.lt
          · exact (hr5'.mod hm6 (fun b e e2 => hrne b e e2)).lt e
      refine DL.done ?_
      refine RK.seq ?_
      refine RK.region ?_
      refine RL.p rfl rfl ?_
      refine RL.done ?_
      refine RK.ret_of Tryz.func134 (res1 rfl rfl) ?_ _
      exact ⟨_, rfl, fun b => b = r ∨ (Value.slice ad5 (al.eraseIdx k).length c5).ownBlock = some b, rfl, ⟨_, al.eraseIdx k, ⟨hb6, hr5'.mod hm6 (fun b e e2 => hrne b e e2), fun a' ha' => (h.sls a' (List.mem_of_mem_eraseIdx ha')).pass (by omega) (hm06.mono fun b _ e => h.sub b e) hN', fun b => Iff.rfl, fun _ e => .inr e, hlt'⟩, by rw [map_eraseIdx']⟩, hm06, hP'⟩
    · refine RK.skip ?_
      refine RK.inBlock ?_
      refine RK.region ?_
      iterate 2 refine RL.p rfl rfl ?_
      refine RL.re (d := 14) rfl rfl (succ_i64 (by omega)) ?_
      refine RL.p rfl rfl ?_
      refine RL.done ?_
      exact RK.back (ih (k + 1) _ ⟨rfl, by omega, fun i b hi hb' => by by_cases e : i = k; (subst e; rw [ha] at hb'; cases hb'; exact h24); exact hno i b (by omega) hb'⟩ (by omega)) ⟨rfl, rfl, rfl, trivial⟩
  · have hwh : whereI (al.map pub) id = none := where_no fun i b hi => hno i b (by have := (List.getElem?_eq_some_iff.1 hi).1; omega) hi
    have er : resolveR (al.map pub) id = (al.map pub, 5) := by unfold resolveR; rw [hwh]
    rw [er]
    refine RK.exit rfl ?_
    refine RK.seq ?_
    refine RK.region ?_
    refine RL.p rfl rfl ?_
    refine RL.done ?_
    refine RK.ret_of Tryz.func134 (res1 rfl rfl) ?_ _
    exact ⟨_, rfl, P, rfl, ⟨_, al, ⟨h.blk, h.row, fun a ha => (h.sls a ha).off (by omega) (fun b _ e => e.elim (fun e => e) (h.sub b)), h.own, fun _ e => .inr e, fun b e => e.elim (fun e => h.lt e) (fun e => h.lt (h.sub b e))⟩, rfl⟩, Mod.refl _ _, fun b e => .inl e⟩
end Go.Proofs.YthbjfhhiajihfaaGreat
set_option linter.unusedVariables false
set_option linter.unusedSimpArgs false
set_option maxHeartbeats 1000000
set_option maxRecDepth 100000
namespace Go.Proofs.YthbjfhhiajihfaaGreat
open Go Go.X
def postR (most last : Int) (L : List AlS) (ls : List Lab) (val : Nat) : List AlS × Int × Int × Bool × Int :=
 match findS (L.map (·.2.1)) ls with
 | some i => (L.modify i fun a => (a.1, a.2.1, canS val), last, ((L[i]?).map (·.1)).getD 0, false, 0)
 | none => if most ≤ L.length then (L, last, 0, false, 10) else (L ++ [(last + 1, ls, canS val)], last + 1, last + 1, true, 0)
theorem find_get {al : List Al} {ls : List Lab} {k : Nat} {a : Al} (ha : al[k]? = some a) (he : a.ls = ls) (hno : ∀ (i : Nat) (b : Al), i < k → al[i]? = some b → b.ls ≠ ls) : findS ((al.map pub).map (·.2.1)) ls = some k := by
 unfold findS
 obtain ⟨hk, e⟩ := List.getElem?_eq_some_iff.1 ha
 rw [List.findIdx?_eq_some_iff_getElem]
 refine ⟨by simpa using hk, by simp [e, pub, he], fun j hj => ?_⟩
 have := hno j al[j] hj (List.getElem?_eq_getElem (by omega))
 simpa [pub] using this
theorem find_no {al : List Al} {ls : List Lab} (hno : ∀ (i : Nat) (b : Al), al[i]? = some b → b.ls ≠ ls) : findS ((al.map pub).map (·.2.1)) ls = none := by
 unfold findS
 rw [List.findIdx?_eq_none_iff]
 intro x hx
 simp only [List.map_map, List.mem_map] at hx
 obtain ⟨a, ha, rfl⟩ := hx
 obtain ⟨i, hi⟩ := List.getElem?_of_mem ha
 exact decide_eq_false (hno i a hi)
theorem rpost_ok (P N : Nat → Prop) (w : World) (r : Nat) (most last : Int) (vl : Value) (al : List Al) (h : RA P N w r most last vl al) (hb : al.length ≤ 1000000) (hl0 : 0 ≤ last) (hl1 : last ≤ 1000000000) (ls : List Lab) (v : Value) (hv : SlL N w v ls) (his : isS ls = true) (hsz : ∀ x ∈ ls, x.name.size ≤ 9223372036854775807) (val : Nat) :
  Fx Tryz.prog 135 [pp r, v, .float .f64 val] w (fun u w' => ∃ P', u = .tuple #[.int .i64 (postR most last (al.map pub) ls val).2.2.1, .bool (postR most last (al.map pub) ls val).2.2.2.1, .int .i64 (postR most last (al.map pub) ls val).2.2.2.2] ∧ RAt P' (fun b => N b ∨ P' b) w' r most (postR most last (al.map pub) ls val).2.1 (postR most last (al.map pub) ls val).1 ∧ Mod P w w' ∧ ∀ b, P' b → P b ∨ w.heap.size ≤ b) := by
 have hsl := Sl.own (M := No) h.row (fun _ _ h => h)
 have hsh : ∀ a ∈ al, ∃ ad n c, a.v = .slice ad n c := fun a ha => by obtain ⟨ad, c, e⟩ := (h.sls a ha).shape; exact ⟨ad, _, c, e⟩
 obtain ⟨ad, c, rfl⟩ := h.row.slice
 obtain ⟨adv, cv, rfl⟩ := hv.shape
 have hPr : P r := (h.own r).2 (.inl rfl)
 have hPo : ∀ b, (Value.slice ad al.length c).ownBlock = some b → P b := fun b e => (h.own b).2 (.inr e)
 have hNr := h.sub r hPr
 have hNo : ∀ b, (Value.slice ad al.length c).ownBlock = some b → N b := fun b e => h.sub b (hPo b e)
 have hNP : ∀ b, (N b ∨ P b) → N b := fun b e => e.elim (fun e => e) (h.sub b)
 have hrne : ∀ b, (Value.slice ad al.length c).ownBlock = some b → b ≠ r := fun b e => (h.row.ty e).ne h.blk.ty rfl
 have h6 := isS_len his
 refine enter Tryz.func135 rfl rfl rfl _ (Pick.sub (l := [0, 1, 2]) (.cons rfl (.cons rfl (.cons rfl .nil)))) ?_
 refine GG ?_
 refine OP (Does.call rfl e149 (isSet_ok N ls hsz _ _ hv)) ?_
 rintro _ w1 ⟨rfl, hg1⟩
 refine GG ?_
 refine RK.condF (hcF rfl (by rw [his]; rfl)) ?_
 have h1 := h.grow hg1
 refine GG ?_
 refine RK.loop (fun k : Nat => [(0, pp r), (1, .slice adv ls.length cv), (2, .float .f64 val), (9, .int .i64 k)]) (fun k w' => Grow w w' ∧ k ≤ al.length ∧ ∀ (i : Nat) (b : Al), i < k → al[i]? = some b → b.ls ≠ ls) (fun k => al.length - k) 0 ⟨rfl, rfl, rfl, rfl, trivial⟩ ⟨hg1, by omega, fun i b h => by omega⟩ (fun k w' hI ih => ?_)
 obtain ⟨hg, hk, hno⟩ := hI
 have hB := h.blk.mod hg (fun h => h)
 refine GG ?_
 refine QQ (Yld.fieldAddr fo192_1 rfl) ?_
 refine QQ (Yld.load p49 rfl (at1 (hB.cell rfl))) ?_
 refine QQ (Yld.lenSl u49 rfl) ?_
 refine GG ?_
 refine CD (fun h19 => ?_) (fun h19 => ?_)
 ·obtain ⟨a, ha⟩ : ∃ a, al[k]? = some a := ⟨al[k]'(by omega), List.getElem?_eq_getElem (by omega)⟩
  obtain ⟨b1, o1, c1', he1, _, _, hc1⟩ := hsl.elem alC_len ha
  cases he1
  have hsa := h.sls a (List.mem_of_getElem? ha)
  refine GG ?_
  refine QQ (Yld.fieldAddr fo192_1 rfl) ?_
  refine QQ (Yld.load p49 rfl (at1 (hB.cell rfl))) ?_
  refine RL.p rfl rfl ?_
  refine QQ (Yld.indexAddrN u49 i35 rfl rfl (by omega)) ?_
  refine QQ (Yld.fieldAddr fo35_1 rfl) ?_
  refine QQ (Yld.load p33 rfl (at1 (hg.cell (hc1 1 _ rfl) (fun h => h)))) ?_
  refine RL.p rfl rfl ?_
  refine OP (Does.call rfl e184 (sameLabels_ok N N a.ls ls _ _ _ (hsa.mod (Mod.any' hg)) (hv.mod (Mod.any' hg)))) ?_
  rintro _ w3 ⟨rfl, hg3⟩
  have hg03 := hg.trans hg3
  refine RL.done ?_
  refine CD (fun h31 => ?_) (fun h31 => ?_)
  ·have hf := find_get ha h31 hno
   have er : postR most last (al.map pub) ls val = ((al.map pub).modify k fun a => (a.1, a.2.1, canS val), last, a.id, false, 0) := by unfold postR; rw [hf]; simp [ha, pub]
   rw [er]
   have hil : k < al.length := by omega
   have h3 := h.grow hg03
   obtain ⟨g, cap, tl, hvl, hbg, hclose⟩ := h3.row.open (by omega)
   cases hvl
   have hflat : (al.flatMap alC).length = al.length * 3 := flat_len alC 3 alC_len al
   refine RK.seq ?_
   refine RK.drawM No [(0, false), (1, false), (2, false), (3, false), (4, false), (5, false), (6, true), (7, false), (8, false), (9, true)] [9] mixed (by kernel_rfl) ?_
   refine GG ?_
   refine DF (Yld.fieldAddr fo192_1 rfl) ?_
   refine DQ (Yld.load p49 rfl (atM (h3.blk.cell rfl) (fun h => h))) (Mod.drew _ _) ?_
   refine GG ?_
   refine OD (Does.call rfl e185 (kept_okR val _)) ?_
   rintro _ _ ⟨rfl, rfl⟩
   refine ⟨Mod.drew _ _, ?_⟩
   refine DF (Yld.indexAddrN u49 i35 rfl rfl (hil)) ?_
   refine DF (Yld.fieldAddr fo35_2 rfl) ?_
   refine DL.opT rfl (.free rfl) rfl rfl (Does.store i25 rfl rfl rfl (hbg.mod (Mod.drew No _) (fun h => h)) (SetAt.of (by simp only [List.length_append, hflat]; omega))) ?_
   rintro _ w4 ⟨hb4, hm4, _⟩
   have hset : (al.flatMap alC ++ tl).set (0 + k * 3 + 2) (.float .f64 (canS val)) = (al.modify k fun a => setVal a (canS val)).flatMap alC ++ tl := by
     rw [List.set_append_left _ _ (by rw [hflat]; omega), Nat.zero_add, set_val _ _ _ hil]
   have hlen' : ((al.modify k fun a => setVal a (canS val)).flatMap alC).length = (al.flatMap alC).length := by rw [hflat, flat_len alC 3 alC_len]; simp
   have hrow4 := hclose w4 _ hlen' (by rw [← hset]; exact hb4)
   have hrl : (al.modify k fun a => setVal a (canS val)).length = al.length := by simp
   have hm34 : Mod (· = b1) w3 w4 := (Mod.drew _ _).trans hm4
   have hg4r : b1 ≠ r := hrne b1 rfl
   have ha' : (al.modify k fun a => setVal a (canS val))[k]? = some (setVal a (canS val)) := by simp [ha]
   have hsl4 : Sl No w4 (.slice (some ⟨b1, 0, none⟩) al.length c) 3 (al.modify k fun a => setVal a (canS val)).length ((al.modify k fun a => setVal a (canS val)).flatMap alC) := by rw [hrl]; exact Sl.own hrow4 (fun _ _ h => h)
   obtain ⟨b5, o5, c5', he5, _, _, hc5⟩ := hsl4.elem alC_len ha'
   rw [hrl] at he5
   cases he5
   refine GG ?_
   refine QQ (Yld.fieldAddr fo192_1 rfl) ?_
   refine QQ (Yld.load p49 rfl (at1 ((h3.blk.mod hm34 (Ne.symm hg4r)).cell rfl))) ?_
   refine RL.p rfl rfl ?_
   refine QQ (Yld.indexAddrN u49 i35 rfl rfl (hil)) ?_
   refine QQ (Yld.fieldAddr fo35_0 rfl) ?_
   refine QQ (Yld.load p3 rfl (at1 (hc5 0 _ rfl))) ?_
   refine GG ?_
   refine RK.ret_of Tryz.func135 (res3 rfl rfl rfl rfl) ?_ _
   exact ⟨_, rfl, P, rfl, ⟨_, al.modify k fun a => setVal a (canS val), ⟨h3.blk.mod hm34 (Ne.symm hg4r), by rw [hrl]; exact hrow4, fun x hx => by
     rcases mem_modify_or hx with h9 | ⟨y, hy, rfl⟩
     ·exact ((h3.sls x h9).mod (hm34.mono fun b _ e => e ▸ hNo b1 rfl)).off (by omega) (fun b _ e => hNP b e)
     ·exact ((h3.sls y hy).mod (hm34.mono fun b _ e => e ▸ hNo b1 rfl)).off (by omega) (fun b _ e => hNP b e), h.own, fun _ e => .inr e, fun b e => by have h8 := h.lt (hNP b e); have h7 := hg03.size; have h6 := hm34.size; omega⟩, by
     apply List.ext_getElem?
     intro j
     simp only [List.getElem?_map, List.getElem?_modify]
     cases al[j]? with
     | none => rfl
     | some x => by_cases hj : k = j <;> simp [hj, pub, setVal]⟩, (Mod.any' hg03 : Mod P w w3).trans (hm34.mono fun b _ e => e ▸ hPo b1 rfl), fun b e => .inl e⟩
  ·refine RK.skip ?_
   refine RK.inBlock ?_
   refine RK.region ?_
   iterate 2 refine RL.p rfl rfl ?_
   refine RL.re (d := 21) rfl rfl (succ_i64 (by omega)) ?_
   refine GG ?_
   exact RK.back (ih (k + 1) _ ⟨hg03, by omega, fun i b hi hb' => by by_cases e : i = k; (subst e; rw [ha] at hb'; cases hb'; exact h31); exact hno i b (by omega) hb'⟩ (by omega)) ⟨rfl, rfl, rfl, rfl, trivial⟩
 ·have hf : findS ((al.map pub).map (·.2.1)) ls = none := find_no fun i b hi => hno i b (by have := (List.getElem?_eq_some_iff.1 hi).1; omega) hi
  have hB2 := hB.mod (Mod.drew No _) (fun h => h)
  refine RK.exit rfl ?_
  refine GG ?_
  refine RK.drawM No [(0, false), (1, false), (2, false), (3, false), (4, false), (5, false), (6, false), (7, false), (8, false), (9, false)] [] mixed (by kernel_rfl) ?_
  refine GG ?_
  refine DF (Yld.fieldAddr fo192_1 rfl) ?_
  refine DQ (Yld.load p49 rfl (atM (hB.cell rfl) (fun h => h))) (Mod.drew _ _) ?_
  refine DQ (Yld.lenSl u49 rfl) (Mod.drew _ _) ?_
  refine GG ?_
  refine DF (Yld.fieldAddr fo192_0 rfl) ?_
  refine DQ (Yld.load p3 rfl (atM (hB.cell rfl) (fun h => h))) (Mod.drew _ _) ?_
  refine GG ?_
  refine CD (fun h58 => ?_) (fun h58 => ?_)
  ·have er : postR most last (al.map pub) ls val = (al.map pub, last, 0, false, 10) := by unfold postR; rw [hf]; simp only; rw [if_pos (by simpa using h58)]
   rw [er]
   refine GG ?_
   refine RK.ret_of Tryz.func135 (res3 rfl rfl rfl rfl) ?_ _
   exact ⟨_, rfl, P, rfl, ⟨_, al, (h.grow (hg.trans (Mod.drew _ _))).pass (Q := No) (Mod.refl _ _) (fun _ _ h => h) (fun _ h => h.elim) (fun _ e => .inr e) (fun b e => .inl (hNP b e)) (fun b e => (h.grow (hg.trans (Mod.drew _ _))).lt (hNP b e)), rfl⟩, Mod.any' (hg.trans (Mod.drew _ _)), fun b e => .inl e⟩
  ·have er : postR most last (al.map pub) ls val = (al.map pub ++ [(last + 1, ls, canS val)], last + 1, last + 1, true, 0) := by unfold postR; rw [hf]; simp only; rw [if_neg (by simpa using h58)]
   rw [er]
   refine GG ?_
   refine QQ (Yld.fieldAddr fo192_2 rfl) ?_
   refine QQ (Yld.load p3 rfl (at1 (hB2.cell rfl))) ?_
   refine RL.p rfl rfl ?_
   refine RL.re (d := 63) rfl rfl (add_i64 (z := last + 1) rfl (by omega) (by omega)) ?_
   refine RL.p rfl rfl ?_
   refine QQ (Yld.fieldAddr fo192_2 rfl) ?_
   refine OQ (Does.store i3 rfl rfl rfl hB2 (.s (.s .z))) ?_
   rintro _ w4 ⟨hb4, hm4, _⟩
   have hB4 : Blk w4 r 192 [.int .i64 most, .slice ad al.length c, .int .i64 (last + 1)] := hb4
   have hm04 : Mod (· = r) w w4 := (Mod.any' (hg.trans (Mod.drew _ _))).trans hm4
   have hrow4 := h.row.mod hm04 (fun b e e2 => hrne b e e2)
   have hv4 : SlL N w4 (.slice adv ls.length cv) ls := hv.mod (hm04.mono fun b _ e => e ▸ hNr)
   refine GG ?_
   refine RK.drawM (fun b => (Value.slice ad al.length c).ownBlock = some b) [(0, false), (1, false), (2, false), (3, false), (4, false), (5, false), (6, false), (7, false), (8, false), (9, false), (11, false), (10, true), (12, true), (13, false), (14, true), (15, true), (16, false), (17, false), (18, true)] [18] mixed (by kernel_rfl) ?_
   refine GG ?_
   refine DF (Yld.fieldAddr fo192_1 rfl) ?_
   refine DQ (Yld.load p49 rfl (atM (hB4.cell rfl) (fun e => hrne r e rfl))) (Mod.drew _ _) ?_
   refine GG ?_
   refine DF (Yld.fieldAddr fo192_2 rfl) ?_
   refine DQ (Yld.load p3 rfl (atM (hB4.cell rfl) (fun e => hrne r e rfl))) (Mod.drew _ _) ?_
   refine GG ?_
   refine OD (Does.append u33 i79 rfl rfl rfl rfl rfl (Row.nil _ _ _) ((hv4.mod (Mod.drew _ _)).noM) (allOne_labs ls) (by omega)) ?_
   rintro u5 w5 ⟨hr5, hm5, hu5⟩
   have hg5 : Grow w4 w5 := (Mod.drew No w4).trans (hm5.mono fun b _ e => by simp [Value.ownBlock] at e)
   refine ⟨hg5.any _, ?_⟩
   refine OD (Does.call rfl e185 (kept_okR val _)) ?_
   rintro _ _ ⟨rfl, rfl⟩
   refine ⟨hg5.any _, ?_⟩
   have hf5 : Fresh w4.heap.size u5 := fun b e => by rcases hu5 with h1 | h1; (rw [h1] at e; simp [Value.ownBlock] at e); (rw [h1] at e; cases e; simp only [World.drew]; omega)
   simp only [List.nil_append, Nat.zero_add] at hr5
   obtain ⟨ad5, c5, rfl⟩ := hr5.slice
   refine DF (Yld.build (v := .agg #[.int .i64 (last + 1), .slice ad5 ls.length c5, .float .f64 (canS val)]) rfl (fun w => by kernel_rfl)) ?_
   refine OD (Does.slice1 u49 i35 rfl rfl rfl rfl rfl) ?_
   rintro _ w6 ⟨b6, rfl, hn6⟩
   have hg6 : Grow w4 w6 := hg5.trans hn6.grow
   refine ⟨hg6.any _, ?_⟩
   refine OD (Does.append u49 i35 rfl rfl rfl rfl rfl (hrow4.mod hg6 (fun _ _ h => h)) (Sl.new hn6 3 1 rfl (by omega) (fun h => h)) (rfl) (by omega)) ?_
   rintro u7 w7 ⟨hr7, hm7, hu7⟩
   obtain ⟨ad7, c7, rfl⟩ := hr7.slice
   refine ⟨(hg6.any _).trans hm7, ?_⟩
   have hm47 : Mod (fun b => (Value.slice ad al.length c).ownBlock = some b) w4 w7 := (hg6.any _).trans hm7
   refine DL.p rfl rfl rfl ?_
   refine DF (Yld.fieldAddr fo192_1 rfl) ?_
   refine DL.opT rfl (.free rfl) rfl rfl (Does.store i49 rfl rfl rfl (hB4.mod hm47 (fun e => hrne r e rfl)) (.s .z)) ?_
   rintro _ w8 ⟨hb8, hm8, _⟩
   have hs6 := hg6.size
   have hs4 := hm04.size
   have hrlt := h.blk.lt
   have hx7 : ∀ b, (Value.slice ad7 (al.length + 1) c7).ownBlock = some b → (Value.slice ad al.length c).ownBlock = some b ∨ w6.heap.size ≤ b := fun b e => by
     rcases hu7 with h1 | h1
     ·exact .inl (h1 ▸ e)
     ·rw [h1] at e; cases e; exact .inr (Nat.le_refl _)
   have hrne7 : ∀ b, (Value.slice ad7 (al.length + 1) c7).ownBlock = some b → b ≠ r := fun b e e2 => by
     rcases hx7 b e with h1 | h1
     ·exact hrne b h1 e2
     ·omega
   have hmP : Mod P w w8 := ((hm04.mono fun b _ e => e ▸ hPr).trans (hm47.mono fun b _ e => hPo b e)).trans (hm8.mono fun b _ e => e ▸ hPr)
   have hmN : Mod N w w8 := hmP.mono fun b _ e => h.sub b e
   have hpassP : ∀ b, (b = r ∨ (Value.slice ad7 (al.length + 1) c7).ownBlock = some b) → P b ∨ w.heap.size ≤ b := fun b e => by
     rcases e with rfl | e
     ·exact .inl hPr
     ·rcases hx7 b e with h1 | h1
      ·exact .inl (hPo b h1)
      ·exact .inr (by omega)
   have hpass : ∀ b, (N b ∨ (b = r ∨ (Value.slice ad7 (al.length + 1) c7).ownBlock = some b)) → N b ∨ w.heap.size ≤ b := fun b e => e.elim .inl fun e => (hpassP b e).imp (h.sub b) id
   have hr8 := hr7.mod hm8 (fun b e e2 => hrne7 b e e2)
   have hlt8 : ∀ b, (N b ∨ (b = r ∨ (Value.slice ad7 (al.length + 1) c7).ownBlock = some b)) → b < w8.heap.size := fun b e => by
     rcases e with e | rfl | e
     ·have := h.lt e; have := hmP.size; omega
     ·exact hb8.lt
     ·exact hr8.lt e
   have hlb : Sl (fun b => N b ∨ (b = r ∨ (Value.slice ad7 (al.length + 1) c7).ownBlock = some b)) w8 (.slice ad5 ls.length c5) 2 ls.length (ls.flatMap labC) := by
     have h9 : Sl N w5 (.slice ad5 ls.length c5) 2 ls.length (ls.flatMap labC) := Sl.own hr5 (fun b e hb => by have h1 := hf5 b e; have h2 := h.lt hb; omega)
     have hm58 : Mod N w5 w8 := ((hn6.grow.any N).trans (hm7.mono fun b _ e => hNo b e)).trans (hm8.mono fun b _ e => e ▸ hNr)
     have hs5 := hg5.size
     exact h9.pass (by omega) hm58 (fun b e => by
      rcases e with e | rfl | e
      ·exact .inl e
      ·exact .inl hNr
      ·rcases hx7 b e with h1 | h1
       ·exact .inl (hNo b h1)
       ·exact .inr (by have := hn6.grow.size; omega))
   refine GG ?_
   refine QQ (Yld.fieldAddr fo192_2 rfl) ?_
   refine QQ (Yld.load p3 rfl (at1 (hb8.cell rfl))) ?_
   refine GG ?_
   refine RK.ret_of Tryz.func135 (res3 rfl rfl rfl rfl) ?_ _
   exact ⟨_, rfl, fun b => b = r ∨ (Value.slice ad7 (al.length + 1) c7).ownBlock = some b, rfl, ⟨_, al ++ [⟨last + 1, ls, canS val, .slice ad5 ls.length c5⟩], ⟨hb8, by
     have e1 : (al ++ [(⟨last + 1, ls, canS val, .slice ad5 ls.length c5⟩ : Al)]).flatMap alC = al.flatMap alC ++ (Value.agg #[.int .i64 (last + 1), .slice ad5 ls.length c5, .float .f64 (canS val)]).cells.toList := by simp [alC, Value.cells]
     rw [e1, List.length_append]; exact hr8, fun x hx => by
     rcases List.mem_append.1 hx with h9 | h9
     ·exact (h.sls x h9).pass (by omega) hmN hpass
     ·simp at h9; subst h9; exact hlb, fun b => Iff.rfl, fun _ e => .inr e, hlt8⟩, by simp [pub]⟩, hmP, hpassP⟩
end Go.Proofs.YthbjfhhiajihfaaGreat
set_option linter.unusedVariables false
set_option linter.unusedSimpArgs false
set_option maxHeartbeats 1000000
set_option maxRecDepth 100000
namespace Go.X
open Ieee
end Go.X
namespace Go.Proofs.YthbjfhhiajihfaaGreat
open Go Go.X
end Go.Proofs.YthbjfhhiajihfaaGreat
set_option linter.unusedVariables false
set_option linter.unusedSimpArgs false
set_option maxHeartbeats 1000000
set_option maxRecDepth 100000
namespace Go.Proofs.YthbjfhhiajihfaaGreat
open Go Go.X
end Go.Proofs.YthbjfhhiajihfaaGreat
set_option linter.unusedVariables false
set_option linter.unusedSimpArgs false
set_option maxHeartbeats 1000000
set_option maxRecDepth 100000
namespace Go.Proofs.YthbjfhhiajihfaaGreat
open Go Go.X
end Go.Proofs.YthbjfhhiajihfaaGreat
set_option linter.unusedVariables false
set_option linter.unusedSimpArgs false
set_option maxHeartbeats 1000000
set_option maxRecDepth 100000
namespace Go.Proofs.YthbjfhhiajihfaaGreat
open Go Go.X
end Go.Proofs.YthbjfhhiajihfaaGreat
set_option linter.unusedVariables false
set_option linter.unusedSimpArgs false
set_option maxHeartbeats 1000000
set_option maxRecDepth 100000
namespace Go.Proofs.YthbjfhhiajihfaaGreat
open Go Go.X
theorem resolve_eq (s : St) (id : Int) : (resolveS s id).1.al = (resolveR s.al id).1 ∧ (resolveS s id).2 = (resolveR s.al id).2 ∧ (resolveS s id).1.most = s.most ∧ (resolveS s id).1.last = s.last := by
 unfold resolveS resolveR
 rw [show placeS s id = whereI s.al id from rfl]
 cases whereI s.al id <;> exact ⟨rfl, rfl, rfl, rfl⟩
theorem post_eq (s : St) (h : Ok s) (hl : s.last ≤ 1000) (ls : List Lab) (his : isS ls = true) (val : Nat) : (postS s ls val).1.al = (postR s.most s.last s.al ls val).1 ∧ (postS s ls val).1.last = (postR s.most s.last s.al ls val).2.1 ∧ (postS s ls val).2 = (postR s.most s.last s.al ls val).2.2 ∧ (postS s ls val).1.most = s.most := by
 have h1 := h.alOut
 have hf : fullS s.most s.last s.out = decide (s.most ≤ s.al.length) := by
  unfold fullS
  rw [Bool.eq_iff_iff]
  simp only [decide_eq_true_eq]
  omega
 unfold postS postR
 rw [if_neg (by simp [his])]
 cases findS (s.al.map (·.2.1)) ls with
 | some i => exact ⟨rfl, rfl, rfl, rfl⟩
 | none =>
  simp only [hf, decide_eq_true_eq]
  split <;> exact ⟨rfl, rfl, rfl, rfl⟩
theorem post_last (s : St) (ls : List Lab) (val : Nat) : (postS s ls val).1.last ≤ s.last + 1 := by
 unfold postS
 split
 ·simp only; omega
 ·split
  ·simp only; omega
  ·split <;> (simp only; omega)
theorem KX.pass {O M M' Q : Nat → Prop} {w w' : World} {p : Nat} {s : St} (h : KX O M w p s) (hm : Mod Q w w') (h1 : ∀ b, O b → ¬ Q b) (h2 : ∀ b, Q b → b < w.heap.size → M b) (h3 : ∀ b, O b → M' b) (h4 : ∀ b, M' b → M b ∨ w.heap.size ≤ b) (h5 : ∀ b, M' b → b < w'.heap.size) : KX O M' w' p s := by
 obtain ⟨⟨q, ix, mh, mr, vo, vl, al, hO, h⟩, hok, hgd⟩ := h
 have k3 : ∀ b, own p q ix mh mr vo vl b → ¬ Q b := fun b e => h1 b ((hO b).2 e)
 refine ⟨⟨q, ix, mh, mr, vo, vl, al, hO, h.blk.mod hm (k3 p (.inl rfl)), h.pool.mod hm (k3 q (.inr (.inl rfl))) (fun b e => k3 b (.inr (.inr (.inr (.inr (.inl e)))))), ?_, h.row.mod hm (fun b e => k3 b (.inr (.inr (.inr (.inr (.inr (.inl e))))))), h.als, fun a ha => (h.sls a ha).pass (by omega) (hm.mono fun b hb e => h2 b e hb) h4, fun b e => h3 b ((hO b).2 e), h5⟩, hok, hgd⟩
 have i1 : IdxAt (fun b => M b ∨ M' b) w ix mh mr s.has s.rows := h.idx.off fun b hb e => e.elim (fun e => e) fun e => (h4 b e).elim (fun e => e) (fun e => by omega)
 exact (i1.mod hm (fun b hb e => .inl (h2 b e hb)) (k3 ix (.inr (.inr (.inr (.inr (.inr (.inr rfl))))))) (k3 mh (.inr (.inr (.inl rfl)))) (k3 mr (.inr (.inr (.inr (.inl rfl)))))).off fun b _ e => .inr e
theorem KX.lt {O M : Nat → Prop} {w : World} {p : Nat} {s : St} (h : KX O M w p s) {b : Nat} (hb : M b) : b < w.heap.size := h.at_.lt hb
structure Twin (O P M : Nat → Prop) (w : World) (p r : Nat) (s : St) : Prop where
 km : KX O M w p s
 ra : RAt P M w r s.most s.last s.al
 off : ∀ b, O b → ¬ P b
theorem Twin.grow {O P M : Nat → Prop} {w w' : World} {p r : Nat} {s : St} (h : Twin O P M w p r s) (hg : Grow w w') : Twin O P M w' p r s := ⟨h.km.grow hg, h.ra.grow hg, h.off⟩
theorem Twin.both {O P M O' P' : Nat → Prop} {w w1 w2 : World} {p r : Nat} {s s' : St} (h : Twin O P M w p r s) (k1 : KX O' (fun b => M b ∨ O' b) w1 p s') (m1 : Mod O w w1) (n1 : ∀ b, O' b → O b ∨ w.heap.size ≤ b) (k2 : RAt P' (fun b => (M b ∨ O' b) ∨ P' b) w2 r s'.most s'.last s'.al) (m2 : Mod P w1 w2) (n2 : ∀ b, P' b → P b ∨ w1.heap.size ≤ b) : Twin O' P' (fun b => (M b ∨ O' b) ∨ P' b) w2 p r s' := by
 have hOlt : ∀ b, O b → b < w.heap.size := fun b e => h.km.lt (h.km.at_.sub e)
 have hPlt : ∀ b, P b → b < w.heap.size := fun b e => h.km.lt (h.ra.sub e)
 have hOP : ∀ b, O' b → ¬ P b := fun b e e2 => by
  rcases n1 b e with h1 | h1
  ·exact h.off b h1 e2
  ·have := hPlt b e2; omega
 refine ⟨k1.pass m2 hOP (fun b e _ => .inl (h.ra.sub e)) (fun b e => .inl (.inr e)) (fun b e => ?_) (fun b e => k2.lt e), k2, fun b e e2 => ?_⟩
 ·rcases e with e | e
  ·exact .inl e
  ·rcases n2 b e with h1 | h1
   ·exact .inl (.inl (h.ra.sub h1))
   ·exact .inr h1
 ·rcases n2 b e2 with h1 | h1
  ·exact hOP b e h1
  ·have := k1.lt (.inr e); omega
theorem Twin.other {O P M O' : Nat → Prop} {w w1 : World} {p r : Nat} {s s' : St} (h : Twin O P M w p r s) (k1 : KX O' (fun b => M b ∨ O' b) w1 p s') (m1 : Mod O w w1) (n1 : ∀ b, O' b → O b ∨ w.heap.size ≤ b) : RAt P (fun b => M b ∨ O' b) w1 r s.most s.last s.al :=
 h.ra.pass m1 (fun b e e2 => h.off b e2 e) (fun b e _ => h.km.at_.sub e) (fun b e => .inl (h.ra.sub e)) (fun b e => by
  rcases e with e | e
  ·exact .inl e
  ·rcases n1 b e with h1 | h1
   ·exact .inl (h.km.at_.sub h1)
   ·exact .inr h1) (fun b e => k1.lt e)
structure Sv where
 d : Int
 id : Int
 labs : List Int
 val : Nat
 v : Value
def svC (x : Sv) : List Value := [.int .u8 x.d, .int .i64 x.id, x.v, .float .f64 x.val]
theorem svC_len (x : Sv) : (svC x).length = 4 := rfl
def Sv.Ok (w : World) (x : Sv) : Prop := Sl No w x.v 1 x.labs.length (ints x.labs) ∧ (∀ n ∈ x.labs, -9223372036854775808 ≤ n ∧ n ≤ 9223372036854775807) ∧ x.val < 18446744073709551616
theorem labels_size (l : List Int) : ∀ x ∈ labelsS l, x.name.size ≤ 9223372036854775807 := fun x hx => by
 obtain ⟨h1, _, _⟩ := raw_ok l
 have := (nmL_ok _ (h1.nm x (mem_isort.1 hx))).2.2
 omega
theorem step15_ok (w : World) (p r : Nat) (s : St) (O P M : Nat → Prop) (h : Twin O P M w p r s) (hl : s.last ≤ 1000) (w0 : World) (hM0 : ∀ b, M b → w0.heap.size ≤ b) (hg0 : Grow w0 w) (x : Sv) (hx : x.Ok w0) :
  Fx Tryz.prog 70 [pp p, pp r, .agg #[.int .u8 x.d, .int .i64 x.id, x.v, .float .f64 x.val]] w (fun u w' => ∃ s' O' P' M', u = .bool true ∧ Twin O' P' M' w' p r s' ∧ s'.last ≤ s.last + 1 ∧ (∀ b, M' b → w0.heap.size ≤ b) ∧ Grow w0 w' ∧ Mod (fun b => O b ∨ P b) w w') := by
 obtain ⟨d, id, labs, val, xv⟩ := x
 obtain ⟨hx1, hx2, hx3⟩ := hx
 simp only at hx1 hx2 hx3
 obtain ⟨adx, cx, rfl⟩ := hx1.shape
 have hlen := h.km.km.len16
 have h0P : ∀ b, P b → w0.heap.size ≤ b := fun b e => hM0 b (h.ra.sub e)
 have h0O : ∀ b, O b → w0.heap.size ≤ b := fun b e => hM0 b (h.km.at_.sub e)
 have hgw := hg0.size
 refine enter Tryz.func70 rfl rfl rfl _ (Pick.sub (l := [0, 1, 2]) (.cons rfl (.cons rfl (.cons rfl .nil)))) ?_
 refine GG ?_
 refine OP (Does.box rfl) ?_
 rintro _ w1 ⟨b5, rfl, hn5⟩
 have h1 := h.grow hn5.grow
 have hs5 := hn5.grow.size
 refine GG ?_
 refine QQ (Yld.fieldAddr fo124_0 rfl) ?_
 refine QQ (Yld.load p5 rfl (at1 (hn5.blk.cell rfl))) ?_
 refine QQ (Yld.rem rfl rfl (by omega)) ?_
 refine GG ?_
 refine CD (fun h17 => ?_) (fun h17 => ?_)
 ·have hb5O : ¬ O b5 := fun e => by have h3 := h.km.lt (h.km.at_.sub e); have h4 := hn5.at_; omega
  have hb5P : ¬ P b5 := fun e => by have h3 := h.km.lt (h.ra.sub e); have h4 := hn5.at_; omega
  refine RK.seq ?_
  refine RK.drawM (fun b => O b ∨ P b) [(0, false), (1, false), (2, false), (4, false), (5, false), (6, false), (3, true), (7, true), (8, false), (9, false)] [] mixed (by kernel_rfl) ?_
  refine DL.p rfl rfl rfl ?_
  refine DF (Yld.fieldAddr fo124_1 rfl) ?_
  refine DQ (Yld.load p3 rfl (atM (hn5.blk.cell rfl) (fun e => e.elim hb5O hb5P))) (Mod.drew _ _) ?_
  refine DL.p rfl rfl rfl ?_
  refine DF (Yld.fieldAddr fo124_1 rfl) ?_
  refine DQ (Yld.load p3 rfl (atM (hn5.blk.cell rfl) (fun e => e.elim hb5O hb5P))) (Mod.drew _ _) ?_
  refine OD (Does.call rfl e133 ((h1.grow (Mod.drew _ _)).km.resolve id)) ?_
  rintro _ w3 ⟨O', rfl, k3, m3, n3⟩
  refine ⟨(Mod.drew _ _).trans (m3.mono fun b _ e => .inl e), ?_⟩
  have h2 := h1.grow (Mod.drew _ _)
  have r3 := h2.other k3 m3 n3
  obtain ⟨e1, e2, e3, e4⟩ := resolve_eq s id
  obtain ⟨vl, al, hra, hal⟩ := r3
  have hall : al.length ≤ 16 := by have h5 := congrArg List.length hal; simp at h5; omega
  refine OD (Does.call rfl e134 (rresolve_ok P _ _ r _ _ _ al hra (by omega) id)) ?_
  rintro _ w4 ⟨P', rfl, k4, m4, n4⟩
  refine ⟨((Mod.drew _ _).trans (m3.mono fun b _ e => .inl e)).trans (m4.mono fun b _ e => .inr e), ?_⟩
  rw [hal] at k4 ⊢
  rw [← e1, ← e3, ← e4] at k4
  have hT := h2.both k3 m3 n3 k4 m4 n4
  refine GG ?_
  refine RK.ret_of Tryz.func70 (res1 rfl rfl) ?_ _
  exact ⟨_, rfl, _, _, _, _, by rw [e2]; simp, hT, by rw [e4]; omega, fun b e => by
    have q3 := m3.size
    have q2 : w1.drew.heap.size = w1.heap.size := rfl
    rcases e with (e | e) | e
    ·exact hM0 b e
    ·rcases n3 b e with h9 | h9
     ·exact h0O b h9
     ·omega
    ·rcases n4 b e with h9 | h9
     ·exact h0P b h9
     ·omega
   , (((hg0.trans hn5.grow).trans (Mod.drew _ _)).then m3 (fun b hb e => by have := h0O b e; omega)).then m4 (fun b hb e => by have := h0P b e; omega), ((Mod.any' (hn5.grow.trans (Mod.drew No w1))).trans (m3.mono fun b _ e => .inl e)).trans (m4.mono fun b _ e => .inr e)⟩
 ·refine GG ?_
  refine QQ (Yld.fieldAddr fo124_2 rfl) ?_
  refine QQ (Yld.load p37 rfl (at1 (hn5.blk.cell rfl))) ?_
  refine OP (Does.call rfl e31 (labels_ok No labs _ _ (hx1.mod (hg0.trans hn5.grow)) hx2)) ?_
  rintro u2 w2 ⟨ad2, c2, rfl, hr2, hf2, hg2⟩
  have his := labels_isS labs
  have hsz := labels_size labs
  generalize labelsS labs = ls at *
  have h2 := h1.grow hg2
  have hs2 := hg2.size
  have hvM : SlL M w2 (.slice ad2 ls.length c2) ls := Sl.own hr2 (fun b e e2 => by have h3 := hf2 b e; have h4 := h1.km.lt e2; omega)
  have hB2 := hn5.blk.mod hg2 (fun h => h)
  refine GG ?_
  refine QQ (Yld.fieldAddr fo124_3 rfl) ?_
  refine QQ (Yld.load p25 rfl (at1 (hB2.cell rfl))) ?_
  refine OP (Does.call rfl e127 (h2.km.post hvM hx3)) ?_
  rintro _ w3 ⟨O', rfl, k3, m3, n3⟩
  have hb5O : ¬ O b5 := fun e => by have h3 := h.km.lt (h.km.at_.sub e); have h4 := hn5.at_; omega
  have hB3 := hB2.mod m3 hb5O
  have r3 := h2.other k3 m3 n3
  obtain ⟨e1, e2, e3, e4⟩ := post_eq s h.km.ok hl ls his val
  have hv3 : SlL (fun b => M b ∨ O' b) w3 (.slice ad2 ls.length c2) ls := hvM.pass (by omega) (m3.mono fun b _ e => h.km.at_.sub e) (fun b e => e.elim .inl fun e => (n3 b e).imp (fun e => h.km.at_.sub e) (fun h => h))
  refine GG ?_
  refine QQ (Yld.fieldAddr fo124_3 rfl) ?_
  refine QQ (Yld.load p25 rfl (at1 (hB3.cell rfl))) ?_
  obtain ⟨vl, al, hra, hal⟩ := r3
  have hall : al.length ≤ 16 := by have h5 := congrArg List.length hal; simp at h5; omega
  refine OP (Does.call rfl e135 (rpost_ok P _ _ r _ _ _ al hra (by omega) h.km.ok.last0 (by omega) ls _ hv3 his hsz val)) ?_
  rintro _ w4 ⟨P', rfl, k4, m4, n4⟩
  rw [hal] at k4 ⊢
  rw [← e1, ← e2, ← e4] at k4
  have hT := h2.both k3 m3 n3 k4 m4 n4
  have hlast := post_last s ls val
  refine GG ?_
  refine RL.knownT (d := 51) rfl rfl (decide_eq_true (by rw [e3])) ?_
  iterate 2 refine QQ (Yld.pure rfl) ?_
  refine QQ (Yld.eqBool u4 rfl rfl) ?_
  refine GG ?_
  refine RL.knownT (d := 56) rfl rfl (by rw [e3]; simp) ?_
  iterate 3 refine QQ (Yld.pure rfl) ?_
  refine GG ?_
  refine RK.ret_of Tryz.func70 (res1 rfl rfl) ?_ _
  exact ⟨_, rfl, _, _, _, _, by rw [e3]; simp, hT, hlast, fun b e => by
    have q3 := m3.size
    rcases e with (e | e) | e
    ·exact hM0 b e
    ·rcases n3 b e with h9 | h9
     ·exact h0O b h9
     ·omega
    ·rcases n4 b e with h9 | h9
     ·exact h0P b h9
     ·omega
   , (((hg0.trans hn5.grow).trans hg2).then m3 (fun b hb e => by have := h0O b e; omega)).then m4 (fun b hb e => by have := h0P b e; omega), ((Mod.any' (hn5.grow.trans hg2)).trans (m3.mono fun b _ e => .inl e)).trans (m4.mono fun b _ e => .inr e)⟩
end Go.Proofs.YthbjfhhiajihfaaGreat
set_option linter.unusedVariables false
set_option linter.unusedSimpArgs false
set_option maxHeartbeats 1000000
set_option maxRecDepth 100000
namespace Go.Proofs.YthbjfhhiajihfaaGreat
open Go Go.X
end Go.Proofs.YthbjfhhiajihfaaGreat
set_option linter.unusedVariables false
set_option linter.unusedSimpArgs false
set_option maxHeartbeats 4000000
set_option maxRecDepth 100000
namespace Go.Proofs.YthbjfhhiajihfaaGreat
open Go Go.X Go.Rex
noncomputable def foundS (L : List AlS) (ms : List Mt) : List Int := (L.filter fun a => ms.all fun m => holdsM m a.2.1).map (·.1)
noncomputable def findSt (L : List AlS) (ms : List Mt) : List Int × Int := if listM ms = false then ([], 1) else if anyL ms = true then ([], 7) else (foundS L ms, 0)
theorem foundS_snoc {al : List Al} {k : Nat} {a : Al} (h : al[k]? = some a) (ms : List Mt) : foundS ((al.take (k + 1)).map pub) ms = foundS ((al.take k).map pub) ms ++ (if (ms.all fun m => holdsM m a.ls) = true then [a.id] else []) := by
 have hk := (List.getElem?_eq_some_iff.1 h).1
 unfold foundS
 rw [List.take_succ_eq_append_getElem hk, (List.getElem?_eq_some_iff.1 h).2, List.map_append, List.filter_append, List.map_append]
 by_cases e : (ms.all fun m => holdsM m a.ls) = true
 ·simp only [List.map_cons, List.map_nil, List.filter_cons, List.filter_nil, pub, e, if_true]
 ·simp only [List.map_cons, List.map_nil, List.filter_cons, List.filter_nil, pub, e, Bool.false_eq_true, if_false]
theorem foundS_len (L : List AlS) (ms : List Mt) : (foundS L ms).length ≤ L.length := by unfold foundS; rw [List.length_map]; exact List.length_filter_le _ _
theorem mem_foundS {L : List AlS} {ms : List Mt} {id : Int} : id ∈ foundS L ms ↔ ∃ ls, (id, ls) ∈ hasOf L ∧ (ms.all fun m => holdsM m ls) = true := by
 unfold foundS hasOf
 constructor
 ·intro h
  obtain ⟨a, ha, rfl⟩ := List.mem_map.1 h
  obtain ⟨h1, h2⟩ := List.mem_filter.1 ha
  exact ⟨a.2.1, List.mem_map.2 ⟨a, h1, rfl⟩, h2⟩
 ·rintro ⟨ls, h1, h2⟩
  obtain ⟨a, ha, e⟩ := List.mem_map.1 h1
  simp only [Prod.mk.injEq] at e
  obtain ⟨rfl, rfl⟩ := e
  exact List.mem_map.2 ⟨a, List.mem_filter.2 ⟨ha, h2⟩, rfl⟩
theorem KM.find {M : Nat → Prop} {w : World} {p : Nat} {s : St} (h : KM M w p s) (hl : s.last ≤ 1000) (ms : List Mt) (v : Value) (hv : SlM No w v ms) :
  Fx Tryz.prog 71 [pp p, v] w (fun u w' => ∃ z, u = .tuple #[z, .int .i64 (findSt s.al ms).2] ∧ Row w' 3 1 z (findSt s.al ms).1.length (ints (findSt s.al ms).1) ∧ Grow w w') := by
 obtain ⟨q, ix, mh, mr, vo, vl, al, hown, hsa⟩ := h.at_
 have h16 := h.len16
 have hIM : ∀ w', Grow w w' → IM (fun b => b = mh ∨ b = mr) No w' ix s.has s.rows := fun w' hg =>
  ⟨⟨mh, mr, (hsa.idx.off (fun b _ e => by
   rcases e with (rfl | rfl) | e
   ·exact hsa.ownM _ (by unfold own; simp)
   ·exact hsa.ownM _ (by unfold own; simp)
   ·exact e.elim)).mod hg (fun _ _ e => e.elim) (fun h => h) (fun h => h) (fun h => h), fun b => Iff.rfl⟩, fun b e => e.elim, h.gd.ix, fun t ht => by
   rw [h.gd.has] at ht
   obtain ⟨a, ha, rfl⟩ := List.mem_map.1 ht
   exact h.gd.sets a ha, fun t ht => by
   rw [h.gd.has] at ht
   obtain ⟨a, ha, rfl⟩ := List.mem_map.1 ht
   have := h.gd.le a ha
   simp only
   omega, by rw [h.gd.has]; simp only [hasOf, List.length_map]; omega, fun t ht => by have := h.ok.rows t ht; omega⟩
 refine enter Tryz.func71 rfl rfl rfl _ (Pick.sub (l := [0, 1]) (.cons rfl (.cons rfl .nil))) ?_
 refine GG ?_
 refine OP (Does.call rfl e136 (matchList_ok No ms v _ hv)) ?_
 rintro _ w1 ⟨rfl, hg1⟩
 refine GG ?_
 refine CD (fun h6 => ?_) (fun h6 => ?_)
 ·have hf : findSt s.al ms = ([], 1) := if_pos (by simpa using h6)
  refine GG ?_
  refine RK.ret_of Tryz.func71 (res2 rfl rfl rfl) ?_ _
  exact ⟨_, rfl, _, by rw [hf], by rw [hf]; exact Row.nil _ _ _, hg1⟩
 ·have h6' : ¬ listM ms = false := by simpa using h6
  refine GG ?_
  refine OP (Does.call rfl e137 (matchAnyL_ok No ms v _ (hv.mod hg1))) ?_
  rintro _ w2 ⟨rfl, hg2⟩
  refine GG ?_
  refine CD (fun h10 => ?_) (fun h10 => ?_)
  ·have hf : findSt s.al ms = ([], 7) := (if_neg h6').trans (if_pos h10)
   refine GG ?_
   refine RK.ret_of Tryz.func71 (res2 rfl rfl rfl) ?_ _
   exact ⟨_, rfl, _, by rw [hf], by rw [hf]; exact Row.nil _ _ _, hg1.trans hg2⟩
  ·have hf : findSt s.al ms = (foundS s.al ms, 0) := (if_neg h6').trans (if_neg (by simpa using h10))
   have hg02 := hg1.trans hg2
   refine GG ?_
   refine QQ (Yld.fieldAddr fo190_1 rfl) ?_
   refine QQ (Yld.load p187 rfl (at1 ((hsa.blk.mod hg02 (fun h => h)).cell rfl))) ?_
   refine RL.p rfl rfl ?_
   refine OP (Does.call rfl e138 ((hIM _ hg02).find holdsM ms (fun m _ => matchHolds_ok m) (fun m _ hk _ ls h => holdsM_eq hk h) _ (hv.mod hg02))) ?_
   rintro z w3 ⟨⟨R, hr3, hR, hmem⟩, hf3, hg3⟩
   have hRe : R = foundS s.al ms := by
     refine ext_ris hR (h.gd.ids.sublist (List.filter_sublist.map _)) fun id => ?_
     rw [hmem, h.gd.has]
     exact mem_foundS.symm
   refine GG ?_
   refine RK.ret_of Tryz.func71 (res2 rfl rfl rfl) ?_ _
   exact ⟨_, rfl, _, by rw [hf], by rw [hf, ← hRe]; exact hr3, hg02.trans hg3⟩
theorem rfind_ok (P N : Nat → Prop) (w : World) (r : Nat) (most last : Int) (vl : Value) (al : List Al) (h : RA P N w r most last vl al) (hal : al.length ≤ 1000) (hz : ∀ a ∈ al, ∀ x ∈ a.ls, x.value.size ≤ 100000) (ms : List Mt) (hn : ∀ m ∈ ms, m.name.size ≤ 9223372036854775807) (v : Value) (hv : SlM No w v ms) :
  Fx Tryz.prog 73 [pp r, v] w (fun u w' => ∃ z, u = .tuple #[z, .int .i64 (findSt (al.map pub) ms).2] ∧ Row w' 3 1 z (findSt (al.map pub) ms).1.length (ints (findSt (al.map pub) ms).1) ∧ Grow w w') := by
 obtain ⟨ad, c, rfl⟩ := h.row.slice
 have hsl : Sl No w (.slice ad al.length c) 3 al.length (al.flatMap alC) := Sl.own h.row (fun _ _ h => h)
 refine enter Tryz.func73 rfl rfl rfl _ (Pick.sub (l := [0, 1]) (.cons rfl (.cons rfl .nil))) ?_
 refine GG ?_
 refine OP (Does.call rfl e57 (listR_ok No ms hn v _ hv)) ?_
 rintro _ w1 ⟨rfl, hg1⟩
 refine GG ?_
 refine CD (fun h10 => ?_) (fun h10 => ?_)
 ·have hf : findSt (al.map pub) ms = ([], 1) := if_pos (by simpa using h10)
  refine GG ?_
  refine RK.ret_of Tryz.func73 (res2 rfl rfl rfl) ?_ _
  exact ⟨_, rfl, _, by rw [hf], by rw [hf]; exact Row.nil _ _ _, hg1⟩
 ·have h6' : ¬ listM ms = false := by simpa using h10
  refine GG ?_
  refine OP (Does.call rfl e116 (anyLR_ok No ms hn v _ (hv.mod hg1))) ?_
  rintro _ w2 ⟨rfl, hg2⟩
  refine RL.done ?_
  refine CD (fun h12 => ?_) (fun h12 => ?_)
  ·have hf : findSt (al.map pub) ms = ([], 7) := (if_neg h6').trans (if_pos h12)
   refine GG ?_
   refine RK.ret_of Tryz.func73 (res2 rfl rfl rfl) ?_ _
   exact ⟨_, rfl, _, by rw [hf], by rw [hf]; exact Row.nil _ _ _, hg1.trans hg2⟩
  ·have hf : findSt (al.map pub) ms = (foundS (al.map pub) ms, 0) := (if_neg h6').trans (if_neg (by simpa using h12))
   have hg02 := hg1.trans hg2
   refine GG ?_
   refine RK.loop (fun s : Nat × Value => [(0, pp r), (1, v), (6, s.2), (7, .int .i64 (s.1 : Int))]) (fun s w' => Row w' 3 1 s.2 (foundS ((al.take s.1).map pub) ms).length (ints (foundS ((al.take s.1).map pub) ms)) ∧ Fresh w.heap.size s.2 ∧ Grow w w' ∧ s.1 ≤ al.length) (fun s => al.length - s.1) (0, .slice none 0 0) ⟨rfl, rfl, rfl, rfl, trivial⟩ ⟨by rw [List.take_zero]; exact Row.nil _ _ _, fun b e => by simp [Value.ownBlock] at e, hg02, by simp⟩ (fun s w' hI ih => ?_)
   obtain ⟨k, u⟩ := s
   obtain ⟨hr, hfr, hg, hk⟩ := hI
   simp only at hr hfr hk
   have hlen := foundS_len ((al.take k).map pub) ms
   rw [List.length_map, List.length_take] at hlen
   have hB := h.blk.mod hg (fun h => h)
   refine GG ?_
   refine QQ (Yld.fieldAddr fo192_1 rfl) ?_
   refine QQ (Yld.load p49 rfl (at1 (hB.cell rfl))) ?_
   refine QQ (Yld.lenSl u49 rfl) ?_
   refine GG ?_
   refine CD (fun h19 => ?_) (fun h19 => ?_)
   ·obtain ⟨a, hak⟩ : ∃ a, al[k]? = some a := ⟨al[k]'(by omega), List.getElem?_eq_getElem (by omega)⟩
    obtain ⟨b1, o1, c1', he1, _, _, hc1⟩ := hsl.elem alC_len hak
    cases he1
    have hsn := foundS_snoc hak ms
    have ham := List.mem_of_getElem? hak
    refine GG ?_
    refine QQ (Yld.fieldAddr fo192_1 rfl) ?_
    refine QQ (Yld.load p49 rfl (at1 (hB.cell rfl))) ?_
    refine RL.p rfl rfl ?_
    refine QQ (Yld.indexAddrN u49 i35 rfl rfl (by omega)) ?_
    refine QQ (Yld.fieldAddr fo35_1 rfl) ?_
    refine QQ (Yld.load p33 rfl (at1 (hg.cell (hc1 1 _ rfl) (fun h => h)))) ?_
    refine OP (Does.call rfl e89 (allR_ok ms hn No No a.ls (hz a ham) v a.v _ (hv.mod hg) ((h.sls a ham).noM.mod hg))) ?_
    rintro _ w3 ⟨rfl, hg3⟩
    have hg03 := hg.trans hg3
    refine RL.done ?_
    refine CD (fun h31 => ?_) (fun h31 => ?_)
    ·refine GG ?_
     refine QQ (Yld.fieldAddr fo192_1 rfl) ?_
     refine QQ (Yld.load p49 rfl (at1 ((hB.mod hg3 (fun h => h)).cell rfl))) ?_
     refine RL.p rfl rfl ?_
     refine QQ (Yld.indexAddrN u49 i35 rfl rfl (by omega)) ?_
     refine QQ (Yld.fieldAddr fo35_0 rfl) ?_
     refine QQ (Yld.load p3 rfl (at1 (hg03.cell (hc1 0 _ rfl) (fun h => h)))) ?_
     refine OP (Does.slice1 u37 i3 rfl rfl rfl rfl rfl) ?_
     rintro _ w4 ⟨b4, rfl, hn4⟩
     refine OP (Does.append u37 i3 rfl rfl rfl rfl rfl ((hr.mod hg3 (fun _ _ h => h)).mod hn4.grow (fun _ _ h => h)) (Sl.new hn4 1 1 rfl (by omega) (fun h => h)) (rfl) (by omega)) ?_
     rintro z5 w5 ⟨hr5, hm5, hu5⟩
     have hs3 := hg3.size
     have hs4 := hn4.grow.size
     have hs0 := hg.size
     refine RL.p rfl rfl ?_
     refine RL.done ?_
     refine RK.inBlock ?_
     refine RK.region ?_
     iterate 2 refine RL.p rfl rfl ?_
     refine RL.re (d := 21) rfl rfl (succ_i64 (by omega)) ?_
     refine GG ?_
     exact RK.back (ih (k + 1, z5) _ ⟨by
       simp only
       rw [hsn, if_pos h31, List.length_append]
       have := hr5
       simp only [ints, List.map_append] at this ⊢
       exact this, fun y e => by
       rcases hu5 with h1 | h1
       ·exact hfr y (h1 ▸ e)
       ·rw [h1] at e; cases e; omega, (hg03.trans hn4.grow).then hm5 (fun y hy e => by have := hfr y e; omega), by simp only; omega⟩ (by simp only; omega)) ⟨rfl, rfl, rfl, rfl, trivial⟩
    ·refine RK.skip ?_
     refine RK.inBlock ?_
     refine RK.region ?_
     iterate 2 refine RL.p rfl rfl ?_
     refine RL.re (d := 21) rfl rfl (succ_i64 (by omega)) ?_
     refine GG ?_
     exact RK.back (ih (k + 1, u) _ ⟨by simp only; rw [hsn, if_neg (by simpa using h31), List.append_nil]; exact hr.mod hg3 (fun _ _ h => h), hfr, hg03, by simp only; omega⟩ (by simp only; omega)) ⟨rfl, rfl, rfl, rfl, trivial⟩
   ·have ek : al.take k = al := List.take_of_length_le (by omega)
    rw [ek] at hr
    refine RK.exit rfl ?_
    refine GG ?_
    refine RK.ret_of Tryz.func73 (res2 rfl rfl rfl) ?_ _
    exact ⟨_, rfl, _, by rw [hf], by rw [hf]; exact hr, hg⟩
theorem afinds_ok (l : List Sv) (vl : Value) (ds : List Dm) (vd : Value) (ms : List Mt) (vm : Value) (w : World) (hl : Sl No w vl 4 l.length (l.flatMap svC)) (hx : ∀ x ∈ l, x.Ok w) (hd : Sl No w vd 3 ds.length (ds.flatMap dmC)) (hm : SlM No w vm ms) (hn : ∀ m ∈ ms, m.name.size ≤ 9223372036854775807) :
  Fx Tryz.prog 17 [vl, vd, vm] w (fun u w' => u = .bool true ∧ Grow w w') := by
 obtain ⟨adl, cl, rfl⟩ := hl.shape
 refine enter Tryz.func17 rfl rfl rfl _ (Pick.sub (l := [0, 1, 2]) (.cons rfl (.cons rfl (.cons rfl .nil)))) ?_
 refine GG ?_
 refine QQ (Yld.lenSl u117 rfl) ?_
 refine GG ?_
 refine SP 21 (fun h21 => ?_) (fun h21 => ?_)
 ·iterate 3 refine RL.no (.no rfl rfl rfl rfl) rfl rfl ?_
  refine GG ?_
  refine RK.condT rfl ?_
  refine GG ?_
  refine OP (Does.call rfl e67 (runs_ok _)) ?_
  rintro _ w2 ⟨rfl, hg2⟩
  refine GG ?_
  refine RK.ret_of Tryz.func17 (res1 rfl rfl) ?_ _
  exact ⟨_, rfl, rfl, hg2⟩
 ·refine QQ (Yld.pure rfl) ?_
  refine OP (Does.call rfl e55 (weightM_ok No ms vm 200 _ hm)) ?_
  rintro _ w0 ⟨⟨n, rfl⟩, hg0⟩
  refine QQ (Yld.pure rfl) ?_
  refine GG ?_
  refine CD (fun h25 => ?_) (fun h25 => ?_)
  ·refine GG ?_
   refine OP (Does.call rfl e67 (runs_ok _)) ?_
   rintro _ w2 ⟨rfl, hg2⟩
   refine GG ?_
   refine RK.ret_of Tryz.func17 (res1 rfl rfl) ?_ _
   exact ⟨_, rfl, rfl, hg0.trans hg2⟩
  ·refine GG ?_
   refine OP (Does.call rfl e68 (km_new 16 _)) ?_
   rintro _ w1 ⟨p, O, rfl, k1, hO, hg1⟩
   refine OP (Does.call rfl e69 (newAlerts_ok 16 _)) ?_
   rintro _ w2 ⟨r, P, rfl, k2, hP, hg2⟩
   have hs0 := hg0.size
   have hs1 := hg1.size
   have hs2 := hg2.size
   have hTw : Twin O P (fun b => O b ∨ P b) w2 p r (St.new 16) := by
     have hx2 : KX O O w1 p (St.new 16) := ⟨k1.at_, k1.ok, k1.gd⟩
     refine ⟨hx2.pass (Q := No) hg2 (fun _ _ h => h) (fun _ h => h.elim) (fun b e => .inl e) (fun b e => e.imp (fun h => h) (hP b)) (fun b e => e.elim (fun e => by have := k1.lt e; omega) (fun e => k2.lt e)), ?_, fun b e e2 => by have h1 := k1.lt e; have h2 := hP b e2; omega⟩
     obtain ⟨vl, al, hra, e⟩ := k2
     obtain rfl : al = [] := by simpa using e
     exact ⟨vl, [], ⟨hra.blk, hra.row, by simp, hra.own, fun b e => .inr e, fun b e => e.elim (fun e => by have := k1.lt e; omega) (fun e => hra.lt e)⟩, rfl⟩
   refine GG ?_
   refine QQ (Yld.eqPtr Tryz.underlying118 rfl rfl) ?_
   refine RL.done ?_
   refine RK.condF (hcF rfl (rfl)) ?_
   refine GG ?_
   refine RK.loop (fun k : Nat => [(0, .slice adl l.length cl), (1, vd), (2, vm), (7, pp p), (8, pp r), (9, .int .i64 (k : Int))]) (fun k w' => ∃ s O P M, Twin O P M w' p r s ∧ s.last ≤ k ∧ k ≤ l.length ∧ (∀ b, M b → w.heap.size ≤ b) ∧ Grow w w') (fun k => l.length - k) 0 ⟨rfl, rfl, rfl, rfl, rfl, rfl, trivial⟩ ⟨_, O, P, _, hTw, by simp [St.new], by omega, fun b e => e.elim (fun e => by have := hO b e; omega) (fun e => by have := hP b e; omega), (hg0.trans hg1).trans hg2⟩ (fun k w3 hI ih => ?_)
   obtain ⟨s, O, P, M, hT, hlast, hk, hM, hg⟩ := hI
   refine GG ?_
   refine QQ (Yld.lenSl u117 rfl) ?_
   refine GG ?_
   refine CD (fun h34 => ?_) (fun h34 => ?_)
   ·obtain ⟨x, hx'⟩ : ∃ x, l[k]? = some x := ⟨l[k]'(by omega), List.getElem?_eq_getElem (by omega)⟩
    obtain ⟨b1, o1, c1', he1, _, _, hc1⟩ := hl.elem svC_len hx'
    cases he1
    have hxo := hx x (List.mem_of_getElem? hx')
    refine GG ?_
    refine QQ (Yld.indexAddrN u117 i124 rfl rfl (by omega)) ?_
    refine QQ (Yld.loadN (cs := [.int .u8 x.d, .int .i64 x.id, x.v, .float .f64 x.val]) a124 rfl (atN (fun j u hj => hg.cell (hc1 j u hj) (fun h => h)))) ?_
    refine OP (Does.call rfl e70 (step15_ok _ p r s O P M hT (by omega) w hM hg x hxo)) ?_
    rintro _ w4 ⟨s', O', P', M', rfl, hT', hl', hM', hg', hm4⟩
    refine GG ?_
    refine RK.condF (hcF rfl (rfl)) ?_
    refine RK.skip ?_
    refine RK.inBlock ?_
    refine RK.region ?_
    iterate 2 refine RL.p rfl rfl ?_
    refine RL.re (d := 36) rfl rfl (succ_i64 (by omega)) ?_
    refine GG ?_
    exact RK.back (ih (k + 1) _ ⟨s', O', P', M', hT', by omega, by omega, hM', hg'⟩ (by omega)) ⟨rfl, rfl, rfl, rfl, rfl, rfl, trivial⟩
   ·have hkm := hT.km.km
    obtain ⟨vlr, al, hra, hal⟩ := hT.ra
    have hall : al.length = s.al.length := by have := congrArg List.length hal; simpa using this
    have h16 := hkm.len16
    have hzz : ∀ a ∈ al, ∀ x ∈ a.ls, x.value.size ≤ 100000 := fun a ha x hx => by have := isS_val (hkm.gd.sets (pub a) (by rw [← hal]; exact List.mem_map_of_mem (f := pub) ha)) x hx; omega
    have hll : s.last ≤ 1000 := by omega
    refine RK.exit rfl ?_
    refine GG ?_
    refine OP (Does.call rfl e72 (mats_ok No ds false vd _ (hd.mod hg))) ?_
    rintro va w4 ⟨hra4, _, hg4⟩
    refine OP (Does.call rfl e71 ((hkm.grow hg4).find hll (matsS ds false) va (Sl.own hra4 (fun _ _ h => h)))) ?_
    rintro _ w5 ⟨z5, rfl, hr5, hg5⟩
    have hg35 := hg4.trans hg5
    refine GG ?_
    refine OP (Does.call rfl e72 (mats_ok No ds false vd _ ((hd.mod hg).mod hg35))) ?_
    rintro vb w6 ⟨hrb6, _, hg6⟩
    have hg36 := hg35.trans hg6
    refine OP (Does.call rfl e73 (rfind_ok P M _ r _ _ vlr al (hra.grow hg36) (by omega) hzz (matsS ds false) (matsS_name ds false) vb (Sl.own hrb6 (fun _ _ h => h)))) ?_
    rintro _ w7 ⟨z7, rfl, hr7, hg7⟩
    have hg37 := hg36.trans hg7
    refine GG ?_
    refine OP (Does.call rfl e71 ((hkm.grow hg37).find hll ms vm ((hm.mod hg).mod hg37))) ?_
    rintro _ w8 ⟨z8, rfl, hr8, hg8⟩
    have hg38 := hg37.trans hg8
    refine GG ?_
    refine OP (Does.call rfl e73 (rfind_ok P M _ r _ _ vlr al (hra.grow hg38) (by omega) hzz ms hn vm ((hm.mod hg).mod hg38))) ?_
    rintro _ w9 ⟨z9, rfl, hr9, hg9⟩
    have hg59 := (hg6.trans hg7).trans (hg8.trans hg9)
    refine GG ?_
    refine OP (Does.call rfl e23 (sameInts_ok No _ _ z5 z7 _ (Sl.own (hr5.mod hg59 (fun _ _ h => h)) (fun _ _ h => h)) (Sl.own (hr7.mod (hg8.trans hg9) (fun _ _ h => h)) (fun _ _ h => h)))) ?_
    rintro _ w10 ⟨rfl, hg10⟩
    refine RL.p rfl rfl ?_
    refine RL.knownT (d := 74) rfl rfl (decide_eq_true (by rw [hal])) ?_
    iterate 3 refine QQ (Yld.pure rfl) ?_
    refine GG ?_
    refine RL.knownT (d := 79) rfl rfl (decide_eq_true (by rw [hal])) ?_
    iterate 2 refine QQ (Yld.pure rfl) ?_
    refine OP (Does.call rfl e23 (sameInts_ok No _ _ z8 z9 _ (Sl.own (hr8.mod (hg9.trans hg10) (fun _ _ h => h)) (fun _ _ h => h)) (Sl.own (hr9.mod hg10 (fun _ _ h => h)) (fun _ _ h => h)))) ?_
    rintro _ w11 ⟨rfl, hg11⟩
    refine GG ?_
    refine RL.knownT (d := 84) rfl rfl (decide_eq_true (by rw [hal])) ?_
    iterate 3 refine QQ (Yld.pure rfl) ?_
    refine GG ?_
    refine RL.knownT (d := 89) rfl rfl (decide_eq_true (by rw [hal])) ?_
    refine OP (Does.call rfl e67 (runs_ok _)) ?_
    rintro _ w12 ⟨rfl, hg12⟩
    refine GG ?_
    refine RK.ret_of Tryz.func17 (res1 rfl rfl) ?_ _
    exact ⟨_, rfl, rfl, ((((hg.trans hg38).trans hg9).trans hg10).trans hg11).trans hg12⟩
end Go.Proofs.YthbjfhhiajihfaaGreat
namespace Go.Proofs.YthbjfhhiajihfaaGreat.alertFinds
open Go.ChangeShapes Go.WideShapes Go.ChangeAt Go.RowKit Go.X
set_option linter.unusedVariables false
theorem own : ownKnob Tryz.prog.godebug = none := by kernel_rfl
theorem laidOut : laidOutB Tryz.prog = true := by kernel_rfl
theorem params_ok : ∀ t ∈ Tryz.f17.params.toList, Tryz.prog.readableRec t = true ∧ t < Tryz.prog.types.size := by
 rw [Tryz.params17]
 intro t ht
 simp only [List.mem_cons, List.not_mem_nil, or_false] at ht
 rcases ht with rfl | rfl | rfl <;> exact ⟨by kernel_rfl, of_decide_eq_true (by kernel_rfl)⟩
set_option maxRecDepth 100000 in
theorem lifted (os : Os) (started : os.Started) (H : Type) (enc : TypeId × Value → H) :
  ReturnsInHanded {} Tryz.checked os 17 .any (Rows.alertFindsSpec.pre6 enc Tryz.prog Tryz.f17 Rows.alertFindsRow.domain false) (Rows.alertFindsSpec.post enc Tryz.prog Tryz.f17 false true false false) := by
 refine returnsInHanded_of_change (C := Tryz.checked) own started (by kernel_rfl) Tryz.func17
  (ChangeSpec.witness6 (enc := enc) (C := Tryz.checked) false ⟨#[], #[.slice none 0 0, .slice none 0 0, .slice none 0 0], []⟩ 8 (by kernel_rfl) (by kernel_rfl) (by kernel_rfl) (by kernel_rfl)) ?_
 intro W base args ds gs before hval0 hW hcnd _
 have hval : ∀ (j : Nat) t v, Tryz.f17.params[j]? = some t → args[j]? = some v → Value.okWide Tryz.prog W .any base t v := hval0
 have hW' := hW
 obtain ⟨p, q, hA0, hV, rfl, hfz, hnd⟩ := hW
 have hlt : ∀ x ∈ p, x.block < W.heap.size := fun x hx => hW'.lt x (List.mem_append_left _ hx)
 have hA : DataW.TrodAll enc Tryz.prog W 0 (fun _ => true) true Tryz.f17.params.toList args.toList ds p := hA0
 have hA1 := hA
 rw [Tryz.params17] at hA hval
 obtain ⟨v0, vs0, d0, ds0, p0, q0, hargs, rfl, rfl, h0, r0⟩ := trodAll_cons hA
 obtain ⟨v1, vs1, d1, ds1, p1, q1, rfl, rfl, rfl, h1, r1⟩ := trodAll_cons r0
 obtain ⟨v2, vs2, d2, ds2, p2, q2, rfl, rfl, rfl, h2, r2⟩ := trodAll_cons r1
 obtain ⟨rfl, rfl, rfl⟩ := trodAll_nil r2
 obtain rfl : args = #[v0, v1, v2] := by cases args; simp_all
 obtain ⟨rfl, rfl⟩ := trodVars_none hV
 have hv0 := hval 0 117 v0 rfl rfl
 have hv1 := hval 1 42 v1 rfl rfl
 have hv2 := hval 2 24 v2 rfl rfl
 clear hval0 hval
 simp only [List.append_nil] at hW' hlt
 obtain ⟨l, hl, hQ, _⟩ := open_list svC (fun x => x.Ok W) svC_len Tryz.underlying117 (by kernel_rfl) (by omega) hv0 h0 (fun m cs y h => by
  obtain ⟨a, b, c, e, rfl, ⟨_, _, ha⟩, ⟨_, _, hb⟩, ⟨_, _, hc⟩, _, _, he⟩ := trod_4 Tryz.underlying124 (t0 := 5) (t1 := 3) (t2 := 37) (t3 := 25) rfl (by kernel_rfl) (by kernel_rfl) (by kernel_rfl) (by kernel_rfl) (by kernel_rfl) h
  obtain ⟨d, hd, _⟩ := trod_int Tryz.underlying5 ha
  obtain ⟨i, hi, hir⟩ := trod_i64 Tryz.underlying3 hb
  obtain ⟨v, xs, hv, hs, hr, _⟩ := trod_list (fun x : Int => [Value.int .i64 x]) (fun x => -9223372036854775808 ≤ x ∧ x ≤ 9223372036854775807) (sz := 1) (fun _ => rfl) Tryz.underlying37 (by kernel_rfl) (by omega) hc (fun m cs y h => trod_i64 Tryz.underlying3 h)
  obtain ⟨f, hf, hfl⟩ := trod_f64 Tryz.underlying25 he
  obtain rfl : a = .int .u8 d := by simpa using hd
  obtain rfl : b = .int .i64 i := by simpa using hi
  obtain rfl : c = v := by simpa using hv
  obtain rfl : e = .float .f64 f := by simpa using hf
  rw [flat_one] at hs
  exact ⟨⟨d, i, xs, f, c⟩, rfl, hs, hr, hfl⟩)
 obtain ⟨dm, hdm, _, _⟩ := open_list dmC (fun _ => True) dmC_len Tryz.underlying42 (by kernel_rfl) (by omega) hv1 h1 (fun m cs y h => by
  obtain ⟨a, b, c, rfl, ⟨_, _, ha⟩, ⟨_, _, hb⟩, _, _, hc⟩ := trod_3 Tryz.underlying196 (t0 := 3) (t1 := 3) (t2 := 3) rfl (by kernel_rfl) (by kernel_rfl) (by kernel_rfl) (by kernel_rfl) h
  obtain ⟨x, hx, _⟩ := trod_i64 Tryz.underlying3 ha
  obtain ⟨y, hy, _⟩ := trod_i64 Tryz.underlying3 hb
  obtain ⟨z, hz, _⟩ := trod_i64 Tryz.underlying3 hc
  obtain rfl : a = .int .i64 x := by simpa using hx
  obtain rfl : b = .int .i64 y := by simpa using hy
  obtain rfl : c = .int .i64 z := by simpa using hz
  exact ⟨⟨x, y, z⟩, rfl, trivial⟩)
 have mtO : ∀ (m : Nat) (cs : List Value) (y : DataW H × List MemPlace), DataW.trod enc Tryz.prog W 0 (fun _ => true) true m 135 cs = some y → ∃ d : Mt, cs = mtC d ∧ d.name.size ≤ 9223372036854775807 := fun m cs y h => by
  obtain ⟨a, b, c, rfl, ⟨_, _, ha⟩, ⟨_, _, hb⟩, _, _, hc⟩ := trod_3 Tryz.underlying135 (t0 := 3) (t1 := 9) (t2 := 9) rfl (by kernel_rfl) (by kernel_rfl) (by kernel_rfl) (by kernel_rfl) h
  obtain ⟨x, hx, _⟩ := trod_i64 Tryz.underlying3 ha
  obtain ⟨y, hy, hyl⟩ := trod_str Tryz.underlying9 hb
  obtain ⟨z, hz, _⟩ := trod_str Tryz.underlying9 hc
  obtain rfl : a = .int .i64 x := by simpa using hx
  obtain rfl : b = .string y := by simpa using hy
  obtain rfl : c = .string z := by simpa using hz
  exact ⟨⟨x, y, z⟩, rfl, hyl⟩
 obtain ⟨ms, hms, hn, _⟩ := open_list mtC (fun x => x.name.size ≤ 9223372036854775807) mtC_len Tryz.underlying24 (by kernel_rfl) (by omega) hv2 h2 mtO
 have hwalk := afinds_ok l v0 dm v1 ms v2 W hl hQ hdm hms hn
 refine Calls.mono hwalk ?_
 rintro e W' ⟨v, rfl, rfl, hg⟩
 refine ⟨_, rfl, post_grow hW' (fun _ _ _ => trodAll_cons_mk (shut_bool Tryz.underlying4 _) trodAll_mk0) (fun sp hsp => ?_) (fun _ => rfl) hg (ok_one (by kernel_rfl) rfl (okWide_bool_mk Tryz.underlying4 _))⟩
 have hA2 := hA1
 simp only [List.append_nil] at hA2 hsp
 exact trodAll_grow laidOut hg sp _ _ _ _ params_ok hlt hsp hA2
end Go.Proofs.YthbjfhhiajihfaaGreat.alertFinds
