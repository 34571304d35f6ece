/- What the claim stands on, part 6. Of own lemmas only those that it reaches. -/
import Derived.Test.YtnnmgfnhblbolaaGreatDoorKc5
set_option linter.unusedVariables false
set_option linter.unusedSimpArgs false
set_option maxHeartbeats 800000
set_option maxRecDepth 100000
namespace Go.Proofs.YtnnmgfnhblbolaaGreatDoor
open Go Go.X
theorem owns_of {w : World} {m : Nat} {l : List (Int × Value)} (h : MapAt (Value.int .i64) w m l) (hn : (l.map (·.1)).Nodup) (hr : ∀ t ∈ l, -9223372036854775808 ≤ t.1 ∧ t.1 ≤ 9223372036854775807) (hl : l.length ≤ maxLen) :
    ∃ D : DataW Unit, w.ownsMap Tryz.prog 3 (fun _ => some (.lit (.bool true), [])) m l.length D ∧ (intKeys D).Perm (l.map (·.1)) ∧ Maps.size D = l.length := by
  obtain ⟨es, c, h1, h2, h3, h4⟩ := h.out
  have hlen : es.toList.length = l.length := by have := congrArg List.length h2; simpa using this
  have hkey : ∀ x : Int, -9223372036854775808 ≤ x ∧ x ≤ 9223372036854775807 → keyOf Tryz.prog 3 (.int .i64 x) = some (.int .i64 x) := fun x hx => by
    simp [keyOf, Tryz.underlying3, mapKey, Lit.wf, IntKind.min, IntKind.max, IntKind.signed, IntKind.bits]
    omega
  have hread : ∀ x ∈ es.toList, ∃ k : Int, x.key = .int .i64 k ∧ -9223372036854775808 ≤ k ∧ k ≤ 9223372036854775807 := fun x hx => by
    have h5 : (x.key, x.val) ∈ l.map fun p => (Value.int .i64 p.1, p.2) := by rw [← h2]; exact List.mem_map_of_mem (f := fun e : MapEntry => (e.key, e.val)) hx
    obtain ⟨p, hp, e⟩ := List.mem_map.1 h5
    simp only [Prod.mk.injEq] at e
    exact ⟨p.1, e.1.symm, hr p hp⟩
  have hrd : ∀ x ∈ es.toList, ∀ k : Int, x.key = .int .i64 k → WideElems.rd (H := Unit) Tryz.prog 3 (fun _ => some (.lit (.bool true), [])) x = some (.int .i64 k, .lit (.bool true)) := fun x hx k hk => by
    obtain ⟨k', hk', h6⟩ := hread x hx
    rw [hk] at hk'
    cases hk'
    simp [WideElems.rd, hk, hkey k h6]
  have hkeys : es.toList.map (·.key) = (l.map (·.1)).map (Value.int .i64) := by
    have := congrArg (List.map fun p : Value × Value => p.1) h2
    rw [List.map_map, List.map_map] at this
    rw [List.map_map]
    exact this
  have hg : es.toList.map (WideElems.rg (H := Unit) Tryz.prog 3 fun _ => some (.lit (.bool true), [])) = (l.map (·.1)).map fun k => ((Lit.int .i64 k : Lit), (DataW.lit (.bool true) : DataW Unit)) := by
    apply List.ext_getElem?
    intro i
    have h7 := congrArg (fun q => q[i]?) hkeys
    simp only [List.getElem?_map] at h7 ⊢
    cases he : es.toList[i]? with
    | none => rw [he] at h7; cases hll : l[i]? with
      | none => rfl
      | some p => rw [hll] at h7; simp at h7
    | some x =>
      rw [he] at h7
      cases hll : l[i]? with
      | none => rw [hll] at h7; simp at h7
      | some p =>
        rw [hll] at h7
        simp at h7
        have := hrd x (List.mem_of_getElem? he) p.1 h7
        simp [WideElems.rg, this]
  have hnd : (es.toList.map (·.key)).Nodup := by
    rw [hkeys]
    exact List.pairwise_map.2 (hn.imp fun {a b} hne e => hne (by simpa using e))
  have hsz : es.size = l.length := by rw [← hlen]; simp
  refine ⟨.map ((es.toList.map (WideElems.rg (H := Unit) Tryz.prog 3 fun _ => some (.lit (.bool true), []))).foldr DataW.insert []), ⟨es, c, h1, ⟨by omega, ⟨h4, h3, hnd⟩, fun x hx => by obtain ⟨k, hk, _⟩ := hread x hx; exact ⟨_, hrd x hx k hk⟩⟩, by omega, rfl⟩, ?_, ?_⟩
  · rw [hg]
    refine ((WideShapes.sorted_perm _).map _).trans ?_
    rw [List.map_map]
    have : ((fun p : Lit × DataW Unit => Go.intOf p.1) ∘ fun k => ((Lit.int .i64 k : Lit), (DataW.lit (.bool true) : DataW Unit))) = id := by funext k; rfl
    rw [this, List.map_id]
  · rw [hg, Maps.size_eq, (WideShapes.sorted_perm _).length_eq]
    simp
theorem sortsI (m : Nat) : AnyZI.SortsIn Tryz.prog Tryz.sorted260_ren Fence.wide m :=
  ⟨fun blk off cap ss W hH hblk hsz => callsIn_wide.2 (Tryz.slices_Sort_int blk off cap ss W hH hblk hsz), fun p cap W => callsIn_wide.2 (Tryz.slices_Sort_int_none p cap W)⟩
theorem keysCall (mb : Option Nat) (w : World) : Fx Tryz.prog 261 [.map mb] w (fun u w' => u = .func (.func 297) #[] #[.pointer (some ⟨w.heap.size, 0, none⟩)] ∧ w' = w.alloc (.cells #[.map mb] 175)) := by
  refine Calls.mono ((callsIn_wide (n := 5)).1 (AnyZI.keys_in Tryz.keys261 Fence.wide 5 trivial rfl mb w)) ?_
  rintro e w' ⟨rfl, rfl⟩
  exact ⟨_, rfl, rfl, rfl⟩
end Go.Proofs.YtnnmgfnhblbolaaGreatDoor
set_option linter.unusedVariables false
set_option linter.unusedSimpArgs false
set_option maxHeartbeats 800000
set_option maxRecDepth 100000
namespace Go.Proofs.YtnnmgfnhblbolaaGreatDoor
open Go Go.X
theorem row_of {w : World} {base : Nat} {t : TypeId} {sz : Nat} {v : Value} {k : Nat} {xs : List Value} (h : w.ownsRow base t sz v k xs) : Row w t sz v k xs ∧ Fresh base v := by
  refine ⟨⟨h.1, ?_⟩, fun b e => ?_⟩
  · rcases h.2 with h2 | ⟨g, cap, cur, h2, _, r⟩
    · exact .inl h2
    · exact .inr ⟨g, cap, cur, h2, Nat.zero_le _, r⟩
  · rcases h.2 with ⟨rfl, _⟩ | ⟨g, cap, cur, rfl, hb, _⟩
    · simp [Value.ownBlock] at e
    · simp [Value.ownBlock] at e; omega
theorem sortI_perm {l l' : List Int} (h : l.Perm l') : l.mergeSort (fun x y => decide (x ≤ y)) = sortI l' := mergeSort_of_perm_i h
theorem sortedCall {w : World} {m : Nat} {l : List (Int × Value)} (h : MapAt (Value.int .i64) w m l) (hn : (l.map (·.1)).Nodup) (hr : ∀ t ∈ l, -9223372036854775808 ≤ t.1 ∧ t.1 ≤ 9223372036854775807) (hl : l.length ≤ 1000000) :
    Fx Tryz.prog 260 [.func (.func 297) #[] #[.pointer (some ⟨w.heap.size, 0, none⟩)]] (w.alloc (.cells #[.map (some m)] 175)) (fun u w' => Row w' 3 1 u (sortI (l.map (·.1))).length (ints (sortI (l.map (·.1)))) ∧ Fresh w.heap.size u ∧ Grow w w') := by
  have hml : (1000000 : Nat) ≤ maxLen := by decide
  obtain ⟨D, hown, hperm, hsize⟩ := owns_of h hn hr (by omega)
  have hbl := hown.lt
  have hseq : SeqGives Fence.wide 2 Tryz.prog 297 #[.pointer (some ⟨w.heap.size, 0, none⟩)] encZ (fun ss => ss.Perm (intKeys D)) (Maps.size D) (w.alloc (.cells #[.map (some m)] 175)) :=
    AnyZI.keys_gives (ρ := Tryz.keys261_ren) { Tryz.keys261 with } Fence.wide _ trivial rfl (by omega) w.heap.size m l.length D _ (by simp) (by simp) (by
      obtain ⟨es, clock, hb, Ft, hs, hD⟩ := hown
      exact ⟨es, clock, (RowKit.Below.heap_alloc _ _ m hbl).trans hb, Ft, hs, hD⟩)
  refine Calls.mono ((callsIn_wide (n := 5)).1 (AnyZI.sorted_in Tryz.sorted260 Fence.wide 5 trivial trivial trivial trivial rfl (by omega) (sortsI _) (enters_of Tryz.func270 (by kernel_rfl) rfl) 297 #[.pointer (some ⟨w.heap.size, 0, none⟩)] trivial (enters_of Tryz.func297 (by kernel_rfl) rfl) _ _ (by omega) (by omega) _ hseq)) ?_
  rintro e w' ⟨v, ss, rfl, hS, hrow, _, hb⟩
  obtain ⟨h1, h2⟩ := row_of hrow
  have e1 := sortI_perm (hS.trans hperm)
  have e2 : ss.length = (sortI (l.map (·.1))).length := by rw [sortI_len, ← (hS.trans hperm).length_eq]
  refine ⟨v, rfl, ?_, fun b e => ?_, (Mod.alloc No w _).trans (Grow.of_below hb)⟩
  · rw [← e2, ← e1]; exact h1
  · have := h2 b e
    simp at this
    omega
def idsS (has : List (Int × List Lab)) : List Int := sortI (has.map (·.1))
theorem idsS_ris {has : List (Int × List Lab)} (hn : (has.map (·.1)).Nodup) : Ris (idsS has) := by
  have h1 := sortI_le (has.map (·.1))
  have h2 : (sortI (has.map (·.1))).Nodup := (List.mergeSort_perm _ _).nodup_iff.2 hn
  exact (h1.and h2).imp fun ⟨a, b⟩ => by omega
theorem mem_idsS {has : List (Int × List Lab)} {x : Int} : x ∈ idsS has ↔ x ∈ has.map (·.1) := by unfold idsS sortI; simp
theorem ids_ok (M : Nat → Prop) (w : World) (ix mh mr : Nat) (has : List (Int × List Lab)) (rows : List (LabK × List Int)) (h : IdxAt M w ix mh mr has rows) (hn : (has.map (·.1)).Nodup) (hr : ∀ t ∈ has, -9223372036854775808 ≤ t.1 ∧ t.1 ≤ 9223372036854775807) (hl : has.length ≤ 1000000) :
    Fx Tryz.prog 207 [pp ix] w (fun u w' => Row w' 3 1 u (idsS has).length (ints (idsS has)) ∧ Fresh w.heap.size u ∧ Grow w w') := by
  obtain ⟨l, hl1, hl2, hl3⟩ := h.hl
  have hk : (l.map fun t => (t.1, t.2.2)).map (·.1) = has.map (·.1) := by rw [← hl1]; simp [List.map_map]
  have hlen : l.length = has.length := by rw [← hl1]; simp
  have hcall := sortedCall hl2 (by rw [hk]; exact hn) (fun t ht => by
    obtain ⟨t', ht', rfl⟩ := List.mem_map.1 ht
    exact hr (t'.1, t'.2.1) (by rw [← hl1]; exact List.mem_map_of_mem (f := fun t : Int × (List Lab × Value) => (t.1, t.2.1)) ht')) (by simpa [hlen] using hl)
  rw [hk] at hcall
  refine enter Tryz.func207 rfl rfl rfl _ (Pick.sub (l := [0]) (.cons rfl .nil)) ?_
  refine RK.seq ?_
  refine RK.region ?_
  refine RL.p rfl rfl ?_
  refine RL.done ?_
  refine RK.seq ?_
  refine RK.region ?_
  iterate 2 refine RL.p rfl rfl ?_
  refine RL.q (.free rfl) rfl rfl (Yld.fieldAddr fo178_0 rfl) ?_
  refine RL.q (.free rfl) rfl rfl (Yld.load p175 rfl (at1 (h.blk.cell rfl))) ?_
  refine RL.op (.free rfl) rfl rfl (Does.call rfl e261 (keysCall (some mh) _)) ?_
  rintro _ _ ⟨rfl, rfl⟩
  refine RL.op (.free rfl) rfl rfl (Does.call rfl e260 (hcall)) ?_
  rintro u2 w2 ⟨hr2, hf2, hg2⟩
  refine RL.p rfl rfl ?_
  refine RL.done ?_
  refine RK.ret_of Tryz.func207 (res1 rfl rfl) ?_ _
  exact ⟨_, rfl, hr2, hf2, hg2⟩
theorem posting_ok (M : Nat → Prop) (w : World) (ix mh mr : Nat) (has : List (Int × List Lab)) (rows : List (LabK × List Int)) (h : IdxAt M w ix mh mr has rows) (hB : ∀ t ∈ rows, t.2.length ≤ 1000000000000) (nm vl : ByteArray) :
    Fx Tryz.prog 209 [pp ix, .string nm, .string vl] w (fun u w' => Row w' 3 1 u ((lookM rows (nm, vl)).getD []).length (ints ((lookM rows (nm, vl)).getD [])) ∧ Fresh w.heap.size u ∧ Grow w w') := by
  obtain ⟨r, hr1, hr2, hr3⟩ := h.rl
  have hbnd := look_bound (B := 1000000000000) hB (nm, vl)
  obtain ⟨row0, hrow0⟩ : ∃ row0, (lookM rows (nm, vl)).getD [] = row0 := ⟨_, rfl⟩
  rw [hrow0] at hbnd ⊢
  obtain ⟨vv, hval, hsl⟩ : ∃ vv, (lookM (r.map fun t => (t.1, t.2.2)) (nm, vl)).getD (.slice none 0 0) = vv ∧ Sl M w vv 1 row0.length (ints row0) := by
    rw [← hrow0]
    have e1 := lookM_map (fun a : List Int × Value => a.1) (nm, vl) r
    have e2 := lookM_map (fun a : List Int × Value => a.2) (nm, vl) r
    rw [hr1] at e1
    rw [e1, e2]
    cases hh : lookM r (nm, vl) with
    | none => exact ⟨_, rfl, Sl.nil _ _ _ _ _⟩
    | some a => exact ⟨_, rfl, hr3 _ (lookM_mem hh)⟩
  refine enter Tryz.func209 rfl rfl rfl _ (Pick.sub (l := [0, 1, 2]) (.cons rfl (.cons rfl (.cons rfl .nil)))) ?_
  refine RK.seq ?_
  refine RK.region ?_
  refine RL.p rfl rfl ?_
  refine RL.done ?_
  refine RK.seq ?_
  refine RK.region ?_
  iterate 2 refine RL.p rfl rfl ?_
  refine RL.q (.free rfl) rfl rfl (Yld.fieldAddr fo178_1 rfl) ?_
  refine RL.q (.free rfl) rfl rfl (Yld.load p176 rfl (at1 (h.blk.cell rfl))) ?_
  iterate 2 refine RL.p rfl rfl ?_
  refine RL.q (.free rfl) rfl rfl (Yld.build (v := .agg #[.string nm, .string vl]) rfl (fun w => by kernel_rfl)) ?_
  refine RL.q (.free rfl) rfl rfl (Yld.lookup Tryz.underlying176 key261 i41 (k := (nm, vl)) rfl rfl (fun w' e => e ▸ hr2)) ?_
  refine RL.re (d := 14) rfl rfl (hval) ?_
  refine RL.op (.free rfl) rfl rfl (Does.call rfl e172 (cloneI_ok M row0 vv _ hsl (by omega))) ?_
  rintro u2 w2 ⟨hr2', hf2, hg2⟩
  refine RL.p rfl rfl ?_
  refine RL.done ?_
  refine RK.ret_of Tryz.func209 (res1 rfl rfl) ?_ _
  exact ⟨_, rfl, hr2', hf2, hg2⟩
end Go.Proofs.YtnnmgfnhblbolaaGreatDoor
set_option linter.unusedVariables false
set_option linter.unusedSimpArgs false
set_option maxHeartbeats 800000
set_option maxRecDepth 100000
namespace Go.Proofs.YtnnmgfnhblbolaaGreatDoor
open Go Go.X
theorem isS_val {ls : List Lab} (h : isS ls = true) (x : Lab) (hx : x ∈ ls) : x.value.size ≤ 24 := by
  obtain ⟨i, hi⟩ := List.getElem?_of_mem hx
  unfold isS at h
  simp only [Bool.and_eq_true, List.all_eq_true, List.mem_range] at h
  have h2 := h.2 i (List.getElem?_eq_some_iff.1 hi).1
  unfold okAt at h2
  rw [hi] at h2
  simp only [Bool.and_eq_true] at h2
  have h3 := h2.1.2
  unfold valS at h3
  simp at h3; omega
structure Mt where
  kind : Int
  name : ByteArray
  value : ByteArray
  deriving DecidableEq, Inhabited
def mtC (m : Mt) : List Value := [.int .i64 m.kind, .string m.name, .string m.value]
theorem mtC_len (m : Mt) : (mtC m).length = 3 := rfl
abbrev SlM (M : Nat → Prop) (w : World) (v : Value) (ms : List Mt) : Prop := Sl M w v 3 ms.length (ms.flatMap mtC)
def likeS (m : Mt) : Bool := decide (m.kind = 3 ∨ m.kind = 4)
theorem like_ok (m : Mt) (w : World) : Fx Tryz.prog 254 [.agg #[.int .i64 m.kind, .string m.name, .string m.value]] w (fun u w' => u = .bool (likeS m) ∧ Grow w w') := by
  refine enter Tryz.func254 rfl rfl rfl _ (Pick.sub (l := [0]) (.cons rfl .nil)) ?_
  refine RK.seq ?_
  refine RK.region ?_
  refine RL.op (.free rfl) rfl rfl (Does.box rfl) ?_
  rintro _ w1 ⟨b1, rfl, hn1⟩
  refine RL.p rfl rfl ?_
  refine RL.done ?_
  refine RK.seq ?_
  refine RK.region ?_
  refine RL.q (.free rfl) rfl rfl (Yld.fieldAddr fo29_0 rfl) ?_
  refine RL.q (.free rfl) rfl rfl (Yld.load p3 rfl (at1 (hn1.blk.cell rfl))) ?_
  iterate 2 refine RL.p rfl rfl ?_
  first | refine RL.splitD (d := 6) rfl rfl (fun h6 => ?_) (fun h6 => ?_) | refine RL.splitN (d := 6) rfl rfl (fun h6 => ?_) (fun h6 => ?_) | refine RL.split (d := 6) rfl rfl (fun h6 => ?_) (fun h6 => ?_)
  · iterate 3 refine RL.no (.no rfl rfl rfl rfl) rfl rfl ?_
    iterate 2 refine RL.p rfl rfl ?_
    refine RL.done ?_
    refine RK.ret_of Tryz.func254 (res1 rfl rfl) ?_ _
    exact ⟨_, rfl, congrArg _ (by unfold likeS; simp_all), hn1.grow⟩
  · refine RL.q (.yes rfl rfl rfl) rfl rfl (Yld.fieldAddr fo29_0 rfl) ?_
    refine RL.q (.yes rfl rfl rfl) rfl rfl (Yld.load p3 rfl (at1 (hn1.blk.cell rfl))) ?_
    refine RL.q (.yes rfl rfl rfl) rfl rfl (Yld.pure rfl) ?_
    iterate 2 refine RL.p rfl rfl ?_
    refine RL.done ?_
    refine RK.ret_of Tryz.func254 (res1 rfl rfl) ?_ _
    exact ⟨_, rfl, congrArg _ (by unfold likeS; simp_all), hn1.grow⟩
def isV (m : Mt) : Bool := nameS m.name && decide ((m.kind = 1 ∨ m.kind = 2) ∧ m.value.size ≤ 24)
theorem isV_ok (m : Mt) (hk : likeS m = false) (w : World) : Fx Tryz.prog 203 [.agg #[.int .i64 m.kind, .string m.name, .string m.value]] w (fun u w' => u = .bool (isV m) ∧ Grow w w') := by
  refine enter Tryz.func203 rfl rfl rfl _ (Pick.sub (l := [0]) (.cons rfl .nil)) ?_
  refine RK.seq ?_
  refine RK.region ?_
  refine RL.op (.free rfl) rfl rfl (Does.box rfl) ?_
  rintro _ w1 ⟨b1, rfl, hn1⟩
  refine RL.p rfl rfl ?_
  refine RL.done ?_
  iterate 2 refine RK.seq ?_
  refine RK.region ?_
  refine RL.q (.free rfl) rfl rfl (Yld.fieldAddr fo29_1 rfl) ?_
  refine RL.q (.free rfl) rfl rfl (Yld.load p9 rfl (at1 (hn1.blk.cell rfl))) ?_
  refine RL.op (.free rfl) rfl rfl (Does.call rfl e243 (name_ok _ _)) ?_
  rintro _ _ ⟨rfl, rfl⟩
  refine RL.p rfl rfl ?_
  refine RL.done ?_
  first | refine RK.condD rfl (fun h8 => ?_) (fun h8 => ?_) | refine RK.condN rfl (fun h8 => ?_) (fun h8 => ?_) | refine RK.cond rfl (fun h8 => ?_) (fun h8 => ?_)
  · refine RK.seq ?_
    refine RK.region ?_
    refine RL.p rfl rfl ?_
    refine RL.done ?_
    refine RK.ret_of Tryz.func203 (res1 rfl rfl) ?_ _
    exact ⟨_, rfl, congrArg _ (by unfold isV; simp at h8; rw [h8]; rfl), hn1.grow⟩
  · refine RK.skip ?_
    iterate 2 refine RK.seq ?_
    refine RK.region ?_
    refine RL.q (.free rfl) rfl rfl (Yld.loadN (cs := [.int .i64 m.kind, .string m.name, .string m.value]) a29 rfl (atN (fun j u hj => by rw [Nat.zero_add]; exact hn1.blk.cell' hj))) ?_
    refine RL.op (.free rfl) rfl rfl (Does.call rfl e254 (like_ok m _)) ?_
    rintro _ w2 ⟨rfl, hg2⟩
    refine RL.done ?_
    refine RK.condF (hcF rfl (hk)) ?_
    refine RK.skip ?_
    refine RK.seq ?_
    refine RK.region ?_
    refine RL.q (.free rfl) rfl rfl (Yld.fieldAddr fo29_0 rfl) ?_
    refine RL.q (.free rfl) rfl rfl (Yld.load p3 rfl (at1 ((hn1.blk.mod hg2 (fun h => h)).cell rfl))) ?_
    iterate 2 refine RL.p rfl rfl ?_
    first | refine RL.splitD (d := 21) rfl rfl (fun h21 => ?_) (fun h21 => ?_) | refine RL.splitN (d := 21) rfl rfl (fun h21 => ?_) (fun h21 => ?_) | refine RL.split (d := 21) rfl rfl (fun h21 => ?_) (fun h21 => ?_)
    · iterate 3 refine RL.no (.no rfl rfl rfl rfl) rfl rfl ?_
      iterate 2 refine RL.p rfl rfl ?_
      refine RL.q (.yes rfl rfl rfl) rfl rfl (Yld.fieldAddr fo29_2 rfl) ?_
      refine RL.q (.yes rfl rfl rfl) rfl rfl (Yld.load p9 rfl (at1 ((hn1.blk.mod hg2 (fun h => h)).cell rfl))) ?_
      refine RL.q (.yes rfl rfl rfl) rfl rfl (Yld.lenStr u9 rfl) ?_
      refine RL.q (.yes rfl rfl rfl) rfl rfl (Yld.pure rfl) ?_
      iterate 2 refine RL.p rfl rfl ?_
      refine RL.done ?_
      refine RK.ret_of Tryz.func203 (res1 rfl rfl) ?_ _
      exact ⟨_, rfl, congrArg _ (by unfold isV; simp at h8; rw [h8, Bool.eq_iff_iff]; simp_all <;> omega), hn1.grow.trans hg2⟩
    · refine RL.q (.yes rfl rfl rfl) rfl rfl (Yld.fieldAddr fo29_0 rfl) ?_
      refine RL.q (.yes rfl rfl rfl) rfl rfl (Yld.load p3 rfl (at1 ((hn1.blk.mod hg2 (fun h => h)).cell rfl))) ?_
      refine RL.q (.yes rfl rfl rfl) rfl rfl (Yld.pure rfl) ?_
      iterate 2 refine RL.p rfl rfl ?_
      first | refine RL.splitD (d := 26) rfl rfl (fun h26 => ?_) (fun h26 => ?_) | refine RL.splitN (d := 26) rfl rfl (fun h26 => ?_) (fun h26 => ?_) | refine RL.split (d := 26) rfl rfl (fun h26 => ?_) (fun h26 => ?_)
      · refine RL.q (.yes rfl rfl rfl) rfl rfl (Yld.fieldAddr fo29_2 rfl) ?_
        refine RL.q (.yes rfl rfl rfl) rfl rfl (Yld.load p9 rfl (at1 ((hn1.blk.mod hg2 (fun h => h)).cell rfl))) ?_
        refine RL.q (.yes rfl rfl rfl) rfl rfl (Yld.lenStr u9 rfl) ?_
        refine RL.q (.yes rfl rfl rfl) rfl rfl (Yld.pure rfl) ?_
        iterate 2 refine RL.p rfl rfl ?_
        refine RL.done ?_
        refine RK.ret_of Tryz.func203 (res1 rfl rfl) ?_ _
        exact ⟨_, rfl, congrArg _ (by unfold isV; simp at h8; rw [h8, Bool.eq_iff_iff]; simp_all <;> omega), hn1.grow.trans hg2⟩
      · iterate 4 refine RL.no (.no rfl rfl rfl rfl) rfl rfl ?_
        iterate 2 refine RL.p rfl rfl ?_
        refine RL.done ?_
        refine RK.ret_of Tryz.func203 (res1 rfl rfl) ?_ _
        exact ⟨_, rfl, congrArg _ (by unfold isV; simp at h8; rw [h8, Bool.eq_iff_iff]; simp_all <;> omega), hn1.grow.trans hg2⟩
def HoldsC (h : Mt → List Lab → Bool) (m : Mt) : Prop := ∀ (M : Nat → Prop) (ls : List Lab) (v : Value) (w : World), (∀ x ∈ ls, x.value.size ≤ 100000) → SlL M w v ls → Fx Tryz.prog 267 [.agg #[.int .i64 m.kind, .string m.name, .string m.value], v] w (fun u w' => u = .bool (h m ls) ∧ Grow w w')
theorem all1_ok (h : Mt → List Lab → Bool) (m : Mt) (hh : HoldsC h m) (M : Nat → Prop) (ls : List Lab) (hz : ∀ x ∈ ls, x.value.size ≤ 100000) (vl : Value) (b4 : Nat) (w : World) (hl : SlL M w vl ls) (hb : Blk w b4 37 [vl]) : Fx Tryz.prog 266 [.agg #[.int .i64 m.kind, .string m.name, .string m.value], pp b4] w (fun u w' => u = .bool (!h m ls) ∧ Grow w w') := by
  obtain ⟨ad, c, rfl⟩ := hl.shape
  refine enter Tryz.func266 rfl rfl rfl _ (Pick.sub (l := [0, 1]) (.cons rfl (.cons rfl .nil))) ?_
  refine RK.seq ?_
  refine RK.region ?_
  refine RL.op (.free rfl) rfl rfl (Does.box rfl) ?_
  rintro _ w1 ⟨b1, rfl, hn1⟩
  refine RL.p rfl rfl ?_
  refine RL.done ?_
  refine RK.seq ?_
  refine RK.region ?_
  refine RL.q (.free rfl) rfl rfl (Yld.loadN (cs := [.int .i64 m.kind, .string m.name, .string m.value]) a29 rfl (atN (fun j u hj => by rw [Nat.zero_add]; exact hn1.blk.cell' hj))) ?_
  refine RL.q (.free rfl) rfl rfl (Yld.load p37 rfl (at1 ((hb.mod hn1.grow (fun h => h)).cell rfl))) ?_
  refine RL.op (.free rfl) rfl rfl (Does.call rfl e267 (hh M ls _ _ hz (hl.mod (Mod.any' hn1.grow)))) ?_
  rintro _ w2 ⟨rfl, hg2⟩
  iterate 2 refine RL.p rfl rfl ?_
  refine RL.done ?_
  refine RK.ret_of Tryz.func266 (res1 rfl rfl) ?_ _
  exact ⟨_, rfl, rfl, hn1.grow.trans hg2⟩
theorem indexM_ok (h : Mt → List Lab → Bool) (ms : List Mt) (hh : ∀ m ∈ ms, HoldsC h m) (M M' : Nat → Prop) (ls : List Lab) (hz : ∀ x ∈ ls, x.value.size ≤ 100000) (v vl : Value) (b4 : Nat) (w : World) (hv : SlM M' w v ms) (hl : SlL M w vl ls) (hb : Blk w b4 37 [vl]) :
    Fx Tryz.prog 258 [v, .func (.func 266) #[] #[pp b4]] w (fun u w' => u = .int .i64 (optI (ms.findIdx? fun m => !h m ls)) ∧ Grow w w') := by
  obtain ⟨ad, c, rfl⟩ := hv.shape
  have hbig := hv.big
  refine enter Tryz.func258 rfl rfl rfl _ (Pick.sub (l := [0, 1]) (.cons rfl (.cons rfl .nil))) ?_
  refine RK.seq ?_
  refine RK.region ?_
  refine RL.p rfl rfl ?_
  refine RL.done ?_
  iterate 2 refine RK.seq ?_
  refine RK.region ?_
  refine RL.p rfl rfl ?_
  refine RL.q (.free rfl) rfl rfl (Yld.lenSl u30 rfl) ?_
  refine RL.p rfl rfl ?_
  refine RL.done ?_
  refine RK.block ?_
  refine RK.loop (fun k : Nat => [(0, .slice ad ms.length c), (1, .func (.func 266) #[] #[pp b4]), (7, .int .i64 ms.length), (8, .int .i64 k)]) (fun k w' => Grow w w' ∧ k ≤ ms.length ∧ ∀ (i : Nat) (a : Mt), i < k → ms[i]? = some a → h a ls = true) (fun k => ms.length - k) 0 ⟨rfl, rfl, rfl, rfl, trivial⟩ ⟨Mod.refl _ _, by omega, fun i a h => by omega⟩ (fun k w' hI ih => ?_)
  obtain ⟨hg, hk, hno⟩ := hI
  refine RK.seq ?_
  refine RK.region ?_
  refine RL.p rfl rfl ?_
  refine RL.done ?_
  refine RK.seq ?_
  first | refine RK.condD rfl (fun h9 => ?_) (fun h9 => ?_) | refine RK.condN rfl (fun h9 => ?_) (fun h9 => ?_) | refine RK.cond rfl (fun h9 => ?_) (fun h9 => ?_)
  · obtain ⟨x, hx⟩ : ∃ x, ms[k]? = some x := ⟨ms[k]'(by omega), List.getElem?_eq_getElem (by omega)⟩
    obtain ⟨b1, o1, c1', he1, _, _, hc1⟩ := hv.elem mtC_len hx
    cases he1
    refine RK.skip ?_
    refine RK.seq ?_
    refine RK.block ?_
    refine RK.seq ?_
    refine RK.region ?_
    iterate 2 refine RL.p rfl rfl ?_
    refine RL.done ?_
    refine RK.seq ?_
    refine RK.region ?_
    iterate 3 refine RL.p rfl rfl ?_
    refine RL.q (.free rfl) rfl rfl (Yld.indexAddrN u30 i29 rfl rfl (by omega)) ?_
    refine RL.q (.free rfl) rfl rfl (Yld.loadN (cs := [.int .i64 x.kind, .string x.name, .string x.value]) a29 rfl (atN (fun j u hj => hg.cell (hc1 j u hj) (fun h => h)))) ?_
    refine RL.op (.free rfl) rfl rfl (Does.callv rfl rfl e266 (all1_ok h x (hh x (List.mem_of_getElem? hx)) M ls hz vl b4 _ (hl.mod (Mod.any' hg)) (hb.mod hg (fun h => h)))) ?_
    rintro _ w2 ⟨rfl, hg2⟩
    refine RL.done ?_
    first | refine RK.condD rfl (fun h16 => ?_) (fun h16 => ?_) | refine RK.condN rfl (fun h16 => ?_) (fun h16 => ?_) | refine RK.cond rfl (fun h16 => ?_) (fun h16 => ?_)
    · refine RK.seq ?_
      refine RK.region ?_
      iterate 2 refine RL.p rfl rfl ?_
      refine RL.done ?_
      refine RK.ret_of Tryz.func258 (res1 rfl rfl) ?_ _
      exact ⟨_, rfl, congrArg _ (by
          have : ms.findIdx? (fun m => !h m ls) = some k := by
            rw [List.findIdx?_eq_some_iff_getElem]
            refine ⟨by omega, ?_, fun j hj => ?_⟩
            · rw [(List.getElem?_eq_some_iff.1 hx).2]; exact h16
            · simpa using hno j (ms[j]'(by omega)) hj (List.getElem?_eq_getElem (by omega))
          rw [this]; rfl), hg.trans hg2⟩
    · refine RK.skip ?_
      refine RK.inBlock ?_
      refine RK.region ?_
      refine RL.p rfl rfl ?_
      refine RL.re (d := 18) rfl rfl (succ_i64 (by omega)) ?_
      refine RL.p rfl rfl ?_
      refine RL.done ?_
      exact RK.back (ih (k + 1) _ ⟨hg.trans hg2, by omega, fun i a' hi ha' => by by_cases e : i = k; (subst e; rw [hx] at ha'; cases ha'; simpa using h16); exact hno i a' (by omega) ha'⟩ (by omega)) ⟨rfl, rfl, rfl, rfl, trivial⟩
  · refine RK.exit rfl ?_
    refine RK.seq ?_
    refine RK.region ?_
    refine RL.p rfl rfl ?_
    refine RL.done ?_
    refine RK.ret_of Tryz.func258 (res1 rfl rfl) ?_ _
    exact ⟨_, rfl, congrArg _ (by
        have : ms.findIdx? (fun m => !h m ls) = none := by
          rw [List.findIdx?_eq_none_iff]
          intro x hx
          obtain ⟨i, hi⟩ := List.getElem?_of_mem hx
          have hil := (List.getElem?_eq_some_iff.1 hi).1
          simpa using hno i x (by omega) hi
        rw [this]; rfl), hg⟩
theorem allM_ok (h : Mt → List Lab → Bool) (ms : List Mt) (hh : ∀ m ∈ ms, HoldsC h m) (M M' : Nat → Prop) (ls : List Lab) (hz : ∀ x ∈ ls, x.value.size ≤ 100000) (v vl : Value) (w : World) (hv : SlM M' w v ms) (hl : SlL M w vl ls) :
    Fx Tryz.prog 212 [v, vl] w (fun u w' => u = .bool (ms.all fun m => h m ls) ∧ Grow w w') := by
  obtain ⟨ad, c, rfl⟩ := hl.shape
  have hcont : ∀ (b4 : Nat) (w1 : World), Grow w w1 → Blk w1 b4 37 [.slice ad ls.length c] → Fx Tryz.prog 205 [v, .func (.func 266) #[] #[pp b4]] w1 (fun u w' => u = .bool (!ms.all fun m => h m ls) ∧ Grow w1 w') := fun b4 w1 hg1 hb => by
    have hcall := indexM_ok h ms hh M M' ls hz v _ b4 w1 (hv.mod (Mod.any' hg1)) (hl.mod (Mod.any' hg1)) hb
    obtain ⟨ad2, c2, rfl⟩ := hv.shape
    refine enter Tryz.func205 rfl rfl rfl _ (Pick.sub (l := [0, 1]) (.cons rfl (.cons rfl .nil))) ?_
    refine RK.seq ?_
    refine RK.region ?_
    refine RL.p rfl rfl ?_
    refine RL.done ?_
    refine RK.seq ?_
    refine RK.region ?_
    iterate 2 refine RL.p rfl rfl ?_
    refine RL.op (.free rfl) rfl rfl (Does.call rfl e258 (hcall)) ?_
    rintro _ w2 ⟨rfl, hg2⟩
    iterate 2 refine RL.p rfl rfl ?_
    refine RL.done ?_
    refine RK.ret_of Tryz.func205 (res1 rfl rfl) ?_ _
    exact ⟨_, rfl, congrArg _ (by
        cases hf : ms.findIdx? (fun m => !h m ls) with
        | none =>
          have : (ms.all fun m => h m ls) = true := List.all_eq_true.2 fun m hm => by simpa using List.findIdx?_eq_none_iff.1 hf m hm
          rw [this]; rfl
        | some k =>
          obtain ⟨hk, hp, _⟩ := List.findIdx?_eq_some_iff_getElem.1 hf
          have : (ms.all fun m => h m ls) = false := List.all_eq_false.2 ⟨_, List.getElem_mem hk, by simpa using hp⟩
          rw [this]
          show decide ((0 : Int) ≤ (k : Int)) = true
          simp), hg2⟩
  refine enter Tryz.func212 rfl rfl rfl _ (Pick.sub (l := [0, 1]) (.cons rfl (.cons rfl .nil))) ?_
  refine RK.seq ?_
  refine RK.region ?_
  refine RL.op (.free rfl) rfl rfl (Does.box rfl) ?_
  rintro _ w1 ⟨b1, rfl, hn1⟩
  refine RL.p rfl rfl ?_
  refine RL.done ?_
  refine RK.seq ?_
  refine RK.region ?_
  iterate 2 refine RL.p rfl rfl ?_
  refine RL.op (.free rfl) rfl rfl (Does.call rfl e205 (hcont b1 _ hn1.grow hn1.blk)) ?_
  rintro _ w2 ⟨rfl, hg2⟩
  iterate 2 refine RL.p rfl rfl ?_
  refine RL.done ?_
  refine RK.ret_of Tryz.func212 (res1 rfl rfl) ?_ _
  exact ⟨_, rfl, by simp, hn1.grow.trans hg2⟩
end Go.Proofs.YtnnmgfnhblbolaaGreatDoor
set_option linter.unusedVariables false
set_option linter.unusedSimpArgs false
set_option maxHeartbeats 800000
set_option maxRecDepth 100000
namespace Go.Proofs.YtnnmgfnhblbolaaGreatDoor
open Go Go.X
structure IM (M X : Nat → Prop) (w : World) (ix : Nat) (has : List (Int × List Lab)) (rows : List (LabK × List Int)) : Prop where
  at_ : ∃ mh mr, IdxAt (fun b => M b ∨ X b) w ix mh mr has rows ∧ (∀ b, M b ↔ b = mh ∨ b = mr)
  apart : ∀ b, X b → ¬ M b ∧ b ≠ ix ∧ b < w.heap.size
  inv : IxI has rows
  sets : ∀ t ∈ has, isS t.2 = true
  rng : ∀ t ∈ has, -9223372036854775808 ≤ t.1 ∧ t.1 ≤ 9223372036854775807
  len : has.length ≤ 1000
  bd : ∀ t ∈ rows, t.2.length ≤ 6000
theorem IM.lt {M X : Nat → Prop} {w : World} {ix : Nat} {has : List (Int × List Lab)} {rows : List (LabK × List Int)} (h : IM M X w ix has rows) {b : Nat} (hb : M b) : b < w.heap.size := by
  obtain ⟨mh, mr, h1, h2⟩ := h.at_
  rcases (h2 b).1 hb with rfl | rfl
  · exact h1.mps.1.lt
  · exact h1.mps.2.lt
theorem IM.lt2 {M X : Nat → Prop} {w : World} {ix : Nat} {has : List (Int × List Lab)} {rows : List (LabK × List Int)} (h : IM M X w ix has rows) {b : Nat} (hb : M b ∨ X b) : b < w.heap.size := by
  rcases hb with hb | hb
  · exact h.lt hb
  · exact (h.apart b hb).2.2
theorem IM.grow {M X : Nat → Prop} {w w' : World} {ix : Nat} {has : List (Int × List Lab)} {rows : List (LabK × List Int)} (h : IM M X w ix has rows) (hg : Grow w w') : IM M X w' ix has rows := by
  obtain ⟨mh, mr, h1, h2⟩ := h.at_
  exact ⟨⟨mh, mr, h1.mod hg (fun _ _ h => h.elim) (fun h => h) (fun h => h) (fun h => h), h2⟩, fun b hb => by have h3 := h.apart b hb; have := hg.size; exact ⟨h3.1, h3.2.1, by omega⟩, h.inv, h.sets, h.rng, h.len, h.bd⟩
theorem add_no (M : Nat → Prop) (w : World) (ix mh mr : Nat) (has : List (Int × List Lab)) (rows : List (LabK × List Int)) (h : IdxAt M w ix mh mr has rows) (id : Int) (ls : List Lab) (v : Value) (hv : SlL M w v ls) (hno : (lookM has id).isSome = true ∨ isS ls = false) :
    Fx Tryz.prog 199 [pp ix, .int .i64 id, v] w (fun u w' => u = .bool false ∧ Grow w w') := by
  obtain ⟨ad, c, rfl⟩ := hv.shape
  obtain ⟨l, hl1, hl2, hl3⟩ := h.hl
  have hsome : (lookM (l.map fun t => (t.1, t.2.2)) id).isSome = (lookM has id).isSome := by
    have e1 := lookM_map (fun a : List Lab × Value => a.1) id l
    have e2 := lookM_map (fun a : List Lab × Value => a.2) id l
    rw [hl1] at e1
    rw [e1, e2]; simp
  cases hs : (lookM has id).isSome with
  | true =>
    rw [hs] at hsome
    obtain ⟨z, hz⟩ : ∃ z, (lookM (l.map fun t => (t.1, t.2.2)) id).getD (.slice none 0 0) = z := ⟨_, rfl⟩
    refine enter Tryz.func199 rfl rfl rfl _ (Pick.sub (l := [0, 1, 2]) (.cons rfl (.cons rfl (.cons rfl .nil)))) ?_
    refine RK.seq ?_
    refine RK.region ?_
    refine RL.p rfl rfl ?_
    refine RL.done ?_
    iterate 2 refine RK.seq ?_
    refine RK.region ?_
    iterate 2 refine RL.p rfl rfl ?_
    refine RL.q (.free rfl) rfl rfl (Yld.fieldAddr fo178_0 rfl) ?_
    refine RL.q (.free rfl) rfl rfl (Yld.load p175 rfl (at1 (h.blk.cell rfl))) ?_
    refine RL.p rfl rfl ?_
    refine RL.q (.free rfl) rfl rfl (Yld.lookup Tryz.underlying175 key3 i37 rfl rfl (fun w' e => e ▸ hl2)) ?_
    refine RL.re (d := 17) rfl rfl (show _ = Value.tuple #[z, .bool true] by rw [hz, hsome]; rfl) ?_
    iterate 5 refine RL.p rfl rfl ?_
    refine RL.done ?_
    refine RK.seq ?_
    refine RK.region ?_
    iterate 2 refine RL.p rfl rfl ?_
    refine RL.knownT (d := 21) rfl rfl (rfl) ?_
    iterate 3 refine RL.no (.no rfl rfl rfl rfl) rfl rfl ?_
    refine RL.p rfl rfl ?_
    refine RL.done ?_
    refine RK.condT rfl ?_
    refine RK.seq ?_
    refine RK.region ?_
    refine RL.p rfl rfl ?_
    refine RL.done ?_
    refine RK.ret_of Tryz.func199 (res1 rfl rfl) ?_ _
    exact ⟨_, rfl, rfl, Mod.refl _ _⟩
  | false =>
    have his : isS ls = false := by rcases hno with h1 | h1; (rw [hs] at h1; cases h1); exact h1
    rw [hs] at hsome
    obtain ⟨z, hz⟩ : ∃ z, (lookM (l.map fun t => (t.1, t.2.2)) id).getD (.slice none 0 0) = z := ⟨_, rfl⟩
    refine enter Tryz.func199 rfl rfl rfl _ (Pick.sub (l := [0, 1, 2]) (.cons rfl (.cons rfl (.cons rfl .nil)))) ?_
    refine RK.seq ?_
    refine RK.region ?_
    refine RL.p rfl rfl ?_
    refine RL.done ?_
    iterate 2 refine RK.seq ?_
    refine RK.region ?_
    iterate 2 refine RL.p rfl rfl ?_
    refine RL.q (.free rfl) rfl rfl (Yld.fieldAddr fo178_0 rfl) ?_
    refine RL.q (.free rfl) rfl rfl (Yld.load p175 rfl (at1 (h.blk.cell rfl))) ?_
    refine RL.p rfl rfl ?_
    refine RL.q (.free rfl) rfl rfl (Yld.lookup Tryz.underlying175 key3 i37 rfl rfl (fun w' e => e ▸ hl2)) ?_
    refine RL.re (d := 17) rfl rfl (show _ = Value.tuple #[z, .bool false] by rw [hz, hsome]; rfl) ?_
    iterate 5 refine RL.p rfl rfl ?_
    refine RL.done ?_
    refine RK.seq ?_
    refine RK.region ?_
    iterate 2 refine RL.p rfl rfl ?_
    refine RL.knownF (d := 21) rfl rfl (rfl) ?_
    refine RL.q (.yes rfl rfl rfl) rfl rfl (Yld.pure rfl) ?_
    refine RL.op (.yes rfl rfl rfl) rfl rfl (Does.call rfl e179 (is_ok M ls _ _ hv)) ?_
    rintro _ w2 ⟨rfl, hg2⟩
    refine RL.q (.yes rfl rfl rfl) rfl rfl (Yld.pure rfl) ?_
    refine RL.p rfl rfl ?_
    refine RL.done ?_
    refine RK.condT (hcT rfl (by rw [his]; rfl)) ?_
    refine RK.seq ?_
    refine RK.region ?_
    refine RL.p rfl rfl ?_
    refine RL.done ?_
    refine RK.ret_of Tryz.func199 (res1 rfl rfl) ?_ _
    exact ⟨_, rfl, rfl, hg2⟩
def addable (has : List (Int × List Lab)) (id : Int) (ls : List Lab) : Bool := (lookM has id).isNone && isS ls
def addH (has : List (Int × List Lab)) (id : Int) (ls : List Lab) : List (Int × List Lab) := if addable has id ls then putM has id ls else has
def addR (has : List (Int × List Lab)) (rows : List (LabK × List Int)) (id : Int) (ls : List Lab) : List (LabK × List Int) := if addable has id ls then addRows rows id ls else rows
theorem IM.add {M X : Nat → Prop} {w : World} {ix : Nat} {has : List (Int × List Lab)} {rows : List (LabK × List Int)} (h : IM M X w ix has rows) (hlen : has.length < 1000) (hbd : ∀ t ∈ rows, t.2.length ≤ 5994) {id : Int} (hid : -9223372036854775808 ≤ id ∧ id ≤ 9223372036854775807) {ls : List Lab} {v : Value} (hv : SlL (fun b => M b ∨ X b) w v ls) :
    Fx Tryz.prog 199 [pp ix, .int .i64 id, v] w (fun u w' => u = .bool (addable has id ls) ∧ IM M X w' ix (addH has id ls) (addR has rows id ls) ∧ Mod M w w') := by
  obtain ⟨mh, mr, h1, h2⟩ := h.at_
  cases ha : addable has id ls with
  | true =>
    have eH : addH has id ls = putM has id ls := by unfold addH; rw [ha]; rfl
    have eR : addR has rows id ls = addRows rows id ls := by unfold addR; rw [ha]; rfl
    rw [eH, eR]
    unfold addable at ha
    simp only [Bool.and_eq_true, Option.isNone_iff_eq_none] at ha
    have h6 := isS_len ha.2
    refine Fx.mono (add_ok _ w ix mh mr has rows h1 (.inl ((h2 mh).2 (.inl rfl))) (.inl ((h2 mr).2 (.inr rfl))) (fun b hb => h.lt2 hb) id ls v hv ha.1 ha.2 (fun t ht => by have := h.bd t ht; omega)) ?_
    rintro u w' ⟨rfl, h3, h4⟩
    refine ⟨rfl, ⟨⟨mh, mr, h3, h2⟩, fun b hb => by have h9 := h.apart b hb; have := h4.size; exact ⟨h9.1, h9.2.1, by omega⟩, h.inv.add ha.1 ls, fun t ht => ?_, fun t ht => ?_, ?_, fun t ht => ?_⟩, h4.mono fun b _ e => (h2 b).2 e⟩
    · rcases mem_putM ht with h5 | rfl
      · exact h.sets t h5
      · exact ha.2
    · rcases mem_putM ht with h5 | rfl
      · exact h.rng t h5
      · exact hid
    · rw [putM_new ha.1]; simp; omega
    · have := addRows_bound (B := 5994) hbd id ls t ht; omega
  | false =>
    have eH : addH has id ls = has := by unfold addH; rw [ha]; rfl
    have eR : addR has rows id ls = rows := by unfold addR; rw [ha]; rfl
    rw [eH, eR]
    refine Fx.mono (add_no _ w ix mh mr has rows h1 id ls v hv ?_) ?_
    · unfold addable at ha
      cases hl : lookM has id with
      | none => rw [hl] at ha; right; simpa using ha
      | some x => left; rfl
    · rintro u w' ⟨rfl, hg⟩
      exact ⟨rfl, h.grow hg, Mod.any' hg⟩
theorem IM.drop {M X : Nat → Prop} {w : World} {ix : Nat} {has : List (Int × List Lab)} {rows : List (LabK × List Int)} (h : IM M X w ix has rows) (id : Int) :
    Fx Tryz.prog 202 [pp ix, .int .i64 id] w (fun u w' => u = .bool (lookM has id).isSome ∧ IM M X w' ix (cutM has id) (dropRows rows id ((lookM has id).getD [])) ∧ Mod M w w') := by
  obtain ⟨mh, mr, h1, h2⟩ := h.at_
  refine Fx.mono (drop_ok _ w ix mh mr has rows h1 (.inl ((h2 mh).2 (.inl rfl))) (.inl ((h2 mr).2 (.inr rfl))) (fun b hb => h.lt2 hb) id (fun t ht => by have := h.bd t ht; omega)) ?_
  rintro u w' ⟨rfl, h3, h4⟩
  exact ⟨rfl, ⟨⟨mh, mr, h3, h2⟩, fun b hb => by have h9 := h.apart b hb; have := h4.size; exact ⟨h9.1, h9.2.1, by omega⟩, h.inv.drop id, fun t ht => h.sets t (mem_cutM' ht), fun t ht => h.rng t (mem_cutM' ht), Nat.le_trans (cutM_sub id has).length_le h.len, dropRows_bound h.bd id _⟩, h4.mono fun b _ e => (h2 b).2 e⟩
theorem IM.ids {M X : Nat → Prop} {w : World} {ix : Nat} {has : List (Int × List Lab)} {rows : List (LabK × List Int)} (h : IM M X w ix has rows) : Fx Tryz.prog 207 [pp ix] w (fun u w' => Row w' 3 1 u (idsS has).length (ints (idsS has)) ∧ Fresh w.heap.size u ∧ Grow w w') := by
  obtain ⟨mh, mr, h1, h2⟩ := h.at_
  exact ids_ok _ w ix mh mr has rows h1 h.inv.nd h.rng (by have := h.len; omega)
theorem IM.posting {M X : Nat → Prop} {w : World} {ix : Nat} {has : List (Int × List Lab)} {rows : List (LabK × List Int)} (h : IM M X w ix has rows) (nm vl : ByteArray) : Fx Tryz.prog 209 [pp ix, .string nm, .string vl] w (fun u w' => Row w' 3 1 u ((lookM rows (nm, vl)).getD []).length (ints ((lookM rows (nm, vl)).getD [])) ∧ Fresh w.heap.size u ∧ Grow w w') := by
  obtain ⟨mh, mr, h1, h2⟩ := h.at_
  exact posting_ok _ w ix mh mr has rows h1 (fun t ht => by have := h.bd t ht; omega) nm vl
theorem IM.size {M X : Nat → Prop} {w : World} {ix : Nat} {has : List (Int × List Lab)} {rows : List (LabK × List Int)} (h : IM M X w ix has rows) : Fx Tryz.prog 73 [pp ix] w (fun u w' => u = .int .i64 rows.length ∧ w = w') := by
  obtain ⟨mh, mr, h1, h2⟩ := h.at_
  exact idxLen_ok _ w ix mh mr has rows h1
theorem find1M_ok (h : Mt → List Lab → Bool) (ms : List Mt) (hh : ∀ m ∈ ms, HoldsC h m) (M : Nat → Prop) (w : World) (ix mh mr : Nat) (has : List (Int × List Lab)) (rows : List (LabK × List Int)) (hi : IdxAt M w ix mh mr has rows) (hsz : ∀ t ∈ has, ∀ x ∈ t.2, x.value.size ≤ 100000) (b2 b3 : Nat) (vm : Value) (hm : SlM No w vm ms) (hb2 : Blk w b2 114 [pp ix]) (hb3 : Blk w b3 30 [vm]) (id : Int) :
    Fx Tryz.prog 211 [.int .i64 id, pp b3, pp b2] w (fun u w' => u = .bool (!ms.all fun m => h m ((lookM has id).getD [])) ∧ Grow w w') := by
  obtain ⟨l, hl1, hl2, hl3⟩ := hi.hl
  obtain ⟨adm, cm, rfl⟩ := hm.shape
  obtain ⟨ls, hls⟩ : ∃ ls, (lookM has id).getD [] = ls := ⟨_, rfl⟩
  rw [hls]
  have hlz : ∀ x ∈ ls, x.value.size ≤ 100000 := by
    intro x hx
    cases hl9 : lookM has id with
    | none => rw [hl9] at hls; simp at hls; subst hls; cases hx
    | some q => rw [hl9] at hls; simp at hls; subst hls; exact hsz _ (lookM_mem hl9) x hx
  obtain ⟨vl, hvl, hv⟩ : ∃ vl, (lookM (l.map fun t => (t.1, t.2.2)) id).getD (.slice none 0 0) = vl ∧ SlL M w vl ls := by
    have e1 := lookM_map (fun a : List Lab × Value => a.1) id l
    have e2 := lookM_map (fun a : List Lab × Value => a.2) id l
    rw [hl1] at e1
    rw [e1] at hls
    rw [e2]
    cases hh : lookM l id with
    | none => rw [hh] at hls; simp at hls; subst hls; exact ⟨_, rfl, Sl.nil _ _ _ _ _⟩
    | some a => rw [hh] at hls; simp at hls; subst hls; exact ⟨_, rfl, hl3 _ (lookM_mem hh)⟩
  refine enter Tryz.func211 rfl rfl rfl _ (Pick.sub (l := [0, 1, 2]) (.cons rfl (.cons rfl (.cons rfl .nil)))) ?_
  refine RK.seq ?_
  refine RK.region ?_
  refine RL.p rfl rfl ?_
  refine RL.done ?_
  refine RK.seq ?_
  refine RK.drawM No [(0, false), (1, false), (2, false), (3, false), (4, false), (5, false), (6, false), (7, true), (8, false), (9, false)] [] mixed (by kernel_rfl) ?_
  refine DL.q rfl (.free rfl) rfl rfl rfl (Yld.load p30 rfl (atM (hb3.cell rfl) (fun h => h))) (Mod.drew _ _) ?_
  refine DL.q rfl (.free rfl) rfl rfl rfl (Yld.load p114 rfl (atM (hb2.cell rfl) (fun h => h))) (Mod.drew _ _) ?_
  refine DL.p rfl rfl rfl ?_
  refine DL.qf rfl (.free rfl) rfl rfl (Yld.fieldAddr fo178_0 rfl) ?_
  refine DL.q rfl (.free rfl) rfl rfl rfl (Yld.load p175 rfl (atM (hi.blk.cell rfl) (fun h => h))) (Mod.drew _ _) ?_
  refine DL.p rfl rfl rfl ?_
  refine DL.q rfl (.free rfl) rfl rfl rfl (Yld.lookup Tryz.underlying175 key3 i37 (k := id) rfl rfl (fun w' hm => hl2.mod hm (fun h => h))) (Mod.drew _ _) ?_
  refine DL.re (d := 11) rfl rfl (hvl) ?_
  refine DL.op rfl (.free rfl) rfl rfl (Does.call rfl e212 (allM_ok h ms hh M No ls hlz _ vl _ (hm.mod (Mod.drew _ _)) (hv.mod (Mod.drew _ _)))) ?_
  rintro _ w2 ⟨rfl, hg2⟩
  refine ⟨(Mod.drew _ _).trans hg2, ?_⟩
  iterate 2 refine DL.p rfl rfl rfl ?_
  refine DL.done ?_
  refine RK.ret_of Tryz.func211 (res1 rfl rfl) ?_ _
  exact ⟨_, rfl, rfl, (Mod.drew _ _).trans hg2⟩
theorem IM.find {M X : Nat → Prop} {w : World} {ix : Nat} {has : List (Int × List Lab)} {rows : List (LabK × List Int)} (hI : IM M X w ix has rows) (h : Mt → List Lab → Bool) (ms : List Mt) (hh : ∀ m ∈ ms, HoldsC h m) (heq : ∀ m ∈ ms, m.kind = 1 → m.value ≠ ByteArray.empty → ∀ ls, h m ls = true → getL ls m.name = m.value) (v : Value) (hv : SlM No w v ms) :
    Fx Tryz.prog 136 [pp ix, v] w (fun u w' => (∃ R : List Int, Row w' 3 1 u R.length (ints R) ∧ Ris R ∧ ∀ id, id ∈ R ↔ ∃ ls, (id, ls) ∈ has ∧ (ms.all fun m => h m ls) = true) ∧ Fresh w.heap.size u ∧ Grow w w') := by
  obtain ⟨mh, mr, hi, h2⟩ := hI.at_
  obtain ⟨adm, cm, rfl⟩ := hv.shape
  have hlook : ∀ id ls, (id, ls) ∈ has → (lookM has id).getD [] = ls := fun id ls hm => by rw [(lookM_iff hI.inv.nd).2 hm]; rfl
  have hids : (idsS has).length = has.length := by unfold idsS; rw [sortI_len]; simp
  have hl1000 := hI.len
  have hbig := hv.big
  have hpost : ∀ m ∈ ms, m.kind = 1 → m.value ≠ ByteArray.empty → ∀ id ls, (id, ls) ∈ has → h m ls = true → id ∈ (lookM rows (m.name, m.value)).getD [] := fun m hm hk hne id ls hmem hho => by
    have hg := heq m hm hk hne ls hho
    refine (hI.inv.mem _ _).2 ⟨ls, hmem, ?_⟩
    unfold getL at hg
    cases hf : ls.find? (fun x => decide (x.name = m.name)) with
    | none => rw [hf] at hg; exact absurd hg.symm hne
    | some x =>
      rw [hf] at hg
      have hx := List.find?_some hf
      refine ⟨x, List.mem_of_find?_eq_some hf, ?_⟩
      simp only [labK]
      rw [show x.name = m.name by simpa using hx, show x.value = m.value by simpa using hg]
  refine enter Tryz.func136 rfl rfl rfl _ (Pick.sub (l := [0, 1]) (.cons rfl (.cons rfl .nil))) ?_
  refine RK.seq ?_
  refine RK.region ?_
  refine RL.op (.free rfl) rfl rfl (Does.box rfl) ?_
  rintro _ w1 ⟨b2, rfl, hn2⟩
  refine RL.op (.free rfl) rfl rfl (Does.box rfl) ?_
  rintro _ w2 ⟨b3, rfl, hn3⟩
  have hg02 := hn2.grow.trans hn3.grow
  have hB2 := hn2.blk.mod hn3.grow (fun h => h)
  have hB3 := hn3.blk
  refine RL.p rfl rfl ?_
  refine RL.done ?_
  refine RK.seq ?_
  refine RK.region ?_
  refine RL.q (.free rfl) rfl rfl (Yld.load p114 rfl (at1 (hB2.cell rfl))) ?_
  refine RL.op (.free rfl) rfl rfl (Does.call rfl e207 ((hI.grow hg02).ids)) ?_
  rintro u3 w3 ⟨hr3, hf3, hg3⟩
  refine RL.p rfl rfl ?_
  refine RL.done ?_
  iterate 2 refine RK.seq ?_
  refine RK.region ?_
  refine RL.q (.free rfl) rfl rfl (Yld.load p30 rfl (at1 ((hB3.mod hg3 (fun h => h)).cell rfl))) ?_
  have hg03 := hg02.trans hg3
  have hs02 := hg02.size
  refine RL.q (.free rfl) rfl rfl (Yld.lenSl u30 rfl) ?_
  refine RL.p rfl rfl ?_
  refine RL.done ?_
  refine RK.block ?_
  refine RK.loop (fun s : Nat × Value => [(2, pp b2), (3, pp b3), (10, .slice adm ms.length cm), (11, .int .i64 ms.length), (12, .int .i64 (s.1 : Int)), (5, s.2)]) (fun s w' => (∃ R : List Int, Row w' 3 1 s.2 R.length (ints R) ∧ Ris R ∧ (∀ id ∈ R, id ∈ idsS has) ∧ R.length ≤ 1000 ∧ ∀ id ls, (id, ls) ∈ has → (ms.all fun m => h m ls) = true → id ∈ R) ∧ Fresh w2.heap.size s.2 ∧ Grow w2 w' ∧ s.1 ≤ ms.length) (fun s => ms.length - s.1) (0, u3) ⟨rfl, rfl, rfl, rfl, rfl, rfl, trivial⟩ ⟨⟨idsS has, hr3, idsS_ris hI.inv.nd, fun id h => h, by omega, fun id ls hm _ => mem_idsS.2 (List.mem_map_of_mem (f := fun t : Int × List Lab => t.1) hm)⟩, hf3, hg3, by simp⟩ (fun s w' hI' ih => ?_)
  obtain ⟨k, u⟩ := s
  obtain ⟨⟨R, hr, hris, hsub, hRl, hall⟩, hf, hg, hk⟩ := hI'
  simp only at hr hf hk
  have hg0 := hg02.trans hg
  refine RK.seq ?_
  refine RK.region ?_
  refine RL.p rfl rfl ?_
  refine RL.done ?_
  refine RK.seq ?_
  first | refine RK.condD rfl (fun h13 => ?_) (fun h13 => ?_) | refine RK.condN rfl (fun h13 => ?_) (fun h13 => ?_) | refine RK.cond rfl (fun h13 => ?_) (fun h13 => ?_)
  · obtain ⟨x, hx⟩ : ∃ x, ms[k]? = some x := ⟨ms[k]'(by omega), List.getElem?_eq_getElem (by omega)⟩
    obtain ⟨b1, o1, c1', he1, _, _, hc1⟩ := hv.elem mtC_len hx
    cases he1
    refine RK.skip ?_
    refine RK.seq ?_
    refine RK.block ?_
    refine RK.seq ?_
    refine RK.region ?_
    refine RL.q (.free rfl) rfl rfl (Yld.indexAddrN u30 i29 rfl rfl (by omega)) ?_
    refine RL.q (.free rfl) rfl rfl (Yld.loadN (cs := [.int .i64 x.kind, .string x.name, .string x.value]) a29 rfl (atN (fun q z hq => hg0.cell (hc1 q z hq) (fun h => h)))) ?_
    refine RL.op (.free rfl) rfl rfl (Does.alloc i29) ?_
    rintro _ w7 ⟨b7, rfl, hn7⟩
    refine RL.op' (.free rfl) rfl (Does.storeN i29 rfl rfl rfl rfl hn7.blk (Nat.le_refl 3)) ?_
    rintro _ w8 ⟨hb8, hm8, _⟩
    have hB8 : Blk w8 b7 29 [.int .i64 x.kind, .string x.name, .string x.value] := hb8
    have hg8 : Grow w' w8 := hn7.grow.then hm8 (fun y hy e => by have e' : y = b7 := e; have := hn7.at_; omega)
    refine RL.done ?_
    refine RK.seq ?_
    refine RK.region ?_
    refine RL.q (.free rfl) rfl rfl (Yld.fieldAddr fo29_0 rfl) ?_
    refine RL.q (.free rfl) rfl rfl (Yld.load p3 rfl (at1 (hB8.cell rfl))) ?_
    iterate 2 refine RL.p rfl rfl ?_
    first | refine RL.splitD (d := 19) rfl rfl (fun h19 => ?_) (fun h19 => ?_) | refine RL.splitN (d := 19) rfl rfl (fun h19 => ?_) (fun h19 => ?_) | refine RL.split (d := 19) rfl rfl (fun h19 => ?_) (fun h19 => ?_)
    · refine RL.q (.yes rfl rfl rfl) rfl rfl (Yld.fieldAddr fo29_2 rfl) ?_
      refine RL.q (.yes rfl rfl rfl) rfl rfl (Yld.load p9 rfl (at1 (hB8.cell rfl))) ?_
      refine RL.q (.yes rfl rfl rfl) rfl rfl (Yld.pure rfl) ?_
      refine RL.p rfl rfl ?_
      refine RL.done ?_
      first | refine RK.condD rfl (fun h23 => ?_) (fun h23 => ?_) | refine RK.condN rfl (fun h23 => ?_) (fun h23 => ?_) | refine RK.cond rfl (fun h23 => ?_) (fun h23 => ?_)
      · refine RK.region ?_
        refine RL.p rfl rfl ?_
        refine RL.q (.free rfl) rfl rfl (Yld.load p114 rfl (at1 ((hB2.mod (hg.trans hg8) (fun h => h)).cell rfl))) ?_
        refine RL.q (.free rfl) rfl rfl (Yld.fieldAddr fo29_1 rfl) ?_
        refine RL.q (.free rfl) rfl rfl (Yld.load p9 rfl (at1 (hB8.cell rfl))) ?_
        refine RL.q (.free rfl) rfl rfl (Yld.fieldAddr fo29_2 rfl) ?_
        refine RL.q (.free rfl) rfl rfl (Yld.load p9 rfl (at1 (hB8.cell rfl))) ?_
        refine RL.op (.free rfl) rfl rfl (Does.call rfl e209 ((hI.grow (hg0.trans hg8)).posting x.name x.value)) ?_
        rintro u9 w9 ⟨hr9, hf9, hg9⟩
        refine RL.op (.free rfl) rfl rfl (Does.call rfl e208 (and_ok No R ((lookM rows (x.name, x.value)).getD []) u u9 _ (Sl.own (hr.mod (hg8.trans hg9) (fun _ _ h => h)) (fun _ _ h => h)) (Sl.own hr9 (fun _ _ h => h)) (by omega))) ?_
        rintro u10 w10 ⟨hr10, hf10, hg10⟩
        rw [mkRow_id hris] at hr10
        have hg210 := ((hg.trans hg8).trans hg9).trans hg10
        refine RL.p rfl rfl ?_
        refine RL.done ?_
        refine RK.inBlock ?_
        refine RK.region ?_
        refine RL.p rfl rfl ?_
        refine RL.re (d := 32) rfl rfl (succ_i64 (by omega)) ?_
        refine RL.p rfl rfl ?_
        refine RL.done ?_
        exact RK.back (ih (k + 1, u10) _ ⟨⟨R.filter fun n => ((lookM rows (x.name, x.value)).getD []).contains n, hr10, hris.sublist List.filter_sublist, fun id hid => hsub id (List.mem_filter.1 hid).1, Nat.le_trans (List.length_filter_le _ _) hRl, fun id ls hm hal => List.mem_filter.2 ⟨hall id ls hm hal, by
            have := hpost x (List.mem_of_getElem? hx) (by first | assumption | (simp_all; done)) (by first | assumption | (simp_all; done)) id ls hm (List.all_eq_true.1 hal x (List.mem_of_getElem? hx))
            simpa using this⟩⟩, fun b e => by have := hf10 b e; have := ((hg.trans hg8).trans hg9).size; omega, hg210, by simp only; omega⟩ (by simp only; omega)) ⟨rfl, rfl, rfl, rfl, rfl, rfl, trivial⟩
      · refine RK.skip ?_
        refine RK.inBlock ?_
        refine RK.region ?_
        refine RL.p rfl rfl ?_
        refine RL.re (d := 32) rfl rfl (succ_i64 (by omega)) ?_
        refine RL.p rfl rfl ?_
        refine RL.done ?_
        exact RK.back (ih (k + 1, u) _ ⟨⟨R, hr.mod hg8 (fun _ _ h => h), hris, hsub, hRl, hall⟩, hf, hg.trans hg8, by simp only; omega⟩ (by simp only; omega)) ⟨rfl, rfl, rfl, rfl, rfl, rfl, trivial⟩
    · iterate 3 refine RL.no (.no rfl rfl rfl rfl) rfl rfl ?_
      refine RL.p rfl rfl ?_
      refine RL.done ?_
      first | refine RK.condD rfl (fun h23 => ?_) (fun h23 => ?_) | refine RK.condN rfl (fun h23 => ?_) (fun h23 => ?_) | refine RK.cond rfl (fun h23 => ?_) (fun h23 => ?_)
      · refine RK.region ?_
        refine RL.p rfl rfl ?_
        refine RL.q (.free rfl) rfl rfl (Yld.load p114 rfl (at1 ((hB2.mod (hg.trans hg8) (fun h => h)).cell rfl))) ?_
        refine RL.q (.free rfl) rfl rfl (Yld.fieldAddr fo29_1 rfl) ?_
        refine RL.q (.free rfl) rfl rfl (Yld.load p9 rfl (at1 (hB8.cell rfl))) ?_
        refine RL.q (.free rfl) rfl rfl (Yld.fieldAddr fo29_2 rfl) ?_
        refine RL.q (.free rfl) rfl rfl (Yld.load p9 rfl (at1 (hB8.cell rfl))) ?_
        refine RL.op (.free rfl) rfl rfl (Does.call rfl e209 ((hI.grow (hg0.trans hg8)).posting x.name x.value)) ?_
        rintro u9 w9 ⟨hr9, hf9, hg9⟩
        refine RL.op (.free rfl) rfl rfl (Does.call rfl e208 (and_ok No R ((lookM rows (x.name, x.value)).getD []) u u9 _ (Sl.own (hr.mod (hg8.trans hg9) (fun _ _ h => h)) (fun _ _ h => h)) (Sl.own hr9 (fun _ _ h => h)) (by omega))) ?_
        rintro u10 w10 ⟨hr10, hf10, hg10⟩
        rw [mkRow_id hris] at hr10
        have hg210 := ((hg.trans hg8).trans hg9).trans hg10
        refine RL.p rfl rfl ?_
        refine RL.done ?_
        refine RK.inBlock ?_
        refine RK.region ?_
        refine RL.p rfl rfl ?_
        refine RL.re (d := 32) rfl rfl (succ_i64 (by omega)) ?_
        refine RL.p rfl rfl ?_
        refine RL.done ?_
        exact RK.back (ih (k + 1, u10) _ ⟨⟨R.filter fun n => ((lookM rows (x.name, x.value)).getD []).contains n, hr10, hris.sublist List.filter_sublist, fun id hid => hsub id (List.mem_filter.1 hid).1, Nat.le_trans (List.length_filter_le _ _) hRl, fun id ls hm hal => List.mem_filter.2 ⟨hall id ls hm hal, by
            have := hpost x (List.mem_of_getElem? hx) (by first | assumption | (simp_all; done)) (by first | assumption | (simp_all; done)) id ls hm (List.all_eq_true.1 hal x (List.mem_of_getElem? hx))
            simpa using this⟩⟩, fun b e => by have := hf10 b e; have := ((hg.trans hg8).trans hg9).size; omega, hg210, by simp only; omega⟩ (by simp only; omega)) ⟨rfl, rfl, rfl, rfl, rfl, rfl, trivial⟩
      · refine RK.skip ?_
        refine RK.inBlock ?_
        refine RK.region ?_
        refine RL.p rfl rfl ?_
        refine RL.re (d := 32) rfl rfl (succ_i64 (by omega)) ?_
        refine RL.p rfl rfl ?_
        refine RL.done ?_
        exact RK.back (ih (k + 1, u) _ ⟨⟨R, hr.mod hg8 (fun _ _ h => h), hris, hsub, hRl, hall⟩, hf, hg.trans hg8, by simp only; omega⟩ (by simp only; omega)) ⟨rfl, rfl, rfl, rfl, rfl, rfl, trivial⟩
  · refine RK.exit rfl ?_
    refine RK.seq ?_
    refine RK.region ?_
    iterate 2 refine RL.p rfl rfl ?_
    refine RL.op (.free rfl) rfl rfl (Does.call rfl e210 (deleteFuncI_ok w2 R u _ (fun id => !ms.all fun m => h m ((lookM has id).getD [])) _ hr hf hg ⟨_, _, rfl, e211, fun n w9 hg9 => find1M_ok h ms hh _ w9 ix mh mr has rows (hi.mod (hg02.trans hg9) (fun _ _ h => h.elim) (fun h => h) (fun h => h) (fun h => h)) (fun t ht x hx => by have := isS_val (hI.sets t ht) x hx; omega) b2 b3 _ (hv.mod (hg02.trans hg9)) (hB2.mod hg9 (fun h => h)) (hB3.mod hg9 (fun h => h)) n⟩)) ?_
    rintro u9 w9 ⟨hr9, hu9, hm9⟩
    refine RL.p rfl rfl ?_
    refine RL.done ?_
    refine RK.ret_of Tryz.func136 (res1 rfl rfl) ?_ _
    exact ⟨_, rfl, ⟨_, hr9, hris.sublist List.filter_sublist, fun id => by
        unfold keepI
        rw [List.mem_filter]
        dsimp only
        constructor
        · rintro ⟨a, b⟩
          obtain ⟨t, ht, e⟩ := List.mem_map.1 (mem_idsS.1 (hsub id a))
          have e2 := hlook t.1 t.2 ht
          subst e
          rw [e2] at b
          exact ⟨t.2, ht, by simpa using b⟩
        · rintro ⟨ls, hm, hal⟩
          refine ⟨hall id ls hm hal, ?_⟩
          rw [hlook id ls hm, hal]; rfl⟩, fun b e => by rw [hu9] at e; have := hf b e; omega, (hg02.trans hg).then hm9 (fun b hb e => by have := hf b e; omega)⟩
end Go.Proofs.YtnnmgfnhblbolaaGreatDoor
set_option linter.unusedVariables false
set_option linter.unusedSimpArgs false
set_option maxHeartbeats 800000
set_option maxRecDepth 100000
namespace Go.Proofs.YtnnmgfnhblbolaaGreatDoor
open Go Go.X
end Go.Proofs.YtnnmgfnhblbolaaGreatDoor
set_option linter.unusedVariables false
set_option linter.unusedSimpArgs false
set_option maxHeartbeats 1000000
set_option maxRecDepth 100000
namespace Go.Proofs.YtnnmgfnhblbolaaGreatDoor
open Go Go.X Go.Rex
@[irreducible] def fitS (s : ByteArray) : Bool := match parseS s with
  | some x => decide (sz x + 1 ≤ 40)
  | none => false
@[irreducible] def patS (s : ByteArray) : Bool := (parseS s).isSome
@[irreducible] def isM (m : Mt) : Bool := nameS m.name && (if likeS m then patS m.value else decide ((m.kind = 1 ∨ m.kind = 2) ∧ m.value.size ≤ 24))
@[irreducible] def largeM (m : Mt) : Bool := isM m && likeS m && !fitS m.value
theorem isM_pat {m : Mt} (h : isM m = true) (hl : likeS m = true) : patS m.value = true := by
  unfold isM at h
  rw [hl] at h
  simp only [Bool.and_eq_true, if_true] at h
  exact h.2
theorem pat_parse {s : ByteArray} (h : patS s = true) : ∃ x, parseS s = some x := by unfold patS at h; exact Option.isSome_iff_exists.1 h
theorem parse_sz' {s : ByteArray} {x : Rx} (h : parseS s = some x) : sz x ≤ 80 := parse_sz (fun x j h => (par_adv s 8 0 x j (Nat.zero_le _) h).2) h
theorem matchIs_ok (m : Mt) (w : World) : Fx Tryz.prog 203 [.agg #[.int .i64 m.kind, .string m.name, .string m.value]] w (fun u w' => u = .bool (isM m) ∧ Grow w w') := by
  cases hlk : likeS m with
  | false =>
    refine Fx.mono (isV_ok m hlk w) ?_
    rintro u w' ⟨rfl, hg⟩
    refine ⟨congrArg _ ?_, hg⟩
    unfold isM isV
    rw [hlk]; rfl
  | true =>
    refine enter Tryz.func203 rfl rfl rfl _ (Pick.sub (l := [0]) (.cons rfl .nil)) ?_
    refine RK.seq ?_
    refine RK.region ?_
    refine RL.op (.free rfl) rfl rfl (Does.box rfl) ?_
    rintro _ w1 ⟨b1, rfl, hn1⟩
    refine RL.p rfl rfl ?_
    refine RL.done ?_
    iterate 2 refine RK.seq ?_
    refine RK.region ?_
    refine RL.q (.free rfl) rfl rfl (Yld.fieldAddr fo29_1 rfl) ?_
    refine RL.q (.free rfl) rfl rfl (Yld.load p9 rfl (at1 (hn1.blk.cell rfl))) ?_
    refine RL.op (.free rfl) rfl rfl (Does.call rfl e243 (name_ok _ _)) ?_
    rintro _ _ ⟨rfl, rfl⟩
    refine RL.p rfl rfl ?_
    refine RL.done ?_
    first | refine RK.condD rfl (fun h8 => ?_) (fun h8 => ?_) | refine RK.condN rfl (fun h8 => ?_) (fun h8 => ?_) | refine RK.cond rfl (fun h8 => ?_) (fun h8 => ?_)
    · refine RK.seq ?_
      refine RK.region ?_
      refine RL.p rfl rfl ?_
      refine RL.done ?_
      refine RK.ret_of Tryz.func203 (res1 rfl rfl) ?_ _
      exact ⟨_, rfl, congrArg _ (by unfold isM; simp at h8; rw [h8]; rfl), hn1.grow⟩
    · refine RK.skip ?_
      iterate 2 refine RK.seq ?_
      refine RK.region ?_
      refine RL.q (.free rfl) rfl rfl (Yld.loadN (cs := [.int .i64 m.kind, .string m.name, .string m.value]) a29 rfl (atN (blk0' hn1.blk))) ?_
      refine RL.op (.free rfl) rfl rfl (Does.call rfl e254 (like_ok m _)) ?_
      rintro _ w2 ⟨rfl, hg2⟩
      refine RL.done ?_
      refine RK.condT (hcT rfl (hlk)) ?_
      refine RK.seq ?_
      refine RK.region ?_
      refine RL.q (.free rfl) rfl rfl (Yld.fieldAddr fo29_2 rfl) ?_
      refine RL.q (.free rfl) rfl rfl (Yld.load p9 rfl (at1 ((hn1.blk.mod hg2 (fun h => h)).cell rfl))) ?_
      refine RL.op (.free rfl) rfl rfl (Does.call rfl e255 (parse_ok m.value _)) ?_
      rintro _ w3 ⟨c, rfl, hg3, hx⟩
      iterate 3 refine RL.p rfl rfl ?_
      refine RL.op (.free rfl) rfl rfl (Does.alloc i327) ?_
      rintro _ w4 ⟨b3, rfl, hn3⟩
      refine RL.op' (.free rfl) rfl (Does.storeN i327 rfl rfl rfl rfl hn3.blk (Nat.le_refl 6)) ?_
      rintro _ w5 ⟨hb5, hm5, _⟩
      refine RL.p rfl rfl ?_
      refine RL.done ?_
      refine RK.seq ?_
      refine RK.region ?_
      iterate 2 refine RL.p rfl rfl ?_
      refine RL.done ?_
      refine RK.ret_of Tryz.func203 (res1 rfl rfl) ?_ _
      exact ⟨_, rfl, congrArg _ (by unfold isM patS; simp at h8; rw [h8, hlk]; rfl), (((hn1.grow.trans hg2).trans hg3).trans hn3.grow).then hm5 (fun y hy e => by have e' : y = b3 := e; have := hn3.at_; have := ((hn1.grow.trans hg2).trans hg3).size; omega)⟩
theorem program_ok (m : Mt) (hp : patS m.value = true) (w : World) : Fx Tryz.prog 259 [.agg #[.int .i64 m.kind, .string m.name, .string m.value]] w (fun u w' => (∃ v, u = .tuple #[v, .bool (fitS m.value)] ∧ (fitS m.value = true → ∃ x, parseS m.value = some x ∧ sz x + 1 ≤ 40 ∧ RowS w' v (whole x))) ∧ Grow w w') := by
  obtain ⟨x, hx⟩ := pat_parse hp
  have ht := parse_tr hx
  have hsz := parse_sz' hx
  have hfit : fitS m.value = decide (sz x + 1 ≤ 40) := by unfold fitS; rw [hx]
  refine enter Tryz.func259 rfl rfl rfl _ (Pick.sub (l := [0]) (.cons rfl .nil)) ?_
  refine RK.seq ?_
  refine RK.region ?_
  refine RL.op (.free rfl) rfl rfl (Does.box rfl) ?_
  rintro _ w1 ⟨b1, rfl, hn1⟩
  iterate 2 refine RL.p rfl rfl ?_
  refine RL.done ?_
  refine RK.seq ?_
  refine RK.region ?_
  refine RL.q (.free rfl) rfl rfl (Yld.fieldAddr fo29_2 rfl) ?_
  refine RL.q (.free rfl) rfl rfl (Yld.load p9 rfl (at1 (hn1.blk.cell rfl))) ?_
  refine RL.op (.free rfl) rfl rfl (Does.call rfl e255 (parse_ok m.value _)) ?_
  rintro _ w3 ⟨c, rfl, hg3, hxx⟩
  have hv3 := hxx x hx
  have hsm : (parseS m.value).isSome = true := by rw [hx]; rfl
  rw [hsm]
  iterate 3 refine RL.p rfl rfl ?_
  refine RL.op (.free rfl) rfl rfl (Does.alloc i327) ?_
  rintro _ w4 ⟨b3, rfl, hn3⟩
  refine RL.op' (.free rfl) rfl (Does.storeN i327 rfl rfl rfl rfl hn3.blk (Nat.le_refl 6)) ?_
  rintro _ w5 ⟨hb5, hm5, _⟩
  have hB5 : Blk w5 b3 327 (celC c) := hb5
  have hg5 : Grow w3 w5 := hn3.grow.then hm5 (fun y hy e => by have e' : y = b3 := e; have := hn3.at_; omega)
  refine RL.p rfl rfl ?_
  refine RL.done ?_
  iterate 2 refine RK.seq ?_
  refine RK.region ?_
  iterate 2 refine RL.p rfl rfl ?_
  refine RL.done ?_
  refine RK.condF (hcF rfl (rfl)) ?_
  refine RK.skip ?_
  refine RK.seq ?_
  refine RK.region ?_
  refine RL.q (.free rfl) rfl rfl (Yld.loadN (cs := celC c) a327 rfl (atN (blk0' hB5))) ?_
  refine RL.op (.free rfl) rfl rfl (Does.call rfl e295 (progMake_ok x ht (by omega) _ c _ (RxV.grow hg5 x hv3))) ?_
  rintro _ w6 ⟨⟨v, rfl, hrow⟩, hg6⟩
  iterate 4 refine RL.p rfl rfl ?_
  refine RL.done ?_
  refine RK.ret_of Tryz.func259 (res2 rfl rfl rfl) ?_ _
  exact ⟨_, rfl, ⟨v, by rw [hfit], fun hf => ⟨x, hx, by rw [hfit] at hf; simpa using hf, hrow (by rw [hfit] at hf; simpa using hf)⟩⟩, ((hn1.grow.trans hg3).trans hg5).trans hg6⟩
theorem large_no {m : Mt} (h : isM m = false) : largeM m = false := by unfold largeM; rw [h]; rfl
theorem large_no2 {m : Mt} (h : likeS m = false) : largeM m = false := by unfold largeM; rw [h]; simp
theorem large_yes {m : Mt} (h1 : isM m = true) (h2 : likeS m = true) : largeM m = !fitS m.value := by unfold largeM; rw [h1, h2]; rfl
theorem matchLarge_ok (m : Mt) (w : World) : Fx Tryz.prog 206 [.agg #[.int .i64 m.kind, .string m.name, .string m.value]] w (fun u w' => u = .bool (largeM m) ∧ Grow w w') := by
  refine enter Tryz.func206 rfl rfl rfl _ (Pick.sub (l := [0]) (.cons rfl .nil)) ?_
  refine RK.seq ?_
  refine RK.region ?_
  refine RL.op (.free rfl) rfl rfl (Does.box rfl) ?_
  rintro _ w1 ⟨b1, rfl, hn1⟩
  have hB1 : Blk w1 b1 29 [.int .i64 m.kind, .string m.name, .string m.value] := hn1.blk
  refine RL.p rfl rfl ?_
  refine RL.done ?_
  iterate 2 refine RK.seq ?_
  refine RK.region ?_
  refine RL.q (.free rfl) rfl rfl (Yld.loadN (cs := [.int .i64 m.kind, .string m.name, .string m.value]) a29 rfl (atN (blk0' hB1))) ?_
  refine RL.op (.free rfl) rfl rfl (Does.call rfl e254 (like_ok m _)) ?_
  rintro _ w2 ⟨rfl, hg2⟩
  have hB2 := hB1.mod hg2 (fun h => h)
  iterate 2 refine RL.p rfl rfl ?_
  first | refine RL.splitD (d := 8) rfl rfl (fun h8 => ?_) (fun h8 => ?_) | refine RL.splitN (d := 8) rfl rfl (fun h8 => ?_) (fun h8 => ?_) | refine RL.split (d := 8) rfl rfl (fun h8 => ?_) (fun h8 => ?_)
  · have hl : likeS m = false := by unfold likeS; simpa using h8
    iterate 3 refine RL.no (.no rfl rfl rfl rfl) rfl rfl ?_
    refine RL.p rfl rfl ?_
    refine RL.done ?_
    refine RK.condT (hcT rfl (rfl)) ?_
    refine RK.seq ?_
    refine RK.region ?_
    refine RL.p rfl rfl ?_
    refine RL.done ?_
    refine RK.ret_of Tryz.func206 (res1 rfl rfl) ?_ _
    exact ⟨_, rfl, by rw [large_no2 hl], hn1.grow.trans hg2⟩
  · have hl : likeS m = true := by unfold likeS; simpa using h8
    refine RL.q (.yes rfl rfl rfl) rfl rfl (Yld.loadN (cs := [.int .i64 m.kind, .string m.name, .string m.value]) a29 rfl (atN (blk0' hB2))) ?_
    refine RL.op (.yes rfl rfl rfl) rfl rfl (Does.call rfl e203 (matchIs_ok m _)) ?_
    rintro _ w3 ⟨rfl, hg3⟩
    have hB3 := hB2.mod hg3 (fun h => h)
    refine RL.q (.yes rfl rfl rfl) rfl rfl (Yld.pure rfl) ?_
    refine RL.p rfl rfl ?_
    refine RL.done ?_
    first | refine RK.condD rfl (fun h12 => ?_) (fun h12 => ?_) | refine RK.condN rfl (fun h12 => ?_) (fun h12 => ?_) | refine RK.cond rfl (fun h12 => ?_) (fun h12 => ?_)
    · have his : isM m = false := by simpa using h12
      refine RK.seq ?_
      refine RK.region ?_
      refine RL.p rfl rfl ?_
      refine RL.done ?_
      refine RK.ret_of Tryz.func206 (res1 rfl rfl) ?_ _
      exact ⟨_, rfl, by rw [large_no his], (hn1.grow.trans hg2).trans hg3⟩
    · have his : isM m = true := by simpa using h12
      refine RK.skip ?_
      refine RK.seq ?_
      refine RK.region ?_
      refine RL.q (.free rfl) rfl rfl (Yld.loadN (cs := [.int .i64 m.kind, .string m.name, .string m.value]) a29 rfl (atN (blk0' hB3))) ?_
      refine RL.op (.free rfl) rfl rfl (Does.call rfl e259 (program_ok m (isM_pat his hl) _)) ?_
      rintro _ w4 ⟨⟨v, rfl, _⟩, hg4⟩
      iterate 5 refine RL.p rfl rfl ?_
      refine RL.done ?_
      refine RK.seq ?_
      refine RK.region ?_
      iterate 3 refine RL.p rfl rfl ?_
      refine RL.done ?_
      refine RK.ret_of Tryz.func206 (res1 rfl rfl) ?_ _
      exact ⟨_, rfl, by rw [large_yes his hl], ((hn1.grow.trans hg2).trans hg3).trans hg4⟩
end Go.Proofs.YtnnmgfnhblbolaaGreatDoor
set_option linter.unusedVariables false
set_option linter.unusedSimpArgs false
set_option maxHeartbeats 1000000
set_option maxRecDepth 100000
namespace Go.Proofs.YtnnmgfnhblbolaaGreatDoor
open Go Go.X Go.Rex
@[irreducible] def aheadM (x y : Mt) : Bool := if x.name ≠ y.name then slt x.name y.name else if x.kind ≠ y.kind then decide (x.kind < y.kind) else slt x.value y.value
theorem allOne_mts (xs : List Mt) : ((xs.flatMap mtC).all fun x => x.oneCell') = true := by
  rw [List.all_eq_true]
  intro u hu
  obtain ⟨x, _, hx⟩ := List.mem_flatMap.1 hu
  simp only [mtC, List.mem_cons, List.not_mem_nil, or_false] at hx
  rcases hx with rfl | rfl | rfl <;> rfl
end Go.Proofs.YtnnmgfnhblbolaaGreatDoor
set_option linter.unusedVariables false
set_option linter.unusedSimpArgs false
set_option maxHeartbeats 1000000
set_option maxRecDepth 100000
namespace Go.Proofs.YtnnmgfnhblbolaaGreatDoor
open Go Go.X Go.Rex
theorem cmpB : ∀ (a b : List UInt8), Lib.compareBytes a b = if Op.bytesLess a b = true then -1 else if a = b then 0 else 1
  | [], [] => by simp [Lib.compareBytes, Op.bytesLess]
  | [], _ :: _ => by simp [Lib.compareBytes, Op.bytesLess]
  | _ :: _, [] => by simp [Lib.compareBytes, Op.bytesLess]
  | a :: xs, b :: ys => by
    rw [Lib.compareBytes, cmpB xs ys, show Op.bytesLess (a :: xs) (b :: ys) = (decide (a < b) || (a == b && Op.bytesLess xs ys)) from rfl]
    by_cases h1 : a < b
    · simp [h1]
    · by_cases h2 : b < a
      · have : a ≠ b := by rintro rfl; exact h1 h2
        simp [h1, h2, this]
      · have : a = b := UInt8.le_antisymm (UInt8.not_lt.1 h2) (UInt8.not_lt.1 h1)
        subst this
        simp [h1]
theorem cmpS_ok (a b : ByteArray) (w : World) : Fx Tryz.prog 257 [.string a, .string b] w (fun u w' => u = .int .i64 (if slt a b = true then -1 else if a = b then 0 else 1) ∧ w = w') := by
  refine Calls.mono (Tryz.strings_Compare a b w) ?_
  rintro e w' ⟨rfl, rfl⟩
  refine ⟨_, rfl, ?_, rfl⟩
  rw [cmpB]
  unfold slt
  by_cases h : a = b
  · subst h; rw [bl_irrefl]; simp
  · rw [if_neg h, if_neg (fun e => h (data_inj e))]
def orS : List Int → Int
  | [] => 0
  | z :: l => if z ≠ 0 then z else orS l
theorem orI_ok (M : Nat → Prop) (l : List Int) (v : Value) (w : World) (hv : Sl M w v 1 l.length (ints l)) : Fx Tryz.prog 256 [v] w (fun u w' => u = .int .i64 (orS l) ∧ w = w') := by
  obtain ⟨ad, c, rfl⟩ := hv.shape
  have hbig := hv.big
  refine enter Tryz.func256 rfl rfl rfl _ (Pick.sub (l := [0]) (.cons rfl .nil)) ?_
  refine RK.seq ?_
  refine RK.region ?_
  refine RL.p rfl rfl ?_
  refine RL.done ?_
  refine RK.seq ?_
  refine RK.region ?_
  refine RL.p rfl rfl ?_
  refine RL.done ?_
  iterate 2 refine RK.seq ?_
  refine RK.region ?_
  refine RL.p rfl rfl ?_
  refine RL.q (.free rfl) rfl rfl (Yld.lenSl u41 rfl) ?_
  refine RL.p rfl rfl ?_
  refine RL.done ?_
  refine RK.block ?_
  refine RK.loop (fun k : Nat => [(3, .int .i64 0), (6, .slice ad l.length c), (7, .int .i64 (l.length : Int)), (8, .int .i64 (k : Int))]) (fun k w' => w = w' ∧ k ≤ l.length ∧ orS (l.drop k) = orS l) (fun k => l.length - k) 0 ⟨rfl, rfl, rfl, rfl, trivial⟩ ⟨rfl, by omega, rfl⟩ (fun k w' hI ih => ?_)
  obtain ⟨rfl, hk, hst⟩ := hI
  refine RK.seq ?_
  refine RK.region ?_
  refine RL.p rfl rfl ?_
  refine RL.done ?_
  refine RK.seq ?_
  first | refine RK.condD rfl (fun h9 => ?_) (fun h9 => ?_) | refine RK.condN rfl (fun h9 => ?_) (fun h9 => ?_) | refine RK.cond rfl (fun h9 => ?_) (fun h9 => ?_)
  · obtain ⟨z, hz⟩ : ∃ z, l[k]? = some z := ⟨l[k]'(by omega), List.getElem?_eq_getElem (by omega)⟩
    obtain ⟨b1, o1, c1', he1, _, _, hc1⟩ := hv.elem1 (k := k) (u := .int .i64 z) (by simp [hz])
    cases he1
    have hdr : l.drop k = z :: l.drop (k + 1) := by rw [List.drop_eq_getElem_cons (by omega), (List.getElem?_eq_some_iff.1 hz).2]
    rw [hdr] at hst
    refine RK.skip ?_
    refine RK.seq ?_
    refine RK.block ?_
    refine RK.seq ?_
    refine RK.region ?_
    refine RL.q (.free rfl) rfl rfl (Yld.indexAddrN u41 i3 rfl rfl (by omega)) ?_
    refine RL.q (.free rfl) rfl rfl (Yld.load p3 rfl (at1 (hc1 k (.int .i64 z) (by simp [hz])))) ?_
    refine RL.p rfl rfl ?_
    refine RL.done ?_
    refine RK.seq ?_
    refine RK.region ?_
    iterate 3 refine RL.p rfl rfl ?_
    refine RL.done ?_
    first | refine RK.condD rfl (fun h14 => ?_) (fun h14 => ?_) | refine RK.condN rfl (fun h14 => ?_) (fun h14 => ?_) | refine RK.cond rfl (fun h14 => ?_) (fun h14 => ?_)
    · refine RK.seq ?_
      refine RK.region ?_
      iterate 2 refine RL.p rfl rfl ?_
      refine RL.done ?_
      refine RK.ret_of Tryz.func256 (res1 rfl rfl) ?_ _
      exact ⟨_, rfl, by rw [← hst]; unfold orS; rw [if_pos h14], rfl⟩
    · have hst2 : orS (l.drop (k + 1)) = orS l := by rw [← hst]; conv => rhs; unfold orS; rw [if_neg h14]
      refine RK.skip ?_
      refine RK.inBlock ?_
      refine RK.region ?_
      refine RL.p rfl rfl ?_
      refine RL.re (d := 16) rfl rfl (succ_i64 (by omega)) ?_
      refine RL.p rfl rfl ?_
      refine RL.done ?_
      exact RK.back (ih (k + 1) _ ⟨rfl, by omega, hst2⟩ (by omega)) ⟨rfl, rfl, rfl, rfl, trivial⟩
  · rw [List.drop_eq_nil_of_le (by omega)] at hst
    refine RK.exit rfl ?_
    refine RK.seq ?_
    refine RK.region ?_
    iterate 2 refine RL.p rfl rfl ?_
    refine RL.done ?_
    refine RK.ret_of Tryz.func256 (res1 rfl rfl) ?_ _
    exact ⟨_, rfl, by rw [← hst]; rfl, rfl⟩
theorem ahead_or (x y : Mt) : (0 ≤ orS [if slt x.name y.name = true then -1 else if x.name = y.name then 0 else 1, Lib.compareInt x.kind y.kind, if slt x.value y.value = true then -1 else if x.value = y.value then 0 else 1]) ↔ aheadM x y = false := by
  obtain ⟨xk, xn, xv⟩ := x
  obtain ⟨yk, yn, yv⟩ := y
  unfold aheadM Lib.compareInt
  simp only
  by_cases h2 : xn = yn
  · subst h2
    simp only [slt_irrefl, Bool.false_eq_true, if_false, if_true, ne_eq, not_true_eq_false]
    by_cases h3 : xk < yk
    · have hne : xk ≠ yk := by omega
      simp [orS, h3, hne]
    · by_cases h4 : xk = yk
      · subst h4
        by_cases h5 : slt xv yv = true
        · simp [orS, h5]
        · by_cases h6 : xv = yv
          · subst h6; simp [orS, slt_irrefl]
          · simp [orS, h5, h6]
      · have h5 : yk < xk := by omega
        simp [orS, h3, h4, h5]
  · by_cases h1 : slt xn yn = true
    · simp [orS, h1, h2]
    · simp [orS, h1, h2]
theorem cmpM_ok (x y : Mt) (w : World) : Fx Tryz.prog 204 [.agg (mtC x).toArray, .agg (mtC y).toArray] w (fun u w' => (∃ c : Int, u = .int .i64 c ∧ (0 ≤ c ↔ aheadM x y = false)) ∧ Grow w w') := by
  refine enter Tryz.func204 rfl rfl rfl _ (Pick.sub (l := [0, 1]) (.cons rfl (.cons rfl .nil))) ?_
  refine RK.seq ?_
  refine RK.region ?_
  refine RL.op (.free rfl) rfl rfl (Does.box rfl) ?_
  rintro _ w1 ⟨b1, rfl, hn1⟩
  refine RL.op (.free rfl) rfl rfl (Does.box rfl) ?_
  rintro _ w2 ⟨b2, rfl, hn2⟩
  have hB1 : Blk w2 b1 29 [.int .i64 x.kind, .string x.name, .string x.value] := hn1.blk.mod hn2.grow (fun h => h)
  have hB2 : Blk w2 b2 29 [.int .i64 y.kind, .string y.name, .string y.value] := hn2.blk
  have hg2 := hn1.grow.trans hn2.grow
  refine RL.p rfl rfl ?_
  refine RL.done ?_
  refine RK.seq ?_
  refine RK.drawM No [(0, false), (1, false), (2, false), (3, false), (5, false), (6, false), (7, false), (8, false), (10, false), (11, false), (12, false), (13, false), (4, true), (9, true), (14, true), (15, true), (16, true), (17, false)] [] mixed (by kernel_rfl) ?_
  refine DL.qf rfl (.free rfl) rfl rfl (Yld.fieldAddr fo29_1 rfl) ?_
  refine DL.q rfl (.free rfl) rfl rfl rfl (Yld.load p9 rfl (atM (hB1.cell rfl) (fun h => h))) (Mod.drew _ _) ?_
  refine DL.qf rfl (.free rfl) rfl rfl (Yld.fieldAddr fo29_1 rfl) ?_
  refine DL.q rfl (.free rfl) rfl rfl rfl (Yld.load p9 rfl (atM (hB2.cell rfl) (fun h => h))) (Mod.drew _ _) ?_
  refine DL.qf rfl (.free rfl) rfl rfl (Yld.fieldAddr fo29_0 rfl) ?_
  refine DL.q rfl (.free rfl) rfl rfl rfl (Yld.load p3 rfl (atM (hB1.cell rfl) (fun h => h))) (Mod.drew _ _) ?_
  refine DL.qf rfl (.free rfl) rfl rfl (Yld.fieldAddr fo29_0 rfl) ?_
  refine DL.q rfl (.free rfl) rfl rfl rfl (Yld.load p3 rfl (atM (hB2.cell rfl) (fun h => h))) (Mod.drew _ _) ?_
  refine DL.qf rfl (.free rfl) rfl rfl (Yld.fieldAddr fo29_2 rfl) ?_
  refine DL.q rfl (.free rfl) rfl rfl rfl (Yld.load p9 rfl (atM (hB1.cell rfl) (fun h => h))) (Mod.drew _ _) ?_
  refine DL.qf rfl (.free rfl) rfl rfl (Yld.fieldAddr fo29_2 rfl) ?_
  refine DL.q rfl (.free rfl) rfl rfl rfl (Yld.load p9 rfl (atM (hB2.cell rfl) (fun h => h))) (Mod.drew _ _) ?_
  refine DL.op rfl (.free rfl) rfl rfl (Does.call rfl e257 (cmpS_ok _ _ _)) ?_
  rintro _ _ ⟨rfl, rfl⟩
  refine ⟨Mod.drew _ _, ?_⟩
  refine DL.op rfl (.free rfl) rfl rfl (Does.call rfl e188 (cmpInt_ok _ _ _)) ?_
  rintro _ _ ⟨rfl, rfl⟩
  refine ⟨Mod.drew _ _, ?_⟩
  refine DL.op rfl (.free rfl) rfl rfl (Does.call rfl e257 (cmpS_ok _ _ _)) ?_
  rintro _ _ ⟨rfl, rfl⟩
  refine ⟨Mod.drew _ _, ?_⟩
  refine DL.op rfl (.free rfl) rfl rfl (Does.bslice (el := 3) ([.int .i64 (if slt x.name y.name = true then -1 else if x.name = y.name then 0 else 1), .int .i64 (Lib.compareInt x.kind y.kind), .int .i64 (if slt x.value y.value = true then -1 else if x.value = y.value then 0 else 1)]) rfl (fun w => by kernel_rfl)) ?_
  rintro _ w3 ⟨b3, rfl, hn3⟩
  refine ⟨(Mod.drew _ _).trans hn3.grow, ?_⟩
  refine DL.op rfl (.free rfl) rfl rfl (Does.call rfl e256 (orI_ok No [_, _, _] _ _ (Sl.new hn3 1 3 rfl (by omega) (fun h => h)))) ?_
  rintro _ _ ⟨rfl, rfl⟩
  refine ⟨(Mod.drew _ _).trans hn3.grow, ?_⟩
  refine DL.p rfl rfl rfl ?_
  refine DL.done ?_
  refine RK.ret_of Tryz.func204 (res1 rfl rfl) ?_ _
  exact ⟨_, rfl, ⟨_, rfl, ahead_or x y⟩, hg2.trans ((Mod.drew _ _).trans hn3.grow)⟩
@[irreducible] def okM (ms : List Mt) (i : Nat) : Bool := match ms[i]? with
  | none => true
  | some x => isM x && (match i with
    | 0 => true
    | j + 1 => match ms[j]? with
      | none => true
      | some y => aheadM y x)
@[irreducible] def listM (ms : List Mt) : Bool := decide (ms.length ≤ 5) && (List.range ms.length).all (okM ms)
theorem okM_0 {ms : List Mt} {x : Mt} (hx : ms[0]? = some x) : okM ms 0 = isM x := by unfold okM; rw [hx]; simp
theorem okM_s {ms : List Mt} {j : Nat} {x y : Mt} (hx : ms[j + 1]? = some x) (hy : ms[j]? = some y) : okM ms (j + 1) = (isM x && aheadM y x) := by unfold okM; rw [hx]; simp only; rw [hy]
theorem listM_big {ms : List Mt} (h : 5 < ms.length) : listM ms = false := by unfold listM; rw [decide_eq_false (by omega)]; rfl
theorem listM_no {ms : List Mt} {i : Nat} (hi : i < ms.length) (h : okM ms i = false) : listM ms = false := by
  unfold listM
  rw [Bool.and_eq_false_iff]; right
  exact List.all_eq_false.2 ⟨i, List.mem_range.2 hi, by simp [h]⟩
theorem listM_yes {ms : List Mt} (h5 : ms.length ≤ 5) (h : ∀ i, i < ms.length → okM ms i = true) : listM ms = true := by
  unfold listM
  rw [decide_eq_true h5, Bool.true_and]
  exact List.all_eq_true.2 fun i hi => h i (List.mem_range.1 hi)
theorem matchList_ok (M : Nat → Prop) (ms : List Mt) (v : Value) (w : World) (hv : SlM M w v ms) : Fx Tryz.prog 134 [v] w (fun u w' => u = .bool (listM ms) ∧ Grow w w') := by
  obtain ⟨ad, c, rfl⟩ := hv.shape
  have hbig := hv.big
  refine enter Tryz.func134 rfl rfl rfl _ (Pick.sub (l := [0]) (.cons rfl .nil)) ?_
  refine RK.seq ?_
  refine RK.region ?_
  refine RL.p rfl rfl ?_
  refine RL.done ?_
  iterate 2 refine RK.seq ?_
  refine RK.region ?_
  refine RL.p rfl rfl ?_
  refine RL.q (.free rfl) rfl rfl (Yld.lenSl u30 rfl) ?_
  refine RL.p rfl rfl ?_
  refine RL.done ?_
  first | refine RK.condD rfl (fun h7 => ?_) (fun h7 => ?_) | refine RK.condN rfl (fun h7 => ?_) (fun h7 => ?_) | refine RK.cond rfl (fun h7 => ?_) (fun h7 => ?_)
  · refine RK.seq ?_
    refine RK.region ?_
    refine RL.p rfl rfl ?_
    refine RL.done ?_
    refine RK.ret_of Tryz.func134 (res1 rfl rfl) ?_ _
    exact ⟨_, rfl, by rw [listM_big (by omega)], Mod.refl _ _⟩
  · refine RK.skip ?_
    iterate 2 refine RK.seq ?_
    refine RK.region ?_
    refine RL.p rfl rfl ?_
    refine RL.q (.free rfl) rfl rfl (Yld.lenSl u30 rfl) ?_
    refine RL.p rfl rfl ?_
    refine RL.done ?_
    refine RK.block ?_
    refine RK.loop (fun k : Nat => [(0, .slice ad ms.length c), (8, .slice ad ms.length c), (9, .int .i64 (ms.length : Int)), (10, .int .i64 (k : Int))]) (fun k w' => Grow w w' ∧ k ≤ ms.length ∧ ∀ i, i < k → okM ms i = true) (fun k => ms.length - k) 0 ⟨rfl, rfl, rfl, rfl, trivial⟩ ⟨Mod.refl _ _, by omega, fun i hi => by omega⟩ (fun k w' hI ih => ?_)
    obtain ⟨hg, hk, hall⟩ := hI
    refine RK.seq ?_
    refine RK.region ?_
    refine RL.p rfl rfl ?_
    refine RL.done ?_
    refine RK.seq ?_
    first | refine RK.condD rfl (fun h11 => ?_) (fun h11 => ?_) | refine RK.condN rfl (fun h11 => ?_) (fun h11 => ?_) | refine RK.cond rfl (fun h11 => ?_) (fun h11 => ?_)
    · obtain ⟨x, hx⟩ : ∃ x, ms[k]? = some x := ⟨ms[k]'(by omega), List.getElem?_eq_getElem (by omega)⟩
      obtain ⟨b1, o1, c1', he1, _, _, hc1⟩ := hv.elem mtC_len hx
      cases he1
      refine RK.skip ?_
      refine RK.seq ?_
      refine RK.block ?_
      refine RK.seq ?_
      refine RK.region ?_
      refine RL.p rfl rfl ?_
      refine RL.q (.free rfl) rfl rfl (Yld.indexAddrN u30 i29 rfl rfl (by omega)) ?_
      refine RL.q (.free rfl) rfl rfl (Yld.loadN (cs := mtC x) a29 rfl (atN (fun q z hq => hg.cell (hc1 q z hq) (fun h => h)))) ?_
      refine RL.op (.free rfl) rfl rfl (Does.alloc i29) ?_
      rintro _ w4 ⟨b4, rfl, hn4⟩
      refine RL.p rfl rfl ?_
      refine RL.op' (.free rfl) rfl (Does.storeN i29 rfl rfl rfl rfl hn4.blk (Nat.le_refl 3)) ?_
      rintro _ w5 ⟨hb5, hm5, _⟩
      have hg5 : Grow w w5 := hg.trans (hn4.grow.then hm5 (fun y hy e => by have e' : y = b4 := e; have := hn4.at_; omega))
      refine RL.done ?_
      refine RK.seq ?_
      refine RK.drawM No [(0, false), (1, true), (2, false), (3, false), (4, false), (5, false), (6, false), (7, false), (8, false), (9, false), (10, false), (11, false), (12, false), (13, true), (14, false), (15, false), (16, false)] [] mixed (by kernel_rfl) ?_
      refine DL.q rfl (.free rfl) rfl rfl rfl (Yld.loadN (cs := mtC x) a29 rfl (atNM (blk0' hb5) (fun h => h))) (Mod.drew _ _) ?_
      refine DL.op rfl (.free rfl) rfl rfl (Does.call rfl e203 (matchIs_ok x _)) ?_
      rintro _ w6 ⟨rfl, hg6⟩
      refine ⟨(Mod.drew No _).trans hg6, ?_⟩
      iterate 2 refine DL.p rfl rfl rfl ?_
      first | refine DL.splitD (d := 18) rfl rfl (fun h17 => ?_) (fun h17 => ?_) | refine DL.splitN (d := 18) rfl rfl (fun h17 => ?_) (fun h17 => ?_) | refine DL.split (d := 18) rfl rfl (fun h17 => ?_) (fun h17 => ?_)
      · iterate 9 refine DL.no rfl (.no rfl rfl rfl rfl) rfl rfl ?_
        refine DL.lno rfl (.no rfl rfl rfl rfl) rfl rfl ?_
        iterate 2 refine DL.no rfl (.no rfl rfl rfl rfl) rfl rfl ?_
        refine DL.p rfl rfl rfl ?_
        refine DL.done ?_
        refine RK.condT rfl ?_
        refine RK.seq ?_
        refine RK.region ?_
        refine RL.p rfl rfl ?_
        refine RL.done ?_
        refine RK.ret_of Tryz.func134 (res1 rfl rfl) ?_ _
        exact ⟨_, rfl, by rw [listM_no (i := k) (by omega) (by
            have hf : isM x = false := by simpa using h17
            cases k with
            | zero => rw [okM_0 hx]; exact hf
            | succ j => rw [okM_s hx (List.getElem?_eq_getElem (by omega)), hf]; rfl)], hg5.trans ((Mod.drew No _).trans hg6)⟩
      · have hix : isM x = true := by simpa using h17
        iterate 3 refine DL.qf rfl (.yes rfl rfl rfl) rfl rfl (Yld.pure rfl) ?_
        first | refine DL.splitD (d := 21) rfl rfl (fun h20 => ?_) (fun h20 => ?_) | refine DL.splitN (d := 21) rfl rfl (fun h20 => ?_) (fun h20 => ?_) | refine DL.split (d := 21) rfl rfl (fun h20 => ?_) (fun h20 => ?_)
        · obtain ⟨j, rfl⟩ : ∃ j, k = j + 1 := ⟨k - 1, by omega⟩
          obtain ⟨y, hy⟩ : ∃ y, ms[j]? = some y := ⟨ms[j]'(by omega), List.getElem?_eq_getElem (by omega)⟩
          obtain ⟨b2, o2, c2', he2, _, _, hc2⟩ := hv.elem mtC_len hy
          cases he2
          iterate 3 refine DL.qf rfl (.yes rfl rfl rfl) rfl rfl (Yld.pure rfl) ?_
          refine DL.re (d := 24) rfl rfl (sub_i64 (z := (j : Int)) (by omega) (by omega) (by omega)) ?_
          refine DL.qf rfl (.yes rfl rfl rfl) rfl rfl (Yld.indexAddrN u30 i29 rfl rfl (by omega)) ?_
          refine DL.q rfl (.yes rfl rfl rfl) rfl rfl rfl (Yld.loadN (cs := mtC y) a29 rfl (atNM (fun q z hq => hg5.cell (hc2 q z hq) (fun h => h)) (fun h => h))) ((Mod.drew No _).trans hg6) ?_
          refine DL.q rfl (.yes rfl rfl rfl) rfl rfl rfl (Yld.loadN (cs := mtC x) a29 rfl (atNM (blk0' hb5) (fun h => h))) ((Mod.drew No _).trans hg6) ?_
          refine DL.op rfl (.yes rfl rfl rfl) rfl rfl (Does.call rfl e204 (cmpM_ok y x _)) ?_
          rintro _ w7 ⟨⟨cc, rfl, hcc⟩, hg7⟩
          have hg8 := hg5.trans (((Mod.drew No _).trans hg6).trans hg7)
          refine ⟨((Mod.drew No _).trans hg6).trans hg7, ?_⟩
          iterate 2 refine DL.qf rfl (.yes rfl rfl rfl) rfl rfl (Yld.pure rfl) ?_
          refine DL.p rfl rfl rfl ?_
          refine DL.done ?_
          first | refine RK.condD rfl (fun h29 => ?_) (fun h29 => ?_) | refine RK.condN rfl (fun h29 => ?_) (fun h29 => ?_) | refine RK.cond rfl (fun h29 => ?_) (fun h29 => ?_)
          · refine RK.seq ?_
            refine RK.region ?_
            refine RL.p rfl rfl ?_
            refine RL.done ?_
            refine RK.ret_of Tryz.func134 (res1 rfl rfl) ?_ _
            exact ⟨_, rfl, by rw [listM_no (i := j + 1) (by omega) (by rw [okM_s hx hy, hix, hcc.1 h29]; rfl)], hg8⟩
          · have hay : aheadM y x = true := eq_true_of_ne_false fun hq => h29 (hcc.2 hq)
            refine RK.skip ?_
            refine RK.inBlock ?_
            refine RK.region ?_
            refine RL.p rfl rfl ?_
            refine RL.re (d := 32) rfl rfl (succ_i64 (by omega)) ?_
            refine RL.p rfl rfl ?_
            refine RL.done ?_
            exact RK.back (ih (j + 1 + 1) _ ⟨hg8, by omega, fun i hi => by by_cases e : i = j + 1; (subst e; rw [okM_s hx hy, hix, hay]; rfl); exact hall i (by omega)⟩ (by omega)) ⟨rfl, rfl, rfl, rfl, trivial⟩
        · have hk0 : k = 0 := by omega
          subst hk0
          iterate 6 refine DL.no rfl (.no rfl rfl rfl rfl) rfl rfl ?_
          refine DL.lno rfl (.no rfl rfl rfl rfl) rfl rfl ?_
          refine DL.no rfl (.no rfl rfl rfl rfl) rfl rfl ?_
          refine DL.qf rfl (.yes rfl rfl rfl) rfl rfl (Yld.pure rfl) ?_
          refine DL.p rfl rfl rfl ?_
          refine DL.done ?_
          refine RK.condF rfl ?_
          refine RK.skip ?_
          refine RK.inBlock ?_
          refine RK.region ?_
          refine RL.p rfl rfl ?_
          refine RL.re (d := 32) rfl rfl (succ_i64 (by omega)) ?_
          refine RL.p rfl rfl ?_
          refine RL.done ?_
          exact RK.back (ih (0 + 1) _ ⟨hg5.trans ((Mod.drew No _).trans hg6), by omega, fun i hi => by by_cases e : i = 0; (subst e; rw [okM_0 hx]; exact hix); omega⟩ (by omega)) ⟨rfl, rfl, rfl, rfl, trivial⟩
    · refine RK.exit rfl ?_
      refine RK.seq ?_
      refine RK.region ?_
      refine RL.p rfl rfl ?_
      refine RL.done ?_
      refine RK.ret_of Tryz.func134 (res1 rfl rfl) ?_ _
      exact ⟨_, rfl, by rw [listM_yes (by omega) (fun i hi => hall i (by omega))], hg⟩
end Go.Proofs.YtnnmgfnhblbolaaGreatDoor
set_option linter.unusedVariables false
set_option linter.unusedSimpArgs false
set_option maxHeartbeats 1000000
set_option maxRecDepth 100000
namespace Go.Proofs.YtnnmgfnhblbolaaGreatDoor
open Go Go.X Go.Rex
def anyL (ms : List Mt) : Bool := ms.any largeM
theorem anyL_at {ms : List Mt} {k : Nat} {x : Mt} (hx : ms[k]? = some x) (h : largeM x = true) : anyL ms = true := List.any_eq_true.2 ⟨x, List.mem_of_getElem? hx, h⟩
theorem anyL_no {ms : List Mt} (h : ∀ (i : Nat) (x : Mt), ms[i]? = some x → largeM x = false) : anyL ms = false := by
  unfold anyL
  rw [List.any_eq_false]
  intro x hx
  obtain ⟨i, hi⟩ := List.getElem?_of_mem hx
  simp [h i x hi]
theorem indexL_ok (M : Nat → Prop) (ms : List Mt) (v : Value) (w : World) (hv : SlM M w v ms) :
    Fx Tryz.prog 258 [v, .func (.func 206) #[] #[]] w (fun u w' => (∃ z : Int, u = .int .i64 z ∧ decide (0 ≤ z) = anyL ms) ∧ Grow w w') := by
  obtain ⟨ad, c, rfl⟩ := hv.shape
  have hbig := hv.big
  refine enter Tryz.func258 rfl rfl rfl _ (Pick.sub (l := [0, 1]) (.cons rfl (.cons rfl .nil))) ?_
  refine RK.seq ?_
  refine RK.region ?_
  refine RL.p rfl rfl ?_
  refine RL.done ?_
  iterate 2 refine RK.seq ?_
  refine RK.region ?_
  refine RL.p rfl rfl ?_
  refine RL.q (.free rfl) rfl rfl (Yld.lenSl u30 rfl) ?_
  refine RL.p rfl rfl ?_
  refine RL.done ?_
  refine RK.block ?_
  refine RK.loop (fun k : Nat => [(0, .slice ad ms.length c), (1, .func (.func 206) #[] #[]), (7, .int .i64 ms.length), (8, .int .i64 k)]) (fun k w' => Grow w w' ∧ k ≤ ms.length ∧ ∀ (i : Nat) (a : Mt), i < k → ms[i]? = some a → largeM a = false) (fun k => ms.length - k) 0 ⟨rfl, rfl, rfl, rfl, trivial⟩ ⟨Mod.refl _ _, by omega, fun i a h => by omega⟩ (fun k w' hI ih => ?_)
  obtain ⟨hg, hk, hno⟩ := hI
  refine RK.seq ?_
  refine RK.region ?_
  refine RL.p rfl rfl ?_
  refine RL.done ?_
  refine RK.seq ?_
  first | refine RK.condD rfl (fun h9 => ?_) (fun h9 => ?_) | refine RK.condN rfl (fun h9 => ?_) (fun h9 => ?_) | refine RK.cond rfl (fun h9 => ?_) (fun h9 => ?_)
  · obtain ⟨x, hx⟩ : ∃ x, ms[k]? = some x := ⟨ms[k]'(by omega), List.getElem?_eq_getElem (by omega)⟩
    obtain ⟨b1, o1, c1', he1, _, _, hc1⟩ := hv.elem mtC_len hx
    cases he1
    refine RK.skip ?_
    refine RK.seq ?_
    refine RK.block ?_
    refine RK.seq ?_
    refine RK.region ?_
    iterate 2 refine RL.p rfl rfl ?_
    refine RL.done ?_
    refine RK.seq ?_
    refine RK.region ?_
    iterate 3 refine RL.p rfl rfl ?_
    refine RL.q (.free rfl) rfl rfl (Yld.indexAddrN u30 i29 rfl rfl (by omega)) ?_
    refine RL.q (.free rfl) rfl rfl (Yld.loadN (cs := [.int .i64 x.kind, .string x.name, .string x.value]) a29 rfl (atN (fun j u hj => hg.cell (hc1 j u hj) (fun h => h)))) ?_
    refine RL.op (.free rfl) rfl rfl (Does.callv rfl rfl e206 (matchLarge_ok x _)) ?_
    rintro _ w2 ⟨rfl, hg2⟩
    refine RL.done ?_
    first | refine RK.condD rfl (fun h16 => ?_) (fun h16 => ?_) | refine RK.condN rfl (fun h16 => ?_) (fun h16 => ?_) | refine RK.cond rfl (fun h16 => ?_) (fun h16 => ?_)
    · refine RK.seq ?_
      refine RK.region ?_
      iterate 2 refine RL.p rfl rfl ?_
      refine RL.done ?_
      refine RK.ret_of Tryz.func258 (res1 rfl rfl) ?_ _
      exact ⟨_, rfl, ⟨_, rfl, by rw [anyL_at hx h16]; simp⟩, hg.trans hg2⟩
    · refine RK.skip ?_
      refine RK.inBlock ?_
      refine RK.region ?_
      refine RL.p rfl rfl ?_
      refine RL.re (d := 18) rfl rfl (succ_i64 (by omega)) ?_
      refine RL.p rfl rfl ?_
      refine RL.done ?_
      exact RK.back (ih (k + 1) _ ⟨hg.trans hg2, by omega, fun i a' hi ha' => by by_cases e : i = k; (subst e; rw [hx] at ha'; cases ha'; simpa using h16); exact hno i a' (by omega) ha'⟩ (by omega)) ⟨rfl, rfl, rfl, rfl, trivial⟩
  · refine RK.exit rfl ?_
    refine RK.seq ?_
    refine RK.region ?_
    refine RL.p rfl rfl ?_
    refine RL.done ?_
    refine RK.ret_of Tryz.func258 (res1 rfl rfl) ?_ _
    exact ⟨_, rfl, ⟨_, rfl, by rw [anyL_no fun i x hx => hno i x (by have := (List.getElem?_eq_some_iff.1 hx).1; omega) hx]; rfl⟩, hg⟩
theorem containsL_ok (M : Nat → Prop) (ms : List Mt) (v : Value) (w : World) (hv : SlM M w v ms) :
    Fx Tryz.prog 205 [v, .func (.func 206) #[] #[]] w (fun u w' => u = .bool (anyL ms) ∧ Grow w w') := by
  obtain ⟨ad, c, rfl⟩ := hv.shape
  refine enter Tryz.func205 rfl rfl rfl _ (Pick.sub (l := [0, 1]) (.cons rfl (.cons rfl .nil))) ?_
  refine RK.seq ?_
  refine RK.region ?_
  refine RL.p rfl rfl ?_
  refine RL.done ?_
  refine RK.seq ?_
  refine RK.region ?_
  iterate 2 refine RL.p rfl rfl ?_
  refine RL.op (.free rfl) rfl rfl (Does.call rfl e258 (indexL_ok M ms _ _ hv)) ?_
  rintro _ w2 ⟨⟨z, rfl, hz⟩, hg2⟩
  iterate 2 refine RL.p rfl rfl ?_
  refine RL.done ?_
  refine RK.ret_of Tryz.func205 (res1 rfl rfl) ?_ _
  exact ⟨_, rfl, congrArg _ hz, hg2⟩
theorem matchAnyL_ok (M : Nat → Prop) (ms : List Mt) (v : Value) (w : World) (hv : SlM M w v ms) :
    Fx Tryz.prog 135 [v] w (fun u w' => u = .bool (anyL ms) ∧ Grow w w') := by
  obtain ⟨ad, c, rfl⟩ := hv.shape
  refine enter Tryz.func135 rfl rfl rfl _ (Pick.sub (l := [0]) (.cons rfl .nil)) ?_
  refine RK.seq ?_
  refine RK.region ?_
  refine RL.p rfl rfl ?_
  refine RL.done ?_
  refine RK.seq ?_
  refine RK.region ?_
  refine RL.p rfl rfl ?_
  refine RL.op (.free rfl) rfl rfl (Does.call rfl e205 (containsL_ok M ms _ _ hv)) ?_
  rintro _ w2 ⟨rfl, hg2⟩
  refine RL.p rfl rfl ?_
  refine RL.done ?_
  refine RK.ret_of Tryz.func135 (res1 rfl rfl) ?_ _
  exact ⟨_, rfl, rfl, hg2⟩
end Go.Proofs.YtnnmgfnhblbolaaGreatDoor
set_option linter.unusedVariables false
set_option linter.unusedSimpArgs false
set_option maxHeartbeats 1000000
set_option maxRecDepth 100000
namespace Go.Proofs.YtnnmgfnhblbolaaGreatDoor
open Go Go.X Go.Rex
structure Bd where
  all : Bool
  lo : Nat
  hi : Nat
def bdC (b : Bd) : List Value := [.bool b.all, .float .f64 b.lo, .float .f64 b.hi]
def leF (a b : Nat) : Bool := FloatKind.f64.format.order a b == some .lt || FloatKind.f64.format.order a b == some .eq
def mayB (b : Bd) : Bool := if b.all = true then decide ((bitsS b.lo : Int) = 0) && decide ((bitsS b.hi : Int) = 0) else leF b.lo b.hi
theorem fldN {w : World} {b t : Nat} {cs : List Value} (h : Blk w b t cs) (k n : Nat) : ∀ j u, ((cs.drop k).take n)[j]? = some u → w.cell? ⟨b, 0 + k + j, none⟩ = some u := fun j u hj => by
  have hj2 : (cs.drop k)[j]? = some u := by
    rw [List.getElem?_take] at hj
    split at hj
    · exact hj
    · cases hj
  rw [List.getElem?_drop] at hj2
  rw [show 0 + k + j = k + j by omega]
  exact h.cell' hj2
theorem may_ok (b : Bd) (w : World) : Fx Tryz.prog 183 [.agg (bdC b).toArray] w (fun u w' => u = .bool (mayB b) ∧ Grow w w') := by
  refine enter Tryz.func183 rfl rfl rfl _ (Pick.sub (l := [0]) (.cons rfl .nil)) ?_
  refine RK.seq ?_
  refine RK.region ?_
  refine RL.op (.free rfl) rfl rfl (Does.box rfl) ?_
  rintro _ w1 ⟨b1, rfl, hn1⟩
  have hB1 : Blk w1 b1 33 [.bool b.all, .float .f64 b.lo, .float .f64 b.hi] := hn1.blk
  refine RL.p rfl rfl ?_
  refine RL.done ?_
  iterate 2 refine RK.seq ?_
  refine RK.region ?_
  refine RL.q (.free rfl) rfl rfl (Yld.fieldAddr fo33_0 rfl) ?_
  refine RL.q (.free rfl) rfl rfl (Yld.load p4 rfl (at1 (hB1.cell rfl))) ?_
  refine RL.done ?_
  first | refine RK.condD rfl (fun h4 => ?_) (fun h4 => ?_) | refine RK.condN rfl (fun h4 => ?_) (fun h4 => ?_) | refine RK.cond rfl (fun h4 => ?_) (fun h4 => ?_)
  · refine RK.seq ?_
    refine RK.region ?_
    refine RL.q (.free rfl) rfl rfl (Yld.fieldAddr fo33_1 rfl) ?_
    refine RL.q (.free rfl) rfl rfl (Yld.load p31 rfl (at1 (hB1.cell rfl))) ?_
    refine RL.op (.free rfl) rfl rfl (Does.call rfl e106 (bits_ok _ _)) ?_
    rintro _ _ ⟨rfl, rfl⟩
    iterate 2 refine RL.p rfl rfl ?_
    first | refine RL.splitD (d := 9) rfl rfl (fun h8 => ?_) (fun h8 => ?_) | refine RL.splitN (d := 9) rfl rfl (fun h8 => ?_) (fun h8 => ?_) | refine RL.split (d := 9) rfl rfl (fun h8 => ?_) (fun h8 => ?_)
    · refine RL.q (.yes rfl rfl rfl) rfl rfl (Yld.fieldAddr fo33_2 rfl) ?_
      refine RL.q (.yes rfl rfl rfl) rfl rfl (Yld.load p31 rfl (at1 (hB1.cell rfl))) ?_
      refine RL.op (.yes rfl rfl rfl) rfl rfl (Does.call rfl e106 (bits_ok _ _)) ?_
      rintro _ _ ⟨rfl, rfl⟩
      refine RL.q (.yes rfl rfl rfl) rfl rfl (Yld.pure rfl) ?_
      iterate 2 refine RL.p rfl rfl ?_
      refine RL.done ?_
      refine RK.ret_of Tryz.func183 (res1 rfl rfl) ?_ _
      exact ⟨_, rfl, by unfold mayB; rw [if_pos h4, decide_eq_true h8]; rfl, hn1.grow⟩
    · iterate 4 refine RL.no (.no rfl rfl rfl rfl) rfl rfl ?_
      iterate 2 refine RL.p rfl rfl ?_
      refine RL.done ?_
      refine RK.ret_of Tryz.func183 (res1 rfl rfl) ?_ _
      exact ⟨_, rfl, by unfold mayB; rw [if_pos h4, decide_eq_false h8]; rfl, hn1.grow⟩
  · refine RK.skip ?_
    refine RK.seq ?_
    refine RK.region ?_
    refine RL.q (.free rfl) rfl rfl (Yld.fieldAddr fo33_1 rfl) ?_
    refine RL.q (.free rfl) rfl rfl (Yld.load p31 rfl (at1 (hB1.cell rfl))) ?_
    refine RL.q (.free rfl) rfl rfl (Yld.fieldAddr fo33_2 rfl) ?_
    refine RL.q (.free rfl) rfl rfl (Yld.load p31 rfl (at1 (hB1.cell rfl))) ?_
    iterate 2 refine RL.p rfl rfl ?_
    refine RL.done ?_
    refine RK.ret_of Tryz.func183 (res1 rfl rfl) ?_ _
    exact ⟨_, rfl, by unfold mayB; rw [if_neg (by simp [h4])]; rfl, hn1.grow⟩
end Go.Proofs.YtnnmgfnhblbolaaGreatDoor
set_option linter.unusedVariables false
set_option linter.unusedSimpArgs false
set_option maxHeartbeats 1000000
set_option maxRecDepth 100000
namespace Go.Proofs.YtnnmgfnhblbolaaGreatDoor
open Go Go.X Go.Rex
structure Ru where
  sv : Value
  tv : Value
  ev : Value
  src : List Mt
  tgt : List Mt
  bd : Bd
  eq : List ByteArray
def ruC (r : Ru) : List Value := [r.sv, r.tv, .bool r.bd.all, .float .f64 r.bd.lo, .float .f64 r.bd.hi, r.ev]
def strsV (l : List ByteArray) : List Value := l.map Value.string
structure Ru.Ok (M : Nat → Prop) (w : World) (r : Ru) : Prop where
  s : SlM M w r.sv r.src
  t : SlM M w r.tv r.tgt
  e : Sl M w r.ev 1 r.eq.length (strsV r.eq)
theorem Ru.Ok.mod {M : Nat → Prop} {w w' : World} {r : Ru} (h : r.Ok M w) (hm : Mod M w w') : r.Ok M w' := ⟨h.s.mod hm, h.t.mod hm, h.e.mod hm⟩
@[irreducible] def okE (es : List ByteArray) (i : Nat) : Bool := match es[i]? with
  | none => true
  | some x => nameS x && (match i with
    | 0 => true
    | j + 1 => match es[j]? with
      | none => true
      | some y => slt y x)
theorem okE_0 {es : List ByteArray} {x : ByteArray} (hx : es[0]? = some x) : okE es 0 = nameS x := by unfold okE; rw [hx]; simp
theorem okE_s {es : List ByteArray} {j : Nat} {x y : ByteArray} (hx : es[j + 1]? = some x) (hy : es[j]? = some y) : okE es (j + 1) = (nameS x && slt y x) := by unfold okE; rw [hx]; simp only; rw [hy]
def eqsE (es : List ByteArray) : Bool := (List.range es.length).all (okE es)
@[irreducible] def isRu (r : Ru) : Bool := !decide ((r.src.length : Int) = 0) && (!decide ((r.tgt.length : Int) = 0) && (listM r.src && (listM r.tgt && (mayB r.bd && (!decide (4 < (r.eq.length : Int)) && eqsE r.eq)))))
theorem isRu_no {r : Ru} {i : Nat} (hi : i < r.eq.length) (h : okE r.eq i = false) : isRu r = false := by
  have h1 : eqsE r.eq = false := List.all_eq_false.2 ⟨i, List.mem_range.2 hi, by simp [h]⟩
  unfold isRu; simp [h1]
theorem isRu_yes {r : Ru} (h1 : ¬ (r.src.length : Int) = 0) (h2 : ¬ (r.tgt.length : Int) = 0) (h3 : listM r.src = true) (h4 : listM r.tgt = true) (h5 : mayB r.bd = true) (h6 : ¬ 4 < (r.eq.length : Int)) (h : ∀ i, i < r.eq.length → okE r.eq i = true) : isRu r = true := by
  have h7 : eqsE r.eq = true := List.all_eq_true.2 fun i hi => h i (List.mem_range.1 hi)
  unfold isRu
  rw [decide_eq_false h1, decide_eq_false h2, h3, h4, h5, decide_eq_false h6, h7]; rfl
theorem isRule_ok (M : Nat → Prop) (r : Ru) (w : World) (hr : r.Ok M w) : Fx Tryz.prog 178 [.agg (ruC r).toArray] w (fun u w' => u = .bool (isRu r) ∧ Grow w w') := by
  obtain ⟨sv, tv, ev, src, tgt, bd, eq⟩ := r
  obtain ⟨hs, ht, he⟩ := hr
  simp only at hs ht he
  obtain ⟨ad1, c1, rfl⟩ := hs.shape
  obtain ⟨ad2, c2, rfl⟩ := ht.shape
  obtain ⟨ad3, c3, rfl⟩ := he.shape
  have hbig := he.big
  refine enter Tryz.func178 rfl rfl rfl _ (Pick.sub (l := [0]) (.cons rfl .nil)) ?_
  refine RK.seq ?_
  refine RK.region ?_
  refine RL.op (.free rfl) rfl rfl (Does.box rfl) ?_
  rintro _ w1 ⟨b1, rfl, hn1⟩
  have hB1 : Blk w1 b1 36 (ruC ⟨.slice ad1 src.length c1, .slice ad2 tgt.length c2, .slice ad3 eq.length c3, src, tgt, bd, eq⟩) := hn1.blk
  refine RL.p rfl rfl ?_
  refine RL.done ?_
  iterate 2 refine RK.seq ?_
  refine RK.region ?_
  refine RL.q (.free rfl) rfl rfl (Yld.fieldAddr fo36_0 rfl) ?_
  refine RL.q (.free rfl) rfl rfl (Yld.load p30 rfl (at1 (hB1.cell rfl))) ?_
  refine RL.q (.free rfl) rfl rfl (Yld.lenSl u30 rfl) ?_
  iterate 2 refine RL.p rfl rfl ?_
  first | refine RL.splitD (d := 9) rfl rfl (fun h8 => ?_) (fun h8 => ?_) | refine RL.splitN (d := 9) rfl rfl (fun h8 => ?_) (fun h8 => ?_) | refine RL.split (d := 9) rfl rfl (fun h8 => ?_) (fun h8 => ?_)
  · iterate 4 refine RL.no (.no rfl rfl rfl rfl) rfl rfl ?_
    iterate 2 refine RL.p rfl rfl ?_
    iterate 4 refine RL.no (.no rfl rfl rfl rfl) rfl rfl ?_
    iterate 2 refine RL.p rfl rfl ?_
    iterate 4 refine RL.no (.no rfl rfl rfl rfl) rfl rfl ?_
    iterate 2 refine RL.p rfl rfl ?_
    iterate 4 refine RL.no (.no rfl rfl rfl rfl) rfl rfl ?_
    iterate 2 refine RL.p rfl rfl ?_
    iterate 4 refine RL.no (.no rfl rfl rfl rfl) rfl rfl ?_
    refine RL.p rfl rfl ?_
    refine RL.done ?_
    refine RK.condT rfl ?_
    refine RK.seq ?_
    refine RK.region ?_
    refine RL.p rfl rfl ?_
    refine RL.done ?_
    refine RK.ret_of Tryz.func178 (res1 rfl rfl) ?_ _
    exact ⟨_, rfl, by unfold isRu; simp only [decide_eq_true h8]; rfl, hn1.grow⟩
  · refine RL.q (.yes rfl rfl rfl) rfl rfl (Yld.fieldAddr fo36_1 rfl) ?_
    refine RL.q (.yes rfl rfl rfl) rfl rfl (Yld.load p30 rfl (at1 (hB1.cell rfl))) ?_
    refine RL.q (.yes rfl rfl rfl) rfl rfl (Yld.lenSl u30 rfl) ?_
    refine RL.q (.yes rfl rfl rfl) rfl rfl (Yld.pure rfl) ?_
    iterate 2 refine RL.p rfl rfl ?_
    first | refine RL.splitD (d := 15) rfl rfl (fun h13 => ?_) (fun h13 => ?_) | refine RL.splitN (d := 15) rfl rfl (fun h13 => ?_) (fun h13 => ?_) | refine RL.split (d := 15) rfl rfl (fun h13 => ?_) (fun h13 => ?_)
    · iterate 4 refine RL.no (.no rfl rfl rfl rfl) rfl rfl ?_
      iterate 2 refine RL.p rfl rfl ?_
      iterate 4 refine RL.no (.no rfl rfl rfl rfl) rfl rfl ?_
      iterate 2 refine RL.p rfl rfl ?_
      iterate 4 refine RL.no (.no rfl rfl rfl rfl) rfl rfl ?_
      iterate 2 refine RL.p rfl rfl ?_
      iterate 4 refine RL.no (.no rfl rfl rfl rfl) rfl rfl ?_
      refine RL.p rfl rfl ?_
      refine RL.done ?_
      refine RK.condT rfl ?_
      refine RK.seq ?_
      refine RK.region ?_
      refine RL.p rfl rfl ?_
      refine RL.done ?_
      refine RK.ret_of Tryz.func178 (res1 rfl rfl) ?_ _
      exact ⟨_, rfl, by unfold isRu; simp only [decide_eq_true h13]; rw [Bool.not_true, Bool.false_and, Bool.and_false], hn1.grow⟩
    · refine RL.q (.yes rfl rfl rfl) rfl rfl (Yld.fieldAddr fo36_0 rfl) ?_
      refine RL.q (.yes rfl rfl rfl) rfl rfl (Yld.load p30 rfl (at1 (hB1.cell rfl))) ?_
      refine RL.op (.yes rfl rfl rfl) rfl rfl (Does.call rfl e134 (matchList_ok M src _ _ (hs.mod (Mod.any' hn1.grow)))) ?_
      rintro _ w2 ⟨rfl, hg2⟩
      have hB2 := hB1.mod hg2 (fun h => h)
      have hg12 := hn1.grow.trans hg2
      refine RL.q (.yes rfl rfl rfl) rfl rfl (Yld.pure rfl) ?_
      iterate 2 refine RL.p rfl rfl ?_
      first | refine RL.splitD (d := 21) rfl rfl (fun h19 => ?_) (fun h19 => ?_) | refine RL.splitN (d := 21) rfl rfl (fun h19 => ?_) (fun h19 => ?_) | refine RL.split (d := 21) rfl rfl (fun h19 => ?_) (fun h19 => ?_)
      · iterate 4 refine RL.no (.no rfl rfl rfl rfl) rfl rfl ?_
        iterate 2 refine RL.p rfl rfl ?_
        iterate 4 refine RL.no (.no rfl rfl rfl rfl) rfl rfl ?_
        iterate 2 refine RL.p rfl rfl ?_
        iterate 4 refine RL.no (.no rfl rfl rfl rfl) rfl rfl ?_
        refine RL.p rfl rfl ?_
        refine RL.done ?_
        refine RK.condT rfl ?_
        refine RK.seq ?_
        refine RK.region ?_
        refine RL.p rfl rfl ?_
        refine RL.done ?_
        refine RK.ret_of Tryz.func178 (res1 rfl rfl) ?_ _
        exact ⟨_, rfl, by unfold isRu; simp only [show listM src = false by simpa using h19]; rw [Bool.false_and, Bool.and_false, Bool.and_false], hg12⟩
      · have hl1 : listM src = true := by simpa using h19
        refine RL.q (.yes rfl rfl rfl) rfl rfl (Yld.fieldAddr fo36_1 rfl) ?_
        refine RL.q (.yes rfl rfl rfl) rfl rfl (Yld.load p30 rfl (at1 (hB2.cell rfl))) ?_
        refine RL.op (.yes rfl rfl rfl) rfl rfl (Does.call rfl e134 (matchList_ok M tgt _ _ (ht.mod (Mod.any' hg12)))) ?_
        rintro _ w3 ⟨rfl, hg3⟩
        have hB3 := hB2.mod hg3 (fun h => h)
        have hg13 := hg12.trans hg3
        refine RL.q (.yes rfl rfl rfl) rfl rfl (Yld.pure rfl) ?_
        iterate 2 refine RL.p rfl rfl ?_
        first | refine RL.splitD (d := 27) rfl rfl (fun h25 => ?_) (fun h25 => ?_) | refine RL.splitN (d := 27) rfl rfl (fun h25 => ?_) (fun h25 => ?_) | refine RL.split (d := 27) rfl rfl (fun h25 => ?_) (fun h25 => ?_)
        · iterate 4 refine RL.no (.no rfl rfl rfl rfl) rfl rfl ?_
          iterate 2 refine RL.p rfl rfl ?_
          iterate 4 refine RL.no (.no rfl rfl rfl rfl) rfl rfl ?_
          refine RL.p rfl rfl ?_
          refine RL.done ?_
          refine RK.condT rfl ?_
          refine RK.seq ?_
          refine RK.region ?_
          refine RL.p rfl rfl ?_
          refine RL.done ?_
          refine RK.ret_of Tryz.func178 (res1 rfl rfl) ?_ _
          exact ⟨_, rfl, by unfold isRu; simp only [show listM tgt = false by simpa using h25]; rw [Bool.false_and, Bool.and_false, Bool.and_false, Bool.and_false], hg13⟩
        · have hl2 : listM tgt = true := by simpa using h25
          refine RL.q (.yes rfl rfl rfl) rfl rfl (Yld.fieldAddr fo36_2 rfl) ?_
          refine RL.q (.yes rfl rfl rfl) rfl rfl (Yld.loadN (cs := bdC bd) a33 rfl (atN (fldN hB3 2 3))) ?_
          refine RL.op (.yes rfl rfl rfl) rfl rfl (Does.call rfl e183 (may_ok bd _)) ?_
          rintro _ w4 ⟨rfl, hg4⟩
          have hB4 := hB3.mod hg4 (fun h => h)
          have hg14 := hg13.trans hg4
          refine RL.q (.yes rfl rfl rfl) rfl rfl (Yld.pure rfl) ?_
          iterate 2 refine RL.p rfl rfl ?_
          first | refine RL.splitD (d := 33) rfl rfl (fun h31 => ?_) (fun h31 => ?_) | refine RL.splitN (d := 33) rfl rfl (fun h31 => ?_) (fun h31 => ?_) | refine RL.split (d := 33) rfl rfl (fun h31 => ?_) (fun h31 => ?_)
          · iterate 4 refine RL.no (.no rfl rfl rfl rfl) rfl rfl ?_
            refine RL.p rfl rfl ?_
            refine RL.done ?_
            refine RK.condT rfl ?_
            refine RK.seq ?_
            refine RK.region ?_
            refine RL.p rfl rfl ?_
            refine RL.done ?_
            refine RK.ret_of Tryz.func178 (res1 rfl rfl) ?_ _
            exact ⟨_, rfl, by unfold isRu; simp only [show mayB bd = false by simpa using h31]; rw [Bool.false_and, Bool.and_false, Bool.and_false, Bool.and_false, Bool.and_false], hg14⟩
          · have hl3 : mayB bd = true := by simpa using h31
            refine RL.q (.yes rfl rfl rfl) rfl rfl (Yld.fieldAddr fo36_3 rfl) ?_
            refine RL.q (.yes rfl rfl rfl) rfl rfl (Yld.load p34 rfl (at1 (hB4.cell rfl))) ?_
            refine RL.q (.yes rfl rfl rfl) rfl rfl (Yld.lenSl u34 rfl) ?_
            refine RL.q (.yes rfl rfl rfl) rfl rfl (Yld.pure rfl) ?_
            refine RL.p rfl rfl ?_
            refine RL.done ?_
            first | refine RK.condD rfl (fun h37 => ?_) (fun h37 => ?_) | refine RK.condN rfl (fun h37 => ?_) (fun h37 => ?_) | refine RK.cond rfl (fun h37 => ?_) (fun h37 => ?_)
            · refine RK.seq ?_
              refine RK.region ?_
              refine RL.p rfl rfl ?_
              refine RL.done ?_
              refine RK.ret_of Tryz.func178 (res1 rfl rfl) ?_ _
              exact ⟨_, rfl, by unfold isRu; simp only [decide_eq_true h37]; rw [Bool.not_true, Bool.false_and, Bool.and_false, Bool.and_false, Bool.and_false, Bool.and_false, Bool.and_false], hg14⟩
            · have hyes := fun h => isRu_yes (r := ⟨.slice ad1 src.length c1, .slice ad2 tgt.length c2, .slice ad3 eq.length c3, src, tgt, bd, eq⟩) h8 h13 hl1 hl2 hl3 h37 h
              have hno := fun (i : Nat) hi h => isRu_no (r := ⟨.slice ad1 src.length c1, .slice ad2 tgt.length c2, .slice ad3 eq.length c3, src, tgt, bd, eq⟩) (i := i) hi h
              simp only at hyes hno
              refine RK.skip ?_
              iterate 2 refine RK.seq ?_
              refine RK.region ?_
              refine RL.q (.free rfl) rfl rfl (Yld.fieldAddr fo36_3 rfl) ?_
              refine RL.q (.free rfl) rfl rfl (Yld.load p34 rfl (at1 (hB4.cell rfl))) ?_
              refine RL.q (.free rfl) rfl rfl (Yld.lenSl u34 rfl) ?_
              refine RL.p rfl rfl ?_
              refine RL.done ?_
              refine RK.block ?_
              refine RK.loop (fun k : Nat => [(1, pp b1), (40, .slice ad3 eq.length c3), (41, .int .i64 (eq.length : Int)), (42, .int .i64 (k : Int))]) (fun k w' => w4 = w' ∧ k ≤ eq.length ∧ ∀ i, i < k → okE eq i = true) (fun k => eq.length - k) 0 ⟨rfl, rfl, rfl, rfl, trivial⟩ ⟨rfl, by omega, fun i hi => by omega⟩ (fun k w' hI ih => ?_)
              obtain ⟨rfl, hk, hall⟩ := hI
              refine RK.seq ?_
              refine RK.region ?_
              refine RL.p rfl rfl ?_
              refine RL.done ?_
              refine RK.seq ?_
              first | refine RK.condD rfl (fun h43 => ?_) (fun h43 => ?_) | refine RK.condN rfl (fun h43 => ?_) (fun h43 => ?_) | refine RK.cond rfl (fun h43 => ?_) (fun h43 => ?_)
              · obtain ⟨x, hx⟩ : ∃ x, eq[k]? = some x := ⟨eq[k]'(by omega), List.getElem?_eq_getElem (by omega)⟩
                obtain ⟨b2, o2, c', he1, _, _, hc1⟩ := (he.mod (Mod.any' hg14)).elem1 (k := k) (u := .string x) (by simp [strsV, hx])
                cases he1
                refine RK.skip ?_
                refine RK.seq ?_
                refine RK.block ?_
                refine RK.seq ?_
                refine RK.region ?_
                refine RL.p rfl rfl ?_
                refine RL.q (.free rfl) rfl rfl (Yld.indexAddrN u34 i9 rfl rfl (by omega)) ?_
                refine RL.q (.free rfl) rfl rfl (Yld.load p9 rfl (at1 (hc1 k (.string x) (by simp [strsV, hx])))) ?_
                iterate 2 refine RL.p rfl rfl ?_
                refine RL.done ?_
                refine RK.seq ?_
                refine RK.region ?_
                refine RL.p rfl rfl ?_
                refine RL.op (.free rfl) rfl rfl (Does.call rfl e243 (name_ok x _)) ?_
                rintro _ _ ⟨rfl, rfl⟩
                iterate 2 refine RL.p rfl rfl ?_
                first | refine RL.splitD (d := 50) rfl rfl (fun h49 => ?_) (fun h49 => ?_) | refine RL.splitN (d := 50) rfl rfl (fun h49 => ?_) (fun h49 => ?_) | refine RL.split (d := 50) rfl rfl (fun h49 => ?_) (fun h49 => ?_)
                · iterate 12 refine RL.no (.no rfl rfl rfl rfl) rfl rfl ?_
                  refine RL.p rfl rfl ?_
                  refine RL.done ?_
                  refine RK.condT rfl ?_
                  refine RK.seq ?_
                  refine RK.region ?_
                  refine RL.p rfl rfl ?_
                  refine RL.done ?_
                  refine RK.ret_of Tryz.func178 (res1 rfl rfl) ?_ _
                  exact ⟨_, rfl, by rw [hno k (by omega) (by
                      have hf : nameS x = false := by simpa using h49
                      cases k with
                      | zero => rw [okE_0 hx]; exact hf
                      | succ j => rw [okE_s hx (List.getElem?_eq_getElem (by omega)), hf]; rfl)], hg14⟩
                · have hix : nameS x = true := by simpa using h49
                  iterate 3 refine RL.q (.yes rfl rfl rfl) rfl rfl (Yld.pure rfl) ?_
                  first | refine RL.splitD (d := 53) rfl rfl (fun h52 => ?_) (fun h52 => ?_) | refine RL.splitN (d := 53) rfl rfl (fun h52 => ?_) (fun h52 => ?_) | refine RL.split (d := 53) rfl rfl (fun h52 => ?_) (fun h52 => ?_)
                  · obtain ⟨j, rfl⟩ : ∃ j, k = j + 1 := ⟨k - 1, by omega⟩
                    obtain ⟨y, hy⟩ : ∃ y, eq[j]? = some y := ⟨eq[j]'(by omega), List.getElem?_eq_getElem (by omega)⟩
                    refine RL.q (.yes rfl rfl rfl) rfl rfl (Yld.pure rfl) ?_
                    refine RL.q (.yes rfl rfl rfl) rfl rfl (Yld.fieldAddr fo36_3 rfl) ?_
                    refine RL.q (.yes rfl rfl rfl) rfl rfl (Yld.load p34 rfl (at1 (hB4.cell rfl))) ?_
                    iterate 2 refine RL.q (.yes rfl rfl rfl) rfl rfl (Yld.pure rfl) ?_
                    refine RL.re (d := 58) rfl rfl (sub_i64 (z := (j : Int)) (by omega) (by omega) (by omega)) ?_
                    refine RL.q (.yes rfl rfl rfl) rfl rfl (Yld.indexAddrN u34 i9 rfl rfl (by omega)) ?_
                    refine RL.q (.yes rfl rfl rfl) rfl rfl (Yld.load p9 rfl (at1 (hc1 j (.string y) (by simp [strsV, hy])))) ?_
                    iterate 2 refine RL.q (.yes rfl rfl rfl) rfl rfl (Yld.pure rfl) ?_
                    refine RL.p rfl rfl ?_
                    refine RL.done ?_
                    first | refine RK.condD rfl (fun h61 => ?_) (fun h61 => ?_) | refine RK.condN rfl (fun h61 => ?_) (fun h61 => ?_) | refine RK.cond rfl (fun h61 => ?_) (fun h61 => ?_)
                    · refine RK.seq ?_
                      refine RK.region ?_
                      refine RL.p rfl rfl ?_
                      refine RL.done ?_
                      refine RK.ret_of Tryz.func178 (res1 rfl rfl) ?_ _
                      exact ⟨_, rfl, by rw [hno (j + 1) (by omega) (by rw [okE_s hx hy, hix, show slt y x = false by rw [sle_not] at h61; simpa using h61]; rfl)], hg14⟩
                    · refine RK.skip ?_
                      refine RK.inBlock ?_
                      refine RK.region ?_
                      refine RL.p rfl rfl ?_
                      refine RL.re (d := 64) rfl rfl (succ_i64 (by omega)) ?_
                      refine RL.p rfl rfl ?_
                      refine RL.done ?_
                      exact RK.back (ih (j + 1 + 1) _ ⟨rfl, by omega, fun i hi => by by_cases e : i = j + 1; (subst e; rw [okE_s hx hy, hix, show slt y x = true by rw [sle_not] at h61; simpa using h61]; rfl); exact hall i (by omega)⟩ (by omega)) ⟨rfl, rfl, rfl, rfl, trivial⟩
                  · have hk0 : k = 0 := by omega
                    subst hk0
                    iterate 8 refine RL.no (.no rfl rfl rfl rfl) rfl rfl ?_
                    refine RL.q (.yes rfl rfl rfl) rfl rfl (Yld.pure rfl) ?_
                    refine RL.p rfl rfl ?_
                    refine RL.done ?_
                    refine RK.condF rfl ?_
                    refine RK.skip ?_
                    refine RK.inBlock ?_
                    refine RK.region ?_
                    refine RL.p rfl rfl ?_
                    refine RL.re (d := 64) rfl rfl (succ_i64 (by omega)) ?_
                    refine RL.p rfl rfl ?_
                    refine RL.done ?_
                    exact RK.back (ih (0 + 1) _ ⟨rfl, by omega, fun i hi => by by_cases e : i = 0; (subst e; rw [okE_0 hx]; exact hix); omega⟩ (by omega)) ⟨rfl, rfl, rfl, rfl, trivial⟩
              · refine RK.exit rfl ?_
                refine RK.seq ?_
                refine RK.region ?_
                refine RL.p rfl rfl ?_
                refine RL.done ?_
                refine RK.ret_of Tryz.func178 (res1 rfl rfl) ?_ _
                exact ⟨_, rfl, by rw [hyes (fun i hi => hall i (by omega))], hg14⟩
def largeRu (r : Ru) : Bool := isRu r && (anyL r.src || anyL r.tgt)
theorem largeRu_ok (M : Nat → Prop) (r : Ru) (w : World) (hr : r.Ok M w) : Fx Tryz.prog 120 [.agg (ruC r).toArray] w (fun u w' => u = .bool (largeRu r) ∧ Grow w w') := by
  have hr0 := hr
  obtain ⟨sv, tv, ev, src, tgt, bd, eq⟩ := r
  obtain ⟨hs, ht, he⟩ := hr
  simp only at hs ht he
  obtain ⟨ad1, c1, rfl⟩ := hs.shape
  obtain ⟨ad2, c2, rfl⟩ := ht.shape
  obtain ⟨ad3, c3, rfl⟩ := he.shape
  have hbig := he.big
  refine enter Tryz.func120 rfl rfl rfl _ (Pick.sub (l := [0]) (.cons rfl .nil)) ?_
  refine RK.seq ?_
  refine RK.region ?_
  refine RL.op (.free rfl) rfl rfl (Does.box rfl) ?_
  rintro _ w1 ⟨b1, rfl, hn1⟩
  have hB1 : Blk w1 b1 36 (ruC ⟨.slice ad1 src.length c1, .slice ad2 tgt.length c2, .slice ad3 eq.length c3, src, tgt, bd, eq⟩) := hn1.blk
  refine RL.p rfl rfl ?_
  refine RL.done ?_
  refine RK.seq ?_
  refine RK.region ?_
  refine RL.q (.free rfl) rfl rfl (Yld.loadN (cs := ruC ⟨.slice ad1 src.length c1, .slice ad2 tgt.length c2, .slice ad3 eq.length c3, src, tgt, bd, eq⟩) a36 rfl (atN (blk0' hB1))) ?_
  refine RL.op (.free rfl) rfl rfl (Does.call rfl e178 (isRule_ok M _ _ (hr0.mod (Mod.any' hn1.grow)))) ?_
  rintro _ w2 ⟨rfl, hg2⟩
  have hg12 := hn1.grow.trans hg2
  have hB2 := hB1.mod hg2 (fun h => h)
  refine RL.p rfl rfl ?_
  first | refine RL.splitD (d := 5) rfl rfl (fun h4 => ?_) (fun h4 => ?_) | refine RL.splitN (d := 5) rfl rfl (fun h4 => ?_) (fun h4 => ?_) | refine RL.split (d := 5) rfl rfl (fun h4 => ?_) (fun h4 => ?_)
  · refine RL.q (.yes rfl rfl rfl) rfl rfl (Yld.fieldAddr fo36_0 rfl) ?_
    refine RL.q (.yes rfl rfl rfl) rfl rfl (Yld.load p30 rfl (at1 (hB2.cell rfl))) ?_
    refine RL.op (.yes rfl rfl rfl) rfl rfl (Does.call rfl e135 (matchAnyL_ok M src _ _ (hs.mod (Mod.any' hg12)))) ?_
    rintro _ w3 ⟨rfl, hg3⟩
    have hg13 := hg12.trans hg3
    have hB3 := hB2.mod hg3 (fun h => h)
    refine RL.q (.yes rfl rfl rfl) rfl rfl (Yld.pure rfl) ?_
    first | refine RL.splitD (d := 9) rfl rfl (fun h8 => ?_) (fun h8 => ?_) | refine RL.splitN (d := 9) rfl rfl (fun h8 => ?_) (fun h8 => ?_) | refine RL.split (d := 9) rfl rfl (fun h8 => ?_) (fun h8 => ?_)
    · iterate 3 refine RL.no (.no rfl rfl rfl rfl) rfl rfl ?_
      refine RL.q (.yes rfl rfl rfl) rfl rfl (Yld.pure rfl) ?_
      iterate 2 refine RL.p rfl rfl ?_
      refine RL.done ?_
      refine RK.ret_of Tryz.func120 (res1 rfl rfl) ?_ _
      exact ⟨_, rfl, by unfold largeRu; rw [h4]; simp only; rw [h8]; rfl, hg13⟩
    · refine RL.q (.yes rfl rfl rfl) rfl rfl (Yld.fieldAddr fo36_1 rfl) ?_
      refine RL.q (.yes rfl rfl rfl) rfl rfl (Yld.load p30 rfl (at1 (hB3.cell rfl))) ?_
      refine RL.op (.yes rfl rfl rfl) rfl rfl (Does.call rfl e135 (matchAnyL_ok M tgt _ _ (ht.mod (Mod.any' hg13)))) ?_
      rintro _ w4 ⟨rfl, hg4⟩
      refine RL.q (.yes rfl rfl rfl) rfl rfl (Yld.pure rfl) ?_
      iterate 2 refine RL.p rfl rfl ?_
      refine RL.done ?_
      refine RK.ret_of Tryz.func120 (res1 rfl rfl) ?_ _
      exact ⟨_, rfl, by unfold largeRu; rw [h4]; simp only; rw [show anyL src = false by simpa using h8]; rfl, hg13.trans hg4⟩
  · iterate 8 refine RL.no (.no rfl rfl rfl rfl) rfl rfl ?_
    iterate 2 refine RL.p rfl rfl ?_
    refine RL.done ?_
    refine RK.ret_of Tryz.func120 (res1 rfl rfl) ?_ _
    exact ⟨_, rfl, by unfold largeRu; rw [show isRu _ = false by simpa using h4]; rfl, hg12⟩
end Go.Proofs.YtnnmgfnhblbolaaGreatDoor
set_option linter.unusedVariables false
set_option linter.unusedSimpArgs false
set_option maxHeartbeats 1000000
set_option maxRecDepth 100000
namespace Go.Proofs.YtnnmgfnhblbolaaGreatDoor
open Go Go.X Go.Rex
def putB (n : Nat) : List UInt8 := if h : n < 128 then [UInt8.ofNat n] else UInt8.ofNat (n % 128 + 128) :: putB (n / 128)
termination_by n
decreasing_by omega
theorem putB_lo {n : Nat} (h : n < 128) : putB n = [UInt8.ofNat n] := by rw [putB, dif_pos h]
theorem putB_hi {n : Nat} (h : ¬ n < 128) : putB n = UInt8.ofNat (n % 128 + 128) :: putB (n / 128) := by rw [putB, dif_neg h]
theorem ofNat_lo {n : Nat} (h : n < 256) : (UInt8.ofNat n).toNat = n := by simp [UInt8.toNat_ofNat']; omega
def putT (s : ByteArray) : List UInt8 := putB s.size ++ s.data.toList
theorem or_byte (n : Nat) : IntKind.u8.wrap (BitVec.ofInt IntKind.u8.bits (IntKind.u8.wrap (n : Int)) ||| BitVec.ofInt IntKind.u8.bits 128).toNat = ((n % 128 + 128 : Nat) : Int) := by
  have h1 : IntKind.u8.wrap (n : Int) = ((n % 256 : Nat) : Int) := by simp [IntKind.wrap, IntKind.signed, IntKind.bits]
  rw [h1]
  have h2 : n % 128 = (n % 256) % 128 := by omega
  rw [h2]
  have h3 : n % 256 < 256 := Nat.mod_lt _ (by omega)
  generalize n % 256 = m at h3
  have key : ∀ m, m < 256 → IntKind.u8.wrap (BitVec.ofInt IntKind.u8.bits ((m : Nat) : Int) ||| BitVec.ofInt IntKind.u8.bits 128).toNat = ((m % 128 + 128 : Nat) : Int) := by decide +kernel
  exact key m h3
theorem lo_byte {n : Nat} (h : n < 128) : IntKind.u8.wrap (n : Int) = ((UInt8.ofNat n).toNat : Int) := by
  rw [ofNat_lo (by omega)]
  simp [IntKind.wrap, IntKind.signed, IntKind.bits]
  omega
theorem vput_ok (n : Nat) (hn : n < 18446744073709551616) (w : World) : Fx Tryz.prog 86 [.int .u64 n] w (fun u w' => Row w' 5 1 u (putB n).length (bytesV (putB n)) ∧ Fresh w.heap.size u ∧ Grow w w') := by
  refine enter Tryz.func86 rfl rfl rfl _ (Pick.sub (l := [0]) (.cons rfl .nil)) ?_
  refine RK.seq ?_
  refine RK.region ?_
  refine RL.p rfl rfl ?_
  refine RL.done ?_
  refine RK.seq ?_
  refine RK.region ?_
  refine RL.p rfl rfl ?_
  refine RL.done ?_
  refine RK.seq ?_
  refine RK.block ?_
  refine RK.loop (fun s : Nat × List UInt8 × Value => [(0, .int .u64 (s.1 : Int)), (3, s.2.2)]) (fun s w' => Row w' 5 1 s.2.2 s.2.1.length (bytesV s.2.1) ∧ Fresh w.heap.size s.2.2 ∧ Grow w w' ∧ s.1 < 18446744073709551616 ∧ (s.2.1.length = 0 ∨ 1 ≤ s.1) ∧ s.2.1 ++ putB s.1 = putB n ∧ s.1 * 128 ^ s.2.1.length ≤ n) (fun s => s.1) (n, [], .slice none 0 0) ⟨rfl, rfl, trivial⟩ ⟨by simpa [bytesV] using Row.nil _ _ _, fun b e => by simp [Value.ownBlock] at e, Mod.refl _ _, hn, by simp, by simp, by simp⟩ (fun s w' hI ih => ?_)
  obtain ⟨m, l, u⟩ := s
  obtain ⟨hr, hf, hg, hm, hl, hst, hpw⟩ := hI
  simp only at hr hf hm hl hst hpw
  have hl10 : l.length ≤ 10 := by
      rcases Nat.lt_or_ge 10 l.length with h | h
      · have h1 : 128 ^ 10 ≤ 128 ^ l.length := Nat.pow_le_pow_right (by omega) (by omega)
        have h2 : 1 * 128 ^ l.length ≤ m * 128 ^ l.length := Nat.mul_le_mul_right _ (by omega)
        have h3 : (18446744073709551616 : Nat) < 128 ^ 10 := by decide
        omega
      · exact h
  iterate 2 refine RK.seq ?_
  refine RK.region ?_
  iterate 2 refine RL.p rfl rfl ?_
  refine RL.done ?_
  first | refine RK.condD rfl (fun h5 => ?_) (fun h5 => ?_) | refine RK.condN rfl (fun h5 => ?_) (fun h5 => ?_) | refine RK.cond rfl (fun h5 => ?_) (fun h5 => ?_)
  · have h128 : ¬ m < 128 := by omega
    refine RK.skip ?_
    refine RK.block ?_
    refine RK.seq ?_
    refine RK.region ?_
    iterate 2 refine RL.p rfl rfl ?_
    refine RL.q (.free rfl) rfl rfl (Yld.convI Tryz.underlying24 Tryz.underlying5 rfl) ?_
    refine RL.p rfl rfl ?_
    refine RL.re (d := 9) rfl rfl (congrArg (Value.int .u8) ((or_byte m).trans (by rw [ofNat_lo (by omega)] : _ = ((UInt8.ofNat (m % 128 + 128)).toNat : Int)))) ?_
    refine RL.op (.free rfl) rfl rfl (Does.slice1 u43 i5 rfl rfl rfl rfl rfl) ?_
    rintro _ w2 ⟨b2, rfl, hn2⟩
    refine RL.op (.free rfl) rfl rfl (Does.append u43 i5 rfl rfl rfl rfl rfl (hr.mod hn2.grow (fun _ _ h => h)) (Sl.new hn2 1 1 rfl (by omega) (fun h => h)) (rfl) (by omega)) ?_
    rintro u3 w3 ⟨hr3, hm3, hu3⟩
    have hs2 := hn2.grow.size
    have hs0 := hg.size
    refine RL.p rfl rfl ?_
    refine RL.done ?_
    refine RK.region ?_
    refine RL.p rfl rfl ?_
    refine RL.q (.free rfl) rfl rfl (Yld.shr (a := m) (s := 7) rfl rfl (by decide)) ?_
    refine RL.re (d := 13) rfl rfl (congrArg (Value.int .u64) (by rw [Nat.shiftRight_eq_div_pow] : _ = ((m / 128 : Nat) : Int))) ?_
    refine RL.p rfl rfl ?_
    refine RL.done ?_
    refine RK.inBlock ?_
    exact RK.back (ih (m / 128, l ++ [UInt8.ofNat (m % 128 + 128)], u3) _ ⟨by
        simp only
        rw [bytesV_app, List.length_append]; exact hr3, fun b e => by
        rcases hu3 with h1 | h1
        · exact hf b (h1 ▸ e)
        · rw [h1] at e; cases e; omega, (hg.trans hn2.grow).then hm3 (fun b hb e => by have := hf b e; omega), by simp only; omega, by simp only; omega, by simp only; rw [List.append_assoc, ← hst, putB_hi h128]; rfl, by
        simp only
        rw [List.length_append]
        have h1 : m / 128 * 128 ≤ m := Nat.div_mul_le_self m 128
        calc m / 128 * 128 ^ (l.length + 1) = m / 128 * 128 * 128 ^ l.length := by rw [Nat.pow_succ, Nat.mul_assoc, Nat.mul_comm 128]
          _ ≤ m * 128 ^ l.length := Nat.mul_le_mul_right _ h1
          _ ≤ n := hpw⟩ (by simp only; omega)) ⟨rfl, rfl, trivial⟩
  · have h128 : m < 128 := by omega
    refine RK.exit rfl ?_
    refine RK.seq ?_
    refine RK.region ?_
    iterate 2 refine RL.p rfl rfl ?_
    refine RL.q (.free rfl) rfl rfl (Yld.convI Tryz.underlying24 Tryz.underlying5 rfl) ?_
    refine RL.re (d := 16) rfl rfl (congrArg (Value.int .u8) (lo_byte h128)) ?_
    refine RL.op (.free rfl) rfl rfl (Does.slice1 u43 i5 rfl rfl rfl rfl rfl) ?_
    rintro _ w2 ⟨b2, rfl, hn2⟩
    refine RL.op (.free rfl) rfl rfl (Does.append u43 i5 rfl rfl rfl rfl rfl (hr.mod hn2.grow (fun _ _ h => h)) (Sl.new hn2 1 1 rfl (by omega) (fun h => h)) (rfl) (by omega)) ?_
    rintro u3 w3 ⟨hr3, hm3, hu3⟩
    have hs2 := hn2.grow.size
    have hs0 := hg.size
    refine RL.p rfl rfl ?_
    refine RL.done ?_
    refine RK.ret_of Tryz.func86 (res1 rfl rfl) ?_ _
    exact ⟨_, rfl, by
        rw [← hst, putB_lo h128, bytesV_app, List.length_append]; exact hr3, fun b e => by
        rcases hu3 with h1 | h1
        · exact hf b (h1 ▸ e)
        · rw [h1] at e; cases e; omega, (hg.trans hn2.grow).then hm3 (fun b hb e => by have := hf b e; omega)⟩
theorem putB_len (n : Nat) (hn : n < 18446744073709551616) : (putB n).length ≤ 20 := by
  have key : ∀ (k n : Nat), n < 128 ^ k → (putB n).length ≤ k + 1 := by
    intro k
    induction k with
    | zero => intro n h; rw [putB_lo (by omega)]; simp
    | succ k ih =>
      intro n h
      by_cases h1 : n < 128
      · rw [putB_lo h1]; simp
      · rw [putB_hi h1, List.length_cons]
        have := ih (n / 128) (Nat.div_lt_of_lt_mul (by rw [Nat.pow_succ] at h; rw [Nat.mul_comm]; exact h))
        omega
  have := key 10 n (Nat.lt_trans hn (by decide))
  omega
theorem putT_ok (s : ByteArray) (hs : s.size ≤ 100000000) (w : World) : Fx Tryz.prog 89 [.string s] w (fun u w' => Row w' 5 1 u (putT s).length (bytesV (putT s)) ∧ Fresh w.heap.size u ∧ Grow w w') := by
  refine enter Tryz.func89 rfl rfl rfl _ (Pick.sub (l := [0]) (.cons rfl .nil)) ?_
  refine RK.seq ?_
  refine RK.region ?_
  refine RL.p rfl rfl ?_
  refine RL.done ?_
  refine RK.seq ?_
  refine RK.region ?_
  refine RL.p rfl rfl ?_
  refine RL.q (.free rfl) rfl rfl (Yld.lenStr u9 rfl) ?_
  refine RL.q (.free rfl) rfl rfl (Yld.convI Tryz.underlying3 Tryz.underlying24 rfl) ?_
  refine RL.re (d := 5) rfl rfl (congrArg (Value.int .u64) (wrap_u64 (x := s.size) (by omega))) ?_
  refine RL.op (.free rfl) rfl rfl (Does.call rfl e86 (vput_ok s.size (by omega) _)) ?_
  rintro u1 w1 ⟨hr1, hf1, hg1⟩
  have hpl := putB_len s.size (by omega)
  refine RL.p rfl rfl ?_
  refine RL.op (.free rfl) rfl rfl (Does.appendStr u43 Tryz.underlying9 i5 rfl rfl hr1 hf1 hg1.size (by omega)) ?_
  rintro u2 w2 ⟨hr2, hf2, hm2⟩
  refine RL.p rfl rfl ?_
  refine RL.done ?_
  refine RK.ret_of Tryz.func89 (res1 rfl rfl) ?_ _
  exact ⟨_, rfl, by
      unfold putT
      rw [bytesV_app, List.length_append, show s.data.toList.length = s.size from Array.length_toList]; exact hr2, hf2, hg1.then hm2 (fun b hb e => by have := hf1 b e; omega)⟩
end Go.Proofs.YtnnmgfnhblbolaaGreatDoor
set_option linter.unusedVariables false
set_option linter.unusedSimpArgs false
set_option maxHeartbeats 6400000
set_option maxRecDepth 100000
namespace Go.Proofs.YtnnmgfnhblbolaaGreatDoor
open Go Go.X
theorem growB_ok (m : Nat) (w : World) (hb : m * 8 ≤ 140737488355328) :
    Fx Tryz.prog 177 [.slice none 0 0, .int .i64 m] w (fun u w' => Row w' 5 1 u 0 [] ∧ Fresh w.heap.size u ∧ Grow w w') := by
  refine enter Tryz.func177 rfl rfl rfl _ (Pick.sub (l := [0, 1]) (.cons rfl (.cons rfl .nil))) ?_
  refine RK.seq ?_
  refine RK.region ?_
  refine RL.p rfl rfl ?_
  refine RL.done ?_
  iterate 2 refine RK.seq ?_
  refine RK.region ?_
  iterate 2 refine RL.p rfl rfl ?_
  refine RL.done ?_
  refine RK.condF (hcF rfl (decide_eq_false (by omega))) ?_
  refine RK.skip ?_
  iterate 2 refine RK.seq ?_
  refine RK.region ?_
  iterate 2 refine RL.p rfl rfl ?_
  refine RL.q (.free rfl) rfl rfl (Yld.capSl u43 rfl) ?_
  refine RL.p rfl rfl ?_
  refine RL.q (.free rfl) rfl rfl (Yld.lenSl u43 rfl) ?_
  refine RL.p rfl rfl ?_
  refine RL.re (d := 13) rfl rfl (sub_i64 (z := 0) (by omega) (by omega) (by omega)) ?_
  refine RL.p rfl rfl ?_
  refine RL.re (d := 14) rfl rfl (sub_i64 (z := (m : Int)) (by omega) (by omega) (by omega)) ?_
  refine RL.p rfl rfl ?_
  refine RL.done ?_
  refine RK.seq ?_
  refine RK.region ?_
  iterate 2 refine RL.p rfl rfl ?_
  refine RL.done ?_
  first | refine RK.condD rfl (fun h16 => ?_) (fun h16 => ?_) | refine RK.condN rfl (fun h16 => ?_) (fun h16 => ?_) | refine RK.cond rfl (fun h16 => ?_) (fun h16 => ?_)
  · refine RK.region ?_
    iterate 2 refine RL.p rfl rfl ?_
    refine RL.q (.free rfl) rfl rfl (Yld.capSl u43 rfl) ?_
    refine RL.q (.free rfl) rfl rfl (Yld.sliceHi u43 i5 (m := 0) rfl rfl (by omega)) ?_
    refine RL.p rfl rfl ?_
    refine RL.op (.free rfl) rfl rfl (Does.appendZ u43 Tryz.underlying3 i5 rfl rfl (m := m) (c := 0) rfl rfl (by omega) (by omega)) ?_
    rintro _ w1 ⟨b1, cap1, cur1, rfl, hb1, hh1, hc1, hm1, hs1, hg1⟩
    refine RL.p rfl rfl ?_
    refine RL.q (.free rfl) rfl rfl (Yld.lenSl u43 rfl) ?_
    refine RL.q (.free rfl) rfl rfl (Yld.sliceHi u43 i5 (m := 0) rfl rfl (by omega)) ?_
    refine RL.p rfl rfl ?_
    refine RL.done ?_
    refine RK.seq ?_
    refine RK.region ?_
    iterate 2 refine RL.p rfl rfl ?_
    refine RL.done ?_
    refine RK.ret_of Tryz.func177 (res1 rfl rfl) ?_ _
    exact ⟨_, rfl, ⟨by simp, .inr ⟨b1, cap1, cur1, rfl, Nat.zero_le _, hh1, by omega, hm1, hs1, by simp⟩⟩, fun b hb => by simp [Value.ownBlock] at hb; omega, hg1⟩
  · refine RK.skip ?_
    refine RK.seq ?_
    refine RK.region ?_
    iterate 2 refine RL.p rfl rfl ?_
    refine RL.done ?_
    refine RK.ret_of Tryz.func177 (res1 rfl rfl) ?_ _
    exact ⟨_, rfl, Row.nil _ _ _, fun b hb => by simp [Value.ownBlock] at hb, Mod.refl _ _⟩
def totalB (pr : List (Value × List Value)) : Nat := (pr.map fun p => p.2.length).sum
theorem totalB_take {pr : List (Value × List Value)} {k : Nat} {p : Value × List Value} (h : pr[k]? = some p) : totalB (pr.take (k + 1)) = totalB (pr.take k) + p.2.length := by
  have hk : k < pr.length := (List.getElem?_eq_some_iff.1 h).1
  rw [List.take_succ_eq_append_getElem hk]
  have : pr[k] = p := (List.getElem?_eq_some_iff.1 h).2
  simp [totalB, this]
theorem totalB_le (pr : List (Value × List Value)) (k : Nat) : totalB (pr.take k) ≤ totalB pr := by
  have : totalB pr = totalB (pr.take k) + totalB (pr.drop k) := by
    unfold totalB
    rw [← List.sum_append, ← List.map_append, List.take_append_drop]
  omega
theorem concatB_ok (M : Nat → Prop) (pr : List (Value × List Value)) (v : Value) (w : World) (hv : Sl M w v 1 pr.length (pr.map (·.1))) (hs : ∀ p ∈ pr, Sl M w p.1 1 p.2.length p.2) (ho : ∀ p ∈ pr, p.2.all (·.oneCell') = true) (hb : totalB pr * 8 ≤ 140737488355328) :
    Fx Tryz.prog 100 [v] w (fun u w' => Row w' 5 1 u (pr.flatMap (·.2)).length (pr.flatMap (·.2)) ∧ Fresh w.heap.size u ∧ Grow w w') := by
  obtain ⟨ad, c, b, o, rfl, hf⟩ := hv.open
  refine enter Tryz.func100 rfl rfl rfl _ (Pick.sub (l := [0]) (.cons rfl .nil)) ?_
  refine RK.seq ?_
  refine RK.region ?_
  refine RL.p rfl rfl ?_
  refine RL.done ?_
  refine RK.seq ?_
  refine RK.region ?_
  refine RL.p rfl rfl ?_
  refine RL.done ?_
  iterate 2 refine RK.seq ?_
  refine RK.region ?_
  refine RL.p rfl rfl ?_
  refine RL.q (.free rfl) rfl rfl (Yld.lenSl u63 rfl) ?_
  refine RL.p rfl rfl ?_
  refine RL.done ?_
  refine RK.block ?_
  refine RK.loop (fun k : Nat => [(0, .slice ad pr.length c), (9, .slice ad pr.length c), (10, .int .i64 pr.length), (11, .int .i64 k), (3, .int .i64 (totalB (pr.take k)))]) (fun k w' => w = w' ∧ k ≤ pr.length) (fun k => pr.length - k) 0 ⟨rfl, rfl, rfl, rfl, rfl, trivial⟩ ⟨rfl, by omega⟩ (fun k w' hI ih => ?_)
  obtain ⟨rfl, hk⟩ := hI
  refine RK.seq ?_
  refine RK.region ?_
  refine RL.p rfl rfl ?_
  refine RL.done ?_
  refine RK.seq ?_
  first | refine RK.condD rfl (fun h12 => ?_) (fun h12 => ?_) | refine RK.condN rfl (fun h12 => ?_) (fun h12 => ?_) | refine RK.cond rfl (fun h12 => ?_) (fun h12 => ?_)
  · obtain ⟨p, hp⟩ : ∃ p, pr[k]? = some p := ⟨pr[k]'(by omega), List.getElem?_eq_getElem (by omega)⟩
    obtain ⟨rfl, hbM, hc⟩ := hf (by omega)
    have hsp := hs p (List.mem_of_getElem? hp)
    obtain ⟨adp, cp, hpv⟩ := hsp.shape
    have ht := totalB_take hp
    have htl := totalB_le pr (k + 1)
    refine RK.skip ?_
    refine RK.seq ?_
    refine RK.block ?_
    refine RK.seq ?_
    refine RK.region ?_
    refine RL.q (.free rfl) rfl rfl (Yld.indexAddrN u63 i43 rfl rfl (by omega)) ?_
    refine RL.q (.free rfl) rfl rfl (Yld.load p43 rfl (at1 (by have := hc k p.1 (by simp [hp]); rw [hpv] at this; simpa using this))) ?_
    refine RL.p rfl rfl ?_
    refine RL.done ?_
    refine RK.seq ?_
    refine RK.region ?_
    iterate 2 refine RL.p rfl rfl ?_
    refine RL.q (.free rfl) rfl rfl (Yld.lenSl u43 rfl) ?_
    refine RL.p rfl rfl ?_
    refine RL.re (d := 18) rfl rfl (add_i64 (z := ((totalB (pr.take (k + 1)) : Nat) : Int)) (by rw [ht]; simp) (by omega) (by omega)) ?_
    refine RL.p rfl rfl ?_
    refine RL.done ?_
    refine RK.seq ?_
    refine RK.region ?_
    iterate 2 refine RL.p rfl rfl ?_
    refine RL.done ?_
    refine RK.condF (hcF rfl (decide_eq_false (by omega))) ?_
    refine RK.skip ?_
    refine RK.inBlock ?_
    refine RK.region ?_
    refine RL.p rfl rfl ?_
    refine RL.re (d := 22) rfl rfl (succ_i64 (by have := hv.big; omega)) ?_
    refine RL.p rfl rfl ?_
    refine RL.done ?_
    exact RK.back (ih (k + 1) _ ⟨rfl, by omega⟩ (by omega)) ⟨rfl, rfl, rfl, rfl, rfl, trivial⟩
  · have ek : pr.take k = pr := List.take_of_length_le (by omega)
    rw [ek]
    refine RK.exit rfl ?_
    refine RK.seq ?_
    refine RK.region ?_
    refine RL.p rfl rfl ?_
    refine RL.op (.free rfl) rfl rfl (Does.call rfl e177 (growB_ok (totalB pr) _ hb)) ?_
    rintro u0 w1 ⟨hr1, hf1, hg1⟩
    refine RL.p rfl rfl ?_
    refine RL.done ?_
    iterate 2 refine RK.seq ?_
    refine RK.region ?_
    refine RL.p rfl rfl ?_
    refine RL.q (.free rfl) rfl rfl (Yld.lenSl u63 rfl) ?_
    refine RL.p rfl rfl ?_
    refine RL.done ?_
    refine RK.block ?_
    refine RK.loop (fun (s : Nat × Value) => [(25, .slice ad pr.length c), (26, .int .i64 pr.length), (27, .int .i64 s.1), (6, s.2)]) (fun s w' => Row w' 5 1 s.2 ((pr.take s.1).flatMap (·.2)).length ((pr.take s.1).flatMap (·.2)) ∧ Fresh w.heap.size s.2 ∧ Grow w w' ∧ s.1 ≤ pr.length) (fun s => pr.length - s.1) (0, u0) ⟨rfl, rfl, rfl, rfl, trivial⟩ ⟨by simpa using hr1, hf1, hg1, by omega⟩ (fun s w' hI ih => ?_)
    obtain ⟨k2, u⟩ := s
    obtain ⟨hr, hfr, hg, hk2⟩ := hI
    simp only at hr hfr hk2
    refine RK.seq ?_
    refine RK.region ?_
    refine RL.p rfl rfl ?_
    refine RL.done ?_
    refine RK.seq ?_
    first | refine RK.condD rfl (fun h28 => ?_) (fun h28 => ?_) | refine RK.condN rfl (fun h28 => ?_) (fun h28 => ?_) | refine RK.cond rfl (fun h28 => ?_) (fun h28 => ?_)
    · obtain ⟨p, hp⟩ : ∃ p, pr[k2]? = some p := ⟨pr[k2]'(by omega), List.getElem?_eq_getElem (by omega)⟩
      obtain ⟨rfl, hbM, hc⟩ := hf (by omega)
      have hsp := hs p (List.mem_of_getElem? hp)
      have ht := totalB_take hp
      have htl := totalB_le pr (k2 + 1)
      have e1 : ((pr.take k2).flatMap (·.2)).length = totalB (pr.take k2) := by simp [totalB, List.length_flatMap]
      have e2 : (pr.take (k2 + 1)).flatMap (·.2) = (pr.take k2).flatMap (·.2) ++ p.2 := by rw [List.take_succ_eq_append_getElem (by omega)]; simp [(List.getElem?_eq_some_iff.1 hp).2]
      refine RK.skip ?_
      refine RK.seq ?_
      refine RK.block ?_
      refine RK.seq ?_
      refine RK.region ?_
      refine RL.q (.free rfl) rfl rfl (Yld.indexAddrN u63 i43 rfl rfl (by omega)) ?_
      refine RL.q (.free rfl) rfl rfl (Yld.load p43 rfl (at1 (hg.cell (by have := hc k2 p.1 (by simp [hp]); simpa using this) (fun h => h)))) ?_
      refine RL.p rfl rfl ?_
      refine RL.done ?_
      refine RK.region ?_
      iterate 2 refine RL.p rfl rfl ?_
      refine RL.op (.free rfl) rfl rfl (Does.append u43 i5 rfl rfl rfl rfl rfl (hr) ((hsp.mod (Mod.any' hg)).noM) (ho p (List.mem_of_getElem? hp)) (by rw [e1]; omega)) ?_
      rintro u2 w2 ⟨hr2, hm2, hu2⟩
      refine RL.p rfl rfl ?_
      refine RL.done ?_
      refine RK.inBlock ?_
      refine RK.region ?_
      refine RL.p rfl rfl ?_
      refine RL.re (d := 34) rfl rfl (succ_i64 (by have := hv.big; omega)) ?_
      refine RL.p rfl rfl ?_
      refine RL.done ?_
      exact RK.back (ih (k2 + 1, u2) _ ⟨by rw [e2]; simpa using hr2, fun b hb => by rcases hu2 with h | h <;> rw [h] at hb; exact hfr b hb; (cases hb; exact hg.size), hg.then hm2 (fun x hx e => by have := hfr x e; omega), by simp; omega⟩ (by simp; omega)) ⟨rfl, rfl, rfl, rfl, trivial⟩
    · have ek2 : pr.take k2 = pr := List.take_of_length_le (by omega)
      rw [ek2] at hr
      refine RK.exit rfl ?_
      refine RK.seq ?_
      refine RK.region ?_
      iterate 2 refine RL.p rfl rfl ?_
      refine RL.done ?_
      refine RK.ret_of Tryz.func100 (res1 rfl rfl) ?_ _
      exact ⟨_, rfl, hr, hfr, hg⟩
theorem WW.bytes (l : List UInt8) : WW .u8 l.length (bytesV l) := ⟨bytesV_len l, fun i hi => by
  obtain ⟨x, hx⟩ : ∃ x, l[i]? = some x := ⟨l[i], List.getElem?_eq_getElem hi⟩
  exact ⟨(x.toNat : Int), by simp [bytesV, hx]⟩⟩
end Go.Proofs.YtnnmgfnhblbolaaGreatDoor
set_option linter.unusedVariables false
set_option linter.unusedSimpArgs false
set_option maxHeartbeats 6400000
set_option maxRecDepth 100000
namespace Go.Proofs.YtnnmgfnhblbolaaGreatDoor
open Go Go.X
theorem Yld.sliceArr {P : Program} {n : Nat} {e : Env} {C : World → Prop} {d : Option Tmp} {t len el : Nat} {x : Operand} {ty : TypeId} {pos : String} {af : Array Edge} {g : Option (Nat × Bool)} (hT : P.underlying t = some (.array len el)) {z : Value} {sz by' : Nat} (hE : TI P el z sz by') {a : Addr} (hx : ev e x = some (.pointer (some a))) :
    Yld P n C e ⟨d, .slice t x none none none, ty, pos, af, g⟩ (.slice (some a) len len) := by
  intro ac ha w _
  by_cases h : len = 0 <;> simp [execOp, ha.ev hx, Instr.sliceAt, Instr.sureAddr, run_underlying hT, Instr.sliceBounds, Instr.sliceBound, hE.sizeOf w, add_zero_addr, h]
theorem nilB (w : World) : Sl No w (.slice none 0 0) 1 ([] : List UInt8).length (bytesV []) := Sl.own (Row.nil w 5 1) (fun _ _ h => h)
end Go.Proofs.YtnnmgfnhblbolaaGreatDoor
