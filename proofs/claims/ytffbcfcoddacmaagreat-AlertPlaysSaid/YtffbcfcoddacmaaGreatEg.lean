/- Stores of alerts as they are kept, whatever is posted and resolved. -/
import Derived.Test.YtffbcfcoddacmaaGreatEf
set_option linter.unusedVariables false
set_option linter.unusedSimpArgs false
set_option maxHeartbeats 400000
set_option maxRecDepth 100000
namespace Go.Proofs.YtffbcfcoddacmaaGreat
open Go Go.X

abbrev AlS := Int × List Lab × Nat
def hasOf (al : List AlS) : List (Int × List Lab) := al.map fun a => (a.1, a.2.1)
structure Gd (s : St) : Prop where
  ids : Ris (s.al.map (·.1))
  out : s.out = s.al.map (·.1)
  has : s.has = hasOf s.al
  ix : IxI s.has s.rows
  le : ∀ a ∈ s.al, 1 ≤ a.1 ∧ a.1 ≤ s.last
  sets : ∀ a ∈ s.al, isS a.2.1 = true
theorem Gd.new (m : Int) : Gd (St.new m) := ⟨by simp [St.new], rfl, rfl, IxI.nil, by simp [St.new], by simp [St.new]⟩
theorem map_modify_same {α β : Type} (f : α → β) (g : α → α) (h : ∀ x, f (g x) = f x) (l : List α) (i : Nat) : (l.modify i g).map f = l.map f := by
  apply List.ext_getElem?
  intro j
  simp only [List.getElem?_map, List.getElem?_modify]
  cases l[j]? with
  | none => rfl
  | some x => by_cases hj : i = j <;> simp [hj, h]
theorem mem_modify_or {α : Type} {g : α → α} {l : List α} {i : Nat} {x : α} (h : x ∈ l.modify i g) : x ∈ l ∨ ∃ y ∈ l, x = g y := by
  obtain ⟨j, hj⟩ := List.getElem?_of_mem h
  simp only [List.getElem?_modify] at hj
  cases hl : l[j]? with
  | none => simp [hl] at hj
  | some y =>
    have hy := List.mem_of_getElem? hl
    simp only [hl, Option.map_some] at hj
    split at hj <;> (simp at hj; subst hj)
    · exact .inr ⟨y, hy, rfl⟩
    · exact .inl hy
theorem placeM_at {κ α : Type} [DecidableEq κ] {k : κ} {v : α} : ∀ {l : List (κ × α)} {i : Nat}, (l.map (·.1)).Nodup → l[i]? = some (k, v) → placeM k l = some (i, v)
  | [], i, _, h => by simp at h
  | (j, u) :: l, 0, _, h => by
    simp at h
    simp [placeM, h.1, h.2]
  | (j, u) :: l, i + 1, hn, h => by
    rw [List.map_cons, List.nodup_cons] at hn
    simp only [List.getElem?_cons_succ] at h
    have hne : ¬ k = j := fun e => hn.1 (by rw [← e]; exact List.mem_map.2 ⟨(k, v), List.mem_of_getElem? h, rfl⟩)
    simp [placeM, hne, placeM_at hn.2 h]
theorem Gd.fresh {s : St} (h : Gd s) : lookM s.has (s.last + 1) = none := by
  rw [lookM_none, h.has]
  intro hm
  simp only [hasOf, List.map_map, List.mem_map] at hm
  obtain ⟨a, ha, e⟩ := hm
  have := h.le a ha
  simp only [Function.comp] at e
  omega
theorem Gd.post {s : St} (h : Gd s) (h0 : 0 ≤ s.last) (ls : List Lab) (val : Nat) : Gd (postS s ls val).1 := by
  unfold postS
  by_cases his : isS ls = false
  · rw [if_pos his]; exact h
  · rw [if_neg his]
    split
    · rename_i i hi
      have e1 : (s.al.modify i fun a => (a.1, a.2.1, canS val)).map (·.1) = s.al.map (·.1) := map_modify_same (fun a : AlS => a.1) (fun a : AlS => (a.1, a.2.1, canS val)) (fun _ => rfl) _ _
      have e2 : hasOf (s.al.modify i fun a => (a.1, a.2.1, canS val)) = hasOf s.al := map_modify_same (fun a : AlS => (a.1, a.2.1)) (fun a : AlS => (a.1, a.2.1, canS val)) (fun _ => rfl) _ _
      refine ⟨by simp only; rw [e1]; exact h.ids, by simp only; rw [e1]; exact h.out, by simp only; rw [e2]; exact h.has, h.ix, fun a ha => ?_, fun a ha => ?_⟩
      · rcases mem_modify_or ha with h1 | ⟨y, hy, rfl⟩
        · exact h.le a h1
        · exact h.le y hy
      · rcases mem_modify_or ha with h1 | ⟨y, hy, rfl⟩
        · exact h.sets a h1
        · exact h.sets y hy
    · cases hf : fullS s.most s.last s.out with
      | true => simpa using h
      | false =>
        simp only [Bool.false_eq_true, if_false]
        have hfr := h.fresh
        refine ⟨?_, ?_, ?_, h.ix.add hfr ls, fun a ha => ?_, fun a ha => ?_⟩
        · rw [List.map_append]
          refine List.pairwise_append.2 ⟨h.ids, by simp, fun x hx y hy => ?_⟩
          simp at hy; subst hy
          obtain ⟨a, ha, rfl⟩ := List.mem_map.1 hx
          have := h.le a ha; omega
        · simp [h.out]
        · rw [putM_new hfr, h.has]; simp [hasOf]
        · rcases List.mem_append.1 ha with h1 | h1
          · have := h.le a h1; simp only; omega
          · simp at h1; subst h1; simp only; omega
        · rcases List.mem_append.1 ha with h1 | h1
          · exact h.sets a h1
          · simp at h1; subst h1; simpa using his
theorem place_at {s : St} (h : Gd s) {id : Int} {i : Nat} (hp : placeS s id = some i) : ∃ a, s.al[i]? = some a ∧ a.1 = id := by
  unfold placeS at hp
  obtain ⟨h1, h2, _⟩ := List.findIdx?_eq_some_iff_getElem.1 hp
  exact ⟨_, List.getElem?_eq_getElem h1, by simpa using h2⟩
theorem Gd.resolve {s : St} (h : Gd s) (id : Int) : Gd (resolveS s id).1 := by
  unfold resolveS
  split
  · exact h
  · rename_i i hp
    obtain ⟨a, ha, rfl⟩ := place_at h hp
    have hi : i < s.al.length := (List.getElem?_eq_some_iff.1 ha).1
    have hsub : (s.al.eraseIdx i).Sublist s.al := List.eraseIdx_sublist _ _
    have hids : Ris ((s.al.eraseIdx i).map (·.1)) := h.ids.sublist (hsub.map _)
    have hmem : a.1 ∈ s.out := by rw [h.out]; exact List.mem_map_of_mem (f := fun t : AlS => t.1) (List.mem_of_getElem? ha)
    have hout : giveS s.out a.1 = (s.al.eraseIdx i).map (·.1) := by
      unfold giveS
      rw [if_pos (by simpa using hmem)]
      refine ext_ris (cutRow_ris _ _) hids fun x => ?_
      rw [mem_cutRow, h.out, map_eraseIdx' (fun t : AlS => t.1), List.mem_eraseIdx_iff_getElem]
      have hg : ∀ j (hj : j < (s.al.map fun t : AlS => t.1).length), (s.al.map fun t : AlS => t.1)[j] = a.1 ↔ j = i := fun j hj => by
        have hii : (s.al.map fun t : AlS => t.1)[i]'(by simpa using hi) = a.1 := by
          simp [(List.getElem?_eq_some_iff.1 ha).2]
        constructor
        · intro e
          rw [← hii] at e
          exact (List.getElem_inj h.ids.nodup).1 e
        · rintro rfl; exact hii
      constructor
      · rintro ⟨h1, h2⟩
        obtain ⟨j, hj, rfl⟩ := List.getElem_of_mem h1
        exact ⟨j, hj, fun e => h2 ((hg j hj).2 e), rfl⟩
      · rintro ⟨j, hj, hne, rfl⟩
        exact ⟨List.getElem_mem _, fun e => hne ((hg j hj).1 e)⟩
    have hhas : cutM s.has a.1 = hasOf (s.al.eraseIdx i) := by
      have hp2 : placeM a.1 s.has = some (i, a.2.1) := placeM_at h.ix.nd (by rw [h.has, hasOf, List.getElem?_map, ha]; rfl)
      unfold cutM
      rw [hp2]
      simp only
      rw [h.has, hasOf, hasOf, map_eraseIdx']
    exact ⟨hids, hout, hhas, h.ix.drop a.1, fun b hb => h.le b (hsub.mem hb), fun b hb => h.sets b (hsub.mem hb)⟩
theorem Ok.resolve {s : St} (h : Ok s) (hg : Gd s) (id : Int) : Ok (resolveS s id).1 := by
  have hg' := hg.resolve id
  unfold resolveS at *
  split
  · exact h
  · rename_i i hp
    rw [hp] at hg'
    simp only at hg'
    have hsub : (s.al.eraseIdx i).Sublist s.al := List.eraseIdx_sublist _ _
    have hl := hg'.out
    simp only at hl
    have e1 := congrArg List.length hl
    rw [List.length_map] at e1
    have h1 := h.alOut
    have h2 := h.outLe
    have h3 := hsub.length_le
    refine ⟨h.last0, h.last1, h.most, ?_, e1.symm, fun t ht => h.has t (mem_cutM' ht), fun t ht => ?_, fun b hb => h.vals b (hsub.mem hb)⟩
    · simp only; omega
    · have := dropRows_bound (B := (6 * s.last).toNat) (fun t ht => by have := h.rows t ht; omega) id _ t ht
      have h4 := h.last0
      simp only
      omega
/-- A store that is kept, its blocks told. -/
structure KM (M : Nat → Prop) (w : World) (p : Nat) (s : St) : Prop where
  at_ : StoreAt w p s M
  ok : Ok s
  gd : Gd s
theorem Gd.labs {s : St} (h : Gd s) : ∀ a ∈ s.al, a.2.1.length ≤ 1000 := fun a ha => by have := isS_len (h.sets a ha); omega
theorem KM.len16 {M : Nat → Prop} {w : World} {p : Nat} {s : St} (h : KM M w p s) : s.al.length ≤ 16 ∧ s.out.length ≤ 16 := by
  have h1 := h.ok.most; have h2 := h.ok.outLe; have h3 := h.ok.alOut
  omega
theorem KM.lt {M : Nat → Prop} {w : World} {p : Nat} {s : St} (h : KM M w p s) {b : Nat} (hb : M b) : b < w.heap.size := h.at_.lt hb
theorem KM.grow {M : Nat → Prop} {w w' : World} {p : Nat} {s : St} (h : KM M w p s) (hg : Grow w w') : KM M w' p s := ⟨h.at_.grow hg, h.ok, h.gd⟩
theorem km_new (m : Int) (w : World) : Fx Tryz.prog 16 [.int .i64 m] w (fun u w' => ∃ p M, u = pp p ∧ KM M w' p (St.new m) ∧ (∀ b, M b → w.heap.size ≤ b) ∧ Grow w w') :=
  Fx.mono (alertNew_ok m w) fun u w' ⟨p, M, h1, h2, h3, h4⟩ => ⟨p, M, h1, ⟨h2, Ok.new m, Gd.new m⟩, h3, h4⟩
theorem KM.post {M : Nat → Prop} {w : World} {p : Nat} {s : St} (h : KM M w p s) {ls : List Lab} {v : Value} (hv : SlL M w v ls) {val : Nat} (hval : val < 18446744073709551616) :
    Fx Tryz.prog 18 [pp p, v, .float .f64 val] w (fun u w' => ∃ M', u = .tuple #[.int .i64 (postS s ls val).2.1, .bool (postS s ls val).2.2.1, .int .i64 (postS s ls val).2.2.2] ∧ KM M' w' p (postS s ls val).1 ∧ Mod M w w' ∧ ∀ b, M' b → M b ∨ w.heap.size ≤ b) :=
  Fx.mono (post_ok w p s M h.at_ h.ok ls v hv val) fun u w' ⟨M', h1, h2, h3, h4⟩ => ⟨M', h1, ⟨h2, h.ok.post ls hval, h.gd.post h.ok.last0 ls val⟩, h3, h4⟩
theorem KM.resolve {M : Nat → Prop} {w : World} {p : Nat} {s : St} (h : KM M w p s) (id : Int) :
    Fx Tryz.prog 24 [pp p, .int .i64 id] w (fun u w' => ∃ M', u = .int .i64 (resolveS s id).2 ∧ KM M' w' p (resolveS s id).1 ∧ Mod M w w' ∧ ∀ b, M' b → M b ∨ w.heap.size ≤ b) := by
  have h16 := h.len16
  refine Fx.mono (resolve_ok w p s M h.at_ h.gd.ids (by rw [h.gd.out]; exact h.gd.ids) (by omega) (by omega) (fun t ht => by have h1 := h.ok.rows t ht; have h2 := h.ok.last1; omega) id) ?_
  rintro u w' ⟨M', h1, h2, h3, h4⟩
  exact ⟨M', h1, ⟨h2, h.ok.resolve h.gd id, h.gd.resolve id⟩, h3, h4⟩
theorem KM.get {M : Nat → Prop} {w : World} {p : Nat} {s : St} (h : KM M w p s) (id : Int) : Fx Tryz.prog 19 [pp p, .int .i64 id] w (fun u w' => ∃ ad c, u = .tuple #[.agg #[.int .i64 ((getS s id).getD (0, [], 0)).1, .slice ad ((getS s id).getD (0, [], 0)).2.1.length c, .float .f64 ((getS s id).getD (0, [], 0)).2.2], .bool (getS s id).isSome] ∧ Row w' 46 2 (.slice ad ((getS s id).getD (0, [], 0)).2.1.length c) ((getS s id).getD (0, [], 0)).2.1.length (((getS s id).getD (0, [], 0)).2.1.flatMap labC) ∧ Grow w w') :=
  get_ok w p s M h.at_ h.gd.ids (by have := h.len16; omega) h.gd.labs id
theorem KM.all {M : Nat → Prop} {w : World} {p : Nat} {s : St} (h : KM M w p s) : Fx Tryz.prog 36 [pp p] w (fun u w' => ∃ al' : List Al, Row w' 32 3 u al'.length (al'.flatMap alC) ∧ al'.map pub = s.al ∧ (∀ a ∈ al', SlL No w' a.v a.ls) ∧ Grow w w') :=
  all_ok w p s M h.at_ (by have := h.len16; omega) h.gd.labs
theorem KM.rank {M : Nat → Prop} {w : World} {p : Nat} {s : St} (h : KM M w p s) : Fx Tryz.prog 37 [pp p] w (fun u w' => Row w' 3 1 u s.al.length (ints (rankIds s)) ∧ Fresh w.heap.size u ∧ Grow w w') :=
  alertRank_ok w p s M h.at_ h.ok.vals (by have := h.len16; omega)
theorem KM.size {M : Nat → Prop} {w : World} {p : Nat} {s : St} (h : KM M w p s) : Fx Tryz.prog 23 [pp p] w (fun u w' => u = .int .i64 s.al.length ∧ w = w') := alertLen_ok w p s M h.at_
theorem KM.posts {M : Nat → Prop} {w : World} {p : Nat} {s : St} (h : KM M w p s) : Fx Tryz.prog 25 [pp p] w (fun u w' => u = .int .i64 s.rows.length ∧ w = w') := alertPosts_ok w p s M h.at_
/-- The same, its blocks being O, its labels off all of M. -/
structure KX (O M : Nat → Prop) (w : World) (p : Nat) (s : St) : Prop where
  at_ : StoreX O M w p s
  ok : Ok s
  gd : Gd s
theorem KX.km {O M : Nat → Prop} {w : World} {p : Nat} {s : St} (h : KX O M w p s) : KM O w p s := ⟨h.at_.at_, h.ok, h.gd⟩
theorem KX.grow {O M : Nat → Prop} {w w' : World} {p : Nat} {s : St} (h : KX O M w p s) (hg : Grow w w') : KX O M w' p s := ⟨h.at_.grow hg, h.ok, h.gd⟩
theorem KX.off {O M M' : Nat → Prop} {w : World} {p : Nat} {s : St} (h : KX O M w p s) (h1 : ∀ b, O b → M' b) (h2 : ∀ b, M' b → M b) : KX O M' w p s := ⟨h.at_.off h1 h2, h.ok, h.gd⟩
theorem KX.mod {O M N : Nat → Prop} {w w' : World} {p : Nat} {s : St} (h : KX O M w p s) (hm : Mod N w w') (h1 : ∀ b, O b → ¬ N b) (h2 : ∀ b, N b → b < w.heap.size → M b) : KX O M w' p s := ⟨h.at_.mod hm h1 h2, h.ok, h.gd⟩
theorem KX.post {O M : Nat → Prop} {w : World} {p : Nat} {s : St} (h : KX O M w p s) {ls : List Lab} {v : Value} (hv : SlL M w v ls) {val : Nat} (hval : val < 18446744073709551616) :
    Fx Tryz.prog 18 [pp p, v, .float .f64 val] w (fun u w' => ∃ O', u = .tuple #[.int .i64 (postS s ls val).2.1, .bool (postS s ls val).2.2.1, .int .i64 (postS s ls val).2.2.2] ∧ KX O' (fun b => M b ∨ O' b) w' p (postS s ls val).1 ∧ Mod O w w' ∧ ∀ b, O' b → O b ∨ w.heap.size ≤ b) :=
  Fx.mono (postX_ok w p s O M h.at_ h.ok ls v hv val) fun u w' ⟨O', h1, h2, h3, h4⟩ => ⟨O', h1, ⟨h2, h.ok.post ls hval, h.gd.post h.ok.last0 ls val⟩, h3, h4⟩
theorem KX.resolve {O M : Nat → Prop} {w : World} {p : Nat} {s : St} (h : KX O M w p s) (id : Int) :
    Fx Tryz.prog 24 [pp p, .int .i64 id] w (fun u w' => ∃ O', u = .int .i64 (resolveS s id).2 ∧ KX O' (fun b => M b ∨ O' b) w' p (resolveS s id).1 ∧ Mod O w w' ∧ ∀ b, O' b → O b ∨ w.heap.size ≤ b) := by
  have h16 := h.km.len16
  refine Fx.mono (resolveX_ok w p s O M h.at_ h.gd.ids (by rw [h.gd.out]; exact h.gd.ids) (by omega) (by omega) (fun t ht => by have h1 := h.ok.rows t ht; have h2 := h.ok.last1; omega) id) ?_
  rintro u w' ⟨O', h1, h2, h3, h4⟩
  exact ⟨O', h1, ⟨h2, h.ok.resolve h.gd id, h.gd.resolve id⟩, h3, h4⟩
end Go.Proofs.YtffbcfcoddacmaaGreat

