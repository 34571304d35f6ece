/- What the claim stands on, part 9. Of own lemmas only those that it reaches. -/
import Derived.Test.YtbcbfjnlnmhpbaaGreatKv8
set_option linter.unusedVariables false
set_option linter.unusedSimpArgs false
set_option maxHeartbeats 3200000
set_option maxRecDepth 100000
namespace Go.Proofs.YtbcbfjnlnmhpbaaGreat
open Go Go.X
def dueC (e:En):List Value:=[.int .i64 e.id,.int .u64 e.due]
theorem dueC_len (e:En):(dueC e).length=2:=rfl
theorem allOne_due (xs:List En):((xs.flatMap dueC).all fun x=>x.oneCell')=true:=by
 rw [List.all_eq_true]
 intro u hu
 obtain ⟨x,_,hu⟩:=List.mem_flatMap.1 hu
 simp only [dueC,List.mem_cons,List.not_mem_nil,or_false] at hu
 rcases hu with rfl | rfl <;> rfl
structure QD (w:World) (q:Nat) (fs:List En) (v:Value):Prop where
 blk:Blk w q 172 [v]
 row:Row w 201 2 v fs.length (fs.flatMap dueC)
theorem QD.grow {w w' : World} {q:Nat} {fs:List En} {v:Value} (h:QD w q fs v) (hg:Grow w w'):QD w' q fs v:=⟨h.blk.mod hg (fun h=>h),h.row.mod hg (fun _ _ h=>h)⟩
theorem dropD_ok (w:World) (q:Nat) (fs:List En) (v:Value) (h:QD w q fs v) (hle:fs.length≤1000) (id:Int) (hno:∀ e∈fs,e.id≠id) :
  Fx Tryz.prog 146 [pp q,.int .i64 id] w (fun u w'=>u=.bool false∧w=w'):=by
 have hsl:=Sl.own (M:=No) h.row (fun _ _ h=>h)
 obtain ⟨ad,c,rfl⟩:=h.row.slice
 refine enter Tryz.func146 rfl rfl rfl _ (Pick.sub (l:=[0,1]) (.cons rfl (.cons rfl .nil))) ?_
 refine GG ?_
 refine RK.loop (fun k:Nat=>[(0,pp q),(1,.int .i64 id),(5,.int .i64 (k:Int))]) (fun k w'=>w=w'∧k≤fs.length) (fun k=>fs.length - k) 0 ⟨rfl,rfl,rfl,trivial⟩ ⟨rfl,by omega⟩ (fun k w' hI ih=>?_)
 obtain ⟨rfl,hk⟩:=hI
 refine GG ?_
 refine QQ (Yld.fieldAddr fo172_0 rfl) ?_
 refine QQ (Yld.load p170 rfl (at1 (h.blk.cell rfl))) ?_
 refine QQ (Yld.lenSl u170 rfl) ?_
 refine GG ?_
 refine CD (fun h12=>?_) (fun h12=>?_)
 ·obtain ⟨a,ha⟩:∃ a,fs[k]?=some a:=⟨fs[k]'(by omega),List.getElem?_eq_getElem (by omega)⟩
  obtain ⟨b1,o1,c1',he1,_,_,hc1⟩:=hsl.elem dueC_len ha
  cases he1
  have hne:=hno a (List.mem_of_getElem? ha)
  refine GG ?_
  refine QQ (Yld.fieldAddr fo172_0 rfl) ?_
  refine QQ (Yld.load p170 rfl (at1 (h.blk.cell rfl))) ?_
  refine RL.p rfl rfl ?_
  refine QQ (Yld.indexAddrN u170 i201 rfl rfl (by omega)) ?_
  refine QQ (Yld.fieldAddr fo201_0 rfl) ?_
  refine QQ (Yld.load p3 rfl (at1 (hc1 0 _ rfl))) ?_
  refine GG ?_
  refine RK.condF (hcF rfl (decide_eq_false hne)) ?_
  refine RK.skip ?_
  refine RK.inBlock ?_
  refine RK.region ?_
  iterate 2 refine RL.p rfl rfl ?_
  refine RL.re (d:=14) rfl rfl (succ_i64 (by omega)) ?_
  refine GG ?_
  exact RK.back (ih (k + 1) _ ⟨rfl,by omega⟩ (by omega)) ⟨rfl,rfl,rfl,trivial⟩
 ·refine RK.exit rfl ?_
  refine GG ?_
  refine RK.ret_of Tryz.func146 (res1 rfl rfl) ?_ _
  exact ⟨_,rfl,rfl,rfl⟩
theorem sort_before {fs:List En} (hs:SortE fs) {j:Nat} {y:En} (hy:fs[j]?=some y) {t:Nat} {a:En} (ht:t < j) (ha:fs[t]?=some a):ltE a y:=by
 have hj:=(List.getElem?_eq_some_iff.1 hy)
 have hta:=(List.getElem?_eq_some_iff.1 ha)
 have:=List.pairwise_iff_getElem.1 hs t j hta.1 hj.1 ht
 rwa [hta.2,hj.2] at this
theorem putD_ok (w : World) (q : Nat) (fs : List En) (v : Value) (h : QD w q fs v) (hle : fs.length ≤ 1000) (hs : SortE fs) (id due : Int) (hno : ∀ e ∈ fs, e.id ≠ id) :
    Fx Tryz.prog 113 [pp q,.int .i64 id,.int .u64 due] w (fun u w'=>∃ v',QD w' q (putE fs ⟨due,id⟩) v'∧Fresh w.heap.size v'∧Mod (·=q) w w'):=by
  have hsl:=Sl.own (M:=No) h.row (fun _ _ h=>h)
  obtain ⟨ad,c,rfl,hcap⟩:=h.row.cap
  have hhi0:∀ j,j≤fs.length→∀ w3,Grow w w3→Sl No w3 (.slice ad j c) 2 j ((fs.take j).flatMap dueC):=fun j hj w3 h3=>(hsl.mod h3).takeF dueC_len hj
  have hlo0:∀ j,j≤fs.length→∀ w3,Grow w w3→Sl No w3 (.slice (fromAt ad c j 2) (fs.length - j) (c - j)) 2 (fs.length - j) ((fs.drop j).flatMap dueC):=fun j hj w3 h3=>(hsl.mod h3).fromF dueC_len hj hcap
  refine enter Tryz.func113 rfl rfl rfl _ (Pick.sub (l:=[0,1,2]) (.cons rfl (.cons rfl (.cons rfl .nil)))) ?_
  refine RK.seq ?_
  refine RK.region ?_
  iterate 2 refine RL.p rfl rfl ?_
  refine RL.op (.free rfl) rfl rfl (Does.call rfl e146 (dropD_ok _ q fs _ h hle id hno)) ?_
  rintro _ _ ⟨rfl,rfl⟩
  refine RL.done ?_
  refine RK.seq ?_
  refine RK.region ?_
  iterate 2 refine RL.p rfl rfl ?_
  refine RL.q (.free rfl) rfl rfl (Yld.fieldAddr fo172_0 rfl) ?_
  refine RL.q (.free rfl) rfl rfl (Yld.load p170 rfl (at1 (h.blk.cell rfl))) ?_
  refine RL.q (.free rfl) rfl rfl (Yld.lenSl u170 rfl) ?_
  refine RL.p rfl rfl ?_
  refine RL.done ?_
  refine RK.seq ?_
  refine RK.block ?_
  refine RK.loop (fun j:Nat=>[(0,pp q),(1,.int .i64 id),(2,.int .u64 due),(6,.int .i64 (j:Int))]) (fun j w'=>w=w'∧j≤fs.length∧∀ y∈fs.drop j,ltE ⟨due,id⟩ y) (fun j=>j) fs.length ⟨rfl,rfl,rfl,rfl,trivial⟩ ⟨rfl,Nat.le_refl _,by simp⟩ (fun j w' hI ih=>?_)
  obtain ⟨rfl,hj,hD⟩:=hI
  have hhi:=hhi0 j hj
  have hlo:=hlo0 j hj
  iterate 2 refine RK.seq ?_
  refine RK.region ?_
  iterate 3 refine RL.p rfl rfl ?_
  first | refine RL.splitD (d:=17) rfl rfl (fun h16=>?_) (fun h16=>?_) | refine RL.splitN (d:=17) rfl rfl (fun h16=>?_) (fun h16=>?_) | refine RL.split (d:=17) rfl rfl (fun h16=>?_) (fun h16=>?_)
  · obtain ⟨y,hy⟩:∃ y,fs[j - 1]?=some y:=⟨fs[j - 1]'(by omega),List.getElem?_eq_getElem (by omega)⟩
    obtain ⟨b2,o2,c2',he2,_,_,hc2⟩:=hsl.elem dueC_len hy
    cases he2
    have hyn:=hno y (List.mem_of_getElem? hy)
    have hnext : ltE ⟨due, id⟩ y → ∀ z ∈ fs.drop (j - 1), ltE ⟨due, id⟩ z := fun h1 z hz => by
        rw [show fs.drop (j - 1)=y :: fs.drop j by rw [List.drop_eq_getElem_cons (by omega:j - 1 < fs.length),show j - 1 + 1=j by omega,(List.getElem?_eq_some_iff.1 hy).2]] at hz
        rcases List.mem_cons.1 hz with rfl | hz
        · exact h1
        · exact hD z hz
    have hprev : ¬ ltE ⟨due, id⟩ y → ∀ t a, t < j → fs[t]? = some a → ltE a ⟨due, id⟩ := fun h1 t a ht ha => by
        have h2:ltE y ⟨due,id⟩:=by unfold ltE at h1 ⊢;simp only at h1 ⊢;omega
        by_cases e:t=j - 1
        · subst e;rw [hy] at ha;cases ha;exact h2
        · exact ltE_trans (sort_before hs hy (by omega) ha) h2
    iterate 2 refine RL.q (.yes rfl rfl rfl) rfl rfl (Yld.pure rfl) ?_
    refine RL.q (.yes rfl rfl rfl) rfl rfl (Yld.fieldAddr fo172_0 rfl) ?_
    refine RL.q (.yes rfl rfl rfl) rfl rfl (Yld.load p170 rfl (at1 (h.blk.cell rfl))) ?_
    iterate 2 refine RL.q (.yes rfl rfl rfl) rfl rfl (Yld.pure rfl) ?_
    refine RL.re (d:=23) rfl rfl (sub_i64 (z:=((j - 1:Nat):Int)) (by omega) (by omega) (by omega)) ?_
    refine RL.q (.yes rfl rfl rfl) rfl rfl (Yld.indexAddrN u170 i201 rfl rfl (by omega)) ?_
    refine RL.q (.yes rfl rfl rfl) rfl rfl (Yld.fieldAddr fo201_1 rfl) ?_
    refine RL.q (.yes rfl rfl rfl) rfl rfl (Yld.load p22 rfl (at1 (hc2 1 _ rfl))) ?_
    iterate 3 refine RL.q (.yes rfl rfl rfl) rfl rfl (Yld.pure rfl) ?_
    first | refine RL.splitD (d:=29) rfl rfl (fun h28=>?_) (fun h28=>?_) | refine RL.splitN (d:=29) rfl rfl (fun h28=>?_) (fun h28=>?_) | refine RL.split (d:=29) rfl rfl (fun h28=>?_) (fun h28=>?_)
    · iterate 24 refine RL.no (.no rfl rfl rfl rfl) rfl rfl ?_
      refine RL.q (.yes rfl rfl rfl) rfl rfl (Yld.pure rfl) ?_
      refine RL.p rfl rfl ?_
      refine RL.done ?_
      refine RK.condT rfl ?_
      refine RK.skip ?_
      refine RK.block ?_
      refine RK.region ?_
      iterate 2 refine RL.p rfl rfl ?_
      refine RL.re (d:=57) rfl rfl (sub_i64 (z:=((j - 1:Nat):Int)) (by omega) (by omega) (by omega)) ?_
      refine RL.p rfl rfl ?_
      refine RL.done ?_
      refine RK.inBlock ?_
      exact RK.back (ih (j - 1) _ ⟨rfl,by omega,hnext (.inl h28)⟩ (by omega)) ⟨rfl,rfl,rfl,rfl,trivial⟩
    · iterate 2 refine RL.q (.yes rfl rfl rfl) rfl rfl (Yld.pure rfl) ?_
      refine RL.q (.yes rfl rfl rfl) rfl rfl (Yld.fieldAddr fo172_0 rfl) ?_
      refine RL.q (.yes rfl rfl rfl) rfl rfl (Yld.load p170 rfl (at1 (h.blk.cell rfl))) ?_
      iterate 2 refine RL.q (.yes rfl rfl rfl) rfl rfl (Yld.pure rfl) ?_
      refine RL.re (d:=35) rfl rfl (sub_i64 (z:=((j - 1:Nat):Int)) (by omega) (by omega) (by omega)) ?_
      refine RL.q (.yes rfl rfl rfl) rfl rfl (Yld.indexAddrN u170 i201 rfl rfl (by omega)) ?_
      refine RL.q (.yes rfl rfl rfl) rfl rfl (Yld.fieldAddr fo201_1 rfl) ?_
      refine RL.q (.yes rfl rfl rfl) rfl rfl (Yld.load p22 rfl (at1 (hc2 1 _ rfl))) ?_
      iterate 3 refine RL.q (.yes rfl rfl rfl) rfl rfl (Yld.pure rfl) ?_
      first | refine RL.splitD (d:=41) rfl rfl (fun h40=>?_) (fun h40=>?_) | refine RL.splitN (d:=41) rfl rfl (fun h40=>?_) (fun h40=>?_) | refine RL.split (d:=41) rfl rfl (fun h40=>?_) (fun h40=>?_)
      · iterate 2 refine RL.q (.yes rfl rfl rfl) rfl rfl (Yld.pure rfl) ?_
        refine RL.q (.yes rfl rfl rfl) rfl rfl (Yld.fieldAddr fo172_0 rfl) ?_
        refine RL.q (.yes rfl rfl rfl) rfl rfl (Yld.load p170 rfl (at1 (h.blk.cell rfl))) ?_
        iterate 2 refine RL.q (.yes rfl rfl rfl) rfl rfl (Yld.pure rfl) ?_
        refine RL.re (d:=47) rfl rfl (sub_i64 (z:=((j - 1:Nat):Int)) (by omega) (by omega) (by omega)) ?_
        refine RL.q (.yes rfl rfl rfl) rfl rfl (Yld.indexAddrN u170 i201 rfl rfl (by omega)) ?_
        refine RL.q (.yes rfl rfl rfl) rfl rfl (Yld.fieldAddr fo201_0 rfl) ?_
        refine RL.q (.yes rfl rfl rfl) rfl rfl (Yld.load p3 rfl (at1 (hc2 0 _ rfl))) ?_
        iterate 4 refine RL.q (.yes rfl rfl rfl) rfl rfl (Yld.pure rfl) ?_
        refine RL.p rfl rfl ?_
        refine RL.done ?_
        first | refine RK.condD rfl (fun h52=>?_) (fun h52=>?_) | refine RK.condN rfl (fun h52=>?_) (fun h52=>?_) | refine RK.cond rfl (fun h52=>?_) (fun h52=>?_)
        · refine RK.skip ?_
          refine RK.block ?_
          refine RK.region ?_
          iterate 2 refine RL.p rfl rfl ?_
          refine RL.re (d:=57) rfl rfl (sub_i64 (z:=((j - 1:Nat):Int)) (by omega) (by omega) (by omega)) ?_
          refine RL.p rfl rfl ?_
          refine RL.done ?_
          refine RK.inBlock ?_
          exact RK.back (ih (j - 1) _ ⟨rfl,by omega,hnext (.inr ⟨h40.symm,h52⟩)⟩ (by omega)) ⟨rfl,rfl,rfl,rfl,trivial⟩
        · have hlow:=hprev (by unfold ltE;simp only;omega)
          obtain ⟨w9,hw9⟩:∃ w9,w9=w:=⟨_,rfl⟩
          have hgr:Grow w w9:=by rw [hw9];exact Mod.refl _ _
          have h9:=h.grow hgr
          rw [← hw9]
          have hgd:Grow w w9.drew:=hgr.trans (Mod.drew _ _)
          have hg:Grow w w:=Mod.refl _ _
          refine RK.exit rfl ?_
          refine RK.drawF (fun _=>False) [(0,false),(1,false),(2,false),(3,false),(4,false),(5,false),(6,false),(8,false),(9,false),(10,false),(13,false),(14,false),(15,false),(16,false),(17,false),(18,false)] 7 11 [(11,true),(12,true),(19,true),(20,false),(21,false),(22,true)] [(7,true),(12,true),(19,true),(20,false),(21,false),(22,true)] [22] mixed (by kernel_rfl) ?_
          iterate 3 refine DL.p rfl rfl rfl ?_
          refine DL.qf rfl (.free rfl) rfl rfl (Yld.fieldAddr fo172_0 rfl) ?_
          refine DL.q rfl (.free rfl) rfl rfl rfl (Yld.load p170 rfl (atM (h9.blk.cell rfl) (fun h=>h))) (Mod.drew _ _) ?_
          refine DL.p rfl rfl rfl ?_
          refine DL.qf rfl (.free rfl) rfl rfl (Yld.sliceHi u170 i201 (m:=j) rfl rfl (by omega)) ?_
          iterate 2 refine DL.p rfl rfl rfl ?_
          refine DL.qf rfl (.free rfl) rfl rfl (Yld.build (v:=.agg (dueC ⟨due,id⟩).toArray) rfl (fun w=>by kernel_rfl)) ?_
          iterate 2 refine DL.p rfl rfl rfl ?_
          refine DL.qf rfl (.free rfl) rfl rfl (Yld.fieldAddr fo172_0 rfl) ?_
          refine DL.q rfl (.free rfl) rfl rfl rfl (Yld.load p170 rfl (atM (h9.blk.cell rfl) (fun h=>h))) (Mod.drew _ _) ?_
          refine DL.p rfl rfl rfl ?_
          refine DL.qf rfl (.free rfl) rfl rfl (Yld.sliceFrom u170 i201 (m:=j) rfl rfl hj) ?_
          refine DL.fork ?_ ?_
          · refine DL.op rfl (.free rfl) rfl rfl (Does.append u170 i201 rfl rfl rfl rfl rfl (Row.nil _ _ _) (hhi _ hgd) (allOne_due _) (by omega)) ?_
            rintro u1 v1 ⟨hr1,hm1,hu1⟩
            have hg1:Grow w9.drew v1:=hm1.mono (fun b _ e=>by simp [Value.ownBlock] at e)
            refine ⟨(Mod.drew _ _).trans hg1,?_⟩
            refine DL.op rfl (.free rfl) rfl rfl (Does.slice1 u170 i201 rfl rfl rfl rfl rfl) ?_
            rintro _ v2 ⟨b2,rfl,hn2⟩
            refine ⟨((Mod.drew _ _).trans hg1).trans hn2.grow,?_⟩
            refine DL.op rfl (.free rfl) rfl rfl (Does.append u170 i201 rfl rfl rfl rfl rfl (hr1.mod hn2.grow (fun _ _ h=>h)) (Sl.new hn2 2 1 rfl (by omega) (fun h=>h)) (rfl) (by omega)) ?_
            rintro u3 v3 ⟨hr3,hm3,hu3⟩
            have hf1 : Fresh w9.drew.heap.size u1 := fun b e => by
                rcases hu1 with h | h <;> rw [h] at e
                · simp [Value.ownBlock] at e
                · cases e;omega
            have hf3 : Fresh w9.drew.heap.size u3 := fun b e => by
                have h1:=hg1.size;have h2:=hn2.size
                rcases hu3 with h | h <;> rw [h] at e
                · exact hf1 b e
                · cases e;omega
            have hg13:Grow w9.drew v3:=(hg1.trans hn2.grow).then hm3 (fun b hb e=>by have:=hf1 b e;omega)
            refine ⟨(Mod.drew _ _).trans hg13,?_⟩
            refine DL.op rfl (.free rfl) rfl rfl (Does.append u170 i201 rfl rfl rfl rfl rfl (hr3) (hlo _ (hgd.trans hg13)) (allOne_due _) (by omega)) ?_
            rintro u4 v4 ⟨hr4,hm4,hu4⟩
            have hg14:Grow w9.drew v4:=hg13.then hm4 (fun b hb e=>by have:=hf3 b e;omega)
            have hf4 : Fresh w.heap.size u4 := fun b e => by
                have h1:=hg13.size;have h2:=(hg.trans hgd).size
                rcases hu4 with h | h <;> rw [h] at e
                · have:=hf3 b e;omega
                · cases e;omega
            refine ⟨(Mod.drew _ _).trans hg14,?_⟩
            obtain ⟨ad4,c4,e4⟩:=hr4.slice
            clear hu4
            subst e4
            have hbq:=h9.blk.mod ((Mod.drew No w9).trans hg14) (fun h=>h)
            refine DL.p rfl rfl rfl ?_
            refine DL.qf rfl (.free rfl) rfl rfl (Yld.fieldAddr fo172_0 rfl) ?_
            refine DL.opT rfl (.free rfl) rfl rfl (Does.store i170 rfl rfl rfl hbq (.z)) ?_
            rintro _ w8 ⟨hb8,hm8,_⟩
            have hI : putE fs ⟨due, id⟩ = fs.take j ++ ⟨due, id⟩ :: fs.drop j := putE_at hj hlow (fun t a ht ha => by
                have h1:=hD a (List.mem_of_getElem? (i:=t - j) (by rw [List.getElem?_drop,show j + (t - j)=t by omega];exact ha))
                exact fun h2=>ltE_irrefl _ (ltE_trans h1 h2))
            have hrow:=laidF (f:=dueC) (x:=(⟨due,id⟩:En)) rfl hj hI hr4
            have hrow8:=hrow.mod hm8 (fun x e1 e2=>(hrow.ty e1).ne hbq.ty rfl e2)
            have hg09:=(hgd.trans hg14)
            refine DL.done ?_
            refine RK.end_of Tryz.func113 (res0 rfl) ?_
            exact ⟨_,rfl,_,⟨hb8,hrow8⟩,by rw [hw9];exact hf4,by rw [hw9];exact (Mod.any' hg09).trans hm8⟩
          · refine DL.op rfl (.free rfl) rfl rfl (Does.slice1 u170 i201 rfl rfl rfl rfl rfl) ?_
            rintro _ v2 ⟨b2,rfl,hn2⟩
            refine ⟨(Mod.drew _ _).trans hn2.grow,?_⟩
            refine DL.op rfl (.free rfl) rfl rfl (Does.append u170 i201 rfl rfl rfl rfl rfl (Row.nil _ _ _) (hhi _ (hgd.trans hn2.grow)) (allOne_due _) (by omega)) ?_
            rintro u1 v1 ⟨hr1,hm1,hu1⟩
            have hg1' : Grow v2 v1:=hm1.mono (fun b _ e=>by simp [Value.ownBlock] at e)
            have hg1:Grow w9.drew v1:=hn2.grow.trans hg1'
            refine ⟨(Mod.drew _ _).trans hg1,?_⟩
            refine DL.op rfl (.free rfl) rfl rfl (Does.append u170 i201 rfl rfl rfl rfl rfl (hr1) ((Sl.new hn2 2 1 rfl (by omega) (fun h=>h)).mod hg1') (rfl) (by omega)) ?_
            rintro u3 v3 ⟨hr3,hm3,hu3⟩
            have hf1 : Fresh w9.drew.heap.size u1 := fun b e => by
                have h2:=hn2.size
                rcases hu1 with h | h <;> rw [h] at e
                · simp [Value.ownBlock] at e
                · cases e;omega
            have hf3 : Fresh w9.drew.heap.size u3 := fun b e => by
                have h1:=hg1.size
                rcases hu3 with h | h <;> rw [h] at e
                · exact hf1 b e
                · cases e;omega
            have hg13:Grow w9.drew v3:=hg1.then hm3 (fun b hb e=>by have:=hf1 b e;omega)
            refine ⟨(Mod.drew _ _).trans hg13,?_⟩
            refine DL.op rfl (.free rfl) rfl rfl (Does.append u170 i201 rfl rfl rfl rfl rfl (hr3) (hlo _ (hgd.trans hg13)) (allOne_due _) (by omega)) ?_
            rintro u4 v4 ⟨hr4,hm4,hu4⟩
            have hg14:Grow w9.drew v4:=hg13.then hm4 (fun b hb e=>by have:=hf3 b e;omega)
            have hf4 : Fresh w.heap.size u4 := fun b e => by
                have h1:=hg13.size;have h2:=(hg.trans hgd).size
                rcases hu4 with h | h <;> rw [h] at e
                · have:=hf3 b e;omega
                · cases e;omega
            refine ⟨(Mod.drew _ _).trans hg14,?_⟩
            obtain ⟨ad4,c4,e4⟩:=hr4.slice
            clear hu4
            subst e4
            have hbq:=h9.blk.mod ((Mod.drew No w9).trans hg14) (fun h=>h)
            refine DL.p rfl rfl rfl ?_
            refine DL.qf rfl (.free rfl) rfl rfl (Yld.fieldAddr fo172_0 rfl) ?_
            refine DL.opT rfl (.free rfl) rfl rfl (Does.store i170 rfl rfl rfl hbq (.z)) ?_
            rintro _ w8 ⟨hb8,hm8,_⟩
            have hI : putE fs ⟨due, id⟩ = fs.take j ++ ⟨due, id⟩ :: fs.drop j := putE_at hj hlow (fun t a ht ha => by
                have h1:=hD a (List.mem_of_getElem? (i:=t - j) (by rw [List.getElem?_drop,show j + (t - j)=t by omega];exact ha))
                exact fun h2=>ltE_irrefl _ (ltE_trans h1 h2))
            have hrow:=laidF (f:=dueC) (x:=(⟨due,id⟩:En)) rfl hj hI hr4
            have hrow8:=hrow.mod hm8 (fun x e1 e2=>(hrow.ty e1).ne hbq.ty rfl e2)
            have hg09:=(hgd.trans hg14)
            refine DL.done ?_
            refine RK.end_of Tryz.func113 (res0 rfl) ?_
            exact ⟨_,rfl,_,⟨hb8,hrow8⟩,by rw [hw9];exact hf4,by rw [hw9];exact (Mod.any' hg09).trans hm8⟩
      · have hlow:=hprev (by unfold ltE;simp only;omega)
        obtain ⟨w9,hw9⟩:∃ w9,w9=w:=⟨_,rfl⟩
        have hgr:Grow w w9:=by rw [hw9];exact Mod.refl _ _
        have h9:=h.grow hgr
        rw [← hw9]
        have hgd:Grow w w9.drew:=hgr.trans (Mod.drew _ _)
        have hg:Grow w w:=Mod.refl _ _
        iterate 11 refine RL.no (.no rfl rfl rfl rfl) rfl rfl ?_
        iterate 2 refine RL.q (.yes rfl rfl rfl) rfl rfl (Yld.pure rfl) ?_
        refine RL.p rfl rfl ?_
        refine RL.done ?_
        refine RK.condF rfl ?_
        refine RK.exit rfl ?_
        refine RK.drawF (fun _=>False) [(0,false),(1,false),(2,false),(3,false),(4,false),(5,false),(6,false),(8,false),(9,false),(10,false),(13,false),(14,false),(15,false),(16,false),(17,false),(18,false)] 7 11 [(11,true),(12,true),(19,true),(20,false),(21,false),(22,true)] [(7,true),(12,true),(19,true),(20,false),(21,false),(22,true)] [22] mixed (by kernel_rfl) ?_
        iterate 3 refine DL.p rfl rfl rfl ?_
        refine DL.qf rfl (.free rfl) rfl rfl (Yld.fieldAddr fo172_0 rfl) ?_
        refine DL.q rfl (.free rfl) rfl rfl rfl (Yld.load p170 rfl (atM (h9.blk.cell rfl) (fun h=>h))) (Mod.drew _ _) ?_
        refine DL.p rfl rfl rfl ?_
        refine DL.qf rfl (.free rfl) rfl rfl (Yld.sliceHi u170 i201 (m:=j) rfl rfl (by omega)) ?_
        iterate 2 refine DL.p rfl rfl rfl ?_
        refine DL.qf rfl (.free rfl) rfl rfl (Yld.build (v:=.agg (dueC ⟨due,id⟩).toArray) rfl (fun w=>by kernel_rfl)) ?_
        iterate 2 refine DL.p rfl rfl rfl ?_
        refine DL.qf rfl (.free rfl) rfl rfl (Yld.fieldAddr fo172_0 rfl) ?_
        refine DL.q rfl (.free rfl) rfl rfl rfl (Yld.load p170 rfl (atM (h9.blk.cell rfl) (fun h=>h))) (Mod.drew _ _) ?_
        refine DL.p rfl rfl rfl ?_
        refine DL.qf rfl (.free rfl) rfl rfl (Yld.sliceFrom u170 i201 (m:=j) rfl rfl hj) ?_
        refine DL.fork ?_ ?_
        · refine DL.op rfl (.free rfl) rfl rfl (Does.append u170 i201 rfl rfl rfl rfl rfl (Row.nil _ _ _) (hhi _ hgd) (allOne_due _) (by omega)) ?_
          rintro u1 v1 ⟨hr1,hm1,hu1⟩
          have hg1:Grow w9.drew v1:=hm1.mono (fun b _ e=>by simp [Value.ownBlock] at e)
          refine ⟨(Mod.drew _ _).trans hg1,?_⟩
          refine DL.op rfl (.free rfl) rfl rfl (Does.slice1 u170 i201 rfl rfl rfl rfl rfl) ?_
          rintro _ v2 ⟨b2,rfl,hn2⟩
          refine ⟨((Mod.drew _ _).trans hg1).trans hn2.grow,?_⟩
          refine DL.op rfl (.free rfl) rfl rfl (Does.append u170 i201 rfl rfl rfl rfl rfl (hr1.mod hn2.grow (fun _ _ h=>h)) (Sl.new hn2 2 1 rfl (by omega) (fun h=>h)) (rfl) (by omega)) ?_
          rintro u3 v3 ⟨hr3,hm3,hu3⟩
          have hf1 : Fresh w9.drew.heap.size u1 := fun b e => by
              rcases hu1 with h | h <;> rw [h] at e
              · simp [Value.ownBlock] at e
              · cases e;omega
          have hf3 : Fresh w9.drew.heap.size u3 := fun b e => by
              have h1:=hg1.size;have h2:=hn2.size
              rcases hu3 with h | h <;> rw [h] at e
              · exact hf1 b e
              · cases e;omega
          have hg13:Grow w9.drew v3:=(hg1.trans hn2.grow).then hm3 (fun b hb e=>by have:=hf1 b e;omega)
          refine ⟨(Mod.drew _ _).trans hg13,?_⟩
          refine DL.op rfl (.free rfl) rfl rfl (Does.append u170 i201 rfl rfl rfl rfl rfl (hr3) (hlo _ (hgd.trans hg13)) (allOne_due _) (by omega)) ?_
          rintro u4 v4 ⟨hr4,hm4,hu4⟩
          have hg14:Grow w9.drew v4:=hg13.then hm4 (fun b hb e=>by have:=hf3 b e;omega)
          have hf4 : Fresh w.heap.size u4 := fun b e => by
              have h1:=hg13.size;have h2:=(hg.trans hgd).size
              rcases hu4 with h | h <;> rw [h] at e
              · have:=hf3 b e;omega
              · cases e;omega
          refine ⟨(Mod.drew _ _).trans hg14,?_⟩
          obtain ⟨ad4,c4,e4⟩:=hr4.slice
          clear hu4
          subst e4
          have hbq:=h9.blk.mod ((Mod.drew No w9).trans hg14) (fun h=>h)
          refine DL.p rfl rfl rfl ?_
          refine DL.qf rfl (.free rfl) rfl rfl (Yld.fieldAddr fo172_0 rfl) ?_
          refine DL.opT rfl (.free rfl) rfl rfl (Does.store i170 rfl rfl rfl hbq (.z)) ?_
          rintro _ w8 ⟨hb8,hm8,_⟩
          have hI : putE fs ⟨due, id⟩ = fs.take j ++ ⟨due, id⟩ :: fs.drop j := putE_at hj hlow (fun t a ht ha => by
              have h1:=hD a (List.mem_of_getElem? (i:=t - j) (by rw [List.getElem?_drop,show j + (t - j)=t by omega];exact ha))
              exact fun h2=>ltE_irrefl _ (ltE_trans h1 h2))
          have hrow:=laidF (f:=dueC) (x:=(⟨due,id⟩:En)) rfl hj hI hr4
          have hrow8:=hrow.mod hm8 (fun x e1 e2=>(hrow.ty e1).ne hbq.ty rfl e2)
          have hg09:=(hgd.trans hg14)
          refine DL.done ?_
          refine RK.end_of Tryz.func113 (res0 rfl) ?_
          exact ⟨_,rfl,_,⟨hb8,hrow8⟩,by rw [hw9];exact hf4,by rw [hw9];exact (Mod.any' hg09).trans hm8⟩
        · refine DL.op rfl (.free rfl) rfl rfl (Does.slice1 u170 i201 rfl rfl rfl rfl rfl) ?_
          rintro _ v2 ⟨b2,rfl,hn2⟩
          refine ⟨(Mod.drew _ _).trans hn2.grow,?_⟩
          refine DL.op rfl (.free rfl) rfl rfl (Does.append u170 i201 rfl rfl rfl rfl rfl (Row.nil _ _ _) (hhi _ (hgd.trans hn2.grow)) (allOne_due _) (by omega)) ?_
          rintro u1 v1 ⟨hr1,hm1,hu1⟩
          have hg1' : Grow v2 v1:=hm1.mono (fun b _ e=>by simp [Value.ownBlock] at e)
          have hg1:Grow w9.drew v1:=hn2.grow.trans hg1'
          refine ⟨(Mod.drew _ _).trans hg1,?_⟩
          refine DL.op rfl (.free rfl) rfl rfl (Does.append u170 i201 rfl rfl rfl rfl rfl (hr1) ((Sl.new hn2 2 1 rfl (by omega) (fun h=>h)).mod hg1') (rfl) (by omega)) ?_
          rintro u3 v3 ⟨hr3,hm3,hu3⟩
          have hf1 : Fresh w9.drew.heap.size u1 := fun b e => by
              have h2:=hn2.size
              rcases hu1 with h | h <;> rw [h] at e
              · simp [Value.ownBlock] at e
              · cases e;omega
          have hf3 : Fresh w9.drew.heap.size u3 := fun b e => by
              have h1:=hg1.size
              rcases hu3 with h | h <;> rw [h] at e
              · exact hf1 b e
              · cases e;omega
          have hg13:Grow w9.drew v3:=hg1.then hm3 (fun b hb e=>by have:=hf1 b e;omega)
          refine ⟨(Mod.drew _ _).trans hg13,?_⟩
          refine DL.op rfl (.free rfl) rfl rfl (Does.append u170 i201 rfl rfl rfl rfl rfl (hr3) (hlo _ (hgd.trans hg13)) (allOne_due _) (by omega)) ?_
          rintro u4 v4 ⟨hr4,hm4,hu4⟩
          have hg14:Grow w9.drew v4:=hg13.then hm4 (fun b hb e=>by have:=hf3 b e;omega)
          have hf4 : Fresh w.heap.size u4 := fun b e => by
              have h1:=hg13.size;have h2:=(hg.trans hgd).size
              rcases hu4 with h | h <;> rw [h] at e
              · have:=hf3 b e;omega
              · cases e;omega
          refine ⟨(Mod.drew _ _).trans hg14,?_⟩
          obtain ⟨ad4,c4,e4⟩:=hr4.slice
          clear hu4
          subst e4
          have hbq:=h9.blk.mod ((Mod.drew No w9).trans hg14) (fun h=>h)
          refine DL.p rfl rfl rfl ?_
          refine DL.qf rfl (.free rfl) rfl rfl (Yld.fieldAddr fo172_0 rfl) ?_
          refine DL.opT rfl (.free rfl) rfl rfl (Does.store i170 rfl rfl rfl hbq (.z)) ?_
          rintro _ w8 ⟨hb8,hm8,_⟩
          have hI : putE fs ⟨due, id⟩ = fs.take j ++ ⟨due, id⟩ :: fs.drop j := putE_at hj hlow (fun t a ht ha => by
              have h1:=hD a (List.mem_of_getElem? (i:=t - j) (by rw [List.getElem?_drop,show j + (t - j)=t by omega];exact ha))
              exact fun h2=>ltE_irrefl _ (ltE_trans h1 h2))
          have hrow:=laidF (f:=dueC) (x:=(⟨due,id⟩:En)) rfl hj hI hr4
          have hrow8:=hrow.mod hm8 (fun x e1 e2=>(hrow.ty e1).ne hbq.ty rfl e2)
          have hg09:=(hgd.trans hg14)
          refine DL.done ?_
          refine RK.end_of Tryz.func113 (res0 rfl) ?_
          exact ⟨_,rfl,_,⟨hb8,hrow8⟩,by rw [hw9];exact hf4,by rw [hw9];exact (Mod.any' hg09).trans hm8⟩
  · have hlow:∀ t a,t < j→fs[t]?=some a→ltE a ⟨due,id⟩:=fun t a ht _=>by omega
    obtain ⟨w9,hw9⟩:∃ w9,w9=w:=⟨_,rfl⟩
    have hgr:Grow w w9:=by rw [hw9];exact Mod.refl _ _
    have h9:=h.grow hgr
    rw [← hw9]
    have hgd:Grow w w9.drew:=hgr.trans (Mod.drew _ _)
    have hg:Grow w w:=Mod.refl _ _
    iterate 37 refine RL.no (.no rfl rfl rfl rfl) rfl rfl ?_
    refine RL.p rfl rfl ?_
    refine RL.done ?_
    refine RK.condF rfl ?_
    refine RK.exit rfl ?_
    refine RK.drawF (fun _=>False) [(0,false),(1,false),(2,false),(3,false),(4,false),(5,false),(6,false),(8,false),(9,false),(10,false),(13,false),(14,false),(15,false),(16,false),(17,false),(18,false)] 7 11 [(11,true),(12,true),(19,true),(20,false),(21,false),(22,true)] [(7,true),(12,true),(19,true),(20,false),(21,false),(22,true)] [22] mixed (by kernel_rfl) ?_
    iterate 3 refine DL.p rfl rfl rfl ?_
    refine DL.qf rfl (.free rfl) rfl rfl (Yld.fieldAddr fo172_0 rfl) ?_
    refine DL.q rfl (.free rfl) rfl rfl rfl (Yld.load p170 rfl (atM (h9.blk.cell rfl) (fun h=>h))) (Mod.drew _ _) ?_
    refine DL.p rfl rfl rfl ?_
    refine DL.qf rfl (.free rfl) rfl rfl (Yld.sliceHi u170 i201 (m:=j) rfl rfl (by omega)) ?_
    iterate 2 refine DL.p rfl rfl rfl ?_
    refine DL.qf rfl (.free rfl) rfl rfl (Yld.build (v:=.agg (dueC ⟨due,id⟩).toArray) rfl (fun w=>by kernel_rfl)) ?_
    iterate 2 refine DL.p rfl rfl rfl ?_
    refine DL.qf rfl (.free rfl) rfl rfl (Yld.fieldAddr fo172_0 rfl) ?_
    refine DL.q rfl (.free rfl) rfl rfl rfl (Yld.load p170 rfl (atM (h9.blk.cell rfl) (fun h=>h))) (Mod.drew _ _) ?_
    refine DL.p rfl rfl rfl ?_
    refine DL.qf rfl (.free rfl) rfl rfl (Yld.sliceFrom u170 i201 (m:=j) rfl rfl hj) ?_
    refine DL.fork ?_ ?_
    · refine DL.op rfl (.free rfl) rfl rfl (Does.append u170 i201 rfl rfl rfl rfl rfl (Row.nil _ _ _) (hhi _ hgd) (allOne_due _) (by omega)) ?_
      rintro u1 v1 ⟨hr1,hm1,hu1⟩
      have hg1:Grow w9.drew v1:=hm1.mono (fun b _ e=>by simp [Value.ownBlock] at e)
      refine ⟨(Mod.drew _ _).trans hg1,?_⟩
      refine DL.op rfl (.free rfl) rfl rfl (Does.slice1 u170 i201 rfl rfl rfl rfl rfl) ?_
      rintro _ v2 ⟨b2,rfl,hn2⟩
      refine ⟨((Mod.drew _ _).trans hg1).trans hn2.grow,?_⟩
      refine DL.op rfl (.free rfl) rfl rfl (Does.append u170 i201 rfl rfl rfl rfl rfl (hr1.mod hn2.grow (fun _ _ h=>h)) (Sl.new hn2 2 1 rfl (by omega) (fun h=>h)) (rfl) (by omega)) ?_
      rintro u3 v3 ⟨hr3,hm3,hu3⟩
      have hf1 : Fresh w9.drew.heap.size u1 := fun b e => by
          rcases hu1 with h | h <;> rw [h] at e
          · simp [Value.ownBlock] at e
          · cases e;omega
      have hf3 : Fresh w9.drew.heap.size u3 := fun b e => by
          have h1:=hg1.size;have h2:=hn2.size
          rcases hu3 with h | h <;> rw [h] at e
          · exact hf1 b e
          · cases e;omega
      have hg13:Grow w9.drew v3:=(hg1.trans hn2.grow).then hm3 (fun b hb e=>by have:=hf1 b e;omega)
      refine ⟨(Mod.drew _ _).trans hg13,?_⟩
      refine DL.op rfl (.free rfl) rfl rfl (Does.append u170 i201 rfl rfl rfl rfl rfl (hr3) (hlo _ (hgd.trans hg13)) (allOne_due _) (by omega)) ?_
      rintro u4 v4 ⟨hr4,hm4,hu4⟩
      have hg14:Grow w9.drew v4:=hg13.then hm4 (fun b hb e=>by have:=hf3 b e;omega)
      have hf4 : Fresh w.heap.size u4 := fun b e => by
          have h1:=hg13.size;have h2:=(hg.trans hgd).size
          rcases hu4 with h | h <;> rw [h] at e
          · have:=hf3 b e;omega
          · cases e;omega
      refine ⟨(Mod.drew _ _).trans hg14,?_⟩
      obtain ⟨ad4,c4,e4⟩:=hr4.slice
      clear hu4
      subst e4
      have hbq:=h9.blk.mod ((Mod.drew No w9).trans hg14) (fun h=>h)
      refine DL.p rfl rfl rfl ?_
      refine DL.qf rfl (.free rfl) rfl rfl (Yld.fieldAddr fo172_0 rfl) ?_
      refine DL.opT rfl (.free rfl) rfl rfl (Does.store i170 rfl rfl rfl hbq (.z)) ?_
      rintro _ w8 ⟨hb8,hm8,_⟩
      have hI : putE fs ⟨due, id⟩ = fs.take j ++ ⟨due, id⟩ :: fs.drop j := putE_at hj hlow (fun t a ht ha => by
          have h1:=hD a (List.mem_of_getElem? (i:=t - j) (by rw [List.getElem?_drop,show j + (t - j)=t by omega];exact ha))
          exact fun h2=>ltE_irrefl _ (ltE_trans h1 h2))
      have hrow:=laidF (f:=dueC) (x:=(⟨due,id⟩:En)) rfl hj hI hr4
      have hrow8:=hrow.mod hm8 (fun x e1 e2=>(hrow.ty e1).ne hbq.ty rfl e2)
      have hg09:=(hgd.trans hg14)
      refine DL.done ?_
      refine RK.end_of Tryz.func113 (res0 rfl) ?_
      exact ⟨_,rfl,_,⟨hb8,hrow8⟩,by rw [hw9];exact hf4,by rw [hw9];exact (Mod.any' hg09).trans hm8⟩
    · refine DL.op rfl (.free rfl) rfl rfl (Does.slice1 u170 i201 rfl rfl rfl rfl rfl) ?_
      rintro _ v2 ⟨b2,rfl,hn2⟩
      refine ⟨(Mod.drew _ _).trans hn2.grow,?_⟩
      refine DL.op rfl (.free rfl) rfl rfl (Does.append u170 i201 rfl rfl rfl rfl rfl (Row.nil _ _ _) (hhi _ (hgd.trans hn2.grow)) (allOne_due _) (by omega)) ?_
      rintro u1 v1 ⟨hr1,hm1,hu1⟩
      have hg1' : Grow v2 v1:=hm1.mono (fun b _ e=>by simp [Value.ownBlock] at e)
      have hg1:Grow w9.drew v1:=hn2.grow.trans hg1'
      refine ⟨(Mod.drew _ _).trans hg1,?_⟩
      refine DL.op rfl (.free rfl) rfl rfl (Does.append u170 i201 rfl rfl rfl rfl rfl (hr1) ((Sl.new hn2 2 1 rfl (by omega) (fun h=>h)).mod hg1') (rfl) (by omega)) ?_
      rintro u3 v3 ⟨hr3,hm3,hu3⟩
      have hf1 : Fresh w9.drew.heap.size u1 := fun b e => by
          have h2:=hn2.size
          rcases hu1 with h | h <;> rw [h] at e
          · simp [Value.ownBlock] at e
          · cases e;omega
      have hf3 : Fresh w9.drew.heap.size u3 := fun b e => by
          have h1:=hg1.size
          rcases hu3 with h | h <;> rw [h] at e
          · exact hf1 b e
          · cases e;omega
      have hg13:Grow w9.drew v3:=hg1.then hm3 (fun b hb e=>by have:=hf1 b e;omega)
      refine ⟨(Mod.drew _ _).trans hg13,?_⟩
      refine DL.op rfl (.free rfl) rfl rfl (Does.append u170 i201 rfl rfl rfl rfl rfl (hr3) (hlo _ (hgd.trans hg13)) (allOne_due _) (by omega)) ?_
      rintro u4 v4 ⟨hr4,hm4,hu4⟩
      have hg14:Grow w9.drew v4:=hg13.then hm4 (fun b hb e=>by have:=hf3 b e;omega)
      have hf4 : Fresh w.heap.size u4 := fun b e => by
          have h1:=hg13.size;have h2:=(hg.trans hgd).size
          rcases hu4 with h | h <;> rw [h] at e
          · have:=hf3 b e;omega
          · cases e;omega
      refine ⟨(Mod.drew _ _).trans hg14,?_⟩
      obtain ⟨ad4,c4,e4⟩:=hr4.slice
      clear hu4
      subst e4
      have hbq:=h9.blk.mod ((Mod.drew No w9).trans hg14) (fun h=>h)
      refine DL.p rfl rfl rfl ?_
      refine DL.qf rfl (.free rfl) rfl rfl (Yld.fieldAddr fo172_0 rfl) ?_
      refine DL.opT rfl (.free rfl) rfl rfl (Does.store i170 rfl rfl rfl hbq (.z)) ?_
      rintro _ w8 ⟨hb8,hm8,_⟩
      have hI : putE fs ⟨due, id⟩ = fs.take j ++ ⟨due, id⟩ :: fs.drop j := putE_at hj hlow (fun t a ht ha => by
          have h1:=hD a (List.mem_of_getElem? (i:=t - j) (by rw [List.getElem?_drop,show j + (t - j)=t by omega];exact ha))
          exact fun h2=>ltE_irrefl _ (ltE_trans h1 h2))
      have hrow:=laidF (f:=dueC) (x:=(⟨due,id⟩:En)) rfl hj hI hr4
      have hrow8:=hrow.mod hm8 (fun x e1 e2=>(hrow.ty e1).ne hbq.ty rfl e2)
      have hg09:=(hgd.trans hg14)
      refine DL.done ?_
      refine RK.end_of Tryz.func113 (res0 rfl) ?_
      exact ⟨_,rfl,_,⟨hb8,hrow8⟩,by rw [hw9];exact hf4,by rw [hw9];exact (Mod.any' hg09).trans hm8⟩
theorem ripeD_ok (w:World) (q:Nat) (fs:List En) (v:Value) (h:QD w q fs v) (hle:fs.length≤1000) (now:Int) (hdue:∀ e∈fs,e.due≤now) :
  Fx Tryz.prog 114 [pp q,.int .u64 now] w (fun u w'=>Row w' 3 1 u fs.length (ints (fs.map (·.id)))∧Fresh w.heap.size u∧Mod (·=q) w w'):=by
 have hsl:=Sl.own (M:=fun b=>b=q∨w.heap.size≤b) h.row (fun k hk e=>e.elim (fun e=>(h.row.ty hk).ne h.blk.ty rfl e) (fun e=>by have:=h.row.lt hk;omega))
 have hqw:=h.blk.lt
 obtain ⟨ad,c,rfl,hcap⟩:=h.row.cap
 refine enter Tryz.func114 rfl rfl rfl _ (Pick.sub (l:=[0,1]) (.cons rfl (.cons rfl .nil))) ?_
 refine GG ?_
 refine RK.loop (fun s:Nat×Value=>[(0,pp q),(1,.int .u64 now),(5,s.2)]) (fun s w'=>s.1≤fs.length∧(∃ ad c,Blk w' q 172 [.slice ad (fs.drop s.1).length c]∧Sl (fun b=>b=q∨w.heap.size≤b) w' (.slice ad (fs.drop s.1).length c) 2 (fs.drop s.1).length ((fs.drop s.1).flatMap dueC)∧(fs.drop s.1).length≤c)∧Row w' 3 1 s.2 s.1 (ints ((fs.take s.1).map (·.id)))∧Fresh w.heap.size s.2∧Mod (·=q) w w') (fun s=>fs.length - s.1) (0,.slice none 0 0) ⟨rfl,rfl,rfl,trivial⟩ ⟨by simp,⟨ad,c,by simpa using h.blk,by simpa using hsl,by simpa using hcap⟩,by simpa using Row.nil _ _ _,fun b e=>by simp [Value.ownBlock] at e,Mod.refl _ _⟩ (fun s w' hI ih=>?_)
 obtain ⟨k,u⟩:=s
 obtain ⟨hk,⟨adq,cq,hbq,hsq,hcq⟩,hr,hf,hm⟩:=hI
 simp only at hk hbq hsq hcq hr hf
 have hlen:(fs.drop k).length=fs.length - k:=by simp
 have hsz:=hm.size
 refine GG ?_
 refine QQ (Yld.fieldAddr fo172_0 rfl) ?_
 refine QQ (Yld.load p170 rfl (at1 (hbq.cell rfl))) ?_
 refine QQ (Yld.lenSl u170 rfl) ?_
 refine GG ?_
 refine SP 12 (fun h11=>?_) (fun h11=>?_)
 ·have hkl:k < fs.length:=by omega
  obtain ⟨x,hx⟩:∃ x,fs[k]?=some x:=⟨fs[k]'(by omega),List.getElem?_eq_getElem (by omega)⟩
  have hx0:(fs.drop k)[0]?=some x:=by rw [List.getElem?_drop];exact hx
  obtain ⟨b1,o1,c1',he1,hnb1,_,hc1⟩:=hsq.elem dueC_len hx0
  cases he1
  iterate 2 refine QQ (Yld.pure rfl) ?_
  refine QQ (Yld.fieldAddr fo172_0 rfl) ?_
  refine QQ (Yld.load p170 rfl (at1 (hbq.cell rfl))) ?_
  refine QQ (Yld.indexAddrN u170 i201 rfl rfl (by omega)) ?_
  refine QQ (Yld.fieldAddr fo201_1 rfl) ?_
  refine QQ (Yld.load p22 rfl (at1 (hc1 1 _ rfl))) ?_
  iterate 2 refine QQ (Yld.pure rfl) ?_
  refine GG ?_
  refine RK.condT (hcT rfl (decide_eq_true (hdue x (List.mem_of_getElem? hx)))) ?_
  refine GG ?_
  refine QQ (Yld.fieldAddr fo172_0 rfl) ?_
  refine QQ (Yld.load p170 rfl (at1 (hbq.cell rfl))) ?_
  refine QQ (Yld.indexAddrN u170 i201 rfl rfl (by omega)) ?_
  refine QQ (Yld.fieldAddr fo201_0 rfl) ?_
  refine QQ (Yld.load p3 rfl (at1 (hc1 0 _ rfl))) ?_
  refine OP (Does.slice1 u35 i3 rfl rfl rfl rfl rfl) ?_
  rintro _ w2 ⟨b7,rfl,hn7⟩
  refine OP (Does.append u35 i3 rfl rfl rfl rfl rfl (hr.mod hn7.grow (fun _ _ h=>h)) (Sl.new hn7 1 1 rfl (by omega) (fun h=>h)) (rfl) (by omega)) ?_
  rintro u8 w3 ⟨hr8,hm8,hu8⟩
  have hz7:=hn7.grow.size
  have hu9:∀ b,u8.ownBlock=some b→w.heap.size≤b:=fun b e=>by
    rcases hu8 with h8 | h8
    ·rw [h8] at e;exact hf b e
    ·rw [h8] at e;cases e;omega
  have hb3:=(hbq.mod hn7.grow (fun h=>h)).mod hm8 (fun e=>by have:=hf q e;omega)
  have hs3:=(hsq.mod (Mod.any' hn7.grow)).mod (hm8.mono fun b _ e=>.inr (hf b e))
  have hm03:Mod (·=q) w w3:=(hm.trans (Mod.any' hn7.grow)).then hm8 (fun b hb e=>by have:=hf b e;omega)
  refine GG ?_
  refine QQ (Yld.fieldAddr fo172_0 rfl) ?_
  refine QQ (Yld.load p170 rfl (at1 (hb3.cell rfl))) ?_
  refine QQ (Yld.sliceFrom u170 i201 (m:=1) rfl rfl (by omega)) ?_
  refine RL.p rfl rfl ?_
  refine QQ (Yld.fieldAddr fo172_0 rfl) ?_
  refine OQ (Does.store i170 rfl rfl rfl hb3 (.z)) ?_
  rintro _ w4 ⟨hb4,hm4,_⟩
  have hdr:(fs.drop k).drop 1=fs.drop (k + 1):=by rw [List.drop_drop]
  have hs3':=hs3.fromF dueC_len (j:=1) (by omega) hcq
  have hl1:(fs.drop k).length - 1=(fs.drop (k + 1)).length:=by simp;omega
  rw [hdr,hl1] at hs3'
  rw [hl1] at hb4
  have hr9:=hr8.mod hm4 (fun b e e2=>by have h9:=hu9 b e;have e' : b=q:=e2;omega)
  refine GG ?_
  exact RK.back (ih (k + 1,u8) _ ⟨by simp only;omega,⟨_,_,hb4,hs3'.mod (hm4.mono fun b _ e=>.inl e),by simp only;omega⟩,by
    simp only
    rw [List.take_add_one,hx,List.map_append]
    simp only [ints,List.map_append] at hr9 ⊢
    exact hr9,fun b e=>hu9 b e,hm03.trans hm4⟩ (by simp only;omega)) ⟨rfl,rfl,rfl,trivial⟩
 ·have ek:fs.take k=fs:=List.take_of_length_le (by omega)
  have ekl:k=fs.length:=by omega
  rw [ek] at hr
  subst ekl
  iterate 9 refine RL.no (.no rfl rfl rfl rfl) rfl rfl ?_
  refine GG ?_
  refine RK.condF rfl ?_
  refine RK.exit rfl ?_
  refine GG ?_
  refine RK.ret_of Tryz.func114 (res1 rfl rfl) ?_ _
  exact ⟨_,rfl,hr,hf,hm⟩
end Go.Proofs.YtbcbfjnlnmhpbaaGreat
set_option linter.unusedVariables false
set_option linter.unusedSimpArgs false
set_option maxHeartbeats 4000000
set_option maxRecDepth 100000
namespace Go.Proofs.YtbcbfjnlnmhpbaaGreat
open Go Go.X Go.Rex Ieee
structure One17 (c:CRows×CKeys) (id:Int) (k:Option ByteArray):Prop where
 ci:CI c
 look:∀ j,lookM c.2 j=if j=id then k else none
theorem One17.nil (id:Int):One17 ([],[]) id none:=⟨CI.nil,fun j=>by simp [lookM,placeM]⟩
theorem One17.row {c:CRows×CKeys} {id:Int} {k:Option ByteArray} (h:One17 c id k) (k2:ByteArray):rowC c k2=if k=some k2 then [id] else []:=by
 refine ext_ris (rowC_ris _ _) (by split <;> simp [Ris]) fun j=>?_
 rw [h.ci.mem_row,h.look]
 by_cases e:j=id
 ·rw [if_pos e];by_cases e2:k=some k2 <;> simp [e,e2]
 ·rw [if_neg e];by_cases e2:k=some k2 <;> simp [e,e2]
end Go.Proofs.YtbcbfjnlnmhpbaaGreat
set_option linter.unusedVariables false
set_option linter.unusedSimpArgs false
set_option maxHeartbeats 2000000
set_option maxRecDepth 100000
namespace Go.Proofs.YtbcbfjnlnmhpbaaGreat
open Go Go.X Go.Rex
theorem labelsS_z (l:List Int):∀ x∈labelsS l,x.value.size≤100000:=fun x hx=>by
 have h:=(raw_ok l).1.vl x (mem_isort.1 hx)
 simp only [vlL,List.mem_cons,List.not_mem_nil,or_false] at h
 rcases h with h | h | h | h | h | h | h <;> rw [h] <;> decide
end Go.Proofs.YtbcbfjnlnmhpbaaGreat
set_option linter.unusedVariables false
set_option linter.unusedSimpArgs false
set_option maxHeartbeats 2000000
set_option maxRecDepth 100000
namespace Go.Proofs.YtbcbfjnlnmhpbaaGreat
open Go Go.X Go.Rex
def noB (b:Nat):Bool:=FloatKind.f64.format.order b b != some .eq
def ltF (a b:Nat):Bool:=FloatKind.f64.format.order a b == some .lt
structure Bn where
 k:Int
 lo:Nat
 hi:Nat
def bnC (b:Bn):List Value:=[.int .i64 b.k,.float .f64 b.lo,.float .f64 b.hi]
def bandOf (b:Bn):Bd:=if b.k.tmod 3=0 then ⟨true,0,0⟩ else if noB b.lo=true then ⟨true,0,0⟩ else if noB b.hi=true then ⟨true,0,0⟩ else if ltF b.hi b.lo=true then ⟨false,b.hi,b.lo⟩ else ⟨false,b.lo,b.hi⟩
theorem band_ok (b:Bn) (w:World):Fx Tryz.prog 61 [.agg (bnC b).toArray] w (fun u w'=>u=.agg (bdC (bandOf b)).toArray∧Grow w w'):=by
 refine enter Tryz.func61 rfl rfl rfl _ (Pick.sub (l:=[0]) (.cons rfl .nil)) ?_
 refine GG ?_
 refine OP (Does.box rfl) ?_
 rintro _ w1 ⟨b1,rfl,hn1⟩
 refine OP (Does.alloc i32) ?_
 rintro _ w2 ⟨b2,rfl,hn2⟩
 have hB1:Blk w2 b1 60 [.int .i64 b.k,.float .f64 b.lo,.float .f64 b.hi]:=hn1.blk.mod hn2.grow (fun h=>h)
 refine GG ?_
 refine QQ (Yld.fieldAddr fo60_1 rfl) ?_
 refine QQ (Yld.load p30 rfl (at1 (hB1.cell rfl))) ?_
 refine QQ (Yld.fieldAddr fo60_2 rfl) ?_
 refine QQ (Yld.load p30 rfl (at1 (hB1.cell rfl))) ?_
 refine QQ (Yld.build (v:=.agg #[.bool false,.float .f64 b.lo,.float .f64 b.hi]) rfl (fun w=>by kernel_rfl)) ?_
 refine OP (Does.alloc i32) ?_
 rintro _ w3 ⟨b3,rfl,hn3⟩
 refine OQ (Does.storeN i32 rfl rfl rfl rfl hn3.blk (Nat.le_refl 3)) ?_
 rintro _ w4 ⟨hb4,hm4,_⟩
 have hs1:=hn1.at_
 have hs2:=hn2.at_
 have hs3:=hn3.at_
 have hz1:=hn1.size
 have hz2:=hn2.size
 have hne23:¬ b2=b3:=by omega
 have hne13:¬ b1=b3:=by omega
 have hg4:Grow w w4:=((hn1.grow.trans hn2.grow).trans hn3.grow).then hm4 (fun y hy e=>by have e' : y=b3:=e;omega)
 have hB2:=(hn2.blk.mod hn3.grow (fun h=>h)).mod hm4 hne23
 have hB3:Blk w4 b3 32 [.bool false,.float .f64 b.lo,.float .f64 b.hi]:=hb4
 refine GG ?_
 refine QQ (Yld.fieldAddr fo60_0 rfl) ?_
 refine QQ (Yld.load p3 rfl (at1 (((hB1.mod hn3.grow (fun h=>h)).mod hm4 hne13).cell rfl))) ?_
 refine QQ (Yld.rem rfl rfl (by omega)) ?_
 refine GG ?_
 refine SP 13 (fun h12=>?_) (fun h12=>?_)
 ·iterate 5 refine RL.no (.no rfl rfl rfl rfl) rfl rfl ?_
  refine GG ?_
  iterate 5 refine RL.no (.no rfl rfl rfl rfl) rfl rfl ?_
  refine GG ?_
  refine RK.condT rfl ?_
  refine GG ?_
  refine QQ (Yld.build (v:=.agg (bdC ⟨true,0,0⟩).toArray) rfl (fun w=>by kernel_rfl)) ?_
  refine OQ (Does.storeN i32 rfl rfl rfl rfl hB2 (Nat.le_refl 3)) ?_
  rintro _ w9 ⟨hb9,hm9,_⟩
  refine RL.done ?_
  refine RK.ret_of Tryz.func61 (resC (cs:=bdC (bandOf b)) rfl rfl a32 (by rw [show bandOf b=⟨true,0,0⟩ by unfold bandOf;rw [if_pos h12]];exact hb9)) ?_ _
  exact ⟨_,rfl,rfl,hg4.then hm9 (fun y hy e=>by have e' : y=b2:=e;omega)⟩
 ·refine QQ (Yld.fieldAddr fo32_1 rfl) ?_
  refine QQ (Yld.load p30 rfl (at1 (hB3.cell rfl))) ?_
  refine QQ (Yld.fieldAddr fo32_1 rfl) ?_
  refine QQ (Yld.load p30 rfl (at1 (hB3.cell rfl))) ?_
  refine QQ (Yld.pure rfl) ?_
  refine GG ?_
  refine SP 20 (fun h18=>?_) (fun h18=>?_)
  ·have e18:noB b.lo=true:=by unfold noB;simpa using h18
   iterate 5 refine RL.no (.no rfl rfl rfl rfl) rfl rfl ?_
   refine GG ?_
   refine RK.condT rfl ?_
   refine GG ?_
   refine QQ (Yld.build (v:=.agg (bdC ⟨true,0,0⟩).toArray) rfl (fun w=>by kernel_rfl)) ?_
   refine OQ (Does.storeN i32 rfl rfl rfl rfl hB2 (Nat.le_refl 3)) ?_
   rintro _ w9 ⟨hb9,hm9,_⟩
   refine RL.done ?_
   refine RK.ret_of Tryz.func61 (resC (cs:=bdC (bandOf b)) rfl rfl a32 (by rw [show bandOf b=⟨true,0,0⟩ by unfold bandOf;rw [if_neg h12,if_pos e18]];exact hb9)) ?_ _
   exact ⟨_,rfl,rfl,hg4.then hm9 (fun y hy e=>by have e' : y=b2:=e;omega)⟩
  ·have e18:¬ noB b.lo=true:=by unfold noB;simpa using h18
   refine QQ (Yld.fieldAddr fo32_2 rfl) ?_
   refine QQ (Yld.load p30 rfl (at1 (hB3.cell rfl))) ?_
   refine QQ (Yld.fieldAddr fo32_2 rfl) ?_
   refine QQ (Yld.load p30 rfl (at1 (hB3.cell rfl))) ?_
   refine QQ (Yld.pure rfl) ?_
   refine GG ?_
   refine CD (fun h25=>?_) (fun h25=>?_)
   ·have e25:noB b.hi=true:=by unfold noB;simpa using h25
    refine GG ?_
    refine QQ (Yld.build (v:=.agg (bdC ⟨true,0,0⟩).toArray) rfl (fun w=>by kernel_rfl)) ?_
    refine OQ (Does.storeN i32 rfl rfl rfl rfl hB2 (Nat.le_refl 3)) ?_
    rintro _ w9 ⟨hb9,hm9,_⟩
    refine RL.done ?_
    refine RK.ret_of Tryz.func61 (resC (cs:=bdC (bandOf b)) rfl rfl a32 (by rw [show bandOf b=⟨true,0,0⟩ by unfold bandOf;rw [if_neg h12,if_neg e18,if_pos e25]];exact hb9)) ?_ _
    exact ⟨_,rfl,rfl,hg4.then hm9 (fun y hy e=>by have e' : y=b2:=e;omega)⟩
   ·have e25:¬ noB b.hi=true:=by unfold noB;simpa using h25
    refine GG ?_
    refine QQ (Yld.fieldAddr fo32_2 rfl) ?_
    refine QQ (Yld.load p30 rfl (at1 (hB3.cell rfl))) ?_
    refine QQ (Yld.fieldAddr fo32_1 rfl) ?_
    refine QQ (Yld.load p30 rfl (at1 (hB3.cell rfl))) ?_
    refine GG ?_
    refine CD (fun h32=>?_) (fun h32=>?_)
    ·have e32:ltF b.hi b.lo=true:=by unfold ltF;simpa using h32
     refine RK.region ?_
     refine QQ (Yld.fieldAddr fo32_2 rfl) ?_
     refine QQ (Yld.load p30 rfl (at1 (hB3.cell rfl))) ?_
     refine QQ (Yld.fieldAddr fo32_1 rfl) ?_
     refine QQ (Yld.load p30 rfl (at1 (hB3.cell rfl))) ?_
     refine QQ (Yld.fieldAddr fo32_1 rfl) ?_
     refine OQ (Does.store i30 rfl rfl rfl hB3 (.s .z)) ?_
     rintro _ w5 ⟨hb5,hm5,_⟩
     refine QQ (Yld.fieldAddr fo32_2 rfl) ?_
     refine OQ (Does.store i30 rfl rfl rfl hb5 (.s (.s .z))) ?_
     rintro _ w6 ⟨hb6,hm6,_⟩
     refine GG ?_
     refine QQ (Yld.loadN (cs:=bdC ⟨false,b.hi,b.lo⟩) a32 rfl (atN (blk0' hb6))) ?_
     refine OQ (Does.storeN i32 rfl rfl rfl rfl ((hB2.mod hm5 hne23).mod hm6 hne23) (Nat.le_refl 3)) ?_
     rintro _ w9 ⟨hb9,hm9,_⟩
     refine RL.done ?_
     refine RK.ret_of Tryz.func61 (resC (cs:=bdC (bandOf b)) rfl rfl a32 (by rw [show bandOf b=⟨false,b.hi,b.lo⟩ by unfold bandOf;rw [if_neg h12,if_neg e18,if_neg e25,if_pos e32]];exact hb9)) ?_ _
     exact ⟨_,rfl,rfl,((hg4.then hm5 (fun y hy e=>by have e' : y=b3:=e;omega)).then hm6 (fun y hy e=>by have e' : y=b3:=e;omega)).then hm9 (fun y hy e=>by have e' : y=b2:=e;omega)⟩
    ·have e32:¬ ltF b.hi b.lo=true:=by unfold ltF;simpa using h32
     refine GG ?_
     refine QQ (Yld.loadN (cs:=bdC ⟨false,b.lo,b.hi⟩) a32 rfl (atN (blk0' hB3))) ?_
     refine OQ (Does.storeN i32 rfl rfl rfl rfl hB2 (Nat.le_refl 3)) ?_
     rintro _ w9 ⟨hb9,hm9,_⟩
     refine RL.done ?_
     refine RK.ret_of Tryz.func61 (resC (cs:=bdC (bandOf b)) rfl rfl a32 (by rw [show bandOf b=⟨false,b.lo,b.hi⟩ by unfold bandOf;rw [if_neg h12,if_neg e18,if_neg e25,if_neg e32]];exact hb9)) ?_ _
     exact ⟨_,rfl,rfl,hg4.then hm9 (fun y hy e=>by have e' : y=b2:=e;omega)⟩
end Go.Proofs.YtbcbfjnlnmhpbaaGreat
set_option linter.unusedVariables false
set_option linter.unusedSimpArgs false
set_option maxHeartbeats 4000000
set_option maxRecDepth 100000
namespace Go.Proofs.YtbcbfjnlnmhpbaaGreat
open Go Go.X Go.Rex
theorem sameM_ok (M M' : Nat→Prop) (l1:List Mt) (v1 v2:Value) (w:World) (hv1:SlM M w v1 l1) (hv2:SlM M' w v2 l1) :
  Fx Tryz.prog 65 [v1,v2] w (fun u w'=>u=.bool true∧Grow w w'):=by
 obtain ⟨a1,c1,rfl⟩:=hv1.shape
 obtain ⟨a2,c2,rfl⟩:=hv2.shape
 have hbig:=hv1.big
 refine enter Tryz.func65 rfl rfl rfl _ (Pick.sub (l:=[0,1]) (.cons rfl (.cons rfl .nil))) ?_
 refine GG ?_
 refine QQ (Yld.lenSl u28 rfl) ?_
 refine RL.p rfl rfl ?_
 refine QQ (Yld.lenSl u28 rfl) ?_
 refine GG ?_
 refine RK.condF (hcF rfl (by simp)) ?_
 refine GG ?_
 refine RK.loop (fun k:Nat=>[(0,.slice a1 l1.length c1),(1,.slice a2 l1.length c2),(5,.int .i64 k)]) (fun k w'=>Grow w w'∧k≤l1.length) (fun k=>l1.length - k) 0 ⟨rfl,rfl,rfl,trivial⟩ ⟨Mod.refl _ _,by omega⟩ (fun k w' hI ih=>?_)
 obtain ⟨hg,hk⟩:=hI
 refine GG ?_
 refine QQ (Yld.lenSl u28 rfl) ?_
 refine GG ?_
 refine CD (fun h14=>?_) (fun h14=>?_)
 ·obtain ⟨x,hx⟩:∃ x,l1[k]?=some x:=⟨l1[k]'(by omega),List.getElem?_eq_getElem (by omega)⟩
  obtain ⟨b1,o1,c1',he1,_,_,hc1⟩:=hv1.elem mtC_len hx
  obtain ⟨b2,o2,c2',he2,_,_,hc2⟩:=hv2.elem mtC_len hx
  cases he1
  cases he2
  refine GG ?_
  refine RK.drawM No [(0,false),(1,false),(2,false),(3,false),(4,false),(5,false),(6,false),(7,false),(8,false)] [] mixed (by kernel_rfl) ?_
  refine GG ?_
  refine DF (Yld.indexAddrN u28 i108 rfl rfl (by omega)) ?_
  refine DQ (Yld.loadN (cs:=mtC x) a108 rfl (atNM (fun q z hq=>hg.cell (hc1 q z hq) (fun h=>h)) (fun h=>h))) (Mod.drew _ _) ?_
  refine GG ?_
  refine DF (Yld.indexAddrN u28 i108 rfl rfl (by omega)) ?_
  refine DQ (Yld.loadN (cs:=mtC x) a108 rfl (atNM (fun q z hq=>hg.cell (hc2 q z hq) (fun h=>h)) (fun h=>h))) (Mod.drew _ _) ?_
  refine DF (Yld.neqTrip trip108 rfl rfl) ?_
  refine DL.done ?_
  refine RK.condF (hcF rfl (by simp)) ?_
  refine RK.skip ?_
  refine RK.inBlock ?_
  refine RK.region ?_
  iterate 2 refine RL.p rfl rfl ?_
  refine RL.re (d:=16) rfl rfl (succ_i64 (by omega)) ?_
  refine GG ?_
  exact RK.back (ih (k + 1) _ ⟨hg.trans (Mod.drew _ _),by omega⟩ (by omega)) ⟨rfl,rfl,rfl,trivial⟩
 ·refine RK.exit rfl ?_
  refine GG ?_
  refine RK.ret_of Tryz.func65 (res1 rfl rfl) ?_ _
  exact ⟨_,rfl,rfl,hg⟩
theorem sameBand_ok (b:Bd) (w:World):Fx Tryz.prog 66 [.agg (bdC b).toArray,.agg (bdC b).toArray] w (fun u w'=>u=.bool true∧Grow w w'):=by
 refine enter Tryz.func66 rfl rfl rfl _ (Pick.sub (l:=[0,1]) (.cons rfl (.cons rfl .nil))) ?_
 refine GG ?_
 refine OP (Does.box rfl) ?_
 rintro _ w2 ⟨b2,rfl,hn2⟩
 refine OP (Does.box rfl) ?_
 rintro _ w3 ⟨b3,rfl,hn3⟩
 have hB2:Blk w3 b2 32 [.bool b.all,.float .f64 b.lo,.float .f64 b.hi]:=hn2.blk.mod hn3.grow (fun h=>h)
 have hB3:Blk w3 b3 32 [.bool b.all,.float .f64 b.lo,.float .f64 b.hi]:=hn3.blk
 refine GG ?_
 refine RK.drawM No [(0,false),(1,false),(2,false),(3,false),(4,false),(5,false),(6,false),(7,false),(9,false),(10,false),(8,true),(11,true),(12,false),(13,false),(14,false),(15,false),(16,false),(18,false),(19,false),(17,true),(20,true),(21,false),(22,false),(23,false)] [] mixed (by kernel_rfl) ?_
 refine DF (Yld.fieldAddr fo32_0 rfl) ?_
 refine DQ (Yld.load p4 rfl (atM (hB2.cell rfl) (fun h=>h))) (Mod.drew _ _) ?_
 refine DF (Yld.fieldAddr fo32_0 rfl) ?_
 refine DQ (Yld.load p4 rfl (atM (hB3.cell rfl) (fun h=>h))) (Mod.drew _ _) ?_
 refine DF (Yld.eqBool u4 rfl rfl) ?_
 refine DL.p rfl rfl rfl ?_
 refine DL.knownT (d:=10) rfl rfl (by simp) ?_
 refine DF (Yld.fieldAddr fo32_1 rfl) ?_
 refine DQ (Yld.load p30 rfl (atM (hB2.cell rfl) (fun h=>h))) (Mod.drew _ _) ?_
 refine DF (Yld.fieldAddr fo32_1 rfl) ?_
 refine DQ (Yld.load p30 rfl (atM (hB3.cell rfl) (fun h=>h))) (Mod.drew _ _) ?_
 refine OD (Does.call rfl e79 (bits1_ok b.lo _)) ?_
 rintro _ _ ⟨rfl,rfl⟩
 refine ⟨Mod.drew _ _,?_⟩
 refine OD (Does.call rfl e79 (bits1_ok b.lo _)) ?_
 rintro _ _ ⟨rfl,rfl⟩
 refine ⟨Mod.drew _ _,?_⟩
 refine DF (Yld.pure rfl) ?_
 refine GG ?_
 refine DL.knownT (d:=19) rfl rfl (by simp) ?_
 refine DF (Yld.fieldAddr fo32_2 rfl) ?_
 refine DQ (Yld.load p30 rfl (atM (hB2.cell rfl) (fun h=>h))) (Mod.drew _ _) ?_
 refine DF (Yld.fieldAddr fo32_2 rfl) ?_
 refine DQ (Yld.load p30 rfl (atM (hB3.cell rfl) (fun h=>h))) (Mod.drew _ _) ?_
 refine OD (Does.call rfl e79 (bits1_ok b.hi _)) ?_
 rintro _ _ ⟨rfl,rfl⟩
 refine ⟨Mod.drew _ _,?_⟩
 refine OD (Does.call rfl e79 (bits1_ok b.hi _)) ?_
 rintro _ _ ⟨rfl,rfl⟩
 refine ⟨Mod.drew _ _,?_⟩
 refine DF (Yld.pure rfl) ?_
 refine GG ?_
 refine RK.ret_of Tryz.func66 (res1 rfl rfl) ?_ _
 exact ⟨_,rfl,by simp,(hn2.grow.trans hn3.grow).trans (Mod.drew _ _)⟩
end Go.Proofs.YtbcbfjnlnmhpbaaGreat
set_option linter.unusedVariables false
set_option linter.unusedSimpArgs false
set_option maxHeartbeats 3200000
set_option maxRecDepth 100000
namespace Go.Proofs.YtbcbfjnlnmhpbaaGreat
open Go Go.X
def dEn (a:Sil):En:=⟨a.stop,a.id⟩
theorem ids_before {al:List Sil} (hris:Ris (al.map (·.id))) {k:Nat} {a:Sil} (ha:al[k]?=some a) {b:Sil} (hb:b∈al.take k):b.id < a.id:=by
 obtain ⟨j,hj⟩:=List.getElem?_of_mem hb
 have hk:=List.getElem?_eq_some_iff.1 ha
 have hjt:=List.getElem?_eq_some_iff.1 hj
 have hjk:j < k:=by have:=hjt.1;simp at this;omega
 have hj2:al[j]?=some b:=by rw [List.getElem?_take_of_lt hjk] at hj;exact hj
 have hj3:=List.getElem?_eq_some_iff.1 hj2
 have:=List.pairwise_iff_getElem.1 hris j k (by simpa using hj3.1) (by simpa using hk.1) hjk
 simp only [List.getElem_map,hj3.2,hk.2] at this
 exact this
theorem filter_snoc {α:Type} (q:α→Bool) {l:List α} {k:Nat} {x:α} (h:l[k]?=some x):(l.take (k + 1)).filter q=(l.take k).filter q ++ (if q x=true then [x] else []):=by
 rw [List.take_add_one,h,List.filter_append]
 congr 1
 show List.filter q [x]=_
 by_cases e:q x=true
 ·rw [if_pos e,List.filter_cons_of_pos e];rfl
 ·rw [if_neg e,List.filter_cons_of_neg e];rfl
theorem sweepR9_ok (w:World) (p:Nat) (s:SS) (O M:Nat→Prop) (h:RStore O M w p s) (g:Gz s) (now:Int) (hnow:now < 18446744073709551616) :
  Fx Tryz.prog 62 [pp p,.int .u64 now] w (fun u w'=>∃ O' ids,(∃ fs:List En,SortE fs∧fs.Perm ((s.sl.filter (dueZ s.ret now)).map fun a=>⟨a.stop,a.id⟩)∧ids=fs.map (·.id))∧Row w' 3 1 u ids.length (ints ids)∧Fresh w.heap.size u∧RStore O' (fun x=>M x∨O' x) w' p (sweptZ s now)∧Mod O w w'∧(∀ x,O' x→O x∨w.heap.size≤x)∧∀ b,u.ownBlock=some b→¬ O' b):=by
 obtain ⟨vs,al,hO,h⟩:=h
 obtain rfl:O=ownR p vs:=funext fun b=>propext (hO b)
 have hle:=g.le
 have hal:=h.len
 have hals:=h.als
 have hr0:=g.r0
 have hris:Ris (al.map (·.id)):=by rw [h.ids];exact g.ris
 have hst:∀ a∈al,0≤a.stop:=fun a ha=>(g.st (pubZ a) (by rw [← hals];exact List.mem_map.2 ⟨a,ha,rfl⟩)).1
 have hsl:=Sl.own (M:=No) h.row (fun _ _ h=>h)
 have hpw:=h.own_lt (b:=p) (.inl rfl)
 obtain ⟨D,hD⟩:∃ D:Sil→Bool,D=fun a=>dueZ s.ret now (pubZ a):=⟨_,rfl⟩
 have hsh:=h.sh
 obtain ⟨ad,c,rfl⟩:=h.row.slice
 refine enter Tryz.func62 rfl rfl rfl _ (Pick.sub (l:=[0,1]) (.cons rfl (.cons rfl .nil))) ?_
 refine GG ?_
 refine QQ (Yld.build (v:=.agg #[.slice none 0 0]) rfl (fun w=>by kernel_rfl)) ?_
 refine OP (Does.box rfl) ?_
 rintro _ w1 ⟨q,rfl,hn⟩
 have hat:=hn.at_
 have hq1:QD w1 q [] (.slice none 0 0):=⟨hn.blk,Row.nil _ _ _⟩
 have hpq:p≠q:=by omega
 refine GG ?_
 refine RK.loop (fun s:Nat×Value=>[(0,pp p),(1,.int .u64 now),(5,pp q),(6,s.2),(7,.int .i64 (s.1:Int))]) (fun s w'=>s.1≤al.length∧(∃ fs vq,SortE fs∧fs.Perm (((al.take s.1).filter D).map dEn)∧QD w' q fs vq∧Fresh w.heap.size vq)∧Row w' 41 8 s.2 ((al.take s.1).filter fun a=>!D a).length (((al.take s.1).filter fun a=>!D a).flatMap silC)∧Fresh w.heap.size s.2∧Grow w w') (fun s=>al.length - s.1) (0,.slice none 0 0) ⟨rfl,rfl,rfl,rfl,rfl,trivial⟩ ⟨by simp,⟨[],_,List.Pairwise.nil,by simp,hq1,fun b e=>by simp [Value.ownBlock] at e⟩,by simpa using Row.nil _ _ _,fun b e=>by simp [Value.ownBlock] at e,hn.grow⟩ (fun s' w' hI ih=>?_)
 obtain ⟨k,u⟩:=s'
 obtain ⟨hk,⟨fs,vq,hfs,hfp,hq,hfq⟩,hr,hf,hg⟩:=hI
 simp only at hk hfp hr hf
 have hbk:=h.blk.mod hg (fun h=>h)
 have hsz:=hg.size
 have hrl:((al.take k).filter fun a=>!D a).length≤k:=by
   have h1:=List.length_filter_le (fun a=>!D a) (al.take k)
   rw [List.length_take] at h1
   omega
 have hfl:fs.length≤k:=by
   rw [hfp.length_eq,List.length_map]
   have h1:=List.length_filter_le D (al.take k)
   rw [List.length_take] at h1
   omega
 refine GG ?_
 refine QQ (Yld.fieldAddr fo64_2 rfl) ?_
 refine QQ (Yld.load p44 rfl (at1 (hbk.cell rfl))) ?_
 refine QQ (Yld.lenSl u44 rfl) ?_
 refine GG ?_
 refine CD (fun h16=>?_) (fun h16=>?_)
 ·obtain ⟨a,ha⟩:∃ a,al[k]?=some a:=⟨al[k]'(by omega),List.getElem?_eq_getElem (by omega)⟩
  obtain ⟨b1,o1,c1',he1,_,_,hc1⟩:=hsl.elem silC_len ha
  cases he1
  have ham:=List.mem_of_getElem? ha
  have hgd:=hg.trans (Mod.drew No w')
  have hbd:=h.blk.mod hgd (fun h=>h)
  have hfs1:=filter_snoc D ha
  have hrs1:=filter_snoc (fun a=>!D a) ha
  refine GG ?_
  refine RK.drawM No [(0,false),(1,false),(2,false),(3,false),(4,false),(5,false),(6,false),(7,false),(8,false),(9,false),(10,false),(11,false),(12,false),(13,true)] [] mixed (by kernel_rfl) ?_
  refine GG ?_
  refine DF (Yld.fieldAddr fo64_2 rfl) ?_
  refine DQ (Yld.load p44 rfl (atM (hbk.cell rfl) (fun h=>h))) (Mod.drew _ _) ?_
  refine DL.p rfl rfl rfl ?_
  refine DF (Yld.indexAddrN u44 i41 rfl rfl (by omega)) ?_
  refine DF (Yld.fieldAddr fo41_3 rfl) ?_
  refine DQ (Yld.load p22 rfl (atM (hg.cell (hc1 3 _ rfl) (fun h=>h)) (fun h=>h))) (Mod.drew _ _) ?_
  refine GG ?_
  refine DF (Yld.fieldAddr fo64_1 rfl) ?_
  refine DQ (Yld.load p22 rfl (atM (hbk.cell rfl) (fun h=>h))) (Mod.drew _ _) ?_
  refine OD (Does.call rfl e112 (goneR9_ok now a.stop s.ret (hst a ham) hnow (by omega) _)) ?_
  rintro _ _ ⟨rfl,rfl⟩
  refine ⟨Mod.drew _ _,?_⟩
  refine DL.done ?_
  refine CD (fun h32=>?_) (fun h32=>?_)
  ·have hDa:D a=true:=by rw [hD];exact decide_eq_true h32
   have hne:∀ e∈fs,e.id≠a.id:=fun e he e2=>by
     obtain ⟨b,hb,rfl⟩:=List.mem_map.1 (hfp.mem_iff.1 he)
     have:=ids_before hris ha (List.mem_filter.1 hb).1
     have e3:b.id=a.id:=e2
     omega
   have hb1q:b1≠q:=by have:=h.own_lt (b:=b1) (.inr rfl);omega
   refine RK.drawM (·=q) [(0,false),(1,false),(2,false),(3,false),(4,false),(5,false),(6,false),(7,false),(8,false),(9,false),(10,false),(11,false),(12,false),(13,false),(14,false),(15,false),(16,false),(17,true)] [] mixed (by kernel_rfl) ?_
   refine GG ?_
   refine DF (Yld.fieldAddr fo64_2 rfl) ?_
   refine DQ (Yld.load p44 rfl (atM (hbd.cell rfl) (hpq))) (Mod.drew _ _) ?_
   refine DL.p rfl rfl rfl ?_
   refine DF (Yld.indexAddrN u44 i41 rfl rfl (by omega)) ?_
   refine DF (Yld.fieldAddr fo41_0 rfl) ?_
   refine DQ (Yld.load p3 rfl (atM (hgd.cell (hc1 0 _ rfl) (fun h=>h)) (hb1q))) (Mod.drew _ _) ?_
   refine GG ?_
   refine DF (Yld.fieldAddr fo64_2 rfl) ?_
   refine DQ (Yld.load p44 rfl (atM (hbd.cell rfl) (hpq))) (Mod.drew _ _) ?_
   refine DL.p rfl rfl rfl ?_
   refine DF (Yld.indexAddrN u44 i41 rfl rfl (by omega)) ?_
   refine DF (Yld.fieldAddr fo41_3 rfl) ?_
   refine DQ (Yld.load p22 rfl (atM (hgd.cell (hc1 3 _ rfl) (fun h=>h)) (hb1q))) (Mod.drew _ _) ?_
   refine OD (Does.call rfl e113 (putD_ok _ q fs vq ((hq.grow (Mod.drew _ _)).grow (Mod.drew _ _)) (by omega) hfs a.id a.stop hne)) ?_
   rintro _ w3 ⟨vq3,hq3,hfq3,hm3⟩
   refine ⟨(Mod.drew _ _).trans hm3,?_⟩
   have hgd2:=hgd.trans (Mod.drew No _)
   have hg3:Grow w w3:=hgd2.then hm3 (fun b hb e=>by have e' : b=q:=e;omega)
   have hr2:=(hr.mod (Mod.drew No _) (fun _ _ h=>h)).mod (Mod.drew No _) (fun _ _ h=>h)
   have hr3:=hr2.mod hm3 (fun x e1 e2=>(hr.ty e1).ne hq.blk.ty rfl e2)
   refine DL.done ?_
   refine RK.inBlock ?_
   refine RK.region ?_
   iterate 2 refine RL.p rfl rfl ?_
   refine RL.re (d:=18) rfl rfl (succ_i64 (by omega)) ?_
   refine GG ?_
   exact RK.back (ih (k + 1,u) _ ⟨by simp only;omega,⟨putE fs ⟨a.stop,a.id⟩,_,putE_sort hfs (fun hm=>hne _ hm rfl),by
     simp only
     rw [hfs1,if_pos hDa,List.map_append]
     exact (putE_perm _ _).trans ((List.Perm.cons _ hfp).trans (List.perm_append_singleton _ _).symm),hq3,fun b e=>by have:=hfq3 b e;simp only [World.drew] at this;omega⟩,by
     simp only
     rw [hrs1,if_neg (by simp [hDa]),List.append_nil];exact hr3,hf,hg3⟩ (by simp only;omega)) ⟨rfl,rfl,rfl,rfl,rfl,trivial⟩
  ·have hDa:D a=false:=by rw [hD];exact decide_eq_false h32
   refine GG ?_
   refine QQ (Yld.fieldAddr fo64_2 rfl) ?_
   refine QQ (Yld.load p44 rfl (at1 (hbd.cell rfl))) ?_
   refine RL.p rfl rfl ?_
   refine QQ (Yld.indexAddrN u44 i41 rfl rfl (by omega)) ?_
   refine QQ (Yld.loadN (cs:=silC a) a41 rfl (atN (fun q z hq=>hgd.cell (hc1 q z hq) (fun h=>h)))) ?_
   refine OP (Does.slice1 u44 i41 rfl rfl rfl rfl rfl) ?_
   rintro _ w2 ⟨b7,rfl,hn7⟩
   have hr2:=(hr.mod (Mod.drew No _) (fun _ _ h=>h)).mod hn7.grow (fun _ _ h=>h)
   refine OP (Does.append u44 i41 rfl rfl rfl rfl rfl (hr2) (Sl.new hn7 8 1 rfl (by omega) (fun h=>h)) (silC_one (h.sms a ham)) (by omega)) ?_
   rintro u8 w3 ⟨hr8,hm8,hu8⟩
   have hz7:=hn7.grow.size
   simp only [World.drew] at hz7
   have hat7:=hn7.at_
   have hq2:=(hq.grow (Mod.drew No _)).grow hn7.grow
   have hq3:QD w3 q fs vq:=⟨hq2.blk.mod hm8 (fun e=>(hr2.ty e).ne hq2.blk.ty rfl rfl),hq2.row.mod hm8 (fun x e1 e2=>(hq2.row.ty e1).ne (hr2.ty e2) rfl rfl)⟩
   refine RL.p rfl rfl ?_
   refine RL.done ?_
   refine RK.inBlock ?_
   refine RK.region ?_
   iterate 2 refine RL.p rfl rfl ?_
   refine RL.re (d:=18) rfl rfl (succ_i64 (by omega)) ?_
   refine GG ?_
   exact RK.back (ih (k + 1,u8) _ ⟨by simp only;omega,⟨fs,vq,hfs,by simp only;rw [hfs1,if_neg (by simp [hDa]),List.append_nil];exact hfp,hq3,hfq⟩,by
     simp only
     rw [hrs1,if_pos (by simp [hDa]),List.length_append,List.flatMap_append,List.flatMap_singleton]
     simpa [Value.cells] using hr8,fun b e=>by
     rcases hu8 with h8 | h8
     ·rw [h8] at e;exact hf b e
     ·rw [h8] at e;cases e;simp only [World.drew] at hat7;omega,(hgd.trans hn7.grow).then hm8 (fun b hb e=>by have:=hf b e;omega)⟩ (by simp only;omega)) ⟨rfl,rfl,rfl,rfl,rfl,trivial⟩
 ·have ek:al.take k=al:=List.take_of_length_le (by omega)
  rw [ek] at hfp hr
  obtain ⟨adu,cu,rfl⟩:=hr.slice
  refine RK.exit rfl ?_
  refine GG ?_
  refine QQ (Yld.fieldAddr fo64_2 rfl) ?_
  refine OQ (Does.store i44 rfl rfl rfl hbk (.s (.s .z))) ?_
  rintro _ w2 ⟨hb2',hm2,_⟩
  have hb2:Blk w2 p 64 [.int .i64 s.most,.int .u64 s.ret,.slice adu (al.filter fun a=>!D a).length cu,.int .i64 s.last]:=hb2'
  have hq2:QD w2 q fs vq:=⟨hq.blk.mod hm2 (fun e=>hpq e.symm),hq.row.mod hm2 (fun x e1 e2=>(hq.row.ty e1).ne hbk.ty rfl e2)⟩
  have hrow2:=hr.mod hm2 (fun x e1 e2=>(hr.ty e1).ne hbk.ty rfl e2)
  have hdue:∀ e∈fs,e.due≤now:=fun e he=>by
    obtain ⟨b,hb,rfl⟩:=List.mem_map.1 (hfp.mem_iff.1 he)
    have h1:=(List.mem_filter.1 hb).2
    rw [hD] at h1
    have h2:b.stop + s.ret≤now:=of_decide_eq_true h1
    show b.stop≤now
    omega
  refine GG ?_
  refine OP (Does.call rfl e114 (ripeD_ok _ q fs vq hq2 (by omega) now hdue)) ?_
  rintro u3 w3 ⟨hr3,hf3,hm3⟩
  have hb3:=hb2.mod hm3 hpq
  have hrow3:=hrow2.mod hm3 (fun x e1 e2=>(hrow2.ty e1).ne hq2.blk.ty rfl e2)
  have hmO:Mod (ownR p (.slice ad al.length c)) w w3:=((Mod.any' hg).trans (hm2.mono fun x _ e=>.inl e)).then hm3 (fun b hb e=>by have e' : b=q:=e;omega)
  have hz2:=hm2.size
  subst hD
  refine GG ?_
  refine RK.ret_of Tryz.func62 (res1 rfl rfl) ?_ _
  exact ⟨_,rfl,ownR p (.slice adu _ cu),fs.map (·.id),⟨fs,hfs,by
    rw [← hals,List.filter_map,List.map_map]
    exact hfp,rfl⟩,by rw [List.length_map];exact hr3,fun b e=>by have:=hf3 b e;omega,RStore.next (w:=w) (s':=sweptZ s now) h.ltM (hmO.mono fun x _ e=>h.ownM x e) hb3 hrow3 (by
    show _=s.sl.filter _
    rw [← hals,List.filter_map];rfl) (fun a ha=>.inl (h.sms a (List.mem_filter.1 ha).1)) (fun b e=>e.elim (fun e=>.inl (h.ownM _ (.inl e))) (fun e=>.inr (hf b e))),hmO,fun b e=>e.elim (fun e=>.inl (.inl e)) (fun e=>.inr (hf b e)),fun b e e2=>e2.elim (fun e2=>(hr3.ty e).ne hb3.ty rfl e2) (fun e2=>(hr3.ty e).ne (hrow3.ty e2) rfl rfl)⟩
theorem sameSils_ok (l1 l2 : List Sil) (v1 v2 : Value) (w : World) (h1 : Sl No w v1 8 l1.length (l1.flatMap silC)) (h2 : Sl No w v2 8 l2.length (l2.flatMap silC)) (s1 : ∀ a ∈ l1, SlM No w a.mv a.ms) (s2 : ∀ a ∈ l2, SlM No w a.mv a.ms) (he : l1.map pubT = l2.map pubT) :
    Fx Tryz.prog 25 [v1,v2] w (fun u w'=>u=.bool true∧Grow w w'):=by
  obtain ⟨ad1,c1,rfl⟩:=h1.shape
  obtain ⟨ad2,c2,rfl⟩:=h2.shape
  have hbig:=h1.big
  have hl:l1.length=l2.length:=by have:=congrArg List.length he;simpa using this
  refine enter Tryz.func25 rfl rfl rfl _ (Pick.sub (l:=[0,1]) (.cons rfl (.cons rfl .nil))) ?_
  refine RK.seq ?_
  refine RK.region ?_
  refine RL.p rfl rfl ?_
  refine RL.done ?_
  iterate 2 refine RK.seq ?_
  refine RK.region ?_
  refine RL.p rfl rfl ?_
  refine RL.q (.free rfl) rfl rfl (Yld.lenSl u44 rfl) ?_
  refine RL.p rfl rfl ?_
  refine RL.q (.free rfl) rfl rfl (Yld.lenSl u44 rfl) ?_
  refine RL.p rfl rfl ?_
  refine RL.done ?_
  refine RK.condF (hcF rfl (decide_eq_false (by omega))) ?_
  refine RK.skip ?_
  iterate 2 refine RK.seq ?_
  refine RK.region ?_
  refine RL.p rfl rfl ?_
  refine RL.done ?_
  refine RK.block ?_
  refine RK.loop (fun k:Nat=>[(0,.slice ad1 l1.length c1),(1,.slice ad2 l2.length c2),(5,.int .i64 k)]) (fun k w'=>Grow w w'∧k≤l1.length) (fun k=>l1.length - k) 0 ⟨rfl,rfl,rfl,trivial⟩ ⟨Mod.refl _ _,by omega⟩ (fun k w' hI ih=>?_)
  obtain ⟨hg,hk⟩:=hI
  iterate 2 refine RK.seq ?_
  refine RK.region ?_
  iterate 2 refine RL.p rfl rfl ?_
  refine RL.q (.free rfl) rfl rfl (Yld.lenSl u44 rfl) ?_
  refine RL.p rfl rfl ?_
  refine RL.done ?_
  first | refine RK.condD rfl (fun h16=>?_) (fun h16=>?_) | refine RK.condN rfl (fun h16=>?_) (fun h16=>?_) | refine RK.cond rfl (fun h16=>?_) (fun h16=>?_)
  · obtain ⟨x,hx⟩:∃ x,l1[k]?=some x:=⟨l1[k]'(by omega),List.getElem?_eq_getElem (by omega)⟩
    obtain ⟨y,hy⟩:∃ y,l2[k]?=some y:=⟨l2[k]'(by omega),List.getElem?_eq_getElem (by omega)⟩
    have hxy : pubT x = pubT y := by
        have:=congrArg (fun l=>l[k]?) he
        simpa [hx,hy] using this
    obtain ⟨b1,o1,c1',he1,nb1,_,hc1⟩:=(h1.off (M':=fun b=>w.heap.size≤b) (by omega) (fun b hb e=>by omega)).elem silC_len hx
    obtain ⟨b2,o2,c2',he2,nb2,_,hc2⟩:=(h2.off (M':=fun b=>w.heap.size≤b) (by omega) (fun b hb e=>by omega)).elem silC_len hy
    cases he1
    cases he2
    have sx:=s1 x (List.mem_of_getElem? hx)
    have sy:=s2 y (List.mem_of_getElem? hy)
    obtain ⟨id,ver,sta,sto,mv,ms,bd⟩:=x
    obtain ⟨id',ver',sta',sto',mv',ms',bd'⟩:=y
    simp only [pubT,pubZ,Prod.mk.injEq,Slz.mk.injEq] at hxy
    obtain ⟨⟨rfl,rfl,rfl,rfl,rfl⟩,rfl⟩:=hxy
    simp only at sx sy
    have hzg:=hg.size
    refine RK.skip ?_
    refine RK.seq ?_
    refine RK.block ?_
    refine RK.seq ?_
    refine RK.drawF (fun b=>w.heap.size≤b) [(0,false),(1,false),(2,false),(3,false),(4,false),(5,false),(6,false),(7,false)] 8 9 [(9,true),(10,true),(11,true)] [(8,true),(10,true),(11,true)] [11] mixed (by kernel_rfl) ?_
    iterate 2 refine DL.p rfl rfl rfl ?_
    refine DL.qf rfl (.free rfl) rfl rfl (Yld.indexAddrN u44 i41 rfl rfl (by omega)) ?_
    refine DL.q rfl (.free rfl) rfl rfl rfl (Yld.loadN (cs:=silC ⟨id,ver,sta,sto,mv,ms,bd⟩) a41 rfl (atNM (fun q z hq=>hg.cell (hc1 q z hq) (fun h=>h)) (nb1))) (Mod.drew _ _) ?_
    iterate 2 refine DL.p rfl rfl rfl ?_
    refine DL.qf rfl (.free rfl) rfl rfl (Yld.indexAddrN u44 i41 rfl rfl (by omega)) ?_
    refine DL.q rfl (.free rfl) rfl rfl rfl (Yld.loadN (cs:=silC ⟨id,ver,sta,sto,mv',ms,bd⟩) a41 rfl (atNM (fun q z hq=>hg.cell (hc2 q z hq) (fun h=>h)) (nb2))) (Mod.drew _ _) ?_
    refine DL.fork ?_ ?_
    · refine DL.op rfl (.free rfl) rfl rfl (Does.alloc i41) ?_
      rintro _ w1 ⟨b6,rfl,hn6⟩
      refine ⟨Mod.any' ((Mod.drew No _).trans hn6.grow),?_⟩
      refine DL.op rfl (.free rfl) rfl rfl (Does.alloc i41) ?_
      rintro _ w2 ⟨b7,rfl,hn7⟩
      refine ⟨Mod.any' (((Mod.drew No _).trans hn6.grow).trans hn7.grow),?_⟩
      have ha6:=hn6.at_
      have ha7:=hn7.at_
      have hz6:=hn6.grow.size
      have hz7:=hn7.grow.size
      have hl6:=hn6.blk.lt
      refine DL.op' rfl (.free rfl) rfl (Does.storeN i41 rfl rfl rfl (silC_one (s:=⟨id,ver,sta,sto,mv,ms,bd⟩) sx) (hn6.blk.mod hn7.grow (fun h=>h)) (Nat.le_refl 8)) ?_
      rintro _ w3 ⟨hb3,hm3,_⟩
      refine ⟨(Mod.any' (((Mod.drew No _).trans hn6.grow).trans hn7.grow)).trans (hm3.mono fun b _ e=>by have e' : b=b6:=e;simp only [World.drew] at *;omega),?_⟩
      refine DL.opT rfl (.free rfl) rfl rfl (Does.storeN i41 rfl rfl rfl (silC_one (s:=⟨id,ver,sta,sto,mv',ms,bd⟩) sy) (hn7.blk.mod hm3 (fun e=>by omega)) (Nat.le_refl 8)) ?_
      rintro _ w4 ⟨hb4,hm4,_⟩
      have hB6:Blk w4 b6 41 [.int .i64 id,.int .i64 ver,.int .u64 sta,.int .u64 sto,mv,.bool bd.all,.float .f64 bd.lo,.float .f64 bd.hi]:=Blk.mod (M:=fun b=>b=b7) hb3 hm4 (fun e=>by omega)
      have hB7:Blk w4 b7 41 [.int .i64 id,.int .i64 ver,.int .u64 sta,.int .u64 sto,mv',.bool bd.all,.float .f64 bd.lo,.float .f64 bd.hi]:=hb4
      have hgw4:Grow w' w4:=((((Mod.drew No _).trans hn6.grow).trans hn7.grow).then hm3 (fun b hb e=>by have e' : b=b6:=e;simp only [World.drew] at *;omega)).then hm4 (fun b hb e=>by have e' : b=b7:=e;simp only [World.drew] at *;omega)
      have hg4:Grow w w4:=hg.trans hgw4
      refine DL.done ?_
      refine RK.seq ?_
      refine RK.region ?_
      refine RL.q (.free rfl) rfl rfl (Yld.fieldAddr fo41_0 rfl) ?_
      refine RL.q (.free rfl) rfl rfl (Yld.load p3 rfl (at1 (hB6.cell rfl))) ?_
      refine RL.q (.free rfl) rfl rfl (Yld.fieldAddr fo41_0 rfl) ?_
      refine RL.q (.free rfl) rfl rfl (Yld.load p3 rfl (at1 (hB7.cell rfl))) ?_
      iterate 2 refine RL.p rfl rfl ?_
      refine RL.knownF (d:=32) rfl rfl (by simp) ?_
      refine RL.q (.yes rfl rfl rfl) rfl rfl (Yld.fieldAddr fo41_1 rfl) ?_
      refine RL.q (.yes rfl rfl rfl) rfl rfl (Yld.load p3 rfl (at1 (hB6.cell rfl))) ?_
      refine RL.q (.yes rfl rfl rfl) rfl rfl (Yld.fieldAddr fo41_1 rfl) ?_
      refine RL.q (.yes rfl rfl rfl) rfl rfl (Yld.load p3 rfl (at1 (hB7.cell rfl))) ?_
      refine RL.q (.yes rfl rfl rfl) rfl rfl (Yld.pure rfl) ?_
      iterate 2 refine RL.p rfl rfl ?_
      refine RL.knownF (d:=39) rfl rfl (by simp) ?_
      refine RL.q (.yes rfl rfl rfl) rfl rfl (Yld.fieldAddr fo41_2 rfl) ?_
      refine RL.q (.yes rfl rfl rfl) rfl rfl (Yld.load p22 rfl (at1 (hB6.cell rfl))) ?_
      refine RL.q (.yes rfl rfl rfl) rfl rfl (Yld.fieldAddr fo41_2 rfl) ?_
      refine RL.q (.yes rfl rfl rfl) rfl rfl (Yld.load p22 rfl (at1 (hB7.cell rfl))) ?_
      refine RL.q (.yes rfl rfl rfl) rfl rfl (Yld.pure rfl) ?_
      iterate 2 refine RL.p rfl rfl ?_
      refine RL.knownF (d:=46) rfl rfl (by simp) ?_
      refine RL.q (.yes rfl rfl rfl) rfl rfl (Yld.fieldAddr fo41_3 rfl) ?_
      refine RL.q (.yes rfl rfl rfl) rfl rfl (Yld.load p22 rfl (at1 (hB6.cell rfl))) ?_
      refine RL.q (.yes rfl rfl rfl) rfl rfl (Yld.fieldAddr fo41_3 rfl) ?_
      refine RL.q (.yes rfl rfl rfl) rfl rfl (Yld.load p22 rfl (at1 (hB7.cell rfl))) ?_
      refine RL.q (.yes rfl rfl rfl) rfl rfl (Yld.pure rfl) ?_
      iterate 2 refine RL.p rfl rfl ?_
      refine RL.knownF (d:=53) rfl rfl (by simp) ?_
      refine RL.q (.yes rfl rfl rfl) rfl rfl (Yld.fieldAddr fo41_4 rfl) ?_
      refine RL.q (.yes rfl rfl rfl) rfl rfl (Yld.load p28 rfl (at1 (hB6.cell rfl))) ?_
      refine RL.q (.yes rfl rfl rfl) rfl rfl (Yld.fieldAddr fo41_4 rfl) ?_
      refine RL.q (.yes rfl rfl rfl) rfl rfl (Yld.load p28 rfl (at1 (hB7.cell rfl))) ?_
      refine RL.op (.yes rfl rfl rfl) rfl rfl (Does.call rfl e65 (sameM_ok No No ms _ _ _ (sx.mod hg4) (sy.mod hg4))) ?_
      rintro _ w5 ⟨rfl,hg5⟩
      refine RL.q (.yes rfl rfl rfl) rfl rfl (Yld.pure rfl) ?_
      iterate 2 refine RL.p rfl rfl ?_
      refine RL.knownF (d:=61) rfl rfl (rfl) ?_
      refine RL.q (.yes rfl rfl rfl) rfl rfl (Yld.fieldAddr fo41_5 rfl) ?_
      refine RL.q (.yes rfl rfl rfl) rfl rfl (Yld.loadN (cs:=bdC bd) a32 rfl (atN (fldN (hB6.mod hg5 (fun h=>h)) 5 3))) ?_
      refine RL.q (.yes rfl rfl rfl) rfl rfl (Yld.fieldAddr fo41_5 rfl) ?_
      refine RL.q (.yes rfl rfl rfl) rfl rfl (Yld.loadN (cs:=bdC bd) a32 rfl (atN (fldN (hB7.mod hg5 (fun h=>h)) 5 3))) ?_
      refine RL.op (.yes rfl rfl rfl) rfl rfl (Does.call rfl e66 (sameBand_ok bd _)) ?_
      rintro _ w6 ⟨rfl,hg6⟩
      refine RL.q (.yes rfl rfl rfl) rfl rfl (Yld.pure rfl) ?_
      refine RL.p rfl rfl ?_
      refine RL.done ?_
      refine RK.condF (hcF rfl (rfl)) ?_
      refine RK.skip ?_
      refine RK.inBlock ?_
      refine RK.region ?_
      iterate 2 refine RL.p rfl rfl ?_
      refine RL.re (d:=18) rfl rfl (succ_i64 (by omega)) ?_
      refine RL.p rfl rfl ?_
      refine RL.done ?_
      exact RK.back (ih (k + 1) _ ⟨(hg4.trans hg5).trans hg6,by omega⟩ (by omega)) ⟨rfl,rfl,rfl,trivial⟩
    · refine DL.op rfl (.free rfl) rfl rfl (Does.alloc i41) ?_
      rintro _ w1 ⟨b7,rfl,hn7⟩
      refine ⟨Mod.any' ((Mod.drew No _).trans hn7.grow),?_⟩
      refine DL.op rfl (.free rfl) rfl rfl (Does.alloc i41) ?_
      rintro _ w2 ⟨b6,rfl,hn6⟩
      refine ⟨Mod.any' (((Mod.drew No _).trans hn7.grow).trans hn6.grow),?_⟩
      have ha6:=hn6.at_
      have ha7:=hn7.at_
      have hz6:=hn6.grow.size
      have hz7:=hn7.grow.size
      have hl6:=hn7.blk.lt
      refine DL.op' rfl (.free rfl) rfl (Does.storeN i41 rfl rfl rfl (silC_one (s:=⟨id,ver,sta,sto,mv,ms,bd⟩) sx) hn6.blk (Nat.le_refl 8)) ?_
      rintro _ w3 ⟨hb3,hm3,_⟩
      refine ⟨(Mod.any' (((Mod.drew No _).trans hn7.grow).trans hn6.grow)).trans (hm3.mono fun b _ e=>by have e' : b=b6:=e;simp only [World.drew] at *;omega),?_⟩
      refine DL.opT rfl (.free rfl) rfl rfl (Does.storeN i41 rfl rfl rfl (silC_one (s:=⟨id,ver,sta,sto,mv',ms,bd⟩) sy) ((hn7.blk.mod hn6.grow (fun h=>h)).mod hm3 (fun e=>by omega)) (Nat.le_refl 8)) ?_
      rintro _ w4 ⟨hb4,hm4,_⟩
      have hB6:Blk w4 b6 41 [.int .i64 id,.int .i64 ver,.int .u64 sta,.int .u64 sto,mv,.bool bd.all,.float .f64 bd.lo,.float .f64 bd.hi]:=Blk.mod (M:=fun b=>b=b7) hb3 hm4 (fun e=>by omega)
      have hB7:Blk w4 b7 41 [.int .i64 id,.int .i64 ver,.int .u64 sta,.int .u64 sto,mv',.bool bd.all,.float .f64 bd.lo,.float .f64 bd.hi]:=hb4
      have hgw4:Grow w' w4:=((((Mod.drew No _).trans hn7.grow).trans hn6.grow).then hm3 (fun b hb e=>by have e' : b=b6:=e;simp only [World.drew] at *;omega)).then hm4 (fun b hb e=>by have e' : b=b7:=e;simp only [World.drew] at *;omega)
      have hg4:Grow w w4:=hg.trans hgw4
      refine DL.done ?_
      refine RK.seq ?_
      refine RK.region ?_
      refine RL.q (.free rfl) rfl rfl (Yld.fieldAddr fo41_0 rfl) ?_
      refine RL.q (.free rfl) rfl rfl (Yld.load p3 rfl (at1 (hB6.cell rfl))) ?_
      refine RL.q (.free rfl) rfl rfl (Yld.fieldAddr fo41_0 rfl) ?_
      refine RL.q (.free rfl) rfl rfl (Yld.load p3 rfl (at1 (hB7.cell rfl))) ?_
      iterate 2 refine RL.p rfl rfl ?_
      refine RL.knownF (d:=32) rfl rfl (by simp) ?_
      refine RL.q (.yes rfl rfl rfl) rfl rfl (Yld.fieldAddr fo41_1 rfl) ?_
      refine RL.q (.yes rfl rfl rfl) rfl rfl (Yld.load p3 rfl (at1 (hB6.cell rfl))) ?_
      refine RL.q (.yes rfl rfl rfl) rfl rfl (Yld.fieldAddr fo41_1 rfl) ?_
      refine RL.q (.yes rfl rfl rfl) rfl rfl (Yld.load p3 rfl (at1 (hB7.cell rfl))) ?_
      refine RL.q (.yes rfl rfl rfl) rfl rfl (Yld.pure rfl) ?_
      iterate 2 refine RL.p rfl rfl ?_
      refine RL.knownF (d:=39) rfl rfl (by simp) ?_
      refine RL.q (.yes rfl rfl rfl) rfl rfl (Yld.fieldAddr fo41_2 rfl) ?_
      refine RL.q (.yes rfl rfl rfl) rfl rfl (Yld.load p22 rfl (at1 (hB6.cell rfl))) ?_
      refine RL.q (.yes rfl rfl rfl) rfl rfl (Yld.fieldAddr fo41_2 rfl) ?_
      refine RL.q (.yes rfl rfl rfl) rfl rfl (Yld.load p22 rfl (at1 (hB7.cell rfl))) ?_
      refine RL.q (.yes rfl rfl rfl) rfl rfl (Yld.pure rfl) ?_
      iterate 2 refine RL.p rfl rfl ?_
      refine RL.knownF (d:=46) rfl rfl (by simp) ?_
      refine RL.q (.yes rfl rfl rfl) rfl rfl (Yld.fieldAddr fo41_3 rfl) ?_
      refine RL.q (.yes rfl rfl rfl) rfl rfl (Yld.load p22 rfl (at1 (hB6.cell rfl))) ?_
      refine RL.q (.yes rfl rfl rfl) rfl rfl (Yld.fieldAddr fo41_3 rfl) ?_
      refine RL.q (.yes rfl rfl rfl) rfl rfl (Yld.load p22 rfl (at1 (hB7.cell rfl))) ?_
      refine RL.q (.yes rfl rfl rfl) rfl rfl (Yld.pure rfl) ?_
      iterate 2 refine RL.p rfl rfl ?_
      refine RL.knownF (d:=53) rfl rfl (by simp) ?_
      refine RL.q (.yes rfl rfl rfl) rfl rfl (Yld.fieldAddr fo41_4 rfl) ?_
      refine RL.q (.yes rfl rfl rfl) rfl rfl (Yld.load p28 rfl (at1 (hB6.cell rfl))) ?_
      refine RL.q (.yes rfl rfl rfl) rfl rfl (Yld.fieldAddr fo41_4 rfl) ?_
      refine RL.q (.yes rfl rfl rfl) rfl rfl (Yld.load p28 rfl (at1 (hB7.cell rfl))) ?_
      refine RL.op (.yes rfl rfl rfl) rfl rfl (Does.call rfl e65 (sameM_ok No No ms _ _ _ (sx.mod hg4) (sy.mod hg4))) ?_
      rintro _ w5 ⟨rfl,hg5⟩
      refine RL.q (.yes rfl rfl rfl) rfl rfl (Yld.pure rfl) ?_
      iterate 2 refine RL.p rfl rfl ?_
      refine RL.knownF (d:=61) rfl rfl (rfl) ?_
      refine RL.q (.yes rfl rfl rfl) rfl rfl (Yld.fieldAddr fo41_5 rfl) ?_
      refine RL.q (.yes rfl rfl rfl) rfl rfl (Yld.loadN (cs:=bdC bd) a32 rfl (atN (fldN (hB6.mod hg5 (fun h=>h)) 5 3))) ?_
      refine RL.q (.yes rfl rfl rfl) rfl rfl (Yld.fieldAddr fo41_5 rfl) ?_
      refine RL.q (.yes rfl rfl rfl) rfl rfl (Yld.loadN (cs:=bdC bd) a32 rfl (atN (fldN (hB7.mod hg5 (fun h=>h)) 5 3))) ?_
      refine RL.op (.yes rfl rfl rfl) rfl rfl (Does.call rfl e66 (sameBand_ok bd _)) ?_
      rintro _ w6 ⟨rfl,hg6⟩
      refine RL.q (.yes rfl rfl rfl) rfl rfl (Yld.pure rfl) ?_
      refine RL.p rfl rfl ?_
      refine RL.done ?_
      refine RK.condF (hcF rfl (rfl)) ?_
      refine RK.skip ?_
      refine RK.inBlock ?_
      refine RK.region ?_
      iterate 2 refine RL.p rfl rfl ?_
      refine RL.re (d:=18) rfl rfl (succ_i64 (by omega)) ?_
      refine RL.p rfl rfl ?_
      refine RL.done ?_
      exact RK.back (ih (k + 1) _ ⟨(hg4.trans hg5).trans hg6,by omega⟩ (by omega)) ⟨rfl,rfl,rfl,trivial⟩
  · refine RK.exit rfl ?_
    refine RK.seq ?_
    refine RK.region ?_
    refine RL.p rfl rfl ?_
    refine RL.done ?_
    refine RK.ret_of Tryz.func25 (res1 rfl rfl) ?_ _
    exact ⟨_,rfl,rfl,hg⟩
end Go.Proofs.YtbcbfjnlnmhpbaaGreat
set_option linter.unusedVariables false
set_option linter.unusedSimpArgs false
set_option maxHeartbeats 3200000
set_option maxRecDepth 100000
namespace Go.Proofs.YtbcbfjnlnmhpbaaGreat
open Go Go.X
theorem Gz.update {s:SS} (g:Gz s) (now id a b:Int) (hb:0≤b) (ms:List Mt) (bd:Bd):Gz (updateS s now id a b ms bd).1:=by
 unfold updateS
 split
 ·exact g
 ·split
  ·exact g
  ·split
   ·exact g
   ·rename_i x hx
    split
    ·exact g
    ·split
     ·exact g
     ·rename_i hf
      have hsp:=fits_span hf
      split
      ·exact g
      ·exact g.turn hx rfl ⟨hb,hsp.2.2⟩
end Go.Proofs.YtbcbfjnlnmhpbaaGreat
set_option linter.unusedVariables false
set_option linter.unusedSimpArgs false
set_option maxHeartbeats 3200000
set_option maxRecDepth 100000
namespace Go.Proofs.YtbcbfjnlnmhpbaaGreat
open Go Go.X
def SzS (s:SS):Prop:=∀ a∈s.sl,(∀ m∈a.ms,m.name.size≤9223372036854775807)∧a.ms.length≤1000000
def SzM (ms:List Mt):Prop:=(∀ m∈ms,m.name.size≤9223372036854775807)∧ms.length≤1000000
theorem SzS.make {s:SS} (h:SzS s) (now a b:Int) {ms:List Mt} (hm:SzM ms) (bd:Bd):SzS (makeS s now a b ms bd).1:=by
 unfold makeS
 split
 ·exact h
 ·split
  ·exact h
  ·split
   ·exact h
   ·intro x hx
    rcases List.mem_append.1 hx with hx | hx
    ·exact h x hx
    ·rw [List.mem_singleton] at hx;subst hx;exact hm
theorem SzS.turn {s:SS} (h:SzS s) {i:Nat} {a:Slz} (ha:SzM a.ms):SzS (turnS s i a):=by
 intro x hx
 rcases List.mem_or_eq_of_mem_set hx with hx | rfl
 ·exact h x hx
 ·exact ha
theorem SzS.expire {s:SS} (h:SzS s) (now id:Int):SzS (expireS s now id).1:=by
 unfold expireS
 split
 ·exact h
 ·split
  ·exact h
  ·rename_i a ha
   split
   ·exact h
   ·exact h.turn (h a (List.mem_of_getElem? ha))
theorem SzS.update {s:SS} (h:SzS s) (now id a b:Int) {ms:List Mt} (hm:SzM ms) (bd:Bd):SzS (updateS s now id a b ms bd).1:=by
 unfold updateS
 split
 ·exact h
 ·split
  ·exact h
  ·split
   ·exact h
   ·split
    ·exact h
    ·split
     ·exact h
     ·split
      ·exact h
      ·exact h.turn hm
theorem SzS.swept {s:SS} (h:SzS s) (now:Int):SzS (sweptZ s now):=fun a ha=>h a (List.mem_filter.1 ha).1
theorem last_make (s:SS) (now a b:Int) (ms:List Mt) (bd:Bd):(makeS s now a b ms bd).1.last≤s.last + 1:=by
 unfold makeS
 split
 ·simp only;omega
 ·split
  ·simp only;omega
  ·split <;> (simp only;omega)
theorem last_expire (s:SS) (now id:Int):(expireS s now id).1.last=s.last:=by
 unfold expireS
 split
 ·rfl
 ·split
  ·rfl
  ·split <;> rfl
theorem last_update (s:SS) (now id a b:Int) (ms:List Mt) (bd:Bd):(updateS s now id a b ms bd).1.last=s.last:=by
 unfold updateS
 split
 ·rfl
 ·split
  ·rfl
  ·split
   ·rfl
   ·split
    ·rfl
    ·split
     ·rfl
     ·split <;> rfl
structure TZ (O1 O2 M:Nat→Prop) (w:World) (p q:Nat) (s:SS):Prop where
 z:ZStore O1 M w p s
 r:RStore O2 M w q s
 off:∀ b,O1 b→¬ O2 b
 g:Gz s
 sz:SzS s
theorem TZ.grow {O1 O2 M:Nat→Prop} {w w' : World} {p q:Nat} {s:SS} (h:TZ O1 O2 M w p q s) (hg:Grow w w'):TZ O1 O2 M w' p q s:=⟨h.z.grow hg,h.r.grow hg,h.off,h.g,h.sz⟩
theorem TZ.mid {O1 O2 M O1' : Nat→Prop} {w w1:World} {p q:Nat} {s s' : SS} (h:TZ O1 O2 M w p q s) (hz:ZStore O1' (fun x=>M x∨O1' x) w1 p s') (hm:Mod O1 w w1) (hO:∀ x,O1' x→O1 x∨w.heap.size≤x):RStore O2 (fun x=>M x∨O1' x) w1 q s∧∀ b,O1' b→¬ O2 b:=
 ⟨h.r.other hm h.z.inM (fun b e e1=>h.off b e1 e) (fun b e=>e.elim .inl fun e=>(hO b e).elim (fun e=>.inl (h.z.inM b e)) .inr) (fun b e=>.inl e) (fun b e=>e.elim (fun e=>Nat.lt_of_lt_of_le (h.z.below b e) hm.size) (hz.lt b)),
  fun b e e2=>(hO b e).elim (fun e=>h.off b e e2) fun e=>by have:=h.r.lt b e2;omega⟩
theorem TZ.done {O1' O2 O2' M1:Nat→Prop} {w1 w2:World} {p q:Nat} {s s' : SS} (hz:ZStore O1' M1 w1 p s') (hr:RStore O2 M1 w1 q s) (hoff:∀ b,O1' b→¬ O2 b) (hr2:RStore O2' (fun x=>M1 x∨O2' x) w2 q s') (hm:Mod O2 w1 w2) (hO:∀ x,O2' x→O2 x∨w1.heap.size≤x) (g:Gz s') (sz:SzS s'):TZ O1' O2' (fun x=>M1 x∨O2' x) w2 p q s':=
 ⟨hz.other hm hr.inM hoff (fun b e=>e.elim .inl fun e=>(hO b e).elim (fun e=>.inl (hr.inM b e)) .inr) (fun b e=>.inl e) (fun b e=>e.elim (fun e=>Nat.lt_of_lt_of_le (hz.below b e) hm.size) (hr2.lt b)),hr2,
  fun b e e2=>(hO b e2).elim (hoff b e) (fun e2=>by have:=hz.lt b e;omega),g,sz⟩
structure S14 where
 kind:Int
 now:Int
 start:Int
 stop:Int
 id:Int
 mv:Value
 ms:List Dm
 bn:Bn
def stepC (x:S14):List Value:=[.int .u8 x.kind,.int .u64 x.now,.int .u64 x.start,.int .u64 x.stop,.int .i64 x.id,x.mv,.int .i64 x.bn.k,.float .f64 x.bn.lo,.float .f64 x.bn.hi]
theorem stepC_len (x:S14):(stepC x).length=9:=rfl
structure S14.Ok (w:World) (x:S14):Prop where
 s:Sl No w x.mv 3 x.ms.length (x.ms.flatMap dmC)
 n0:0≤x.now
 n1:x.now < 18446744073709551616
 e0:0≤x.stop
 k0:0≤x.kind
theorem S14.Ok.mod {w w' : World} {x:S14} (h:x.Ok w) (hg:Grow w w'):x.Ok w':=⟨h.s.mod hg,h.n0,h.n1,h.e0,h.k0⟩
def After (M:Nat→Prop) (w w' : World) (p q:Nat) (s:SS):Prop:=∃ s' O1' O2' M',TZ O1' O2' M' w' p q s'∧s'.last≤s.last + 1∧s'.most=s.most∧Mod M w w'∧∀ b,M' b→M b∨w.heap.size≤b
theorem most_make (s:SS) (now a b:Int) (ms:List Mt) (bd:Bd):(makeS s now a b ms bd).1.most=s.most:=by
 unfold makeS
 split
 ·rfl
 ·split
  ·rfl
  ·split <;> rfl
theorem most_expire (s:SS) (now id:Int):(expireS s now id).1.most=s.most:=by
 unfold expireS
 split
 ·rfl
 ·split
  ·rfl
  ·split <;> rfl
theorem most_update (s:SS) (now id a b:Int) (ms:List Mt) (bd:Bd):(updateS s now id a b ms bd).1.most=s.most:=by
 unfold updateS
 split
 ·rfl
 ·split
  ·rfl
  ·split
   ·rfl
   ·split
    ·rfl
    ·split
     ·rfl
     ·split <;> rfl
theorem TZ.after {O1 O2 M O1' O2' : Nat→Prop} {w0 w w1 w2:World} {p q:Nat} {s s' : SS} (h:TZ O1 O2 M w p q s) (hg:Grow w0 w) (hz:ZStore O1' (fun x=>M x∨O1' x) w1 p s') (hm1:Mod O1 w w1) (hO1:∀ x,O1' x→O1 x∨w.heap.size≤x)
  (hr2:RStore O2' (fun x=>(fun x=>M x∨O1' x) x∨O2' x) w2 q s') (hm2:Mod O2 w1 w2) (hO2:∀ x,O2' x→O2 x∨w1.heap.size≤x) (g:Gz s') (sz:SzS s') (hl:s'.last≤s.last + 1) (hmo:s'.most=s.most):After M w0 w2 p q s:=by
 obtain ⟨hr,hoff⟩:=h.mid hz hm1 hO1
 have hz0:=hg.size
 have hz1:=hm1.size
 refine ⟨s',O1',O2',_,TZ.done hz hr hoff hr2 hm2 hO2 g sz,hl,hmo,((Mod.any' hg).trans (hm1.mono fun b _ e=>h.z.inM b e)).trans (hm2.mono fun b _ e=>h.r.inM b e),fun b e=>?_⟩
 have k1:O1' b→M b∨w0.heap.size≤b:=fun e=>(hO1 b e).elim (fun e=>.inl (h.z.inM b e)) fun e=>.inr (by omega)
 rcases e with (e | e) | e
 ·exact .inl e
 ·exact k1 e
 ·exact (hO2 b e).elim (fun e=>.inl (h.r.inM b e)) fun e=>.inr (by omega)
theorem step14_ok (w:World) (p q:Nat) (s:SS) (x:S14) (O1 O2 M:Nat→Prop) (h:TZ O1 O2 M w p q s) (hx:x.Ok w) (hl:s.last≤1000000) :
  Fx Tryz.prog 23 [pp p,pp q,.agg (stepC x).toArray] w (fun u w'=>u=.bool true∧After M w w' p q s):=by
 obtain ⟨ms,hms⟩:∃ ms,ms=matsS x.ms (decide (x.kind.tmod 7≠0)):=⟨_,rfl⟩
 have hmsz:SzM ms:=by rw [hms];exact ⟨matsS_name _ _,Nat.le_trans (matsS_len _ _) (by omega)⟩
 have hpw:=h.z.lt
 refine enter Tryz.func23 rfl rfl rfl _ (Pick.sub (l:=[0,1,2]) (.cons rfl (.cons rfl (.cons rfl .nil)))) ?_
 refine GG ?_
 refine OP (Does.box rfl) ?_
 rintro _ w1 ⟨b5,rfl,hn5⟩
 have hB5:Blk w1 b5 62 (stepC x):=hn5.blk
 have hat5:=hn5.at_
 have hb5:¬ w1.heap.size≤b5:=by have:=hB5.lt;omega
 refine RL.p rfl rfl ?_
 refine RL.done ?_
 refine RK.seq ?_
 refine RK.cutS (fun s:Value×Nat=>[(0,pp p),(1,pp q),(5,pp b5),(7,s.1),(8,pp s.2)]) (fun s w'=>Row w' 108 3 s.1 ms.length (ms.flatMap mtC)∧Fresh w1.heap.size s.1∧Blk w' s.2 32 (bdC (bandOf x.bn))∧Grow w1 w'∧w1.heap.size≤s.2) (fun s2 w2 hQ=>?_) (fun hj=>?_)
 ·obtain ⟨vm,b8⟩:=s2
  obtain ⟨hrm,hfm,hB8,hg2,hsz8⟩:=hQ
  simp only at hrm hfm hB8 hsz8
  have hg02:=hn5.grow.trans hg2
  have h2:=h.grow hg02
  have hB5b:=hB5.mod hg2 (fun h=>h)
  have hz02:=hn5.grow.size
  have hz2:=hg2.size
  have hne5:¬ O1 b5:=fun e=>by have:=h.z.lt b5 e;omega
  have hne8:¬ O1 b8:=fun e=>by have:=h.z.lt b8 e;omega
  have hM5:¬ M b5:=fun e=>by have:=h.z.below b5 e;omega
  have hM8:¬ M b8:=fun e=>by have:=h.z.below b8 e;omega
  have hms2:SlM M w2 vm ms:=Sl.own hrm (fun k hk e=>by have:=hfm k hk;have:=h.z.below k e;omega)
  refine GG ?_
  refine QQ (Yld.fieldAddr fo62_0 rfl) ?_
  refine QQ (Yld.load p5 rfl (at1 (hB5b.cell rfl))) ?_
  refine QQ (Yld.rem rfl rfl (by omega)) ?_
  refine GG ?_
  refine CD (fun ha=>?_) (fun ha=>?_)
  ·refine RK.skip ?_
   refine RK.condT (hcT rfl (by first | exact ha | exact decide_eq_true ha | simpa using ha)) ?_
   refine GG ?_
   refine QQ (Yld.fieldAddr fo62_1 rfl) ?_
   refine QQ (Yld.load p22 rfl (at1 (hB5b.cell rfl))) ?_
   refine QQ (Yld.fieldAddr fo62_2 rfl) ?_
   refine QQ (Yld.load p22 rfl (at1 (hB5b.cell rfl))) ?_
   refine QQ (Yld.fieldAddr fo62_3 rfl) ?_
   refine QQ (Yld.load p22 rfl (at1 (hB5b.cell rfl))) ?_
   refine RL.p rfl rfl ?_
   refine QQ (Yld.loadN (cs:=bdC (bandOf x.bn)) a32 rfl (atN (blk0' hB8))) ?_
   refine OP (Does.call rfl e11 (makeZ_ok _ p s O1 M h2.z h2.g (by omega) x.now x.start x.stop hx.e0 ms vm (bandOf x.bn) hms2 hmsz.2)) ?_
   rintro _ w3 ⟨O3,rfl,hz3,hm3,hO3⟩
   obtain ⟨hr3,hoff3⟩:=h2.mid hz3 hm3 hO3
   have hB5c:=hB5b.mod hm3 hne5
   have hB8c:=hB8.mod hm3 hne8
   have hms3:SlM (fun x=>M x∨O3 x) w3 vm ms:=hms2.pass (by omega) (hm3.mono fun b _ e=>h2.z.inM b e) (fun b e=>e.elim .inl fun e=>(hO3 b e).elim (fun e=>.inl (h2.z.inM b e)) .inr)
   refine GG ?_
   refine QQ (Yld.fieldAddr fo62_1 rfl) ?_
   refine QQ (Yld.load p22 rfl (at1 (hB5c.cell rfl))) ?_
   refine QQ (Yld.fieldAddr fo62_2 rfl) ?_
   refine QQ (Yld.load p22 rfl (at1 (hB5c.cell rfl))) ?_
   refine QQ (Yld.fieldAddr fo62_3 rfl) ?_
   refine QQ (Yld.load p22 rfl (at1 (hB5c.cell rfl))) ?_
   refine RL.p rfl rfl ?_
   refine QQ (Yld.loadN (cs:=bdC (bandOf x.bn)) a32 rfl (atN (blk0' hB8c))) ?_
   refine OP (Does.call rfl e30 (makeR9_ok _ q s O2 _ hr3 h2.g (by omega) x.now x.start x.stop ms hmsz.1 vm (bandOf x.bn) hms3 hmsz.2)) ?_
   rintro _ w4 ⟨O4,rfl,hr4,hm4,hO4⟩
   refine GG ?_
   refine RL.knownT (d:=58) rfl rfl (decide_eq_true rfl) ?_
   iterate 3 refine QQ (Yld.pure rfl) ?_
   refine GG ?_
   refine RK.ret_of Tryz.func23 (res1 rfl rfl) ?_ _
   exact ⟨_,rfl,by simp,h2.after hg02 hz3 hm3 hO3 hr4 hm4 hO4 (h2.g.make _ _ _ hx.e0 _ _) (h2.sz.make _ _ _ hmsz _) (last_make _ _ _ _ _ _) (most_make _ _ _ _ _ _)⟩
  ·refine GG ?_
   refine CD (fun hb=>?_) (fun hb=>?_)
   ·refine GG ?_
    refine QQ (Yld.fieldAddr fo62_1 rfl) ?_
    refine QQ (Yld.load p22 rfl (at1 (hB5b.cell rfl))) ?_
    refine QQ (Yld.fieldAddr fo62_2 rfl) ?_
    refine QQ (Yld.load p22 rfl (at1 (hB5b.cell rfl))) ?_
    refine QQ (Yld.fieldAddr fo62_3 rfl) ?_
    refine QQ (Yld.load p22 rfl (at1 (hB5b.cell rfl))) ?_
    refine RL.p rfl rfl ?_
    refine QQ (Yld.loadN (cs:=bdC (bandOf x.bn)) a32 rfl (atN (blk0' hB8))) ?_
    refine OP (Does.call rfl e11 (makeZ_ok _ p s O1 M h2.z h2.g (by omega) x.now x.start x.stop hx.e0 ms vm (bandOf x.bn) hms2 hmsz.2)) ?_
    rintro _ w3 ⟨O3,rfl,hz3,hm3,hO3⟩
    obtain ⟨hr3,hoff3⟩:=h2.mid hz3 hm3 hO3
    have hB5c:=hB5b.mod hm3 hne5
    have hB8c:=hB8.mod hm3 hne8
    have hms3:SlM (fun x=>M x∨O3 x) w3 vm ms:=hms2.pass (by omega) (hm3.mono fun b _ e=>h2.z.inM b e) (fun b e=>e.elim .inl fun e=>(hO3 b e).elim (fun e=>.inl (h2.z.inM b e)) .inr)
    refine GG ?_
    refine QQ (Yld.fieldAddr fo62_1 rfl) ?_
    refine QQ (Yld.load p22 rfl (at1 (hB5c.cell rfl))) ?_
    refine QQ (Yld.fieldAddr fo62_2 rfl) ?_
    refine QQ (Yld.load p22 rfl (at1 (hB5c.cell rfl))) ?_
    refine QQ (Yld.fieldAddr fo62_3 rfl) ?_
    refine QQ (Yld.load p22 rfl (at1 (hB5c.cell rfl))) ?_
    refine RL.p rfl rfl ?_
    refine QQ (Yld.loadN (cs:=bdC (bandOf x.bn)) a32 rfl (atN (blk0' hB8c))) ?_
    refine OP (Does.call rfl e30 (makeR9_ok _ q s O2 _ hr3 h2.g (by omega) x.now x.start x.stop ms hmsz.1 vm (bandOf x.bn) hms3 hmsz.2)) ?_
    rintro _ w4 ⟨O4,rfl,hr4,hm4,hO4⟩
    refine GG ?_
    refine RL.knownT (d:=58) rfl rfl (decide_eq_true rfl) ?_
    iterate 3 refine QQ (Yld.pure rfl) ?_
    refine GG ?_
    refine RK.ret_of Tryz.func23 (res1 rfl rfl) ?_ _
    exact ⟨_,rfl,by simp,h2.after hg02 hz3 hm3 hO3 hr4 hm4 hO4 (h2.g.make _ _ _ hx.e0 _ _) (h2.sz.make _ _ _ hmsz _) (last_make _ _ _ _ _ _) (most_make _ _ _ _ _ _)⟩
   ·have hgd:=hg02.trans (Mod.drew No w2)
    have hd:=h2.grow (Mod.drew No w2)
    have hmsd:=hms2.mod (Mod.any' (Mod.drew No w2))
    refine GG ?_
    refine CD (fun hc=>?_) (fun hc=>?_)
    ·refine RK.seq ?_
     refine RK.drawM M [(0,false),(1,false),(2,false),(3,false),(4,false),(5,false),(6,false),(7,false),(8,false),(9,false),(10,false),(12,false),(13,false),(14,false),(15,false),(16,false),(17,false),(18,false),(19,false),(20,false),(21,false),(22,false),(11,true),(23,true),(24,false),(25,false)] [] mixed (by kernel_rfl) ?_
     refine DL.p rfl rfl rfl ?_
     refine DF (Yld.fieldAddr fo62_1 rfl) ?_
     refine DQ (Yld.load p22 rfl (atM (hB5b.cell rfl) (hM5))) (Mod.drew _ _) ?_
     refine DF (Yld.fieldAddr fo62_4 rfl) ?_
     refine DQ (Yld.load p3 rfl (atM (hB5b.cell rfl) (hM5))) (Mod.drew _ _) ?_
     refine DF (Yld.fieldAddr fo62_2 rfl) ?_
     refine DQ (Yld.load p22 rfl (atM (hB5b.cell rfl) (hM5))) (Mod.drew _ _) ?_
     refine DF (Yld.fieldAddr fo62_3 rfl) ?_
     refine DQ (Yld.load p22 rfl (atM (hB5b.cell rfl) (hM5))) (Mod.drew _ _) ?_
     refine DL.p rfl rfl rfl ?_
     refine DQ (Yld.loadN (cs:=bdC (bandOf x.bn)) a32 rfl (atNM (blk0' hB8) (hM8))) (Mod.drew _ _) ?_
     refine DL.p rfl rfl rfl ?_
     refine DF (Yld.fieldAddr fo62_1 rfl) ?_
     refine DQ (Yld.load p22 rfl (atM (hB5b.cell rfl) (hM5))) (Mod.drew _ _) ?_
     refine DF (Yld.fieldAddr fo62_4 rfl) ?_
     refine DQ (Yld.load p3 rfl (atM (hB5b.cell rfl) (hM5))) (Mod.drew _ _) ?_
     refine DF (Yld.fieldAddr fo62_2 rfl) ?_
     refine DQ (Yld.load p22 rfl (atM (hB5b.cell rfl) (hM5))) (Mod.drew _ _) ?_
     refine DF (Yld.fieldAddr fo62_3 rfl) ?_
     refine DQ (Yld.load p22 rfl (atM (hB5b.cell rfl) (hM5))) (Mod.drew _ _) ?_
     refine DL.p rfl rfl rfl ?_
     refine DQ (Yld.loadN (cs:=bdC (bandOf x.bn)) a32 rfl (atNM (blk0' hB8) (hM8))) (Mod.drew _ _) ?_
     refine OD (Does.call rfl e21 (updateZ_ok _ p s O1 M hd.z hd.g x.now x.id x.start x.stop hx.e0 ms vm (bandOf x.bn) hmsd hmsz.2)) ?_
     rintro _ w3 ⟨O3,rfl,hz3,hm3,hO3⟩
     refine ⟨(Mod.drew _ _).trans (hm3.mono fun b _ e=>h2.z.inM b e),?_⟩
     obtain ⟨hr3,hoff3⟩:=hd.mid hz3 hm3 hO3
     have hms3:SlM (fun x=>M x∨O3 x) w3 vm ms:=hmsd.pass (by omega) (hm3.mono fun b _ e=>h2.z.inM b e) (fun b e=>e.elim .inl fun e=>(hO3 b e).elim (fun e=>.inl (h2.z.inM b e)) .inr)
     refine OD (Does.call rfl e33 (updateR9_ok _ q s O2 _ hr3 h2.g x.now x.id x.start x.stop ms hmsz.1 vm (bandOf x.bn) hms3 hmsz.2)) ?_
     rintro _ w4 ⟨rfl,hr4,hm4⟩
     refine ⟨((Mod.drew _ _).trans (hm3.mono fun b _ e=>h2.z.inM b e)).trans (hm4.mono fun b _ e=>h2.r.inM b e),?_⟩
     refine GG ?_
     refine RK.ret_of Tryz.func23 (res1 rfl rfl) ?_ _
     exact ⟨_,rfl,by simp,hd.after hgd hz3 hm3 hO3 hr4 hm4 (fun x e=>.inl e) (h2.g.update _ _ _ _ hx.e0 _ _) (h2.sz.update _ _ _ _ hmsz _) (by rw [last_update];omega) (most_update _ _ _ _ _ _ _)⟩
    ·refine GG ?_
     refine CD (fun he=>?_) (fun he=>?_)
     ·refine RK.seq ?_
      refine RK.drawM M [(0,false),(1,false),(2,false),(3,false),(4,false),(6,false),(7,false),(8,false),(9,false),(10,false),(5,true),(11,true),(12,false),(13,false)] [] mixed (by kernel_rfl) ?_
      refine DL.p rfl rfl rfl ?_
      refine DF (Yld.fieldAddr fo62_1 rfl) ?_
      refine DQ (Yld.load p22 rfl (atM (hB5b.cell rfl) (hM5))) (Mod.drew _ _) ?_
      refine DF (Yld.fieldAddr fo62_4 rfl) ?_
      refine DQ (Yld.load p3 rfl (atM (hB5b.cell rfl) (hM5))) (Mod.drew _ _) ?_
      refine DL.p rfl rfl rfl ?_
      refine DF (Yld.fieldAddr fo62_1 rfl) ?_
      refine DQ (Yld.load p22 rfl (atM (hB5b.cell rfl) (hM5))) (Mod.drew _ _) ?_
      refine DF (Yld.fieldAddr fo62_4 rfl) ?_
      refine DQ (Yld.load p3 rfl (atM (hB5b.cell rfl) (hM5))) (Mod.drew _ _) ?_
      refine OD (Does.call rfl e20 (expireZ_ok _ p s O1 M hd.z hd.g x.now x.id hx.n0)) ?_
      rintro _ w3 ⟨O3,rfl,hz3,hm3,hO3⟩
      refine ⟨(Mod.drew _ _).trans (hm3.mono fun b _ e=>h2.z.inM b e),?_⟩
      obtain ⟨hr3,hoff3⟩:=hd.mid hz3 hm3 hO3
      refine OD (Does.call rfl e34 (expireR9_ok _ q s O2 _ hr3 h2.g x.now x.id)) ?_
      rintro _ w4 ⟨rfl,hr4,hm4⟩
      refine ⟨((Mod.drew _ _).trans (hm3.mono fun b _ e=>h2.z.inM b e)).trans (hm4.mono fun b _ e=>h2.r.inM b e),?_⟩
      refine GG ?_
      refine RK.ret_of Tryz.func23 (res1 rfl rfl) ?_ _
      exact ⟨_,rfl,by simp,hd.after hgd hz3 hm3 hO3 hr4 hm4 (fun x e=>.inl e) (h2.g.expire _ _ hx.n0) (h2.sz.expire _ _) (by rw [last_expire];omega) (most_expire _ _ _)⟩
     ·refine GG ?_
      refine RK.drawM M [(0,false),(1,false),(2,false),(4,false),(5,false),(6,false),(3,true),(7,true),(8,true),(9,false)] [] mixed (by kernel_rfl) ?_
      refine DL.p rfl rfl rfl ?_
      refine DF (Yld.fieldAddr fo62_1 rfl) ?_
      refine DQ (Yld.load p22 rfl (atM (hB5b.cell rfl) (hM5))) (Mod.drew _ _) ?_
      refine DL.p rfl rfl rfl ?_
      refine DF (Yld.fieldAddr fo62_1 rfl) ?_
      refine DQ (Yld.load p22 rfl (atM (hB5b.cell rfl) (hM5))) (Mod.drew _ _) ?_
      refine OD (Does.call rfl e18 (sweepO_ok _ p s O1 M hd.z hd.g x.now)) ?_
      rintro u3 w3 ⟨O3,ids,⟨fs,hs1,hp1,rfl⟩,hr1,hf1,_,hz3,hm3,hO3,hno3⟩
      refine ⟨(Mod.drew _ _).trans (hm3.mono fun b _ e=>h2.z.inM b e),?_⟩
      obtain ⟨hr3,hoff3⟩:=hd.mid hz3 hm3 hO3
      refine OD (Does.call rfl e62 (sweepR9_ok _ q s O2 _ hr3 h2.g x.now hx.n1)) ?_
      rintro u4 w4 ⟨O4,ids,⟨gs,hs2,hp2,rfl⟩,hr2,hf2,hr4,hm4,hO4,hno4⟩
      refine ⟨((Mod.drew _ _).trans (hm3.mono fun b _ e=>h2.z.inM b e)).trans (hm4.mono fun b _ e=>h2.r.inM b e),?_⟩
      have hr14:=hr1.mod hm4 (fun b e e2=>by have h1:=hf1 b e;have h2:=hd.r.lt b e2;omega)
      have heq:=swept_eq hs1 hp1 hs2 hp2
      refine OD (Does.call rfl e27 (sameInts_ok No _ _ _ _ _ (Sl.own hr14 (fun _ _ h=>h)) (Sl.own hr2 (fun _ _ h=>h)))) ?_
      rintro _ w5 ⟨rfl,hg5⟩
      refine ⟨(((Mod.drew _ _).trans (hm3.mono fun b _ e=>h2.z.inM b e)).trans (hm4.mono fun b _ e=>h2.r.inM b e)).trans (Mod.any' hg5),?_⟩
      obtain ⟨s',O1',O2',M',hT,q1,q2,q3,q4⟩:=hd.after hgd hz3 hm3 hO3 hr4 hm4 hO4 (h2.g.swept _) (h2.sz.swept _) (show s.last≤s.last + 1 by omega) rfl
      refine GG ?_
      refine RK.ret_of Tryz.func23 (res1 rfl rfl) ?_ _
      exact ⟨_,rfl,by rw [heq];simp,s',O1',O2',M',hT.grow hg5,q1,q2,q3.trans (Mod.any' hg5),q4⟩
 ·refine RK.drawT (fun b=>w1.heap.size≤b) (.op 0 false (.op 1 false (.op 2 false (.op 3 false (.op 4 false (.op 5 false (.op 7 false (.op 8 false (.fork 6 (.fork 9 (.op 10 true (.op 11 false (.op 12 true .nil))) 10 (.op 9 true (.op 11 false (.op 12 true .nil)))) 10 (.op 6 true (.op 9 true (.op 11 false (.op 12 true .nil))))))))))))) [] mixed (by kernel_rfl) ?_
  refine DT.qf rfl (.free rfl) rfl rfl (Yld.fieldAddr fo62_5 rfl) ?_
  refine DT.q rfl (.free rfl) rfl rfl rfl (Yld.load p58 rfl (atM (hB5.cell rfl) (hb5))) (Mod.drew _ _) ?_
  have hxs:=hx.s.mod (hn5.grow.trans (Mod.drew No w1))
  refine DT.qf rfl (.free rfl) rfl rfl (Yld.fieldAddr fo62_0 rfl) ?_
  refine DT.q rfl (.free rfl) rfl rfl rfl (Yld.load p5 rfl (atM (hB5.cell rfl) (hb5))) (Mod.drew _ _) ?_
  refine DT.qf rfl (.free rfl) rfl rfl (Yld.rem rfl rfl (by omega)) ?_
  refine DT.p rfl rfl rfl ?_
  refine DT.qf rfl (.free rfl) rfl rfl (Yld.fieldAddr fo62_6 rfl) ?_
  refine DT.q rfl (.free rfl) rfl rfl rfl (Yld.loadN (cs:=bnC x.bn) a60 rfl (atNM (fldN hB5 6 3) (hb5))) (Mod.drew _ _) ?_
  refine DT.fork ?_ ?_
  ·refine DT.op rfl (.free rfl) rfl rfl (Does.call rfl e60 (mats_ok No x.ms _ _ _ hxs)) ?_
   rintro u3 w3 ⟨hr3,hf3,hg3⟩
   have hgA:=(Mod.drew No w1).trans hg3
   refine ⟨Mod.any' hgA,?_⟩
   rw [← hms] at hr3
   refine DT.fork ?_ ?_
   ·refine DT.op rfl (.free rfl) rfl rfl (Does.call rfl e61 (band_ok x.bn _)) ?_
    rintro _ w4 ⟨rfl,hg4⟩
    have hgB:=hgA.trans hg4
    refine ⟨Mod.any' hgB,?_⟩
    refine DT.op rfl (.free rfl) rfl rfl (Does.alloc i32) ?_
    rintro _ w5 ⟨b8,rfl,hn8⟩
    have hgC:=hgB.trans hn8.grow
    refine ⟨Mod.any' hgC,?_⟩
    have hz8a:=hgB.size
    have hz3a:=hgA.size
    have hr5:=(hr3.mod hg4 (fun _ _ h=>h)).mod hn8.grow (fun _ _ h=>h)
    refine DT.p rfl rfl rfl ?_
    refine DT.op' rfl (.free rfl) rfl (Does.storeN i32 rfl rfl rfl rfl hn8.blk (Nat.le_refl 3)) ?_
    rintro _ w6 ⟨hb6,hm6,_⟩
    refine ⟨(Mod.any' (hgC)).trans (hm6.mono fun b _ e=>by have e' : b=b8:=e;have:=hn8.at_;have:=hz8a;simp only [World.drew] at *;omega),?_⟩
    refine DT.done ?_
    exact RK.back (hj (u3,b8) _ ⟨hr5.mod hm6 (fun x e1 e2=>(hr5.ty e1).ne (hn8.blk).ty rfl e2),fun b e=>by have:=hf3 b e;have:=hz3a;simp only [World.drew] at *;omega,hb6,hgC.then hm6 (fun b hb e=>by have e' : b=b8:=e;have:=hn8.at_;have:=hz8a;simp only [World.drew] at *;omega),by have:=hn8.at_;have:=hz8a;simp only [World.drew] at *;omega⟩) ⟨rfl,rfl,rfl,rfl,rfl,trivial⟩
   ·refine DT.op rfl (.free rfl) rfl rfl (Does.alloc i32) ?_
    rintro _ w4 ⟨b8,rfl,hn8⟩
    have hgB:=hgA.trans hn8.grow
    refine ⟨Mod.any' hgB,?_⟩
    refine DT.op rfl (.free rfl) rfl rfl (Does.call rfl e61 (band_ok x.bn _)) ?_
    rintro _ w5 ⟨rfl,hg4⟩
    have hgC:=hgB.trans hg4
    refine ⟨Mod.any' hgC,?_⟩
    have hz8a:=hgA.size
    have hz3a:=hgA.size
    have hr5:=(hr3.mod hn8.grow (fun _ _ h=>h)).mod hg4 (fun _ _ h=>h)
    have hb8:=hn8.blk.mod hg4 (fun h=>h)
    refine DT.p rfl rfl rfl ?_
    refine DT.op' rfl (.free rfl) rfl (Does.storeN i32 rfl rfl rfl rfl hb8 (Nat.le_refl 3)) ?_
    rintro _ w6 ⟨hb6,hm6,_⟩
    refine ⟨(Mod.any' (hgC)).trans (hm6.mono fun b _ e=>by have e' : b=b8:=e;have:=hn8.at_;have:=hz8a;simp only [World.drew] at *;omega),?_⟩
    refine DT.done ?_
    exact RK.back (hj (u3,b8) _ ⟨hr5.mod hm6 (fun x e1 e2=>(hr5.ty e1).ne (hb8).ty rfl e2),fun b e=>by have:=hf3 b e;have:=hz3a;simp only [World.drew] at *;omega,hb6,hgC.then hm6 (fun b hb e=>by have e' : b=b8:=e;have:=hn8.at_;have:=hz8a;simp only [World.drew] at *;omega),by have:=hn8.at_;have:=hz8a;simp only [World.drew] at *;omega⟩) ⟨rfl,rfl,rfl,rfl,rfl,trivial⟩
  ·refine DT.op rfl (.free rfl) rfl rfl (Does.alloc i32) ?_
   rintro _ w3 ⟨b8,rfl,hn8⟩
   have hgA:=(Mod.drew No w1).trans hn8.grow
   refine ⟨Mod.any' hgA,?_⟩
   refine DT.op rfl (.free rfl) rfl rfl (Does.call rfl e60 (mats_ok No x.ms _ _ _ (hxs.mod hn8.grow))) ?_
   rintro u3 w4 ⟨hr3,hf3,hg3⟩
   have hgB:=hgA.trans hg3
   refine ⟨Mod.any' hgB,?_⟩
   rw [← hms] at hr3
   refine DT.op rfl (.free rfl) rfl rfl (Does.call rfl e61 (band_ok x.bn _)) ?_
   rintro _ w5 ⟨rfl,hg4⟩
   have hgC:=hgB.trans hg4
   refine ⟨Mod.any' hgC,?_⟩
   have hz8a:w1.heap.size≤w1.heap.size:=Nat.le_refl _
   have hz3a:=hgA.size
   have hr5:=hr3.mod hg4 (fun _ _ h=>h)
   have hb8:=(hn8.blk.mod hg3 (fun h=>h)).mod hg4 (fun h=>h)
   refine DT.p rfl rfl rfl ?_
   refine DT.op' rfl (.free rfl) rfl (Does.storeN i32 rfl rfl rfl rfl hb8 (Nat.le_refl 3)) ?_
   rintro _ w6 ⟨hb6,hm6,_⟩
   refine ⟨(Mod.any' (hgC)).trans (hm6.mono fun b _ e=>by have e' : b=b8:=e;have:=hn8.at_;have:=hz8a;simp only [World.drew] at *;omega),?_⟩
   refine DT.done ?_
   exact RK.back (hj (u3,b8) _ ⟨hr5.mod hm6 (fun x e1 e2=>(hr5.ty e1).ne (hb8).ty rfl e2),fun b e=>by have:=hf3 b e;have:=hz3a;simp only [World.drew] at *;omega,hb6,hgC.then hm6 (fun b hb e=>by have e' : b=b8:=e;have:=hn8.at_;have:=hz8a;simp only [World.drew] at *;omega),by have:=hn8.at_;have:=hz8a;simp only [World.drew] at *;omega⟩) ⟨rfl,rfl,rfl,rfl,rfl,trivial⟩
end Go.Proofs.YtbcbfjnlnmhpbaaGreat
set_option linter.unusedVariables false
set_option linter.unusedSimpArgs false
set_option maxHeartbeats 3200000
set_option maxRecDepth 100000
namespace Go.Proofs.YtbcbfjnlnmhpbaaGreat
open Go Go.X
theorem ris_inj {β:Type} {l:List β} {f:β→Int} (h:Ris (l.map f)) {a b:β} (ha:a∈l) (hb:b∈l) (e:f a=f b):a=b:=by
 obtain ⟨i,hi⟩:=List.getElem?_of_mem ha
 obtain ⟨k,hk⟩:=List.getElem?_of_mem hb
 have hil:=(List.getElem?_eq_some_iff.1 hi).1
 have hkl:=(List.getElem?_eq_some_iff.1 hk).1
 rcases Nat.lt_trichotomy i k with h1 | h1 | h1
 ·have h3:=List.pairwise_iff_getElem.1 h i k (by simpa using hil) (by simpa using hkl) h1
  simp only [List.getElem_map,(List.getElem?_eq_some_iff.1 hi).2,(List.getElem?_eq_some_iff.1 hk).2] at h3
  omega
 ·subst h1;rw [hi] at hk;cases hk;rfl
 ·have h3:=List.pairwise_iff_getElem.1 h k i (by simpa using hkl) (by simpa using hil) h1
  simp only [List.getElem_map,(List.getElem?_eq_some_iff.1 hi).2,(List.getElem?_eq_some_iff.1 hk).2] at h3
  omega
end Go.Proofs.YtbcbfjnlnmhpbaaGreat
set_option linter.unusedVariables false
set_option linter.unusedSimpArgs false
set_option maxHeartbeats 3200000
set_option maxRecDepth 100000
namespace Go.Proofs.YtbcbfjnlnmhpbaaGreat
open Go Go.X
theorem getZ_some {s:SS} {id:Int} {y:Slz} (h:getZ s id=some y):y∈s.sl∧y.id=id:=by
 unfold getZ at h
 cases hp:placeZ s id with
 | none=>rw [hp] at h;cases h
 | some i=>
  rw [hp] at h
  have h:s.sl[i]?=some y:=h
  refine ⟨List.mem_of_getElem? h,?_⟩
  unfold placeZ placeI at hp
  rw [List.findIdx?_eq_some_iff_getElem] at hp
  obtain ⟨hi,h1,_⟩:=hp
  have h2:=(List.getElem?_eq_some_iff.1 h).2
  simp only [List.getElem_map,decide_eq_true_eq,h2] at h1
  exact h1
theorem getZ_none {s:SS} {id:Int} (h:getZ s id=none):∀ y∈s.sl,y.id≠id:=by
 unfold getZ at h
 cases hp:placeZ s id with
 | none=>
  unfold placeZ placeI at hp
  rw [List.findIdx?_eq_none_iff] at hp
  intro y hy
  simpa using hp y.id (List.mem_map.2 ⟨y,hy,rfl⟩)
 | some i=>
  rw [hp] at h
  have h:s.sl[i]?=none:=h
  unfold placeZ placeI at hp
  rw [List.findIdx?_eq_some_iff_getElem] at hp
  obtain ⟨hi,_⟩:=hp
  rw [List.length_map] at hi
  rw [List.getElem?_eq_getElem hi] at h
  cases h
def toldO (now:Int):Option Slz→Slz×Int
 | some y=>toldP now y
 | none=>(⟨0,0,0,[],⟨false,0,0⟩⟩,0)
theorem getU_ok (w:World) (p:Nat) (s:SS) (O M:Nat→Prop) (h:ZStore O M w p s) (g:Gz s) (now id:Int) (hms:∀ a∈s.sl,a.ms.length≤1000000) :
  Fx Tryz.prog 16 [pp p,.int .u64 now,.int .i64 id] w (fun u w'=>∃ a:Sil,u=.tuple #[.agg (silC a).toArray,.bool (getZ s id).isSome]∧pubT a=toldO now (getZ s id)∧Row w' 108 3 a.mv a.ms.length (a.ms.flatMap mtC)∧Grow w w'):=by
 refine Calls.mono (getZ_ok w p s O M h g now id hms) ?_
 rintro e w' ⟨u,he,hu,hg⟩
 cases hgz:getZ s id with
 | none=>
  rw [hgz] at hu
  exact ⟨u,he,⟨0,0,0,0,.slice none 0 0,[],⟨false,0,0⟩⟩,hu,rfl,Row.nil _ _ _,hg⟩
 | some y=>
  rw [hgz] at hu
  obtain ⟨v',h1,h2,h3⟩:=hu
  exact ⟨u,he,⟨y.id,stateS now y.start y.stop,y.start,y.stop,v',y.ms,y.bd⟩,h1,rfl,h2,hg⟩
theorem listZ_all (now:Int) (l:List Slz):listZ now 0 l=l.map (toldP now):=by
 unfold listZ
 rw [List.filter_eq_self.2 (fun a _=>by unfold wantZ;rfl)]
theorem gz_new (m r:Int):Gz ⟨clampS r 1 1048576,clampS m 1 12,0,[]⟩:=by
 refine ⟨?_,?_,?_,?_,List.Pairwise.nil,Int.le_refl 0,fun a h=>(by cases h),fun a h=>(by cases h)⟩
 ·simp only;unfold clampS;repeat' split <;> omega
 ·simp only;unfold clampS;repeat' split <;> omega
 ·simp only;unfold clampS;repeat' split <;> omega
 ·show (0:Int)≤clampS m 1 12
  unfold clampS;repeat' split <;> omega
theorem TZ.new {w1 w2:World} {p q:Nat} {O1:Nat→Prop} {s:SS} (hz:ZStore O1 O1 w1 p s) (hr:RStore (fun b=>b=q) (fun b=>b=q) w2 q s) (hg2:Grow w1 w2) (hq:w1.heap.size≤q) (he:s.sl=[]) (g:Gz s):TZ O1 (fun b=>b=q) (fun b=>O1 b∨b=q) w2 p q s:=by
 have hql:q < w2.heap.size:=hr.lt q rfl
 refine ⟨hz.other hg2 (fun b e=>e.elim) (fun b _ e=>e.elim) (fun b e=>e.elim .inl fun e=>.inr (by omega)) (fun b e=>.inl e) (fun b e=>e.elim (fun e=>Nat.lt_of_lt_of_le (hz.lt b e) hg2.size) fun e=>by omega),?_,fun b e e2=>by have:=hz.lt b e;have e3:b=q:=e2;omega,g,fun a ha=>by rw [he] at ha;cases ha⟩
 obtain ⟨vs,al,hO,h⟩:=hr
 have hal:al=[]:=by have:=h.als;rw [he] at this;simpa using this
 subst hal
 exact ⟨vs,[],hO,h.blk,h.row,h.als,fun a ha=>(by cases ha),fun b e=>.inr (h.ownM b e),fun b e=>e.elim (fun e=>Nat.lt_of_lt_of_le (hz.lt b e) hg2.size) fun e=>by omega⟩
theorem splays_ok (most r : Int) (l : List S14) (vl : Value) (now st id : Int) (lb : List Int) (vb : Value) (v : Nat) (w : World) (hl : Sl No w vl 9 l.length (l.flatMap stepC)) (hls : ∀ x ∈ l, x.Ok w) (hb : Sl No w vb 1 lb.length (ints lb)) (hbr : ∀ x ∈ lb, -9223372036854775808 ≤ x ∧ x ≤ 9223372036854775807) :
    Fx Tryz.prog 7 [.int .i64 most,.int .u64 r,vl,.int .u64 now,.int .i64 st,.int .i64 id,vb,.float .f64 v] w (fun u w'=>u=.bool true∧Grow w w'):=by
  have hl':=hl.off (M':=fun b=>w.heap.size≤b) (by omega) (fun b hb e=>by omega)
  obtain ⟨adl,cl,rfl⟩:=hl.shape
  obtain ⟨adb,cb,rfl⟩:=hb.shape
  refine enter Tryz.func7 rfl rfl rfl _ (Pick.sub (l:=[0,1,2,3,4,5,6,7]) (.cons rfl (.cons rfl (.cons rfl (.cons rfl (.cons rfl (.cons rfl (.cons rfl (.cons rfl .nil))))))))) ?_
  refine RK.seq ?_
  refine RK.region ?_
  refine RL.p rfl rfl ?_
  refine RL.done ?_
  iterate 2 refine RK.seq ?_
  refine RK.region ?_
  refine RL.p rfl rfl ?_
  refine RL.q (.free rfl) rfl rfl (Yld.lenSl u54 rfl) ?_
  refine RL.p rfl rfl ?_
  refine RL.done ?_
  first | refine RK.condD rfl (fun h28=>?_) (fun h28=>?_) | refine RK.condN rfl (fun h28=>?_) (fun h28=>?_) | refine RK.cond rfl (fun h28=>?_) (fun h28=>?_)
  · refine RK.seq ?_
    refine RK.region ?_
    refine RL.op (.free rfl) rfl rfl (Does.call rfl e14 (sruns_ok _)) ?_
    rintro _ w1 ⟨rfl,hg1⟩
    refine RL.p rfl rfl ?_
    refine RL.done ?_
    refine RK.ret_of Tryz.func7 (res1 rfl rfl) ?_ _
    exact ⟨_,rfl,rfl,hg1⟩
  · have hl60:l.length≤60:=by omega
    refine RK.skip ?_
    refine RK.seq ?_
    refine RK.region ?_
    iterate 2 refine RL.p rfl rfl ?_
    refine RL.op (.free rfl) rfl rfl (Does.call rfl e10 (newZ_ok most r _)) ?_
    rintro _ w1 ⟨p,O1,rfl,hz1,hg1,hO1⟩
    iterate 2 refine RL.p rfl rfl ?_
    refine RL.op (.free rfl) rfl rfl (Does.call rfl e22 (newR9_ok most r _)) ?_
    rintro _ w2 ⟨q,rfl,hr2,hg2,hq2⟩
    have hT0:=TZ.new hz1 hr2 hg2 hq2 rfl (gz_new most r)
    iterate 2 refine RL.p rfl rfl ?_
    refine RL.done ?_
    iterate 2 refine RK.seq ?_
    refine RK.region ?_
    refine RL.p rfl rfl ?_
    refine RL.q (.free rfl) rfl rfl (Yld.eqPtr Tryz.underlying23 rfl rfl) ?_
    refine RL.done ?_
    refine RK.condF (hcF rfl (rfl)) ?_
    refine RK.skip ?_
    iterate 2 refine RK.seq ?_
    refine RK.region ?_
    refine RL.p rfl rfl ?_
    refine RL.done ?_
    refine RK.block ?_
    refine RK.loop (fun k:Nat=>[(2,.slice adl l.length cl),(3,.int .u64 now),(4,.int .i64 st),(5,.int .i64 id),(6,.slice adb lb.length cb),(7,.float .f64 v),(17,pp p),(18,pp q),(19,.int .i64 (k:Int))]) (fun k w'=>k≤l.length∧(∃ s O1 O2 M,TZ O1 O2 M w' p q s∧(∀ b,M b→w.heap.size≤b)∧s.last≤k)∧Grow w w') (fun k=>l.length - k) 0 ⟨rfl,rfl,rfl,rfl,rfl,rfl,rfl,rfl,rfl,trivial⟩ ⟨by omega,⟨_,O1,_,_,hT0,fun b e=>e.elim (hO1 b) fun e=>by have:=hg1.size;omega,Int.le_refl 0⟩,hg1.trans hg2⟩ (fun k w' hI ih=>?_)
    obtain ⟨hk,⟨s,P1,P2,M,hT,hM,hla⟩,hg⟩:=hI
    iterate 2 refine RK.seq ?_
    refine RK.region ?_
    iterate 2 refine RL.p rfl rfl ?_
    refine RL.q (.free rfl) rfl rfl (Yld.lenSl u54 rfl) ?_
    refine RL.p rfl rfl ?_
    refine RL.done ?_
    first | refine RK.condD rfl (fun h41=>?_) (fun h41=>?_) | refine RK.condN rfl (fun h41=>?_) (fun h41=>?_) | refine RK.cond rfl (fun h41=>?_) (fun h41=>?_)
    · obtain ⟨x,hx⟩:∃ x,l[k]?=some x:=⟨l[k]'(by omega),List.getElem?_eq_getElem (by omega)⟩
      have hxo:=(hls x (List.mem_of_getElem? hx)).mod (hg.trans (Mod.drew No w'))
      obtain ⟨b1,o1,c1',he1,nb1,_,hc1⟩:=hl'.elem stepC_len hx
      cases he1
      refine RK.skip ?_
      refine RK.seq ?_
      refine RK.block ?_
      refine RK.seq ?_
      refine RK.drawF (fun b=>w.heap.size≤b) [(0,false),(1,false),(2,false),(3,false),(4,false),(5,false),(6,true),(7,false),(8,false),(9,false),(11,false),(12,false),(13,false)] 10 14 [(14,true),(15,false),(16,false),(17,false)] [(15,false),(10,true),(16,false),(17,false)] [] mixed (by kernel_rfl) ?_
      iterate 4 refine DL.p rfl rfl rfl ?_
      refine DL.qf rfl (.free rfl) rfl rfl (Yld.indexAddrN u54 i62 rfl rfl (by omega)) ?_
      refine DL.q rfl (.free rfl) rfl rfl rfl (Yld.loadN (cs:=stepC x) a62 rfl (atNM (fun z y hz=>hg.cell (hc1 z y hz) (fun h=>h)) (nb1))) (Mod.drew _ _) ?_
      refine DL.op rfl (.free rfl) rfl rfl (Does.call rfl e23 (step14_ok _ p q s x P1 P2 M (hT.grow (Mod.drew No w')) hxo (by omega))) ?_
      rintro _ w3 ⟨rfl,s',Q1,Q2,M',hT',hl3,hmo3,hm3,hM3⟩
      have hS3:=(Mod.drew (fun b=>w.heap.size≤b) w').trans (hm3.mono fun b _ e=>hM b e)
      have hgz:=hg.size
      have hg3:Grow w w3:=hg.then ((Mod.drew M w').trans hm3) (fun b hb e=>by have:=hM b e;omega)
      have hM3' : ∀ b,M' b→w.heap.size≤b:=fun b e=>(hM3 b e).elim (hM b) fun e=>by simp only [World.drew] at e;omega
      refine ⟨hS3,?_⟩
      obtain ⟨vs,al,hOv,hR⟩:=hT'.r
      obtain ⟨ad5,c5,rfl⟩:=hR.row.slice
      iterate 2 refine DL.p rfl rfl rfl ?_
      refine DL.knownF (d:=52) rfl rfl (rfl) ?_
      iterate 3 refine DL.qf rfl (.yes rfl rfl rfl) rfl rfl (Yld.pure rfl) ?_
      refine DL.qf rfl (.yes rfl rfl rfl) rfl rfl (Yld.fieldAddr fo64_2 rfl) ?_
      refine DL.fork ?_ ?_
      · refine DL.op rfl (.yes rfl rfl rfl) rfl rfl (Does.call rfl e13 (lenZ_ok _ p s' _ _ hT'.z)) ?_
        rintro _ _ ⟨rfl,rfl⟩
        refine ⟨hS3,?_⟩
        refine DL.lq rfl (.yes rfl rfl rfl) rfl rfl (Yld.load p44 rfl (at1 (hR.blk.cell rfl))) ?_
        refine DL.q rfl (.yes rfl rfl rfl) rfl rfl rfl (Yld.lenSl u44 rfl) (hS3) ?_
        refine DL.qf rfl (.yes rfl rfl rfl) rfl rfl (Yld.pure rfl) ?_
        refine DL.p rfl rfl rfl ?_
        refine DL.done ?_
        refine RK.condF (hcF rfl (by rw [hR.len];simp)) ?_
        refine RK.skip ?_
        refine RK.inBlock ?_
        refine RK.region ?_
        iterate 2 refine RL.p rfl rfl ?_
        refine RL.re (d:=43) rfl rfl (succ_i64 (by omega)) ?_
        refine RL.p rfl rfl ?_
        refine RL.done ?_
        exact RK.back (ih (k + 1) _ ⟨by omega,⟨s',Q1,Q2,M',hT',hM3',by omega⟩,hg3⟩ (by omega)) ⟨rfl,rfl,rfl,rfl,rfl,rfl,rfl,rfl,rfl,trivial⟩
      · refine DL.lq rfl (.yes rfl rfl rfl) rfl rfl (Yld.load p44 rfl (at1 (hR.blk.cell rfl))) ?_
        refine DL.q rfl (.yes rfl rfl rfl) rfl rfl rfl (Yld.lenSl u44 rfl) (hS3) ?_
        refine DL.op rfl (.yes rfl rfl rfl) rfl rfl (Does.call rfl e13 (lenZ_ok _ p s' _ _ hT'.z)) ?_
        rintro _ _ ⟨rfl,rfl⟩
        refine ⟨hS3,?_⟩
        refine DL.qf rfl (.yes rfl rfl rfl) rfl rfl (Yld.pure rfl) ?_
        refine DL.p rfl rfl rfl ?_
        refine DL.done ?_
        refine RK.condF (hcF rfl (by rw [hR.len];simp)) ?_
        refine RK.skip ?_
        refine RK.inBlock ?_
        refine RK.region ?_
        iterate 2 refine RL.p rfl rfl ?_
        refine RL.re (d:=43) rfl rfl (succ_i64 (by omega)) ?_
        refine RL.p rfl rfl ?_
        refine RL.done ?_
        exact RK.back (ih (k + 1) _ ⟨by omega,⟨s',Q1,Q2,M',hT',hM3',by omega⟩,hg3⟩ (by omega)) ⟨rfl,rfl,rfl,rfl,rfl,rfl,rfl,rfl,rfl,trivial⟩
    · clear ih
      refine RK.exit rfl ?_
      refine RK.seq ?_
      refine RK.region ?_
      iterate 3 refine RL.p rfl rfl ?_
      refine RL.op (.free rfl) rfl rfl (Does.call rfl e16 (getU_ok _ p s _ _ hT.z hT.g now id (fun a ha=>(hT.sz a ha).2))) ?_
      rintro _ w3 ⟨a,rfl,hpa,hra,hg3⟩
      iterate 3 refine RL.p rfl rfl ?_
      refine RL.op (.free rfl) rfl rfl (Does.alloc i41) ?_
      rintro _ w4 ⟨b20,rfl,hn20⟩
      refine RL.op' (.free rfl) rfl (Does.storeN i41 rfl rfl rfl (silC_one (w:=w3) (M:=No) (s:=a) (Sl.own hra (fun _ _ h=>h))) hn20.blk (Nat.le_refl 8)) ?_
      rintro _ w5 ⟨hb5,hm5,_⟩
      have hat:=hn20.at_
      have hg5:Grow w' w5:=(hg3.trans hn20.grow).then hm5 (fun b hb e=>by have e' : b=b20:=e;have:=hg3.size;omega)
      have hg35:Grow w3 w5:=hn20.grow.then hm5 (fun b hb e=>by have e' : b=b20:=e;omega)
      have hB5:Blk w5 b20 41 (silC a):=hb5
      refine RL.p rfl rfl ?_
      refine RL.done ?_
      refine RK.seq ?_
      refine RK.region ?_
      iterate 2 refine RL.p rfl rfl ?_
      refine RL.op (.free rfl) rfl rfl (Does.call rfl e24 (listR9_ok _ q s _ _ (hT.r.grow hg5) hT.g now 0 (fun a ha=>(hT.sz a ha).2))) ?_
      rintro u6 w6 ⟨⟨tl,htl,hr6,hm6⟩,hf6,hg6⟩
      rw [listZ_all] at htl
      obtain ⟨ad6,c6,rfl,hc6⟩:=hr6.cap
      have hg06:=hg5.trans hg6
      have hB6:=hB5.mod hg6 (fun h=>h)
      have hra6:=hra.mod (hg35.trans hg6) (fun _ _ h=>h)
      have htll:tl.length≤12:=by have:=congrArg List.length htl;simp only [List.length_map] at this;have:=hT.g.le;omega
      refine RL.p rfl rfl ?_
      refine RL.done ?_
      refine RK.seq ?_
      refine RK.region ?_
      refine RL.p rfl rfl ?_
      refine RL.done ?_
      iterate 2 refine RK.seq ?_
      refine RK.region ?_
      refine RL.p rfl rfl ?_
      refine RL.done ?_
      refine RK.block ?_
      refine RK.loop (fun k:Nat=>[(3,.int .u64 now),(4,.int .i64 st),(5,.int .i64 id),(6,.slice adb lb.length cb),(7,.float .f64 v),(17,pp p),(18,pp q),(20,pp b20),(21,.bool (getZ s id).isSome),(22,.slice ad6 tl.length c6),(23,.bool ((tl.take k).any fun a=>decide (a.id=id))),(24,.int .i64 (k:Int))]) (fun k w'=>Grow w6 w'∧k≤tl.length) (fun k=>tl.length - k) 0 ⟨rfl,rfl,rfl,rfl,rfl,rfl,rfl,rfl,rfl,rfl,rfl,rfl,trivial⟩ ⟨Mod.refl _ _,by omega⟩ (fun k w7 hI ih=>?_)
      obtain ⟨hg7,hk7⟩:=hI
      iterate 2 refine RK.seq ?_
      refine RK.region ?_
      iterate 2 refine RL.p rfl rfl ?_
      refine RL.q (.free rfl) rfl rfl (Yld.lenSl u44 rfl) ?_
      refine RL.p rfl rfl ?_
      refine RL.done ?_
      first | refine RK.condD rfl (fun h75=>?_) (fun h75=>?_) | refine RK.condN rfl (fun h75=>?_) (fun h75=>?_) | refine RK.cond rfl (fun h75=>?_) (fun h75=>?_)
      · obtain ⟨y,hy⟩:∃ y,tl[k]?=some y:=⟨tl[k]'(by omega),List.getElem?_eq_getElem (by omega)⟩
        obtain ⟨b1,o1,c1',he1,_,_,hc1⟩:=(Sl.own (M:=No) hr6 (fun _ _ h=>h)).elem silC_len hy
        cases he1
        have htk:tl.take (k + 1)=tl.take k ++ [y]:=by rw [List.take_add_one,hy];rfl
        refine RK.skip ?_
        refine RK.seq ?_
        refine RK.block ?_
        refine RK.seq ?_
        refine RK.region ?_
        iterate 2 refine RL.p rfl rfl ?_
        refine RL.q (.free rfl) rfl rfl (Yld.indexAddrN u44 i41 rfl rfl (by omega)) ?_
        refine RL.q (.free rfl) rfl rfl (Yld.fieldAddr fo41_0 rfl) ?_
        refine RL.q (.free rfl) rfl rfl (Yld.load p3 rfl (at1 (hg7.cell (hc1 0 _ rfl) (fun h=>h)))) ?_
        iterate 2 refine RL.p rfl rfl ?_
        refine RL.done ?_
        first | refine RK.condD rfl (fun h84=>?_) (fun h84=>?_) | refine RK.condN rfl (fun h84=>?_) (fun h84=>?_) | refine RK.cond rfl (fun h84=>?_) (fun h84=>?_)
        · have hyt : ∃ z ∈ s.sl, pubT y = toldP now z := by
              have h1:pubT y∈tl.map pubT:=List.mem_map.2 ⟨y,List.mem_of_getElem? hy,rfl⟩
              rw [htl] at h1
              obtain ⟨z,hz,e⟩:=List.mem_map.1 h1
              exact ⟨z,hz,e.symm⟩
          have hay : pubT a = pubT y := by
              obtain ⟨z,hz,e⟩:=hyt
              have hzi:z.id=id:=by have:=congrArg (fun t:Slz×Int=>t.1.id) e;simp only [pubT,pubZ,toldP] at this;omega
              cases hgz:getZ s id with
              | none=>exact absurd hzi (getZ_none hgz z hz)
              | some z'=>
                obtain ⟨h1,h2⟩:=getZ_some hgz
                rw [hpa,hgz,e,ris_inj (f:=fun a:Slz=>a.id) hT.g.ris h1 hz (h2.trans hzi.symm)]
                rfl
          have hB7:=hB6.mod hg7 (fun h=>h)
          have hsub : Sl No w6 (.slice (fromAt (some ⟨b1, o1, none⟩) c6 k 8) (k + 1 - k) (c6 - k)) 8 [y].length ([y].flatMap silC) := by
              have h1:=(Sl.own (M:=No) hr6 (fun _ _ h=>h)).takeF silC_len (j:=k + 1) (by omega)
              have hlen:(tl.take (k + 1)).length=k + 1:=by rw [List.length_take];omega
              have h2:=Sl.fromF (xs:=tl.take (k + 1)) silC_len (by rw [hlen];exact h1) (j:=k) (by omega) (by rw [hlen];omega)
              have e1:(tl.take (k + 1)).drop k=[y]:=by rw [htk,List.drop_append_of_le_length (by rw [List.length_take];omega),List.drop_of_length_le (by rw [List.length_take];omega),List.nil_append]
              rw [hlen,e1,show k + 1 - k=[y].length by simp] at h2
              simpa using h2
          refine RK.seq ?_
          refine RK.drawM No [(0,false),(2,false),(3,false),(4,false),(5,false),(6,false),(1,true),(7,true),(8,false)] [] mixed (by kernel_rfl) ?_
          refine DL.q rfl (.free rfl) rfl rfl rfl (Yld.loadN (cs:=silC a) a41 rfl (atNM (blk0' hB7) (fun h=>h))) (Mod.drew _ _) ?_
          iterate 4 refine DL.p rfl rfl rfl ?_
          refine DL.re (d:=90) rfl rfl (succ_i64 (by omega)) ?_
          refine DL.qf rfl (.free rfl) rfl rfl (Yld.sliceLH u44 i41 (lo:=k) (hi:=k + 1) rfl rfl rfl (by omega) (by omega)) ?_
          refine DL.op rfl (.free rfl) rfl rfl (Does.slice1 u44 i41 rfl rfl rfl rfl rfl) ?_
          rintro _ w8 ⟨b86,rfl,hn86⟩
          have hg8:=(Mod.drew No w7).trans hn86.grow
          refine ⟨hg8,?_⟩
          refine DL.op rfl (.free rfl) rfl rfl (Does.call rfl e25 (sameSils_ok [a] [y] _ _ _ (Sl.new hn86 8 1 rfl (by omega) (fun h=>h)) (hsub.mod (hg7.trans hg8)) (fun x hx=>by rw [List.mem_singleton] at hx;subst hx;exact (Sl.own hra6 (fun _ _ h=>h)).mod (hg7.trans hg8)) (fun x hx=>by rw [List.mem_singleton] at hx;subst hx;exact (Sl.own (hm6 _ (List.mem_of_getElem? hy)) (fun _ _ h=>h)).mod (hg7.trans hg8)) (by simp [hay]))) ?_
          rintro _ w9 ⟨rfl,hg9⟩
          refine ⟨hg8.trans hg9,?_⟩
          refine DL.p rfl rfl rfl ?_
          refine DL.done ?_
          refine RK.seq ?_
          refine RK.region ?_
          iterate 2 refine RL.p rfl rfl ?_
          refine RL.done ?_
          refine RK.condF (hcF rfl (rfl)) ?_
          refine RK.skip ?_
          refine RK.inBlock ?_
          refine RK.region ?_
          iterate 2 refine RL.p rfl rfl ?_
          refine RL.re (d:=77) rfl rfl (succ_i64 (by omega)) ?_
          refine RL.p rfl rfl ?_
          refine RL.done ?_
          exact RK.back (ih (k + 1) _ ⟨(hg7.trans hg8).trans hg9,by omega⟩ (by omega)) ⟨rfl,rfl,rfl,rfl,rfl,rfl,rfl,rfl,rfl,rfl,congrArg (fun b=>some (Value.bool b)) (show true=_ by rw [htk,List.any_append];simp [h84]),rfl,trivial⟩
        · refine RK.skip ?_
          refine RK.inBlock ?_
          refine RK.region ?_
          iterate 2 refine RL.p rfl rfl ?_
          refine RL.re (d:=77) rfl rfl (succ_i64 (by omega)) ?_
          refine RL.p rfl rfl ?_
          refine RL.done ?_
          exact RK.back (ih (k + 1) _ ⟨hg7,by omega⟩ (by omega)) ⟨rfl,rfl,rfl,rfl,rfl,rfl,rfl,rfl,rfl,rfl,congrArg (fun b=>some (Value.bool b)) (show (tl.take k).any (fun a=>decide (a.id=id))=_ by rw [htk,List.any_append];simp [h84]),rfl,trivial⟩
      · have ek:tl.take k=tl:=List.take_of_length_le (by omega)
        rw [ek]
        have his : (getZ s id).isSome = tl.any fun a => decide (a.id = id) := by
            have hids:tl.map (·.id)=s.sl.map (·.id):=by
              have h1:=congrArg (List.map fun t:Slz×Int=>t.1.id) htl
              rw [List.map_map,List.map_map] at h1
              exact h1
            have e1:(tl.any fun a=>decide (a.id=id))=(tl.map (·.id)).any fun x=>decide (x=id):=by rw [List.any_map];rfl
            rw [e1,hids]
            cases hgz:getZ s id with
            | none=>
              symm
              rw [Option.isSome_none,List.any_eq_false]
              intro x hx
              obtain ⟨z,hz,rfl⟩:=List.mem_map.1 hx
              simpa using getZ_none hgz z hz
            | some z=>
              obtain ⟨h1,h2⟩:=getZ_some hgz
              symm
              rw [Option.isSome_some,List.any_eq_true]
              exact ⟨z.id,List.mem_map.2 ⟨z,h1,rfl⟩,by simpa using h2⟩
        have hB7:=hB6.mod hg7 (fun h=>h)
        have hg07:=hg06.trans hg7
        refine RK.exit rfl ?_
        refine RK.seq ?_
        refine RK.region ?_
        refine RL.p rfl rfl ?_
        refine RL.op (.free rfl) rfl rfl (Does.call rfl e26 (labels_ok No lb _ _ (hb.mod (hg.trans hg07)) hbr)) ?_
        rintro _ w8 ⟨adL,cL,rfl,hrl,hfl,hg8⟩
        refine RL.p rfl rfl ?_
        refine RL.done ?_
        refine RK.seq ?_
        refine RK.region ?_
        iterate 2 refine RL.p rfl rfl ?_
        refine RL.q (.free rfl) rfl rfl (Yld.eqBool u4 rfl rfl) ?_
        refine RL.p rfl rfl ?_
        refine RL.knownT (d:=100) rfl rfl (by rw [his];simp) ?_
        iterate 2 refine RL.q (.yes rfl rfl rfl) rfl rfl (Yld.pure rfl) ?_
        first | refine RL.splitD (d:=102) rfl rfl (fun h102=>?_) (fun h102=>?_) | refine RL.splitN (d:=102) rfl rfl (fun h102=>?_) (fun h102=>?_) | refine RL.split (d:=102) rfl rfl (fun h102=>?_) (fun h102=>?_)
        · have hgA:=hg07.trans hg8
          have hgL:Grow w8 w8:=Mod.refl _ _
          iterate 5 refine RL.no (.no rfl rfl rfl rfl) rfl rfl ?_
          refine RL.q (.yes rfl rfl rfl) rfl rfl (Yld.pure rfl) ?_
          iterate 2 refine RL.p rfl rfl ?_
          iterate 3 refine RL.q (.yes rfl rfl rfl) rfl rfl (Yld.pure rfl) ?_
          refine RL.op (.yes rfl rfl rfl) rfl rfl (Does.call rfl e17 (listRow_ok _ p s _ _ (hT.z.grow hgA) hT.g now st (fun a ha=>(hT.sz a ha).2))) ?_
          rintro u5 w5 ⟨⟨t5,ht5,hr5,hm5⟩,hf5,hg5⟩
          iterate 3 refine RL.q (.yes rfl rfl rfl) rfl rfl (Yld.pure rfl) ?_
          refine RL.op (.yes rfl rfl rfl) rfl rfl (Does.call rfl e24 (listR9_ok _ q s _ _ (hT.r.grow (hgA.trans hg5)) hT.g now st (fun a ha=>(hT.sz a ha).2))) ?_
          rintro u6 w6 ⟨⟨t6,ht6,hr6,hm6⟩,hf6,hg6⟩
          refine RL.op (.yes rfl rfl rfl) rfl rfl (Does.call rfl e25 (sameSils_ok t5 t6 _ _ _ (Sl.own (hr5.mod hg6 (fun _ _ h=>h)) (fun _ _ h=>h)) (Sl.own hr6 (fun _ _ h=>h)) (fun a ha=>Sl.own ((hm5 a ha).mod hg6 (fun _ _ h=>h)) (fun _ _ h=>h)) (fun a ha=>Sl.own (hm6 a ha) (fun _ _ h=>h)) (ht5.trans ht6.symm))) ?_
          rintro _ w7 ⟨rfl,hg7⟩
          have hgB:=((hgA.trans hg5).trans hg6).trans hg7
          have hgBl:=((hgL.trans hg5).trans hg6).trans hg7
          iterate 2 refine RL.p rfl rfl ?_
          refine RL.knownT (d:=121) rfl rfl (rfl) ?_
          iterate 4 refine RL.q (.yes rfl rfl rfl) rfl rfl (Yld.pure rfl) ?_
          refine RL.op (.yes rfl rfl rfl) rfl rfl (Does.call rfl e15 (holdsStore_ok _ p s _ _ (hT.z.grow hgB) hT.g now No (labelsS lb) _ v (Sl.own (hrl.mod hgBl (fun _ _ h=>h)) (fun _ _ h=>h)) (labelsS_z lb))) ?_
          rintro u8 w8 ⟨hr8,hf8,hg8⟩
          iterate 4 refine RL.q (.yes rfl rfl rfl) rfl rfl (Yld.pure rfl) ?_
          refine RL.op (.yes rfl rfl rfl) rfl rfl (Does.call rfl e28 (holdsR9_ok _ q s _ _ (hT.r.grow (hgB.trans hg8)) hT.g now No (labelsS lb) _ v (Sl.own ((hrl.mod hgBl (fun _ _ h=>h)).mod hg8 (fun _ _ h=>h)) (fun _ _ h=>h)) (labelsS_z lb) (fun a ha=>(hT.sz a ha).1))) ?_
          rintro u9 w9 ⟨hr9,hf9,hg9⟩
          refine RL.op (.yes rfl rfl rfl) rfl rfl (Does.call rfl e27 (sameInts_ok No _ _ _ _ _ (Sl.own (hr8.mod hg9 (fun _ _ h=>h)) (fun _ _ h=>h)) (Sl.own hr9 (fun _ _ h=>h)))) ?_
          rintro _ w10 ⟨rfl,hg10⟩
          iterate 2 refine RL.p rfl rfl ?_
          refine RL.knownT (d:=134) rfl rfl (decide_eq_true rfl) ?_
          refine RL.op (.yes rfl rfl rfl) rfl rfl (Does.call rfl e14 (sruns_ok _)) ?_
          rintro _ w11 ⟨rfl,hg11⟩
          iterate 2 refine RL.p rfl rfl ?_
          refine RL.done ?_
          refine RK.ret_of Tryz.func7 (res1 rfl rfl) ?_ _
          exact ⟨_,rfl,rfl,(((hg.trans hgB).trans hg8).trans hg9).trans (hg10.trans hg11)⟩
        · refine RL.q (.yes rfl rfl rfl) rfl rfl (Yld.loadN (cs:=silC a) a41 rfl (atN (blk0' (hB7.mod hg8 (fun h=>h))))) ?_
          refine RL.op (.yes rfl rfl rfl) rfl rfl (Does.slice1 u44 i41 rfl rfl rfl rfl rfl) ?_
          rintro _ w9 ⟨b104,rfl,hn104⟩
          refine RL.q (.yes rfl rfl rfl) rfl rfl (Yld.build (v:=.agg (silC ⟨0,0,0,0,.slice none 0 0,[],⟨false,0,0⟩⟩).toArray) rfl (fun w=>by kernel_rfl)) ?_
          refine RL.op (.yes rfl rfl rfl) rfl rfl (Does.slice1 u44 i41 rfl rfl rfl rfl rfl) ?_
          rintro _ w10 ⟨b106,rfl,hn106⟩
          have hpz:getZ s id=none:=by cases hgz:getZ s id with | none=>rfl | some z=>rw [hgz] at h102;cases h102
          have hg810:=hn104.grow.trans hn106.grow
          have hra8:Row w8 108 3 a.mv a.ms.length (a.ms.flatMap mtC):=hra6.mod (hg7.trans hg8) (fun _ _ h=>h)
          refine RL.op (.yes rfl rfl rfl) rfl rfl (Does.call rfl e25 (sameSils_ok [a] [⟨0,0,0,0,.slice none 0 0,[],⟨false,0,0⟩⟩] _ _ _ ((Sl.new hn104 8 1 rfl (by omega) (fun h=>h)).mod hn106.grow) (Sl.new hn106 8 1 rfl (by omega) (fun h=>h)) (fun x hx=>by rw [List.mem_singleton] at hx;subst hx;exact (Sl.own hra8 (fun _ _ h=>h)).mod hg810) (fun x hx=>by rw [List.mem_singleton] at hx;subst hx;exact Sl.nil _ _ _ _ _) (show [pubT a]=[_] by rw [hpa,hpz];rfl))) ?_
          rintro _ w11 ⟨rfl,hg11⟩
          have hgL:Grow w8 w11:=hg810.trans hg11
          have hgA:=(hg07.trans hg8).trans hgL
          refine RL.q (.yes rfl rfl rfl) rfl rfl (Yld.pure rfl) ?_
          iterate 2 refine RL.p rfl rfl ?_
          refine RL.knownT (d:=110) rfl rfl (rfl) ?_
          iterate 3 refine RL.q (.yes rfl rfl rfl) rfl rfl (Yld.pure rfl) ?_
          refine RL.op (.yes rfl rfl rfl) rfl rfl (Does.call rfl e17 (listRow_ok _ p s _ _ (hT.z.grow hgA) hT.g now st (fun a ha=>(hT.sz a ha).2))) ?_
          rintro u5 w5 ⟨⟨t5,ht5,hr5,hm5⟩,hf5,hg5⟩
          iterate 3 refine RL.q (.yes rfl rfl rfl) rfl rfl (Yld.pure rfl) ?_
          refine RL.op (.yes rfl rfl rfl) rfl rfl (Does.call rfl e24 (listR9_ok _ q s _ _ (hT.r.grow (hgA.trans hg5)) hT.g now st (fun a ha=>(hT.sz a ha).2))) ?_
          rintro u6 w6 ⟨⟨t6,ht6,hr6,hm6⟩,hf6,hg6⟩
          refine RL.op (.yes rfl rfl rfl) rfl rfl (Does.call rfl e25 (sameSils_ok t5 t6 _ _ _ (Sl.own (hr5.mod hg6 (fun _ _ h=>h)) (fun _ _ h=>h)) (Sl.own hr6 (fun _ _ h=>h)) (fun a ha=>Sl.own ((hm5 a ha).mod hg6 (fun _ _ h=>h)) (fun _ _ h=>h)) (fun a ha=>Sl.own (hm6 a ha) (fun _ _ h=>h)) (ht5.trans ht6.symm))) ?_
          rintro _ w7 ⟨rfl,hg7⟩
          have hgB:=((hgA.trans hg5).trans hg6).trans hg7
          have hgBl:=((hgL.trans hg5).trans hg6).trans hg7
          iterate 2 refine RL.p rfl rfl ?_
          refine RL.knownT (d:=121) rfl rfl (rfl) ?_
          iterate 4 refine RL.q (.yes rfl rfl rfl) rfl rfl (Yld.pure rfl) ?_
          refine RL.op (.yes rfl rfl rfl) rfl rfl (Does.call rfl e15 (holdsStore_ok _ p s _ _ (hT.z.grow hgB) hT.g now No (labelsS lb) _ v (Sl.own (hrl.mod hgBl (fun _ _ h=>h)) (fun _ _ h=>h)) (labelsS_z lb))) ?_
          rintro u8 w8 ⟨hr8,hf8,hg8⟩
          iterate 4 refine RL.q (.yes rfl rfl rfl) rfl rfl (Yld.pure rfl) ?_
          refine RL.op (.yes rfl rfl rfl) rfl rfl (Does.call rfl e28 (holdsR9_ok _ q s _ _ (hT.r.grow (hgB.trans hg8)) hT.g now No (labelsS lb) _ v (Sl.own ((hrl.mod hgBl (fun _ _ h=>h)).mod hg8 (fun _ _ h=>h)) (fun _ _ h=>h)) (labelsS_z lb) (fun a ha=>(hT.sz a ha).1))) ?_
          rintro u9 w9 ⟨hr9,hf9,hg9⟩
          refine RL.op (.yes rfl rfl rfl) rfl rfl (Does.call rfl e27 (sameInts_ok No _ _ _ _ _ (Sl.own (hr8.mod hg9 (fun _ _ h=>h)) (fun _ _ h=>h)) (Sl.own hr9 (fun _ _ h=>h)))) ?_
          rintro _ w10 ⟨rfl,hg10⟩
          iterate 2 refine RL.p rfl rfl ?_
          refine RL.knownT (d:=134) rfl rfl (decide_eq_true rfl) ?_
          refine RL.op (.yes rfl rfl rfl) rfl rfl (Does.call rfl e14 (sruns_ok _)) ?_
          rintro _ w11 ⟨rfl,hg11⟩
          iterate 2 refine RL.p rfl rfl ?_
          refine RL.done ?_
          refine RK.ret_of Tryz.func7 (res1 rfl rfl) ?_ _
          exact ⟨_,rfl,rfl,(((hg.trans hgB).trans hg8).trans hg9).trans (hg10.trans hg11)⟩
end Go.Proofs.YtbcbfjnlnmhpbaaGreat
set_option linter.unusedVariables false
namespace Go.X
open Go Go.RowKit Go.WideShapes Go.ChangeShapes
section
variable {H : Type} {enc : TypeId × Value → H} {P : Program} {W : World} {base : Nat} {sp : Nat → Bool} {held : Bool}
theorem trod_t9 {t m t0 t1 t2 t3 t4 t5 t6:Nat} {fs:Array Field} {cs:List Value} {y:DataW H×List MemPlace} (ht:P.underlying t=some (.struct fs)) (hfs:fs.toList.map (fun f=>(f.type,f.offset))=[(t0,0),(t1,1),(t2,2),(t3,3),(t4,4),(t5,5),(t6,6)]) (c0:P.cellsOf t0=1) (c1:P.cellsOf t1=1) (c2:P.cellsOf t2=1) (c3:P.cellsOf t3=1) (c4:P.cellsOf t4=1) (c5:P.cellsOf t5=1) (c6:P.cellsOf t6=3) (ct:P.cellsOf t=9)
  (h:DataW.trod enc P W base sp held m t cs=some y):∃ x0 x1 x2 x3 x4 x5 x6 x7 x8,cs=[x0,x1,x2,x3,x4,x5,x6,x7,x8]∧(∃ n y',DataW.trod enc P W base sp held n t0 [x0]=some y')∧(∃ n y',DataW.trod enc P W base sp held n t1 [x1]=some y')∧(∃ n y',DataW.trod enc P W base sp held n t2 [x2]=some y')∧(∃ n y',DataW.trod enc P W base sp held n t3 [x3]=some y')∧(∃ n y',DataW.trod enc P W base sp held n t4 [x4]=some y')∧(∃ n y',DataW.trod enc P W base sp held n t5 [x5]=some y')∧(∃ n y',DataW.trod enc P W base sp held n t6 [x6,x7,x8]=some y'):=by
 obtain ⟨hl,hx⟩:=trod_fields ht h
 have hsz:fs.toList.length=7:=by have:=congrArg List.length hfs;simpa using this
 obtain ⟨fl⟩:=fs
 match fl,hsz with
 | [f0,f1,f2,f3,f4,f5,f6],_=>
  simp only [List.map_cons,List.map_nil,List.cons.injEq,Prod.mk.injEq,and_true] at hfs
  obtain ⟨⟨e0,o0⟩,⟨e1,o1⟩,⟨e2,o2⟩,⟨e3,o3⟩,⟨e4,o4⟩,⟨e5,o5⟩,e6,o6⟩:=hfs
  rw [ct] at hl
  match cs,hl with
  | [x0,x1,x2,x3,x4,x5,x6,x7,x8],_=>
   have h0:=hx 0 f0 rfl
   have h1:=hx 1 f1 rfl
   have h2:=hx 2 f2 rfl
   have h3:=hx 3 f3 rfl
   have h4:=hx 4 f4 rfl
   have h5:=hx 5 f5 rfl
   have h6:=hx 6 f6 rfl
   rw [e0,o0,c0] at h0
   rw [e1,o1,c1] at h1
   rw [e2,o2,c2] at h2
   rw [e3,o3,c3] at h3
   rw [e4,o4,c4] at h4
   rw [e5,o5,c5] at h5
   rw [e6,o6,c6] at h6
   exact ⟨x0,x1,x2,x3,x4,x5,x6,x7,x8,rfl,h0,h1,h2,h3,h4,h5,h6⟩
end
end Go.X
namespace Go.Proofs.YtbcbfjnlnmhpbaaGreat.silencePlays
open Go.ChangeShapes Go.WideShapes Go.ChangeAt Go.RowKit Go.X
set_option linter.unusedVariables false
theorem own:ownKnob Tryz.prog.godebug=none:=by kernel_rfl
theorem laidOut:laidOutB Tryz.prog=true:=by kernel_rfl
theorem params_ok:∀ t∈Tryz.f7.params.toList,Tryz.prog.readableRec t=true∧t < Tryz.prog.types.size:=by
 rw [Tryz.params7]
 intro t ht
 simp only [List.mem_cons,List.not_mem_nil,or_false] at ht
 rcases ht with rfl | rfl | rfl | rfl | rfl | rfl | rfl | rfl <;> exact ⟨by kernel_rfl,of_decide_eq_true (by kernel_rfl)⟩
set_option maxRecDepth 100000 in
theorem lifted (os:Os) (started:os.Started) (H:Type) (enc:TypeId×Value→H) :
  ReturnsInHanded {} Tryz.checked os 7 .any (Rows.silencePlaysSpec.pre6 enc Tryz.prog Tryz.f7 Rows.silencePlaysRow.domain false) (Rows.silencePlaysSpec.post enc Tryz.prog Tryz.f7 false true false false):=by
 refine returnsInHanded_of_change (C:=Tryz.checked) own started (by kernel_rfl) Tryz.func7
  (ChangeSpec.witness6 (enc:=enc) (C:=Tryz.checked) false ⟨#[],#[.int .i64 0,.int .u64 0,.slice none 0 0,.int .u64 0,.int .i64 0,.int .i64 0,.slice none 0 0,.float .f64 0],[]⟩ 8 (by kernel_rfl) (by kernel_rfl) (by kernel_rfl) (by kernel_rfl)) ?_
 intro W base args ds gs before hval0 hW hcnd _
 have hval:∀ (j:Nat) t v,Tryz.f7.params[j]?=some t→args[j]?=some v→Value.okWide Tryz.prog W .any base t v:=hval0
 have hW':=hW
 obtain ⟨p,q,hA0,hV,rfl,hfz,hnd⟩:=hW
 have hlt:∀ x∈p,x.block < W.heap.size:=fun x hx=>hW'.lt x (List.mem_append_left _ hx)
 have hA:DataW.TrodAll enc Tryz.prog W 0 (fun _=>true) true Tryz.f7.params.toList args.toList ds p:=hA0
 have hA1:=hA
 rw [Tryz.params7] at hA hval
 obtain ⟨v0,vs0,d0,ds0,p0,q0,hargs,rfl,rfl,h0,r0⟩:=trodAll_cons hA
 obtain ⟨v1,vs1,d1,ds1,p1,q1,rfl,rfl,rfl,h1,r1⟩:=trodAll_cons r0
 obtain ⟨v2,vs2,d2,ds2,p2,q2,rfl,rfl,rfl,h2,r2⟩:=trodAll_cons r1
 obtain ⟨v3,vs3,d3,ds3,p3,q3,rfl,rfl,rfl,h3,r3⟩:=trodAll_cons r2
 obtain ⟨v4,vs4,d4,ds4,p4,q4,rfl,rfl,rfl,h4,r4⟩:=trodAll_cons r3
 obtain ⟨v5,vs5,d5,ds5,p5,q5,rfl,rfl,rfl,h5,r5⟩:=trodAll_cons r4
 obtain ⟨v6,vs6,d6,ds6,p6,q6,rfl,rfl,rfl,h6,r6⟩:=trodAll_cons r5
 obtain ⟨v7,vs7,d7,ds7,p7,q7,rfl,rfl,rfl,h7,r7⟩:=trodAll_cons r6
 obtain ⟨rfl,rfl,rfl⟩:=trodAll_nil r7
 obtain rfl:args=#[v0,v1,v2,v3,v4,v5,v6,v7]:=by cases args;simp_all
 obtain ⟨rfl,rfl⟩:=trodVars_none hV
 have hv0:=hval 0 3 v0 rfl rfl
 have hv1:=hval 1 22 v1 rfl rfl
 have hv2:=hval 2 54 v2 rfl rfl
 have hv3:=hval 3 22 v3 rfl rfl
 have hv4:=hval 4 3 v4 rfl rfl
 have hv5:=hval 5 3 v5 rfl rfl
 have hv6:=hval 6 35 v6 rfl rfl
 have hv7:=hval 7 30 v7 rfl rfl
 clear hval0 hval
 simp only [List.append_nil] at hW' hlt
 have u64r:∀ b:Int,(Lit.int .u64 b).wf=true→0≤b∧b < 18446744073709551616:=fun b h=>by
  have h2:0≤b∧b≤18446744073709551615:=by simpa [Lit.wf,IntKind.min,IntKind.max,IntKind.signed,IntKind.bits] using h
  omega
 have openU:∀ (W:World) (r:Reach) (b0:Nat) (v:Value),Value.okWide Tryz.prog W r b0 22 v→∃ n:Int,v=.int .u64 n∧0≤n∧n < 18446744073709551616:=fun W r b0 v hq=>by
  simp only [Value.okWide,Tryz.underlying22,Cell.okWide,Cell.ok] at hq
  cases v with
  | int k n=>
   obtain ⟨rfl,h⟩:=hq
   refine ⟨n,rfl,?_⟩
   have h2:0≤n∧n≤18446744073709551615:=by simpa [IntKind.has,IntKind.min,IntKind.max,IntKind.signed,IntKind.bits] using h
   omega
  | _=>simp at hq
 have dmO:∀ (m:Nat) (cs:List Value) (y:DataW H×List MemPlace),DataW.trod enc Tryz.prog W 0 (fun _=>true) true m 167 cs=some y→∃ d:Dm,cs=dmC d∧True:=fun m cs y h=>by
  obtain ⟨a,b,c,rfl,⟨_,_,ha⟩,⟨_,_,hb⟩,_,_,hc⟩:=trod_3 Tryz.underlying167 (t0:=3) (t1:=3) (t2:=3) rfl (by kernel_rfl) (by kernel_rfl) (by kernel_rfl) (by kernel_rfl) h
  obtain ⟨x,hx,_⟩:=trod_i64 Tryz.underlying3 ha
  obtain ⟨y,hy,_⟩:=trod_i64 Tryz.underlying3 hb
  obtain ⟨z,hz,_⟩:=trod_i64 Tryz.underlying3 hc
  obtain rfl:a=.int .i64 x:=by simpa using hx
  obtain rfl:b=.int .i64 y:=by simpa using hy
  obtain rfl:c=.int .i64 z:=by simpa using hz
  exact ⟨⟨x,y,z⟩,rfl,trivial⟩
 have bnO:∀ (m:Nat) (cs:List Value) (y:DataW H×List MemPlace),DataW.trod enc Tryz.prog W 0 (fun _=>true) true m 60 cs=some y→∃ d:Bn,cs=bnC d:=fun m cs y h=>by
  obtain ⟨a,b,c,rfl,⟨_,_,ha⟩,⟨_,_,hb⟩,_,_,hc⟩:=trod_3 Tryz.underlying60 (t0:=3) (t1:=30) (t2:=30) rfl (by kernel_rfl) (by kernel_rfl) (by kernel_rfl) (by kernel_rfl) h
  obtain ⟨x,hx,_⟩:=trod_i64 Tryz.underlying3 ha
  obtain ⟨y,hy,_⟩:=trod_f64 Tryz.underlying30 hb
  obtain ⟨z,hz,_⟩:=trod_f64 Tryz.underlying30 hc
  obtain rfl:a=.int .i64 x:=by simpa using hx
  obtain rfl:b=.float .f64 y:=by simpa using hy
  obtain rfl:c=.float .f64 z:=by simpa using hz
  exact ⟨⟨x,y,z⟩,rfl⟩
 have u8r:∀ b:Int,(Lit.int .u8 b).wf=true→0≤b:=fun b h=>by
  have h2:0≤b∧b≤255:=by simpa [Lit.wf,IntKind.min,IntKind.max,IntKind.signed,IntKind.bits] using h
  omega
 have stO:∀ (m:Nat) (cs:List Value) (y:DataW H×List MemPlace),DataW.trod enc Tryz.prog W 0 (fun _=>true) true m 62 cs=some y→∃ d:S14,cs=stepC d∧d.Ok W:=fun m cs y h=>by
  obtain ⟨a,b,c,d,e,f,g,i,j,rfl,⟨_,_,ha⟩,⟨_,_,hb⟩,⟨_,_,hc⟩,⟨_,_,hd⟩,⟨_,_,he⟩,⟨_,_,hf⟩,_,_,hg⟩:=trod_t9 Tryz.underlying62 (t0:=5) (t1:=22) (t2:=22) (t3:=22) (t4:=3) (t5:=58) (t6:=60) rfl (by kernel_rfl) (by kernel_rfl) (by kernel_rfl) (by kernel_rfl) (by kernel_rfl) (by kernel_rfl) (by kernel_rfl) (by kernel_rfl) h
  obtain ⟨x0,h0,w0⟩:=trod_int Tryz.underlying5 ha
  obtain ⟨x1,h1,w1⟩:=trod_int Tryz.underlying22 hb
  obtain ⟨x2,h2,_⟩:=trod_int Tryz.underlying22 hc
  obtain ⟨x3,h3,w3⟩:=trod_int Tryz.underlying22 hd
  obtain ⟨x4,h4,_⟩:=trod_i64 Tryz.underlying3 he
  obtain ⟨va,xa,hva,hsa,_,_⟩:=trod_list dmC (fun _=>True) dmC_len Tryz.underlying58 (by kernel_rfl) (by omega) hf dmO
  obtain ⟨bn,hbn⟩:=bnO _ _ _ hg
  obtain rfl:a=.int .u8 x0:=by simpa using h0
  obtain rfl:b=.int .u64 x1:=by simpa using h1
  obtain rfl:c=.int .u64 x2:=by simpa using h2
  obtain rfl:d=.int .u64 x3:=by simpa using h3
  obtain rfl:e=.int .i64 x4:=by simpa using h4
  obtain rfl:f=va:=by simpa using hva
  simp only [bnC,List.cons.injEq,and_true] at hbn
  obtain ⟨rfl,rfl,rfl⟩:=hbn
  exact ⟨⟨x0,x1,x2,x3,x4,f,xa,bn⟩,rfl,hsa,(u64r x1 w1).1,(u64r x1 w1).2,(u64r x3 w3).1,u8r x0 w0⟩
 obtain ⟨most,rfl⟩:=X.open_int Tryz.underlying3 hv0
 obtain ⟨r,rfl,_⟩:=openU _ _ _ _ hv1
 obtain ⟨l,hl,hls,_⟩:=open_list stepC (fun d=>d.Ok W) stepC_len Tryz.underlying54 (by kernel_rfl) (by omega) hv2 h2 stO
 obtain ⟨now,rfl,_⟩:=openU _ _ _ _ hv3
 obtain ⟨st,rfl⟩:=X.open_int Tryz.underlying3 hv4
 obtain ⟨id,rfl⟩:=X.open_int Tryz.underlying3 hv5
 obtain ⟨lb,hb,hbr,_⟩:=open_list (fun x:Int=>[Value.int .i64 x]) (fun x=>-9223372036854775808≤x∧x≤9223372036854775807) (sz:=1) (fun _=>rfl) Tryz.underlying35 (by kernel_rfl) (by omega) hv6 h6 (fun m cs y h=>trod_i64 Tryz.underlying3 h)
 rw [flat_one] at hb
 obtain ⟨v,rfl⟩:∃ b:Nat,v7=.float .f64 b:=by
  have hq:=hv7
  simp only [Value.okWide,Tryz.underlying30,Cell.okWide,Cell.ok] at hq
  cases v7 with
  | float k b=>obtain ⟨rfl,_⟩:=hq;exact ⟨b,rfl⟩
  | _=>simp at hq
 have hwalk:=splays_ok most r l v2 now st id lb v6 v W hl hls hb hbr
 refine Calls.mono hwalk ?_
 rintro e W' ⟨v,rfl,rfl,hg⟩
 refine ⟨_,rfl,post_grow hW' (fun _ _ _=>trodAll_cons_mk (shut_bool Tryz.underlying4 _) trodAll_mk0) (fun sp hsp=>?_) (fun _=>rfl) hg (ok_one (by kernel_rfl) rfl (okWide_bool_mk Tryz.underlying4 _))⟩
 have hA2:=hA1
 simp only [List.append_nil] at hA2 hsp
 exact trodAll_grow laidOut hg sp _ _ _ _ params_ok hlt hsp hA2
end Go.Proofs.YtbcbfjnlnmhpbaaGreat.silencePlays
