/- What the claim stands on, part 8. Of own lemmas only those that it reaches. -/
import Derived.Test.YtbcbfjnlnmhpbaaGreatKv7
set_option linter.unusedVariables false
set_option linter.unusedSimpArgs false
set_option maxHeartbeats 3200000
set_option maxRecDepth 100000
namespace Go.Proofs.YtbcbfjnlnmhpbaaGreat
open Go Go.X
theorem findR_ok (w:World) (p pl qu:Nat) (ret:Int) (vs:Value) (al:List Sil) (hblk:Blk w p 101 [pp pl,pp qu,.int .u64 ret,vs]) (hrow:Row w 41 8 vs al.length (al.flatMap silC)) (hsh:∀ a∈al,∃ ad n c,a.mv=.slice ad n c) (hris:Ris (al.map (·.id))) (hle:al.length≤1000000) (j:Nat) (a:Sil) (ha:al[j]?=some a) :
  Fx Tryz.prog 54 [pp p,.int .i64 a.id] w (fun u w'=>u=.tuple #[.int .i64 j,.bool true]∧Grow w w'):=by
 have hcall:=bsZ_ok al a.id vs w (Sl.own hrow (fun _ _ h=>h)) hsh hris hle
 obtain ⟨ad,c,rfl⟩:=hrow.slice
 refine enter Tryz.func54 rfl rfl rfl _ (Pick.sub (l:=[0,1]) (.cons rfl (.cons rfl .nil))) ?_
 refine GG ?_
 refine QQ (Yld.fieldAddr fo101_3 rfl) ?_
 refine QQ (Yld.load p44 rfl (at1 (hblk.cell rfl))) ?_
 refine RL.p rfl rfl ?_
 refine OP (Does.call rfl e104 (hcall)) ?_
 rintro _ w2 ⟨⟨i,hi,hlo,hhi,rfl⟩,hg2⟩
 have hij:i=j:=by
   have hjl:=(List.getElem?_eq_some_iff.1 ha).1
   rcases Nat.lt_trichotomy j i with h1 | h1 | h1
   ·have:=hlo j a h1 ha;omega
   ·exact h1.symm
   ·have h2:=hhi i _ (Nat.le_refl _) (List.getElem?_eq_getElem (by omega))
    have h3:=List.pairwise_iff_getElem.1 hris i j (by simp;omega) (by simpa using hjl) h1
    simp only [List.getElem_map,(List.getElem?_eq_some_iff.1 ha).2] at h3
    omega
 subst hij
 refine GG ?_
 refine RK.ret_of Tryz.func54 (res2 rfl rfl rfl) ?_ _
 exact ⟨_,rfl,by rw [List.getElem?_map,ha];simp,hg2⟩
theorem erase_filter:∀ (al:List Sil) (j:Nat) (a:Sil),Ris (al.map (·.id))→al[j]?=some a→al.eraseIdx j=al.filter fun x=>decide (x.id≠a.id)
 | [],j,a,_,h=>by simp at h
 | x :: al,0,a,hr,h=>by
  obtain rfl:x=a:=by simpa using h
  have h1:=(List.pairwise_cons.1 hr).1
  rw [List.eraseIdx_cons_zero,List.filter_cons_of_neg (by simp),List.filter_eq_self.2]
  intro y hy
  have h2:x.id < y.id:=h1 y.id (List.mem_map.2 ⟨y,hy,rfl⟩)
  simp only [decide_eq_true_eq]
  omega
 | x :: al,j + 1,a,hr,h=>by
  have ha:al[j]?=some a:=by simpa using h
  have h1:x.id < a.id:=(List.pairwise_cons.1 hr).1 a.id (List.mem_map.2 ⟨a,List.mem_of_getElem? ha,rfl⟩)
  rw [List.eraseIdx_cons_succ,List.filter_cons_of_pos (by simp only [decide_eq_true_eq];omega),erase_filter al j a (List.pairwise_cons.1 hr).2 ha]
def dueZ (ret now:Int) (a:Slz):Bool:=decide (a.stop + ret≤now)
def sweptZ (s:SS) (now:Int):SS:={ s with sl:=s.sl.filter fun a=>!dueZ s.ret now a }
def keptA (al:List Sil) (ids:List Int):List Sil:=al.filter fun a=>!ids.contains a.id
theorem keptA_nil (al:List Sil):keptA al []=al:=List.filter_eq_self.2 fun a _=>rfl
theorem keptA_ris {al:List Sil} (h:Ris (al.map (·.id))) (ids:List Int):Ris ((keptA al ids).map (·.id)):=by
 unfold keptA
 exact h.sublist (List.filter_sublist.map _)
theorem keptA_snoc (al:List Sil) (ids:List Int) (x:Int):keptA al (ids ++ [x])=(keptA al ids).filter fun a=>decide (a.id≠x):=by
 unfold keptA
 rw [List.filter_filter]
 apply List.filter_congr
 intro a _
 by_cases h:a.id=x <;> simp [h,Bool.and_comm]
theorem give_filter {l:List Int} {x:Int} (h:Ris l) (hx:x∈l):giveS l x=l.filter fun y=>decide (y≠x):=by
 unfold giveS cutRow
 rw [if_pos (by simpa using hx),mkRow_id h]
theorem sweepO_ok (w:World) (p:Nat) (s:SS) (O M:Nat→Prop) (h:ZStore O M w p s) (g:Gz s) (now:Int) :
  Fx Tryz.prog 18 [pp p,.int .u64 now] w (fun u w'=>∃ O' ids,(∃ es:List En,SortE es∧es.Perm ((s.sl.filter (dueZ s.ret now)).map fun a=>⟨a.stop + s.ret,a.id⟩)∧ids=es.map (·.id))∧Row w' 3 1 u ids.length (ints ids)∧Fresh w.heap.size u∧ids.Perm ((s.sl.filter (dueZ s.ret now)).map (·.id))∧ZStore O' (fun x=>M x∨O' x) w' p (sweptZ s now)∧Mod O w w'∧(∀ x,O' x→O x∨w.heap.size≤x)∧∀ b,u.ownBlock=some b→¬ O' b):=by
 obtain ⟨pl,qu,vp,vq,vs,al,q,hO,h⟩:=h
 have hle:=g.le
 have hal:=h.len
 have hids:=h.ids
 have hals:=h.als
 have hql:=h.qlen
 have hris:Ris (al.map (·.id)):=by rw [hids];exact g.ris
 have hsh:=h.sh
 obtain ⟨ids,hidq⟩:∃ ids,ids=(dueE q now).map (·.id):=⟨_,rfl⟩
 have hdueal:(dueE q now).Perm ((al.filter fun a=>dueZ s.ret now (pubZ a)).map (entZ s.ret)):=by
  have h1:=h.perm'.filter (fun a:En=>decide (a.due≤now))
  rw [List.filter_map] at h1
  exact h1
 have hrestal:(restE q now).Perm ((al.filter fun a=>!dueZ s.ret now (pubZ a)).map (entZ s.ret)):=by
  have h1:=h.perm'.filter (fun a:En=>!decide (a.due≤now))
  rw [List.filter_map] at h1
  exact h1
 have hidperm:ids.Perm ((al.filter fun a=>dueZ s.ret now (pubZ a)).map (·.id)):=by
  have h1:=hdueal.map (fun e:En=>e.id)
  rw [List.map_map] at h1
  rw [hidq]
  exact h1
 have hidn:ids.Nodup:=by
  rw [hidperm.nodup_iff]
  have h1:Ris ((al.filter fun a=>dueZ s.ret now (pubZ a)).map (·.id)):=hris.sublist (List.filter_sublist.map _)
  exact h1.imp fun {x y} h e=>by omega
 have hidmem:∀ x,x∈ids→∃ a∈al,a.id=x∧dueZ s.ret now (pubZ a)=true:=fun x hx=>by
  obtain ⟨a,ha,rfl⟩:=List.mem_map.1 (hidperm.mem_iff.1 hx)
  exact ⟨a,(List.mem_filter.1 ha).1,rfl,(List.mem_filter.1 ha).2⟩
 have hidlen:ids.length=(dueE q now).length:=by rw [hidq,List.length_map]
 have hidle:ids.length≤al.length:=by
  rw [hidperm.length_eq,List.length_map]
  exact List.length_filter_le _ _
 have hkept:keptA al ids=al.filter fun a=>!dueZ s.ret now (pubZ a):=by
  unfold keptA
  apply List.filter_congr
  intro a ha
  congr 1
  rw [Bool.eq_iff_iff]
  constructor
  ·intro hc
   obtain ⟨b,hb,e,hd⟩:=hidmem a.id (by simpa using hc)
   obtain ⟨i,hi⟩:=List.getElem?_of_mem ha
   obtain ⟨k,hk⟩:=List.getElem?_of_mem hb
   have e2:i=k:=by
    have hil:=(List.getElem?_eq_some_iff.1 hi).1
    have hkl:=(List.getElem?_eq_some_iff.1 hk).1
    rcases Nat.lt_trichotomy i k with h1 | h1 | h1
    ·have h3:=List.pairwise_iff_getElem.1 hris i k (by simpa using hil) (by simpa using hkl) h1
     simp only [List.getElem_map,(List.getElem?_eq_some_iff.1 hi).2,(List.getElem?_eq_some_iff.1 hk).2] at h3
     omega
    ·exact h1
    ·have h3:=List.pairwise_iff_getElem.1 hris k i (by simpa using hkl) (by simpa using hil) h1
     simp only [List.getElem_map,(List.getElem?_eq_some_iff.1 hi).2,(List.getElem?_eq_some_iff.1 hk).2] at h3
     omega
   subst e2
   rw [hi] at hk
   cases hk
   exact hd
  ·intro hd
   have:a.id∈ids:=hidperm.mem_iff.2 (List.mem_map.2 ⟨a,List.mem_filter.2 ⟨ha,hd⟩,rfl⟩)
   simpa using this
 refine enter Tryz.func18 rfl rfl rfl _ (Pick.sub (l:=[0,1]) (.cons rfl (.cons rfl .nil))) ?_
 refine GG ?_
 refine QQ (Yld.fieldAddr fo101_1 rfl) ?_
 refine QQ (Yld.load p98 rfl (at1 (h.blk.cell rfl))) ?_
 refine RL.p rfl rfl ?_
 refine OP (Does.call rfl e56 (reapDue_ok w qu q vq h.que h.sort now (by omega))) ?_
 rintro u1 w1 ⟨hr1,hf1,⟨vq',hq1,hqo⟩,hm1⟩
 rw [← hidq,← hidlen] at hr1
 obtain ⟨ad1,c1,rfl⟩:=hr1.slice
 have n1:∀ b,(b=qu∨vq.ownBlock=some b)→Ty w b 155∨Ty w b 164:=fun b e=>e.elim (fun e=>.inl (e ▸ h.que.blk.ty)) (fun e=>.inr (h.que.row.ty e))
 have hb1:=h.blk.mod hm1 (fun e=>(n1 _ e).elim (fun t=>h.blk.ty.ne t rfl rfl) (fun t=>h.blk.ty.ne t rfl rfl))
 have hp1:=h.pool.mod hm1 (fun e=>(n1 _ e).elim (fun t=>h.pool.blk.ty.ne t rfl rfl) (fun t=>h.pool.blk.ty.ne t rfl rfl)) (fun x e1 e=>(n1 _ e).elim (fun t=>(h.pool.row.ty e1).ne t rfl rfl) (fun t=>(h.pool.row.ty e1).ne t rfl rfl))
 have hr1s:=h.row.mod hm1 (fun x e1 e=>(n1 _ e).elim (fun t=>(h.row.ty e1).ne t rfl rfl) (fun t=>(h.row.ty e1).ne t rfl rfl))
 have hmP1:Mod (ownS p pl qu vp vq vs) w w1:=hm1.mono fun x _ e=>e.elim (fun e=>.inr (.inr (.inl e))) (fun e=>.inr (.inr (.inr (.inr (.inl e)))))
 have hown0:∀ x,ownS p pl qu vp vq vs x→x < w.heap.size:=fun x e=>h.own_lt e
 have hz1:=hm1.size
 refine GG ?_
 refine QQ (Yld.lenSl u35 rfl) ?_
 refine GG ?_
 refine RK.loop (fun k:Nat=>[(0,pp p),(5,.slice ad1 ids.length c1),(16,.slice ad1 ids.length c1),(17,.int .i64 (ids.length:Int)),(18,.int .i64 (k:Int))]) (fun k w'=>k≤ids.length∧(∃ vp' vs',Blk w' p 101 [pp pl,pp qu,.int .u64 s.ret,vs']∧PoolAt w' pl s.most s.last ((keptA al (ids.take k)).map (·.id)) vp'∧Row w' 41 8 vs' (keptA al (ids.take k)).length ((keptA al (ids.take k)).flatMap silC)∧vs'.ownBlock=vs.ownBlock∧(∀ b,vp'.ownBlock=some b→vp.ownBlock=some b∨w1.heap.size≤b))∧QAt w' qu (restE q now) vq'∧Row w' 3 1 (.slice ad1 ids.length c1) ids.length (ints ids)∧Mod (fun b=>b=p∨b=pl∨vs.ownBlock=some b) w1 w') (fun k=>ids.length - k) 0 ⟨rfl,rfl,rfl,rfl,rfl,trivial⟩ ⟨by omega,⟨vp,vs,hb1,by rw [List.take_zero,keptA_nil];exact hp1,by rw [List.take_zero,keptA_nil];exact hr1s,rfl,fun b e=>.inl e⟩,hq1,hr1,Mod.refl _ _⟩ (fun k w' hI ih=>?_)
 obtain ⟨hk,⟨vp',vs',hbk,hpk,hrk,hvo,hpo⟩,hqk,hrk1,hmk⟩:=hI
 have hkl:(keptA al (ids.take k)).length≤al.length:=List.length_filter_le _ _
 have hzk:=hmk.size
 refine GG ?_
 refine CD (fun h19=>?_) (fun h19=>?_)
 ·obtain ⟨x,hx⟩:∃ x,ids[k]?=some x:=⟨ids[k]'(by omega),List.getElem?_eq_getElem (by omega)⟩
  obtain ⟨b1,o1,c1',he1,_,_,hc1⟩:=(Sl.own (M:=No) hrk1 (fun _ _ h=>h)).elem1 (k:=k) (u:=.int .i64 x) (by simp [hx])
  cases he1
  obtain ⟨a0,ha0,hax,had⟩:=hidmem x (List.mem_of_getElem? hx)
  have hnot:x∉ids.take k:=fun hm=>by
    obtain ⟨t,ht⟩:=List.getElem?_of_mem hm
    rw [List.getElem?_take] at ht
    split at ht
    ·have h1:=(List.getElem?_eq_some_iff.1 ht)
     have h2:=(List.getElem?_eq_some_iff.1 hx)
     have:=List.pairwise_iff_getElem.1 hidn t k h1.1 h2.1 (by omega)
     rw [h1.2,h2.2] at this
     exact this rfl
    ·cases ht
  have hin:a0∈keptA al (ids.take k):=List.mem_filter.2 ⟨ha0,by rw [hax];simpa using hnot⟩
  obtain ⟨j,hj⟩:=List.getElem?_of_mem hin
  have hjl:=(List.getElem?_eq_some_iff.1 hj).1
  subst hax
  have hrisk:=keptA_ris hris (ids.take k)
  have hshk:∀ a∈keptA al (ids.take k),∃ ad n c,a.mv=.slice ad n c:=fun a ha=>hsh a (List.mem_filter.1 ha).1
  have htk:ids.take (k + 1)=ids.take k ++ [a0.id]:=by rw [List.take_add_one,hx];rfl
  have hnext:keptA al (ids.take (k + 1))=(keptA al (ids.take k)).eraseIdx j:=by rw [htk,keptA_snoc,erase_filter _ j a0 hrisk hj]
  refine GG ?_
  refine QQ (Yld.indexAddrN u35 i3 rfl rfl (by omega)) ?_
  refine QQ (Yld.load p3 rfl (at1 (hc1 k (.int .i64 a0.id) (by simp [hx])))) ?_
  refine GG ?_
  refine OP (Does.call rfl e54 (findR_ok _ p pl qu s.ret vs' _ hbk hrk hshk hrisk (by omega) j a0 hj)) ?_
  rintro _ w2 ⟨rfl,hg2⟩
  obtain ⟨ads,cs,rfl⟩:=hrk.slice
  have hb2:=hbk.mod hg2 (fun h=>h)
  have hr2:=hrk.mod hg2 (fun _ _ h=>h)
  have hp2:=hpk.mod hg2 (fun h=>h) (fun _ _ h=>h)
  have hq2:=hqk.grow hg2
  refine GG ?_
  refine QQ (Yld.fieldAddr fo101_3 rfl) ?_
  refine QQ (Yld.load p44 rfl (at1 (hb2.cell rfl))) ?_
  iterate 3 refine RL.p rfl rfl ?_
  refine RL.re (d:=35) rfl rfl (succ_i64 (by omega)) ?_
  refine OP (Does.call rfl e57 (deleteZ_ok _ j _ _ hr2 hshk hjl (by omega))) ?_
  rintro u3 w3 ⟨hr3,ho3,hm3⟩
  obtain ⟨ad3,c3,rfl⟩:=hr3.slice
  have hb3:=hb2.mod hm3 (fun e=>(hr2.ty e).ne hb2.ty rfl rfl)
  have hp3:=hp2.mod hm3 (fun e=>(hr2.ty e).ne hp2.blk.ty rfl rfl) (fun x e1 e=>(hp2.row.ty e1).ne (hr2.ty e) rfl rfl)
  have hq3:=hq2.mod hm3 (fun e=>(hr2.ty e).ne hq2.blk.ty rfl rfl) (fun x e1 e=>(hq2.row.ty e1).ne (hr2.ty e) rfl rfl)
  have hrk2:=hrk1.mod hg2 (fun _ _ h=>h)
  have hrk3:=hrk2.mod hm3 (fun x e1 e=>(hrk2.ty e1).ne (hr2.ty e) rfl rfl)
  refine RL.p rfl rfl ?_
  refine QQ (Yld.fieldAddr fo101_3 rfl) ?_
  refine OQ (Does.store i44 rfl rfl rfl hb3 (.s (.s (.s .z)))) ?_
  rintro _ w4 ⟨hb4,hm4,hs4⟩
  have hr4:=hr3.mod hm4 (fun x e1 e=>(hr3.ty e1).ne hb3.ty rfl e)
  have hp4:=hp3.mod hm4 (fun e=>hp3.blk.ty.ne hb3.ty rfl e) (fun x e1 e=>(hp3.row.ty e1).ne hb3.ty rfl e)
  have hq4:=hq3.mod hm4 (fun e=>hq3.blk.ty.ne hb3.ty rfl e) (fun x e1 e=>(hq3.row.ty e1).ne hb3.ty rfl e)
  have hrk4:=hrk3.mod hm4 (fun x e1 e=>(hrk3.ty e1).ne hb3.ty rfl e)
  refine GG ?_
  refine QQ (Yld.fieldAddr fo101_0 rfl) ?_
  refine QQ (Yld.load p96 rfl (at1 (hb4.cell rfl))) ?_
  refine RL.p rfl rfl ?_
  refine OP (Does.call rfl e58 (give_ok _ pl s.most s.last _ vp' a0.id hp4 hrisk (by rw [List.length_map];omega))) ?_
  rintro _ w5 ⟨rfl,vp5,hp5,hm5,hf5⟩
  have hb5:=hb4.mod hm5 (fun e=>hb4.ty.ne hp4.blk.ty rfl e)
  have hr5:=hr4.mod hm5 (fun x e1 e=>(hr4.ty e1).ne hp4.blk.ty rfl e)
  have hq5:=hq4.mod hm5 (fun e=>hq4.blk.ty.ne hp4.blk.ty rfl e) (fun x e1 e=>(hq4.row.ty e1).ne hp4.blk.ty rfl e)
  have hrk5:=hrk4.mod hm5 (fun x e1 e=>(hrk4.ty e1).ne hp4.blk.ty rfl e)
  have hgv:giveS ((keptA al (ids.take k)).map (·.id)) a0.id=((keptA al (ids.take k)).eraseIdx j).map (·.id):=by
    rw [give_filter hrisk (List.mem_map.2 ⟨a0,hin,rfl⟩),erase_filter _ j a0 hrisk hj,List.filter_map]
    rfl
  rw [hgv] at hp5
  have hz2:=hg2.size
  have hz3:=hm3.size
  have hz4:=hm4.size
  refine RL.done ?_
  refine RK.inBlock ?_
  refine RK.region ?_
  refine RL.p rfl rfl ?_
  refine RL.re (d:=45) rfl rfl (succ_i64 (by omega)) ?_
  refine GG ?_
  exact RK.back (ih (k + 1) _ ⟨by omega,⟨vp5,.slice ad3 _ c3,hb5,by rw [hnext];exact hp5,by rw [hnext];exact hr5,ho3.trans hvo,fun b e=>by
    rcases hf5 b e with e | e
    ·exact hpo b e
    ·exact .inr (by omega)⟩,hq5,hrk5,(((hmk.trans (Mod.any' hg2)).trans (hm3.mono fun b _ e=>.inr (.inr (hvo ▸ e)))).trans (hm4.mono fun b _ e=>.inl e)).trans (hm5.mono fun b _ e=>.inr (.inl e))⟩ (by omega)) ⟨rfl,rfl,rfl,rfl,rfl,trivial⟩
 ·have hke:ids.take k=ids:=List.take_of_length_le (by omega)
  rw [hke,hkept] at hpk hrk
  have hown:∀ x,ownS p pl qu vp' vq' vs' x→ownS p pl qu vp vq vs x∨w.heap.size≤x:=fun x e=>by
    rcases e with e | e | e | e | e | e
    ·exact .inl (.inl e)
    ·exact .inl (.inr (.inl e))
    ·exact .inl (.inr (.inr (.inl e)))
    ·rcases hpo x e with e | e
     ·exact .inl (.inr (.inr (.inr (.inl e))))
     ·exact .inr (by omega)
    ·exact .inl (.inr (.inr (.inr (.inr (.inl (hqo ▸ e))))))
    ·exact .inl (.inr (.inr (.inr (.inr (.inr (hvo ▸ e))))))
  have hmP:Mod (ownS p pl qu vp vq vs) w w':=hmP1.trans (hmk.mono fun x _ e=>by
    rcases e with e | e | e
    ·exact .inl e
    ·exact .inr (.inl e)
    ·exact .inr (.inr (.inr (.inr (.inr e)))))
  refine RK.exit rfl ?_
  refine GG ?_
  refine RK.ret_of Tryz.func18 (res1 rfl rfl) ?_ _
  exact ⟨_,rfl,ownS p pl qu vp' vq' vs',ids,⟨dueE q now,h.sort.filter _,by
    rw [← hals,List.filter_map,List.map_map]
    exact hdueal,hidq⟩,hrk1,hf1,by
    rw [← hals,List.filter_map,List.map_map]
    exact hidperm,ZStore.next (w:=w) (al:=al.filter fun a=>!dueZ s.ret now (pubZ a)) h.ltM (hmP.mono fun x _ e=>h.ownM x e) hbk hpk hqk hrk (by
    show _=s.sl.filter _
    rw [← hals,List.filter_map];rfl) (fun a ha=>.inl (h.sms a (List.mem_filter.1 ha).1)) (h.sort.filter _) hrestal (fun x e=>(hown x e).elim (fun e=>.inl (h.ownM x e)) .inr),hmP.mono fun x _ e=>(hO x).2 e,fun x e=>(hown x e).elim (fun e=>.inl ((hO x).2 e)) .inr,fun b e e2=>by
    have h1:=hf1 b e
    have h2:=hr1.lt e
    rcases e2 with e2 | e2 | e2 | e2 | e2 | e2
    ·exact (hrk1.ty e).ne hbk.ty rfl e2
    ·exact (hrk1.ty e).ne hpk.blk.ty rfl e2
    ·exact (hrk1.ty e).ne hqk.blk.ty rfl e2
    ·rcases hpo b e2 with e2 | e2
     ·have:=hown0 b (.inr (.inr (.inr (.inl e2))));omega
     ·omega
    ·exact (hrk1.ty e).ne (hqk.row.ty e2) rfl rfl
    ·exact (hrk1.ty e).ne (hrk.ty e2) rfl rfl⟩
theorem sweepZ_ok (w:World) (p:Nat) (s:SS) (O M:Nat→Prop) (h:ZStore O M w p s) (g:Gz s) (now:Int) :
  Fx Tryz.prog 18 [pp p,.int .u64 now] w (fun u w'=>∃ O' ids,Row w' 3 1 u ids.length (ints ids)∧Fresh w.heap.size u∧ids.Perm ((s.sl.filter (dueZ s.ret now)).map (·.id))∧ZStore O' (fun x=>M x∨O' x) w' p (sweptZ s now)∧Mod O w w'∧(∀ x,O' x→O x∨w.heap.size≤x)∧∀ b,u.ownBlock=some b→¬ O' b):=by
 refine Calls.mono (sweepO_ok w p s O M h g now) ?_
 rintro e w' ⟨u,he,O',ids,_,h1⟩
 exact ⟨u,he,O',ids,h1⟩
end Go.Proofs.YtbcbfjnlnmhpbaaGreat
set_option linter.unusedVariables false
set_option linter.unusedSimpArgs false
set_option maxHeartbeats 3200000
set_option maxRecDepth 100000
namespace Go.Proofs.YtbcbfjnlnmhpbaaGreat
open Go Go.X
theorem Gz.make {s:SS} (g:Gz s) (now a b:Int) (hb:0≤b) (ms:List Mt) (bd:Bd):Gz (makeS s now a b ms bd).1:=by
 unfold makeS
 split
 ·exact g
 ·split
  ·exact g
  ·rename_i hf
   have hsp:=fits_span hf
   split
   ·exact g
   ·rename_i hm
    have h1:=g.l0
    refine ⟨g.r0,g.r1,g.m1,?_,?_,?_,fun x hx=>?_,fun x hx=>?_⟩
    ·simp only [List.length_append,List.length_singleton];omega
    ·show Ris ((s.sl ++ [_]).map _)
     rw [List.map_append]
     refine List.pairwise_append.2 ⟨g.ris,by simp,fun x hx y hy=>?_⟩
     obtain ⟨z,hz,rfl⟩:=List.mem_map.1 hx
     have h2:=g.low z hz
     have h3:y=s.last + 1:=by simpa using hy
     omega
    ·show 0≤s.last + 1;omega
    ·rcases List.mem_append.1 hx with hx | hx
     ·have h2:=g.low x hx
      show x.id≤s.last + 1
      omega
     ·obtain rfl:=List.mem_singleton.1 hx
      exact Int.le_refl _
    ·rcases List.mem_append.1 hx with hx | hx
     ·exact g.st x hx
     ·obtain rfl:=List.mem_singleton.1 hx
      exact ⟨hb,hsp.2.2⟩
theorem Gz.turn {s:SS} (g:Gz s) {i:Nat} {a a' : Slz} (ha:s.sl[i]?=some a) (hid:a'.id=a.id) (h1:0≤a'.stop∧a'.stop≤1099511627776):Gz (turnS s i a'):=by
 have hmem:=List.mem_of_getElem? ha
 have hin:∀ x∈(turnS s i a').sl,x∈s.sl∨x=a':=fun x hx=>List.mem_or_eq_of_mem_set hx
 refine ⟨g.r0,g.r1,g.m1,by show ((s.sl.set i a').length:Int)≤_;rw [List.length_set];exact g.len,?_,g.l0,fun x hx=>?_,fun x hx=>?_⟩
 ·show Ris ((s.sl.set i a').map _)
  have e:(s.sl.set i a').map (·.id)=s.sl.map (·.id):=by
   rw [List.map_set]
   apply List.ext_getElem?
   intro j
   rw [List.getElem?_set]
   split
   ·rename_i e
    subst e
    split
    ·rw [List.getElem?_map,ha];simp [hid]
    ·rename_i e2
     rw [eq_comm,List.getElem?_eq_none_iff];omega
   ·rfl
  rw [e];exact g.ris
 ·rcases hin x hx with h | rfl
  ·exact g.low x h
  ·rw [hid];exact g.low a hmem
 ·rcases hin x hx with h | rfl
  ·exact g.st x h
  ·exact h1
theorem Gz.expire {s:SS} (g:Gz s) (now id:Int) (hn:0≤now):Gz (expireS s now id).1:=by
 unfold expireS
 split
 ·exact g
 ·split
  ·exact g
  ·rename_i a ha
   split
   ·exact g
   ·rename_i h3
    refine g.turn ha rfl ?_
    have h2:=g.st a (List.mem_of_getElem? ha)
    have h4:now < a.stop:=by unfold stateS at h3;split at h3 <;> omega
    show 0≤now∧now≤_
    omega
theorem Gz.swept {s:SS} (g:Gz s) (now:Int):Gz (sweptZ s now):=by
 refine ⟨g.r0,g.r1,g.m1,?_,?_,g.l0,fun x hx=>g.low x (List.mem_filter.1 hx).1,fun x hx=>g.st x (List.mem_filter.1 hx).1⟩
 ·have h1:=g.len
  have h2:=List.length_filter_le (fun a=>!dueZ s.ret now a) s.sl
  show ((s.sl.filter _).length:Int)≤s.most
  omega
 ·exact g.ris.sublist (List.filter_sublist.map _)
def noneT:ByteArray:=⟨#[110,111,110,101]⟩
def mP:Mt:=⟨1,noneT,⟨#[]⟩⟩
def bdAll:Bd:=⟨true,0,0⟩
theorem mP_is:isM mP=true:=by kernel_rfl
theorem mP_large:largeM mP=false:=by kernel_rfl
theorem mP_holds:holdsM mP []=true:=by
 unfold holdsM
 rw [mP_is,mP_large,if_pos (show mP.kind=1 from rfl),show getL [] mP.name=mP.value from rfl]
 simp
theorem mP_right:rightS [mP] bdAll=true:=by kernel_rfl
theorem mP_any:anyL [mP]=false:=by kernel_rfl
theorem plain14_ok (w:World):Fx Tryz.prog 12 [] w (fun u w'=>Row w' 108 3 u 1 (mtC mP)∧Fresh w.heap.size u∧Grow w w'):=by
 refine enter Tryz.func12 rfl rfl rfl _ (Pick.sub (l:=[]) .nil) ?_
 refine GG ?_
 refine QQ (Yld.build (v:=.agg (mtC mP).toArray) rfl (fun w=>by kernel_rfl)) ?_
 refine OP (Does.slice1 u28 i108 rfl rfl rfl rfl rfl) ?_
 rintro _ w2 ⟨b2,rfl,hn2⟩
 refine GG ?_
 refine RK.ret_of Tryz.func12 (res1 rfl rfl) ?_ _
 exact ⟨_,rfl,Row.new hn2 3 1 rfl (by omega),fun b e=>by cases e;exact Nat.le_of_eq hn2.at_.symm,hn2.grow⟩
def sA:SS:=⟨2,3,0,[]⟩
def sB:SS:=⟨2,3,1,[⟨1,3,9,[mP],bdAll⟩]⟩
def sC:SS:=⟨2,3,1,[⟨1,3,5,[mP],bdAll⟩]⟩
theorem sA_ok:Gz sA:=⟨by decide,by decide,by decide,by decide,List.Pairwise.nil,by decide,fun a h=>(by cases h),fun a h=>(by cases h)⟩
theorem sA_make:makeS sA 3 3 9 [mP] bdAll=(sB,1,0):=by
 unfold makeS
 have h1:fitsS 3 3 9 [mP]=0:=by unfold fitsS;rw [mP_any];rfl
 rw [mP_right,if_neg (by decide),h1]
 rfl
theorem sB_ok:Gz sB:=by
 have h:=sA_ok.make 3 3 9 (by decide) [mP] bdAll
 rw [sA_make] at h;exact h
theorem sB_expire:expireS sB 5 1=(sC,0):=rfl
theorem sC_ok:Gz sC:=by
 have h:=sB_ok.expire 5 1 (by decide)
 rw [sB_expire] at h;exact h
theorem sB_holds:holdsZ 3 [] 9221120237041090561 sB.sl=[1]:=by
 unfold holdsZ
 show List.map (fun x:Slz=>x.id) (List.filter (holdZ 3 [] 9221120237041090561) [(⟨1,3,9,[mP],bdAll⟩:Slz)])=[1]
 rw [List.filter_cons_of_pos]
 ·rfl
 ·unfold holdZ
  simp only [List.all_cons,List.all_nil,mP_holds]
  kernel_rfl
theorem sC_get:getZ sC 1=some ⟨1,3,5,[mP],bdAll⟩:=rfl
theorem sruns_ok (w:World):Fx Tryz.prog 14 [] w (fun u w'=>u=.bool true∧Grow w w'):=by
 refine enter Tryz.func14 rfl rfl rfl _ (Pick.sub (l:=[]) .nil) ?_
 refine GG ?_
 refine OP (Does.call rfl e10 (newZ_ok 3 2 _)) ?_
 rintro _ w1 ⟨p,O1,rfl,hz1,hg1,hO1⟩
 have hsA:(⟨clampS 2 1 1048576,clampS 3 1 12,0,[]⟩:SS)=sA:=rfl
 rw [hsA] at hz1
 refine GG ?_
 refine QQ (Yld.eqPtr Tryz.underlying23 rfl rfl) ?_
 refine RL.done ?_
 refine RK.condF (hcF rfl (rfl)) ?_
 refine GG ?_
 refine OP (Does.call rfl e12 (plain14_ok _)) ?_
 rintro u2 w2 ⟨hr2,hf2,hg2⟩
 have hz2:=hz1.grow hg2
 refine QQ (Yld.build (v:=.agg (bdC bdAll).toArray) rfl (fun w=>by kernel_rfl)) ?_
 refine OP (Does.call rfl e11 (makeZ_ok _ p sA O1 O1 hz2 sA_ok (by decide) 3 3 9 (by decide) [mP] u2 bdAll (Sl.own hr2 (fun k hk e=>by have:=hf2 k hk;have:=hz1.lt k e;omega)) (by simp))) ?_
 rintro _ w3 ⟨O3,rfl,hz3,hm3,hO3⟩
 rw [sA_make] at hz3 ⊢
 refine GG ?_
 refine OP (Does.call rfl e50 (nan_ok _)) ?_
 rintro _ _ ⟨rfl,rfl⟩
 refine OP (Does.call rfl e15 (holdsStore_ok _ p sB _ _ hz3 sB_ok 3 No [] (.slice none 0 0) 9221120237041090561 (Sl.nil _ _ _ _ _) (by simp))) ?_
 rintro u4 w4 ⟨hr4,hf4,hg4⟩
 rw [sB_holds] at hr4
 obtain ⟨ad4,c4,rfl⟩:=hr4.slice
 refine GG ?_
 refine OP (Does.call rfl e20 (expireZ_ok _ p sB _ _ (hz3.grow hg4) sB_ok 5 1 (by decide))) ?_
 rintro _ w5 ⟨O5,rfl,hz5,hm5,hO5⟩
 rw [sB_expire] at hz5 ⊢
 refine GG ?_
 refine OP (Does.call rfl e16 (getZ_ok _ p sC _ _ hz5 sC_ok 5 1 (by simp [sC]))) ?_
 rintro _ w6 ⟨hget,hg6⟩
 rw [sC_get] at hget
 obtain ⟨v6,rfl,hr6,hf6⟩:=hget
 obtain ⟨ad6,c6,rfl⟩:=hr6.slice
 refine GG ?_
 refine OP (Does.alloc i41) ?_
 rintro _ w7 ⟨b6,rfl,hn6⟩
 refine OQ (Does.storeN i41 rfl rfl rfl rfl hn6.blk (Nat.le_refl 8)) ?_
 rintro _ w8 ⟨hb8,hm8,_⟩
 have hg68:Grow w6 w8:=hn6.grow.then hm8 (fun y hy e=>by have e' : y=b6:=e;have:=hn6.at_;omega)
 have hz8:=hz5.grow (hg6.trans hg68)
 have hB8:Blk w8 b6 41 (silC ⟨1,3,3,5,.slice ad6 [mP].length c6,[mP],bdAll⟩):=hb8
 have hs1:=hg1.size
 have hs2:=hg2.size
 have hs3:=hm3.size
 have hs4:=hg4.size
 have hs5:=hm5.size
 have hs6:=hg6.size
 have hs8:=hg68.size
 have hF3:∀ b,O3 b→w.heap.size≤b:=fun b e=>(hO3 b e).elim (hO1 b) (fun e=>by omega)
 have hF5:∀ b,O5 b→w.heap.size≤b:=fun b e=>(hO5 b e).elim (hF3 b) (fun e=>by omega)
 have hg03:Grow w w3:=(hg1.trans hg2).then hm3 (fun b hb e=>by have:=hO1 b e;omega)
 have hg05:Grow w w5:=(hg03.trans hg4).then hm5 (fun b hb e=>by have:=hF3 b e;omega)
 have hlt3:=hz3.lt
 have hr5:=hr4.mod hm5 (fun b e1 e2=>by have:=hf4 b e1;have:=hlt3 b e2;omega)
 refine GG ?_
 refine RL.knownT (d:=30) rfl rfl (rfl) ?_
 iterate 2 refine QQ (Yld.pure rfl) ?_
 refine GG ?_
 refine RL.knownT (d:=34) rfl rfl (rfl) ?_
 refine QQ (Yld.pure rfl) ?_
 refine OP (Does.slice1 u35 i3 rfl rfl rfl rfl rfl) ?_
 rintro _ w9 ⟨b36,rfl,hn36⟩
 have hr9:=hr5.mod ((hg6.trans hg68).trans hn36.grow) (fun _ _ h=>h)
 refine OP (Does.call rfl e27 (sameInts_ok No [1] [1] _ _ _ (Sl.own hr9 (fun _ _ h=>h)) (Sl.new hn36 1 1 rfl (by omega) (fun h=>h)))) ?_
 rintro _ w10 ⟨rfl,hg10⟩
 have hg810:=hn36.grow.trans hg10
 have hB10:=hB8.mod hg810 (fun h=>h)
 refine GG ?_
 refine RL.knownT (d:=39) rfl rfl (by simp) ?_
 iterate 2 refine QQ (Yld.pure rfl) ?_
 refine GG ?_
 refine RL.knownT (d:=43) rfl rfl (rfl) ?_
 refine QQ (Yld.pure rfl) ?_
 refine GG ?_
 refine RL.knownT (d:=46) rfl rfl (rfl) ?_
 refine QQ (Yld.fieldAddr fo41_3 rfl) ?_
 refine QQ (Yld.load p22 rfl (at1 (hB10.cell rfl))) ?_
 refine QQ (Yld.pure rfl) ?_
 refine GG ?_
 refine RL.knownT (d:=51) rfl rfl (rfl) ?_
 refine QQ (Yld.fieldAddr fo41_1 rfl) ?_
 refine QQ (Yld.load p3 rfl (at1 (hB10.cell rfl))) ?_
 refine QQ (Yld.pure rfl) ?_
 refine GG ?_
 refine RL.knownT (d:=56) rfl rfl (rfl) ?_
 refine QQ (Yld.pure rfl) ?_
 have hs10:=hg810.size
 refine OP (Does.call rfl e18 (sweepZ_ok _ p sC _ _ (hz8.grow hg810) sC_ok 6)) ?_
 rintro u12 w12 ⟨O12,ids12,hr12,hf12,hp12,hz12,hm12,hO12,_⟩
 obtain ⟨ad12,c12,rfl⟩:=hr12.slice
 have hi12:ids12=[]:=List.Perm.eq_nil (hp12.trans (by exact List.Perm.nil))
 subst hi12
 refine QQ (Yld.lenSl u35 rfl) ?_
 refine QQ (Yld.pure rfl) ?_
 refine GG ?_
 refine RL.knownT (d:=62) rfl rfl (rfl) ?_
 refine QQ (Yld.pure rfl) ?_
 have hs12:=hm12.size
 have hF12:∀ b,O12 b→w.heap.size≤b:=fun b e=>(hO12 b e).elim (hF5 b) (fun e=>by omega)
 refine OP (Does.call rfl e18 (sweepZ_ok _ p (sweptZ sC 6) _ _ hz12 (sC_ok.swept 6) 7)) ?_
 rintro u13 w13 ⟨O13,ids13,hr13,hf13,hp13,hz13,hm13,hO13,_⟩
 have hi13:ids13=[1]:=List.perm_singleton.1 (hp13.trans (by exact List.Perm.refl [1]))
 subst hi13
 refine OP (Does.slice1 u35 i3 rfl rfl rfl rfl rfl) ?_
 rintro _ w14 ⟨b65,rfl,hn65⟩
 refine OP (Does.call rfl e27 (sameInts_ok No [1] [1] _ _ _ (Sl.own (hr13.mod hn65.grow (fun _ _ h=>h)) (fun _ _ h=>h)) (Sl.new hn65 1 1 rfl (by omega) (fun h=>h)))) ?_
 rintro _ w15 ⟨rfl,hg15⟩
 refine GG ?_
 refine RL.knownT (d:=68) rfl rfl (by simp) ?_
 refine QQ (Yld.pure rfl) ?_
 refine OP (Does.call rfl e13 (lenZ_ok _ p _ _ _ (hz13.grow (hn65.grow.trans hg15)))) ?_
 rintro _ _ ⟨rfl,rfl⟩
 refine QQ (Yld.pure rfl) ?_
 refine GG ?_
 refine RK.ret_of Tryz.func14 (res1 rfl rfl) ?_ _
 exact ⟨_,rfl,rfl,((((hg05.trans (hg6.trans hg68)).trans hg810).then hm12 (fun b hb e=>by have:=hF5 b e;omega)).then hm13 (fun b hb e=>by have:=hF12 b e;omega)).trans (hn65.grow.trans hg15)⟩
end Go.Proofs.YtbcbfjnlnmhpbaaGreat
set_option linter.unusedVariables false
set_option linter.unusedSimpArgs false
set_option maxHeartbeats 3200000
set_option maxRecDepth 100000
namespace Go.Proofs.YtbcbfjnlnmhpbaaGreat
open Go Go.X
def toldP (now:Int) (a:Slz):Slz×Int:=(a,stateS now a.start a.stop)
def wantZ (now st:Int) (a:Slz):Bool:=decide (st=0) || decide (stateS now a.start a.stop=st)
def listZ (now st:Int) (l:List Slz):List (Slz×Int):=(l.filter (wantZ now st)).map (toldP now)
theorem listZ_len (now st:Int) (l:List Slz):(listZ now st l).length≤l.length:=by
 unfold listZ
 rw [List.length_map]
 exact List.length_filter_le _ _
theorem listZ_snoc (now st:Int) {al:List Sil} {k:Nat} {s:Sil} (hs:al[k]?=some s):listZ now st ((al.take (k + 1)).map pubZ)=listZ now st ((al.take k).map pubZ) ++ (if wantZ now st (pubZ s)=true then [toldP now (pubZ s)] else []):=by
 unfold listZ
 rw [List.take_add_one,hs,List.map_append,List.filter_append,List.map_append]
 congr 1
 show List.map _ (List.filter _ [pubZ s])=_
 by_cases h:wantZ now st (pubZ s)=true
 ·rw [if_pos h,List.filter_cons_of_pos h];rfl
 ·rw [if_neg h,List.filter_cons_of_neg h];rfl
def pubT (a:Sil):Slz×Int:=(pubZ a,a.ver)
theorem listRow_ok (w:World) (p:Nat) (s:SS) (O M:Nat→Prop) (h:ZStore O M w p s) (g:Gz s) (now st:Int) (hms:∀ a∈s.sl,a.ms.length≤1000000) :
  Fx Tryz.prog 17 [pp p,.int .u64 now,.int .i64 st] w (fun u w'=>(∃ tl:List Sil,tl.map pubT=listZ now st s.sl∧Row w' 41 8 u tl.length (tl.flatMap silC)∧∀ a∈tl,Row w' 108 3 a.mv a.ms.length (a.ms.flatMap mtC))∧Fresh w.heap.size u∧Grow w w'):=by
 obtain ⟨pl,qu,vp,vq,vs,al,q,hO,h⟩:=h
 have hle:=g.le
 have hal:=h.len
 have hals:=h.als
 have hsl:=Sl.own (M:=No) h.row (fun _ _ h=>h)
 have hsms:=h.sms
 have hblk:=h.blk
 obtain ⟨ads,cs,rfl⟩:=h.row.slice
 clear h
 refine enter Tryz.func17 rfl rfl rfl _ (Pick.sub (l:=[0,1,2]) (.cons rfl (.cons rfl (.cons rfl .nil)))) ?_
 refine GG ?_
 refine QQ (Yld.fieldAddr fo101_3 rfl) ?_
 refine QQ (Yld.load p44 rfl (at1 (hblk.cell rfl))) ?_
 refine QQ (Yld.lenSl u44 rfl) ?_
 refine GG ?_
 refine RK.loop (fun s:Nat×Value=>[(1,.int .u64 now),(2,.int .i64 st),(7,s.2),(13,.slice ads al.length cs),(14,.int .i64 (al.length:Int)),(15,.int .i64 (s.1:Int))]) (fun s w'=>(∃ tl:List Sil,tl.map pubT=listZ now st ((al.take s.1).map pubZ)∧Row w' 41 8 s.2 tl.length (tl.flatMap silC)∧∀ a∈tl,Row w' 108 3 a.mv a.ms.length (a.ms.flatMap mtC))∧Fresh w.heap.size s.2∧Grow w w'∧s.1≤al.length) (fun s=>al.length - s.1) (0,.slice none 0 0) ⟨rfl,rfl,rfl,rfl,rfl,rfl,trivial⟩ ⟨⟨[],by simp [listZ],Row.nil _ _ _,fun a h=>(by cases h)⟩,fun b e=>by simp [Value.ownBlock] at e,Mod.refl _ _,by simp⟩ (fun s w' hI ih=>?_)
 obtain ⟨k,u⟩:=s
 obtain ⟨⟨tl,htl,hr,hsh⟩,hf,hg,hk⟩:=hI
 simp only at hr hf hk htl
 refine GG ?_
 refine CD (fun h16=>?_) (fun h16=>?_)
 ·obtain ⟨s,hs⟩:∃ s,al[k]?=some s:=⟨al[k]'(by omega),List.getElem?_eq_getElem (by omega)⟩
  obtain ⟨b1,o1,c1',he1,_,_,hc1⟩:=hsl.elem silC_len hs
  cases he1
  have hsm:=(hsms s (List.mem_of_getElem? hs)).mod (Mod.any' hg)
  have hsn:=listZ_snoc now st hs
  have hml:=hms (pubZ s) (by rw [← hals];exact List.mem_map.2 ⟨s,List.mem_of_getElem? hs,rfl⟩)
  have hsl1:=listZ_len now st ((al.take k).map pubZ)
  have hsl2:((al.take k).map pubZ).length≤k:=by simp;omega
  have hsl3:tl.length≤k:=by rw [← htl,List.length_map] at hsl1;omega
  refine GG ?_
  refine QQ (Yld.indexAddrN u44 i41 rfl rfl (by omega)) ?_
  refine QQ (Yld.loadN (cs:=silC s) a41 rfl (atN (fun q z hq=>hg.cell (hc1 q z hq) (fun h=>h)))) ?_
  refine OP (Does.alloc i41) ?_
  rintro _ w1 ⟨b9,rfl,hn9⟩
  refine OQ (Does.storeN i41 rfl rfl rfl (silC_one hsm) hn9.blk (Nat.le_refl 8)) ?_
  rintro _ w2 ⟨hb2,hm2,_⟩
  have hg2' : Grow w' w2:=hn9.grow.then hm2 (fun y hy e=>by have e' : y=b9:=e;have:=hn9.at_;omega)
  have hB2:Blk w2 b9 41 (silC s):=hb2
  refine GG ?_
  refine QQ (Yld.loadN (cs:=silC s) a41 rfl (atN (blk0' hB2))) ?_
  refine OP (Does.call rfl e55 (toldZ_ok M now s _ (hsm.mod (Mod.any' hg2')) hml)) ?_
  rintro _ w3 ⟨v3,rfl,hr3,hf3,hg3⟩
  obtain ⟨ad3,c3,rfl⟩:=hr3.slice
  refine OQ (Does.storeN i41 rfl rfl rfl rfl (hB2.mod hg3 (fun h=>h)) (Nat.le_refl 8)) ?_
  rintro _ w4 ⟨hb4,hm4,_⟩
  have hg34:Grow w' w4:=(hg2'.trans hg3).then hm4 (fun y hy e=>by have e' : y=b9:=e;have:=hn9.at_;omega)
  obtain ⟨t,ht⟩:∃ t:Sil,t={ s with ver:=stateS now s.start s.stop,mv:=.slice ad3 s.ms.length c3 }:=⟨_,rfl⟩
  have hB4:Blk w4 b9 41 (silC t):=by subst ht;exact hb4
  have hg4:=hg.trans hg34
  have hr4:=hr.mod hg34 (fun _ _ h=>h)
  have hrt4:Row w4 108 3 t.mv t.ms.length (t.ms.flatMap mtC):=by subst ht;exact hr3.mod hm4 (fun x e1 e2=>by have e' : x=b9:=e2;exact (hr3.ty e1).ne (hB2.mod hg3 (fun h=>h)).ty rfl e')
  have hsh4:∀ a∈tl,Row w4 108 3 a.mv a.ms.length (a.ms.flatMap mtC):=fun a ha=>(hsh a ha).mod hg34 (fun _ _ h=>h)
  have hpt:pubT t=toldP now (pubZ s):=by subst ht;rfl
  have hz4:=hg4.size
  refine GG ?_
  refine SP 24 (fun h23=>?_) (fun h23=>?_)
  ·have hwant:wantZ now st (pubZ s)=true:=by unfold wantZ;rw [decide_eq_true h23];rfl
   have hone:((Value.agg (silC t).toArray).cells.toList.all fun x=>x.oneCell')=true:=by subst ht;rfl
   iterate 4 refine RL.no (.no rfl rfl rfl rfl) rfl rfl ?_
   refine GG ?_
   refine RK.condT rfl ?_
   refine GG ?_
   refine QQ (Yld.loadN (cs:=silC t) a41 rfl (atN (blk0' hB4))) ?_
   refine OP (Does.slice1 u44 i41 rfl rfl rfl rfl rfl) ?_
   rintro _ w5 ⟨b32,rfl,hn32⟩
   refine OP (Does.append u44 i41 rfl rfl rfl rfl rfl (hr4.mod hn32.grow (fun _ _ h=>h)) (Sl.new hn32 8 1 rfl (by omega) (fun h=>h)) (hone) (by omega)) ?_
   rintro z8 w8 ⟨hr8,hm8,hu8⟩
   have hs5:=hn32.grow.size
   refine RL.p rfl rfl ?_
   refine RL.done ?_
   refine RK.inBlock ?_
   refine RK.region ?_
   refine RL.p rfl rfl ?_
   refine RL.re (d:=34) rfl rfl (succ_i64 (by omega)) ?_
   refine GG ?_
   exact RK.back (ih (k + 1,z8) _ ⟨⟨tl ++ [t],by
     simp only
     rw [hsn,if_pos hwant,List.map_append,htl,List.map_singleton,hpt],by
     rw [List.length_append,List.flatMap_append,List.flatMap_singleton]
     simpa [Value.cells] using hr8,fun a ha=>by
     rcases List.mem_append.1 ha with ha | ha
     ·have h1:=(hsh4 a ha).mod hn32.grow (fun _ _ h=>h)
      exact h1.mod hm8 (fun x e1 e2=>(h1.ty e1).ne ((hr4.mod hn32.grow (fun _ _ h=>h)).ty e2) rfl rfl)
     ·have e:=List.mem_singleton.1 ha
      have h1:=hrt4.mod hn32.grow (fun _ _ h=>h)
      rw [e]
      exact h1.mod hm8 (fun x e1 e2=>(h1.ty e1).ne ((hr4.mod hn32.grow (fun _ _ h=>h)).ty e2) rfl rfl)⟩,fun b e=>by
     rcases hu8 with h1 | h1
     ·exact hf b (h1 ▸ e)
     ·rw [h1] at e;cases e;omega,(hg4.trans hn32.grow).then hm8 (fun b hb e=>by have:=hf b e;omega),by simp only;omega⟩ (by simp only;omega)) ⟨rfl,rfl,rfl,rfl,rfl,rfl,trivial⟩
  ·refine QQ (Yld.fieldAddr fo41_1 rfl) ?_
   refine QQ (Yld.load p3 rfl (at1 (hB4.cell (by subst ht;rfl)))) ?_
   iterate 2 refine QQ (Yld.pure rfl) ?_
   refine GG ?_
   refine CD (fun h29=>?_) (fun h29=>?_)
   ·have hwant:wantZ now st (pubZ s)=true:=by unfold wantZ pubZ;simp only;rw [decide_eq_true h29];simp
    have hone:((Value.agg (silC t).toArray).cells.toList.all fun x=>x.oneCell')=true:=by subst ht;rfl
    refine GG ?_
    refine QQ (Yld.loadN (cs:=silC t) a41 rfl (atN (blk0' hB4))) ?_
    refine OP (Does.slice1 u44 i41 rfl rfl rfl rfl rfl) ?_
    rintro _ w5 ⟨b32,rfl,hn32⟩
    refine OP (Does.append u44 i41 rfl rfl rfl rfl rfl (hr4.mod hn32.grow (fun _ _ h=>h)) (Sl.new hn32 8 1 rfl (by omega) (fun h=>h)) (hone) (by omega)) ?_
    rintro z8 w8 ⟨hr8,hm8,hu8⟩
    have hs5:=hn32.grow.size
    refine RL.p rfl rfl ?_
    refine RL.done ?_
    refine RK.inBlock ?_
    refine RK.region ?_
    refine RL.p rfl rfl ?_
    refine RL.re (d:=34) rfl rfl (succ_i64 (by omega)) ?_
    refine GG ?_
    exact RK.back (ih (k + 1,z8) _ ⟨⟨tl ++ [t],by
      simp only
      rw [hsn,if_pos hwant,List.map_append,htl,List.map_singleton,hpt],by
      rw [List.length_append,List.flatMap_append,List.flatMap_singleton]
      simpa [Value.cells] using hr8,fun a ha=>by
      rcases List.mem_append.1 ha with ha | ha
      ·have h1:=(hsh4 a ha).mod hn32.grow (fun _ _ h=>h)
       exact h1.mod hm8 (fun x e1 e2=>(h1.ty e1).ne ((hr4.mod hn32.grow (fun _ _ h=>h)).ty e2) rfl rfl)
      ·have e:=List.mem_singleton.1 ha
       have h1:=hrt4.mod hn32.grow (fun _ _ h=>h)
       rw [e]
       exact h1.mod hm8 (fun x e1 e2=>(h1.ty e1).ne ((hr4.mod hn32.grow (fun _ _ h=>h)).ty e2) rfl rfl)⟩,fun b e=>by
      rcases hu8 with h1 | h1
      ·exact hf b (h1 ▸ e)
      ·rw [h1] at e;cases e;omega,(hg4.trans hn32.grow).then hm8 (fun b hb e=>by have:=hf b e;omega),by simp only;omega⟩ (by simp only;omega)) ⟨rfl,rfl,rfl,rfl,rfl,rfl,trivial⟩
   ·have hnot:wantZ now st (pubZ s)=false:=by unfold wantZ pubZ;simp only;rw [decide_eq_false h23,decide_eq_false h29];rfl
    refine RK.skip ?_
    refine RK.inBlock ?_
    refine RK.region ?_
    refine RL.p rfl rfl ?_
    refine RL.re (d:=34) rfl rfl (succ_i64 (by omega)) ?_
    refine GG ?_
    exact RK.back (ih (k + 1,u) _ ⟨⟨tl,by simp only;rw [hsn,if_neg (by simp [hnot]),List.append_nil];exact htl,hr4,hsh4⟩,hf,hg4,by simp only;omega⟩ (by simp only;omega)) ⟨rfl,rfl,rfl,rfl,rfl,rfl,trivial⟩
 ·have ek:al.take k=al:=List.take_of_length_le (by omega)
  rw [ek,hals] at htl
  refine RK.exit rfl ?_
  refine GG ?_
  refine RK.ret_of Tryz.func17 (res1 rfl rfl) ?_ _
  exact ⟨_,rfl,⟨tl,htl,hr,hsh⟩,hf,hg⟩
end Go.Proofs.YtbcbfjnlnmhpbaaGreat
set_option linter.unusedVariables false
set_option linter.unusedSimpArgs false
set_option maxHeartbeats 3200000
set_option maxRecDepth 100000
namespace Go.Proofs.YtbcbfjnlnmhpbaaGreat
open Go Go.X
theorem sortE_uniq:∀ {a b:List En},SortE a→SortE b→a.Perm b→a=b
 | [],b,_,_,h=>h.symm.eq_nil.symm
 | x :: a,[],_,_,h=>absurd h.length_eq (by simp)
 | x :: a,y :: b,ha,hb,h=>by
  have hxy:x=y:=by
   have h1:=h.mem_iff.1 (List.mem_cons_self (a:=x) (l:=a))
   have h2:=h.mem_iff.2 (List.mem_cons_self (a:=y) (l:=b))
   rcases List.mem_cons.1 h1 with h1 | h1
   ·exact h1
   ·rcases List.mem_cons.1 h2 with h2 | h2
    ·exact h2.symm
    ·have e1:=(List.pairwise_cons.1 hb).1 x h1
     have e2:=(List.pairwise_cons.1 ha).1 y h2
     exact absurd (ltE_trans e1 e2) (ltE_irrefl _)
  subst hxy
  rw [sortE_uniq (List.pairwise_cons.1 ha).2 (List.pairwise_cons.1 hb).2 (List.perm_cons x |>.1 h)]
def shiftE (r:Int) (e:En):En:=⟨e.due + r,e.id⟩
theorem sort_shift {r:Int} {q:List En} (h:SortE q):SortE (q.map (shiftE r)):=by
 unfold SortE
 rw [List.pairwise_map]
 exact h.imp fun {x y} h=>by unfold ltE shiftE at *;simp only;omega
theorem swept_eq {r:Int} {l:List Slz} {es fs:List En} (h1:SortE es) (p1:es.Perm (l.map fun a=>⟨a.stop + r,a.id⟩)) (h2:SortE fs) (p2:fs.Perm (l.map fun a=>⟨a.stop,a.id⟩)):es.map (·.id)=fs.map (·.id):=by
 have h3:es=fs.map (shiftE r):=by
  refine sortE_uniq h1 (sort_shift h2) (p1.trans ?_)
  have h4:=(p2.map (shiftE r)).symm
  rw [List.map_map] at h4
  exact h4
 rw [h3,List.map_map]
 rfl
def ownR (p:Nat) (vs:Value) (b:Nat):Prop:=b=p∨vs.ownBlock=some b
structure RZ (w:World) (p:Nat) (s:SS) (M:Nat→Prop) (vs:Value) (al:List Sil):Prop where
 blk:Blk w p 64 [.int .i64 s.most,.int .u64 s.ret,vs,.int .i64 s.last]
 row:Row w 41 8 vs al.length (al.flatMap silC)
 als:al.map pubZ=s.sl
 sms:∀ a∈al,SlM M w a.mv a.ms
 ownM:∀ b,ownR p vs b→M b
 ltM:∀ b,M b→b < w.heap.size
def RStore (O M:Nat→Prop) (w:World) (p:Nat) (s:SS):Prop:=∃ vs al,(∀ b,O b↔ownR p vs b)∧RZ w p s M vs al
section
variable {w : World} {p : Nat} {s : SS} {M : Nat → Prop} {vs : Value} {al : List Sil}
theorem RZ.len (h:RZ w p s M vs al):al.length=s.sl.length:=by rw [← h.als,List.length_map]
theorem RZ.ids (h:RZ w p s M vs al):al.map (·.id)=s.sl.map (·.id):=by rw [← h.als,List.map_map];rfl
theorem RZ.sh (h:RZ w p s M vs al):∀ a∈al,∃ ad n c,a.mv=.slice ad n c:=fun a ha=>by obtain ⟨ad,c,e⟩:=(h.sms a ha).shape;exact ⟨ad,_,c,e⟩
theorem RZ.own_lt (h:RZ w p s M vs al) {b:Nat} (e:ownR p vs b):b < w.heap.size:=h.ltM b (h.ownM b e)
theorem RZ.ne_p (h:RZ w p s M vs al) {b:Nat} (e:vs.ownBlock=some b):p≠b:=(h.row.ty e).ne h.blk.ty rfl |>.symm
theorem RZ.grow {w' : World} (h:RZ w p s M vs al) (hg:Grow w w'):RZ w' p s M vs al:=
 ⟨h.blk.mod hg (fun h=>h),h.row.mod hg (fun _ _ h=>h),h.als,fun a ha=>(h.sms a ha).mod (Mod.any' hg),h.ownM,fun b hb=>Nat.lt_of_lt_of_le (h.ltM b hb) hg.size⟩
end
theorem RStore.grow {O M:Nat→Prop} {w w' : World} {p:Nat} {s:SS} (h:RStore O M w p s) (hg:Grow w w'):RStore O M w' p s:=by
 obtain ⟨vs,al,hO,h⟩:=h
 exact ⟨vs,al,hO,h.grow hg⟩
theorem RStore.lt {O M:Nat→Prop} {w:World} {p:Nat} {s:SS} (h:RStore O M w p s):∀ b,O b→b < w.heap.size:=by
 obtain ⟨vs,al,hO,h⟩:=h
 exact fun b hb=>h.own_lt ((hO b).1 hb)
theorem RStore.inM {O M:Nat→Prop} {w:World} {p:Nat} {s:SS} (h:RStore O M w p s):∀ b,O b→M b:=by
 obtain ⟨vs,al,hO,h⟩:=h
 exact fun b hb=>h.ownM b ((hO b).1 hb)
theorem ZStore.inM {O M:Nat→Prop} {w:World} {p:Nat} {s:SS} (h:ZStore O M w p s):∀ b,O b→M b:=by
 obtain ⟨pl,qu,vp,vq,vs,al,q,hO,h⟩:=h
 exact fun b hb=>h.ownM b ((hO b).1 hb)
theorem ZStore.below {O M:Nat→Prop} {w:World} {p:Nat} {s:SS} (h:ZStore O M w p s):∀ b,M b→b < w.heap.size:=by
 obtain ⟨pl,qu,vp,vq,vs,al,q,hO,h⟩:=h
 exact h.ltM
theorem RStore.self {O M:Nat→Prop} {w:World} {p:Nat} {s:SS} (h:RStore O M w p s):RStore O (fun b=>M b∨O b) w p s:=by
 have e:(fun b=>M b∨O b)=M:=funext fun b=>propext ⟨fun e=>e.elim id fun e=>h.inM b e,.inl⟩
 rw [e];exact h
theorem ZStore.other {O M P M' : Nat→Prop} {w w' : World} {p:Nat} {s:SS} (h:ZStore O M w p s) (hm:Mod P w w') (hP:∀ b,P b→M b) (hd:∀ b,O b→¬ P b) (hM:∀ b,M' b→M b∨w.heap.size≤b) (hMM:∀ b,M b→M' b) (hlt:∀ b,M' b→b < w'.heap.size):ZStore O M' w' p s:=by
 obtain ⟨pl,qu,vp,vq,vs,al,q,hO,h⟩:=h
 have n:∀ b,ownS p pl qu vp vq vs b→¬ P b:=fun b e=>hd b ((hO b).2 e)
 exact ⟨pl,qu,vp,vq,vs,al,q,hO,h.blk.mod hm (n _ (.inl rfl)),⟨h.pool.blk.mod hm (n _ (.inr (.inl rfl))),h.pool.row.mod hm (fun b e=>n b (.inr (.inr (.inr (.inl e))))),h.pool.ne⟩,h.que.mod hm (n _ (.inr (.inr (.inl rfl)))) (fun b e=>n b (.inr (.inr (.inr (.inr (.inl e)))))),h.row.mod hm (fun b e=>n b (.inr (.inr (.inr (.inr (.inr e)))))),h.als,fun a ha=>(h.sms a ha).pass (by omega) (hm.mono fun b _ e=>hP b e) hM,h.sort,h.perm,fun b e=>hMM b (h.ownM b e),hlt⟩
theorem RStore.other {O M P M' : Nat→Prop} {w w' : World} {p:Nat} {s:SS} (h:RStore O M w p s) (hm:Mod P w w') (hP:∀ b,P b→M b) (hd:∀ b,O b→¬ P b) (hM:∀ b,M' b→M b∨w.heap.size≤b) (hMM:∀ b,M b→M' b) (hlt:∀ b,M' b→b < w'.heap.size):RStore O M' w' p s:=by
 obtain ⟨vs,al,hO,h⟩:=h
 have n:∀ b,ownR p vs b→¬ P b:=fun b e=>hd b ((hO b).2 e)
 exact ⟨vs,al,hO,h.blk.mod hm (n _ (.inl rfl)),h.row.mod hm (fun b e=>n b (.inr e)),h.als,fun a ha=>(h.sms a ha).pass (by omega) (hm.mono fun b _ e=>hP b e) hM,fun b e=>hMM b (h.ownM b e),hlt⟩
theorem RStore.next {M:Nat→Prop} {w w' : World} {p:Nat} {s' : SS} {vs:Value} {al:List Sil} (hM:∀ b,M b→b < w.heap.size) (hm:Mod M w w')
  (blk:Blk w' p 64 [.int .i64 s'.most,.int .u64 s'.ret,vs,.int .i64 s'.last]) (row:Row w' 41 8 vs al.length (al.flatMap silC)) (als:al.map pubZ=s'.sl)
  (sms:∀ a∈al,SlM M w a.mv a.ms∨(Row w' 108 3 a.mv a.ms.length (a.ms.flatMap mtC)∧∀ b,a.mv.ownBlock=some b→w.heap.size≤b)) (hO:∀ b,ownR p vs b→M b∨w.heap.size≤b) :
  RStore (ownR p vs) (fun b=>M b∨ownR p vs b) w' p s':=by
 have hty:∀ b,ownR p vs b→∀ k,Ty w' k 108→b≠k:=fun b e k hk=>by
  rcases e with rfl | e
  ·exact blk.ty.ne hk rfl
  ·exact (row.ty e).ne hk rfl
 refine ⟨vs,al,fun _=>Iff.rfl,blk,row,als,fun a ha=>?_,fun b e=>.inr e,fun b e=>?_⟩
 ·rcases sms a ha with h | ⟨h,hf⟩
  ·exact (h.off (by omega) (fun b hb e=>e.elim id fun e=>(hO b e).elim id fun e=>by omega)).mod (hm.mono fun b _ e=>.inl e)
  ·refine Sl.own h fun k hk e=>?_
   have h1:=hf k hk
   rcases e with e | e
   ·have:=hM k e;omega
   ·exact hty k e k (h.ty hk) rfl
 ·rcases e with e | rfl | e
  ·exact Nat.lt_of_lt_of_le (hM b e) hm.size
  ·exact blk.lt
  ·exact row.lt e
end Go.Proofs.YtbcbfjnlnmhpbaaGreat
set_option linter.unusedVariables false
set_option linter.unusedSimpArgs false
set_option maxHeartbeats 3200000
set_option maxRecDepth 100000
namespace Go.Proofs.YtbcbfjnlnmhpbaaGreat
open Go Go.X
theorem held12_ok (n:Int) (w:World):Fx Tryz.prog 59 [.int .i64 n,.int .i64 1,.int .i64 12] w (fun u w'=>u=.int .i64 (clampS n 1 12)∧w=w'):=by
 refine enter Tryz.func59 rfl rfl rfl _ (Pick.sub (l:=[0,1,2]) (.cons rfl (.cons rfl (.cons rfl .nil)))) ?_
 refine GG ?_
 refine CD (fun h9=>?_) (fun h9=>?_)
 ·refine GG ?_
  refine RK.ret_of Tryz.func59 (res1 rfl rfl) ?_ _
  exact ⟨_,rfl,congrArg _ (by unfold clampS;repeat' split <;> try omega),rfl⟩
 ·refine GG ?_
  refine CD (fun h13=>?_) (fun h13=>?_)
  ·refine GG ?_
   refine RK.ret_of Tryz.func59 (res1 rfl rfl) ?_ _
   exact ⟨_,rfl,congrArg _ (by unfold clampS;repeat' split <;> try omega),rfl⟩
  ·refine GG ?_
   refine RK.ret_of Tryz.func59 (res1 rfl rfl) ?_ _
   exact ⟨_,rfl,congrArg _ (by unfold clampS;repeat' split <;> try omega),rfl⟩
theorem newR9_ok (m r:Int) (w:World):Fx Tryz.prog 22 [.int .i64 m,.int .u64 r] w (fun u w'=>∃ p,u=pp p∧RStore (fun b=>b=p) (fun b=>b=p) w' p ⟨clampS r 1 1048576,clampS m 1 12,0,[]⟩∧Grow w w'∧w.heap.size≤p):=by
 have key:∀ (w' : World) (p:Nat) (x:Int),Blk w' p 64 [.int .i64 (clampS m 1 12),.int .u64 x,.slice none 0 0,.int .i64 0]→RStore (fun b=>b=p) (fun b=>b=p) w' p ⟨x,clampS m 1 12,0,[]⟩:=fun w' p x h=>⟨.slice none 0 0,[],fun b=>by unfold ownR;simp [Value.ownBlock],h,Row.nil _ _ _,rfl,fun a ha=>(by cases ha),fun b e=>by unfold ownR at e;simpa [Value.ownBlock] using e,fun b e=>by have e' : b=p:=e;rw [e'];exact h.lt⟩
 refine enter Tryz.func22 rfl rfl rfl _ (Pick.sub (l:=[0,1]) (.cons rfl (.cons rfl .nil))) ?_
 refine GG ?_
 refine OP (Does.call rfl e59 (held12_ok m _)) ?_
 rintro _ _ ⟨rfl,rfl⟩
 refine RL.p rfl rfl ?_
 refine QQ (Yld.build (v:=.agg #[.int .i64 (clampS m 1 12),.int .u64 r,.slice none 0 0,.int .i64 0]) rfl (fun w=>by kernel_rfl)) ?_
 refine OP (Does.box rfl) ?_
 rintro _ w2 ⟨p,rfl,hn⟩
 have hat:=hn.at_
 refine GG ?_
 refine QQ (Yld.fieldAddr fo64_1 rfl) ?_
 refine QQ (Yld.load p22 rfl (at1 (hn.blk.cell rfl))) ?_
 refine GG ?_
 refine CD (fun h15=>?_) (fun h15=>?_)
 ·refine GG ?_
  refine QQ (Yld.fieldAddr fo64_1 rfl) ?_
  refine OQ (Does.store i22 rfl rfl rfl hn.blk (.s .z)) ?_
  rintro _ w3 ⟨hb3,hm3,_⟩
  have hg3:Grow w w3:=hn.grow.then hm3 (fun b hb e=>by have e' : b=p:=e;omega)
  refine GG ?_
  refine QQ (Yld.fieldAddr fo64_1 rfl) ?_
  refine QQ (Yld.load p22 rfl (at1 (hb3.cell rfl))) ?_
  refine GG ?_
  refine RK.condF (hcF rfl (rfl)) ?_
  refine GG ?_
  refine RK.ret_of Tryz.func22 (res1 rfl rfl) ?_ _
  exact ⟨_,rfl,p,rfl,by rw [show clampS r 1 1048576=1 by unfold clampS;rw [if_pos (show (1:Int) > r by omega)];rfl];exact key w3 p 1 hb3,hg3,by omega⟩
 ·refine GG ?_
  refine QQ (Yld.fieldAddr fo64_1 rfl) ?_
  refine QQ (Yld.load p22 rfl (at1 (hn.blk.cell rfl))) ?_
  refine GG ?_
  refine CD (fun h23=>?_) (fun h23=>?_)
  ·refine GG ?_
   refine QQ (Yld.fieldAddr fo64_1 rfl) ?_
   refine OQ (Does.store i22 rfl rfl rfl hn.blk (.s .z)) ?_
   rintro _ w3 ⟨hb3,hm3,_⟩
   have hg3:Grow w w3:=hn.grow.then hm3 (fun b hb e=>by have e' : b=p:=e;omega)
   refine GG ?_
   refine RK.ret_of Tryz.func22 (res1 rfl rfl) ?_ _
   exact ⟨_,rfl,p,rfl,by rw [show clampS r 1 1048576=1048576 by unfold clampS;rw [if_neg (show ¬ (1:Int) > r by omega),if_pos (by omega)]];exact key w3 p 1048576 hb3,hg3,by omega⟩
  ·refine GG ?_
   refine RK.ret_of Tryz.func22 (res1 rfl rfl) ?_ _
   exact ⟨_,rfl,p,rfl,by rw [show clampS r 1 1048576=r by unfold clampS;rw [if_neg (show ¬ (1:Int) > r by omega),if_neg (by omega)]];exact key _ p r hn.blk,hn.grow,by omega⟩
theorem copiedR9_ok (M:Nat→Prop) (xs:List Mt) (v:Value) (w:World) (hv:SlM M w v xs) (hb:xs.length≤1000000) :
  Fx Tryz.prog 64 [v] w (fun u w'=>Row w' 108 3 u xs.length (xs.flatMap mtC)∧Fresh w.heap.size u∧Grow w w'):=by
 obtain ⟨ad,c,rfl⟩:=hv.shape
 refine enter Tryz.func64 rfl rfl rfl _ (Pick.sub (l:=[0]) (.cons rfl .nil)) ?_
 refine GG ?_
 refine OP (Does.append u28 i108 rfl rfl rfl rfl rfl (Row.nil _ _ _) (hv.noM) (allOne_mts xs) (by omega)) ?_
 rintro u w2 ⟨hr,hm,hu⟩
 refine GG ?_
 refine RK.ret_of Tryz.func64 (res1 rfl rfl) ?_ _
 exact ⟨_,rfl,by simpa using hr,fun b hb=>by rcases hu with hu | hu <;> rw [hu] at hb <;> simp [Value.ownBlock] at hb <;> omega,hm.mono fun x _ e=>by simp [Value.ownBlock] at e⟩
theorem mayR9_ok (M:Nat→Prop) (ms:List Mt) (hn:∀ m∈ms,m.name.size≤9223372036854775807) (v:Value) (bd:Bd) (w:World) (hv:SlM M w v ms):Fx Tryz.prog 74 [v,.agg (bdC bd).toArray] w (fun u w'=>u=.bool (rightS ms bd)∧Grow w w'):=by
 obtain ⟨ad,c,rfl⟩:=hv.shape
 refine enter Tryz.func74 rfl rfl rfl _ (Pick.sub (l:=[0,1]) (.cons rfl (.cons rfl .nil))) ?_
 refine GG ?_
 refine OP (Does.box rfl) ?_
 rintro _ w1 ⟨b3,rfl,hn3⟩
 refine GG ?_
 refine QQ (Yld.lenSl u28 rfl) ?_
 refine GG ?_
 refine SP 8 (fun h7=>?_) (fun h7=>?_)
 ·refine QQ (Yld.pure rfl) ?_
  refine OP (Does.call rfl e31 (listR_ok M ms hn _ _ (hv.mod (Mod.any' hn3.grow)))) ?_
  rintro _ w2 ⟨rfl,hg2⟩
  have hB3:Blk w2 b3 32 (bdC bd):=hn3.blk.mod hg2 (fun h=>h)
  refine GG ?_
  refine SP 12 (fun h10=>?_) (fun h10=>?_)
  ·refine QQ (Yld.loadN (cs:=bdC bd) a32 rfl (atN (blk0' hB3))) ?_
   refine OP (Does.call rfl e32 (mayR_ok bd _)) ?_
   rintro _ w3 ⟨rfl,hg3⟩
   refine GG ?_
   refine RK.ret_of Tryz.func74 (res1 rfl rfl) ?_ _
   exact ⟨_,rfl,by unfold rightS;rw [h10,decide_eq_true (by omega)];rfl,(hn3.grow.trans hg2).trans hg3⟩
  ·iterate 2 refine RL.no (.no rfl rfl rfl rfl) rfl rfl ?_
   refine GG ?_
   refine RK.ret_of Tryz.func74 (res1 rfl rfl) ?_ _
   exact ⟨_,rfl,by unfold rightS;rw [show listM ms=false by simpa using h10];simp,hn3.grow.trans hg2⟩
 ·iterate 2 refine RL.no (.no rfl rfl rfl rfl) rfl rfl ?_
  refine GG ?_
  iterate 2 refine RL.no (.no rfl rfl rfl rfl) rfl rfl ?_
  refine GG ?_
  refine RK.ret_of Tryz.func74 (res1 rfl rfl) ?_ _
  exact ⟨_,rfl,by unfold rightS;rw [decide_eq_false (by omega)];rfl,hn3.grow⟩
theorem spanR9_ok (now a b:Int) (w:World):Fx Tryz.prog 76 [.int .u64 now,.int .u64 a,.int .u64 b] w (fun u w'=>u=.bool (spanS now a b)∧w=w'):=by
 refine enter Tryz.func76 rfl rfl rfl _ (Pick.sub (l:=[0,1,2]) (.cons rfl (.cons rfl (.cons rfl .nil)))) ?_
 refine GG ?_
 refine SP 10 (fun h1=>?_) (fun h1=>?_)
 ·iterate 3 refine QQ (Yld.pure rfl) ?_
  refine GG ?_
  refine SP 15 (fun h2=>?_) (fun h2=>?_)
  ·iterate 2 refine QQ (Yld.pure rfl) ?_
   refine GG ?_
   refine RK.ret_of Tryz.func76 (res1 rfl rfl) ?_ _
   exact ⟨_,rfl,by unfold spanS;simp [h1,h2],rfl⟩
  ·iterate 2 refine RL.no (.no rfl rfl rfl rfl) rfl rfl ?_
   refine GG ?_
   refine RK.ret_of Tryz.func76 (res1 rfl rfl) ?_ _
   exact ⟨_,rfl,by unfold spanS;simp [h1,h2],rfl⟩
 ·iterate 3 refine RL.no (.no rfl rfl rfl rfl) rfl rfl ?_
  refine GG ?_
  iterate 2 refine RL.no (.no rfl rfl rfl rfl) rfl rfl ?_
  refine GG ?_
  refine RK.ret_of Tryz.func76 (res1 rfl rfl) ?_ _
  exact ⟨_,rfl,by unfold spanS;simp [h1],rfl⟩
theorem goneR9_ok (now b r:Int) (hb:0≤b) (hn:now < 18446744073709551616) (hr:0≤r) (w:World):Fx Tryz.prog 112 [.int .u64 now,.int .u64 b,.int .u64 r] w (fun u w'=>u=.bool (decide (b + r≤now))∧w=w'):=by
 refine enter Tryz.func112 rfl rfl rfl _ (Pick.sub (l:=[0,1,2]) (.cons rfl (.cons rfl (.cons rfl .nil)))) ?_
 refine GG ?_
 refine SP 10 (fun h9=>?_) (fun h9=>?_)
 ·iterate 3 refine QQ (Yld.pure rfl) ?_
  refine RL.re (d:=13) rfl rfl (congrArg (Value.int .u64) (show _=now - b by rw [IntKind.wrap_u64];omega)) ?_
  iterate 2 refine QQ (Yld.pure rfl) ?_
  refine GG ?_
  refine RK.ret_of Tryz.func112 (res1 rfl rfl) ?_ _
  exact ⟨_,rfl,congrArg Value.bool (by rw [decide_eq_decide];omega),rfl⟩
 ·iterate 5 refine RL.no (.no rfl rfl rfl rfl) rfl rfl ?_
  refine GG ?_
  refine RK.ret_of Tryz.func112 (res1 rfl rfl) ?_ _
  exact ⟨_,rfl,by rw [decide_eq_false (by omega)],rfl⟩
def placeN (s:SS) (id:Int):Int:=match placeZ s id with
 | none=>-1
 | some i=>(i:Int)
theorem place_first {al:List Sil} {s:SS} (hids:al.map (·.id)=s.sl.map (·.id)) {k:Nat} {a:Sil} (ha:al[k]?=some a) (hno:∀ (j:Nat) (b:Sil),j < k→al[j]?=some b→b.id≠a.id):placeZ s a.id=some k:=by
 obtain ⟨hk,hv⟩:=List.getElem?_eq_some_iff.1 ha
 unfold placeZ placeI
 rw [← hids,List.findIdx?_eq_some_iff_getElem]
 refine ⟨by simpa using hk,by simp [hv],fun j hj=>?_⟩
 have:=hno j _ hj (List.getElem?_eq_getElem (by omega))
 simpa using this
theorem place_none {al:List Sil} {s:SS} (hids:al.map (·.id)=s.sl.map (·.id)) {id:Int} (hno:∀ (j:Nat) (b:Sil),al[j]?=some b→b.id≠id):placeZ s id=none:=by
 unfold placeZ placeI
 rw [← hids,List.findIdx?_eq_none_iff]
 intro x hx
 obtain ⟨b,hb,rfl⟩:=List.mem_map.1 hx
 obtain ⟨j,hj⟩:=List.getElem?_of_mem hb
 simpa using hno j b hj
theorem placeR9_ok (w:World) (p:Nat) (s:SS) (M:Nat→Prop) (vs:Value) (al:List Sil) (h:RZ w p s M vs al) (hle:al.length≤1000) (id:Int) :
  Fx Tryz.prog 80 [pp p,.int .i64 id] w (fun u w'=>u=.int .i64 (placeN s id)∧w=w'):=by
 have hids:=h.ids
 have hsl:=Sl.own (M:=No) h.row (fun _ _ h=>h)
 obtain ⟨ad,c,rfl⟩:=h.row.slice
 refine enter Tryz.func80 rfl rfl rfl _ (Pick.sub (l:=[0,1]) (.cons rfl (.cons rfl .nil))) ?_
 refine GG ?_
 refine RK.loop (fun k:Nat=>[(0,pp p),(1,.int .i64 id),(5,.int .i64 (k:Int))]) (fun k w'=>w=w'∧k≤al.length∧∀ j a,j < k→al[j]?=some a→a.id≠id) (fun k=>al.length - k) 0 ⟨rfl,rfl,rfl,trivial⟩ ⟨rfl,by omega,fun j a h=>by omega⟩ (fun k w' hI ih=>?_)
 obtain ⟨rfl,hk,hno⟩:=hI
 refine GG ?_
 refine QQ (Yld.fieldAddr fo64_2 rfl) ?_
 refine QQ (Yld.load p44 rfl (at1 (h.blk.cell rfl))) ?_
 refine QQ (Yld.lenSl u44 rfl) ?_
 refine GG ?_
 refine CD (fun h12=>?_) (fun h12=>?_)
 ·obtain ⟨a,ha⟩:∃ a,al[k]?=some a:=⟨al[k]'(by omega),List.getElem?_eq_getElem (by omega)⟩
  obtain ⟨b1,o1,c1',he1,_,_,hc1⟩:=hsl.elem silC_len ha
  cases he1
  refine GG ?_
  refine QQ (Yld.fieldAddr fo64_2 rfl) ?_
  refine QQ (Yld.load p44 rfl (at1 (h.blk.cell rfl))) ?_
  refine RL.p rfl rfl ?_
  refine QQ (Yld.indexAddrN u44 i41 rfl rfl (by omega)) ?_
  refine QQ (Yld.fieldAddr fo41_0 rfl) ?_
  refine QQ (Yld.load p3 rfl (at1 (hc1 0 _ rfl))) ?_
  refine GG ?_
  refine CD (fun h24=>?_) (fun h24=>?_)
  ·subst h24
   refine GG ?_
   refine RK.ret_of Tryz.func80 (res1 rfl rfl) ?_ _
   exact ⟨_,rfl,by unfold placeN;rw [place_first hids ha hno],rfl⟩
  ·refine RK.skip ?_
   refine RK.inBlock ?_
   refine RK.region ?_
   iterate 2 refine RL.p rfl rfl ?_
   refine RL.re (d:=14) rfl rfl (succ_i64 (by omega)) ?_
   refine GG ?_
   exact RK.back (ih (k + 1) _ ⟨rfl,by omega,fun j b hj hb=>by by_cases e:j=k;(subst e;rw [ha] at hb;cases hb;exact h24);exact hno j b (by omega) hb⟩ (by omega)) ⟨rfl,rfl,rfl,trivial⟩
 ·refine RK.exit rfl ?_
  refine GG ?_
  refine RK.ret_of Tryz.func80 (res1 rfl rfl) ?_ _
  exact ⟨_,rfl,by unfold placeN;rw [place_none hids (fun j b hb=>hno j b (by have:=(List.getElem?_eq_some_iff.1 hb).1;omega) hb)],rfl⟩
theorem makeR9_ok (w:World) (p:Nat) (s:SS) (O M:Nat→Prop) (h:RStore O M w p s) (g:Gz s) (hlast:s.last < 2147483647) (now a b:Int) (ms:List Mt) (hn:∀ m∈ms,m.name.size≤9223372036854775807) (vm:Value) (bd:Bd) (hms:SlM M w vm ms) (hlen:ms.length≤1000000) :
  Fx Tryz.prog 30 [pp p,.int .u64 now,.int .u64 a,.int .u64 b,vm,.agg (bdC bd).toArray] w (fun u w'=>∃ O',u=.tuple #[.int .i64 (makeS s now a b ms bd).2.1,.int .i64 (makeS s now a b ms bd).2.2]∧RStore O' (fun x=>M x∨O' x) w' p (makeS s now a b ms bd).1∧Mod O w w'∧∀ x,O' x→O x∨w.heap.size≤x):=by
 have hself:=h.self
 have hback:∀ w',Grow w w'→RStore O (fun b=>M b∨O b) w' p s:=fun w' hg=>hself.grow hg
 obtain ⟨vs,al,hO,h⟩:=h
 have hle:=g.le
 have hal:=h.len
 have hl0:=g.l0
 obtain ⟨adm,cm,rfl⟩:=hms.shape
 obtain ⟨ad,c,rfl⟩:=h.row.slice
 refine enter Tryz.func30 rfl rfl rfl _ (Pick.sub (l:=[0,1,2,3,4,5]) (.cons rfl (.cons rfl (.cons rfl (.cons rfl (.cons rfl (.cons rfl .nil))))))) ?_
 refine GG ?_
 refine OP (Does.box rfl) ?_
 rintro _ w1 ⟨b11,rfl,hn11⟩
 have hB11:Blk w1 b11 32 (bdC bd):=hn11.blk
 refine GG ?_
 refine QQ (Yld.loadN (cs:=bdC bd) a32 rfl (atN (blk0' hB11))) ?_
 refine OP (Does.call rfl e74 (mayR9_ok M ms hn _ bd _ (hms.mod (Mod.any' hn11.grow)))) ?_
 rintro _ w2 ⟨rfl,hg2⟩
 refine GG ?_
 refine CD (fun h17=>?_) (fun h17=>?_)
 ·have e:makeS s now a b ms bd=(s,0,1):=by unfold makeS;rw [if_pos (by simpa using h17)]
  refine GG ?_
  refine RK.ret_of Tryz.func30 (res2 rfl rfl rfl) ?_ _
  exact ⟨_,rfl,O,by rw [e],by rw [e];exact hback _ (hn11.grow.trans hg2),Mod.any' (hn11.grow.trans hg2),fun x e=>.inl e⟩
 ·refine GG ?_
  refine OP (Does.call rfl e75 (anyLR_ok M ms hn _ _ ((hms.mod (Mod.any' hn11.grow)).mod (Mod.any' hg2)))) ?_
  rintro _ w3 ⟨rfl,hg3⟩
  have hg03:=(hn11.grow.trans hg2).trans hg3
  refine GG ?_
  refine CD (fun h21=>?_) (fun h21=>?_)
  ·have e:makeS s now a b ms bd=(s,0,7):=by
     have hf:fitsS now a b ms=7:=by unfold fitsS;rw [if_pos h21]
     unfold makeS;rw [if_neg (by simpa using h17),if_pos (by rw [hf];decide),hf]
   refine GG ?_
   refine RK.ret_of Tryz.func30 (res2 rfl rfl rfl) ?_ _
   exact ⟨_,rfl,O,by rw [e],by rw [e];exact hback _ hg03,Mod.any' hg03,fun x e=>.inl e⟩
  ·refine GG ?_
   refine OP (Does.call rfl e76 (spanR9_ok now a b _)) ?_
   rintro _ _ ⟨rfl,rfl⟩
   refine GG ?_
   refine CD (fun h26=>?_) (fun h26=>?_)
   ·have e:makeS s now a b ms bd=(s,0,8):=by
      have hf:fitsS now a b ms=8:=by unfold fitsS;rw [if_neg (by simpa using h21),if_neg (by simpa using h26)]
      unfold makeS;rw [if_neg (by simpa using h17),if_pos (by rw [hf];decide),hf]
    refine GG ?_
    refine RK.ret_of Tryz.func30 (res2 rfl rfl rfl) ?_ _
    exact ⟨_,rfl,O,by rw [e],by rw [e];exact hback _ hg03,Mod.any' hg03,fun x e=>.inl e⟩
   ·have hfit:¬ fitsS now a b ms≠0:=by unfold fitsS;rw [if_neg (by simpa using h21),if_pos (by simpa using h26)];simp
    have h3:=h.grow hg03
    refine RK.seq ?_
    refine RK.drawM No [(0,false),(1,false),(2,false),(3,false),(4,false),(5,false),(6,false),(7,false),(8,false),(9,false),(10,false)] [] mixed (by kernel_rfl) ?_
    refine GG ?_
    refine DF (Yld.fieldAddr fo64_2 rfl) ?_
    refine DQ (Yld.load p44 rfl (atM (h3.blk.cell rfl) (fun h=>h))) (Mod.drew _ _) ?_
    refine DQ (Yld.lenSl u44 rfl) (Mod.drew _ _) ?_
    refine GG ?_
    refine DF (Yld.fieldAddr fo64_0 rfl) ?_
    refine DQ (Yld.load p3 rfl (atM (h3.blk.cell rfl) (fun h=>h))) (Mod.drew _ _) ?_
    refine GG ?_
    refine CD (fun h28=>?_) (fun h28=>?_)
    ·have e:makeS s now a b ms bd=(s,0,10):=by unfold makeS;rw [if_neg (by simpa using h17),if_neg hfit,if_pos (by rw [← hal];simpa using h28)]
     have hgd:=hg03.trans (Mod.drew No _)
     refine GG ?_
     refine RK.ret_of Tryz.func30 (res2 rfl rfl rfl) ?_ _
     exact ⟨_,rfl,O,by rw [e],by rw [e];exact hback _ hgd,Mod.any' hgd,fun x e=>.inl e⟩
    ·have e:makeS s now a b ms bd=({ s with last:=s.last + 1,sl:=s.sl ++ [⟨s.last + 1,a,b,ms,bd⟩] },s.last + 1,0):=by unfold makeS;rw [if_neg (by simpa using h17),if_neg hfit,if_neg (by rw [← hal];simpa using h28)]
     have hgd:=hg03.trans (Mod.drew No _)
     have h4:=h.grow hgd
     refine GG ?_
     refine QQ (Yld.fieldAddr fo64_3 rfl) ?_
     refine QQ (Yld.load p3 rfl (at1 (h4.blk.cell rfl))) ?_
     refine RL.p rfl rfl ?_
     refine RL.re (d:=43) rfl rfl (add_i64 (z:=s.last + 1) rfl (by omega) (by omega)) ?_
     refine RL.p rfl rfl ?_
     refine QQ (Yld.fieldAddr fo64_3 rfl) ?_
     refine OQ (Does.store i3 rfl rfl rfl h4.blk (.s (.s (.s .z)))) ?_
     rintro _ w4 ⟨hb4',hm4,_⟩
     have hb4:Blk w4 p 64 [.int .i64 s.most,.int .u64 s.ret,.slice ad al.length c,.int .i64 (s.last + 1)]:=hb4'
     have hm04:Mod (·=p) w w4:=(Mod.any' hgd).trans hm4
     have hrow4:=h.row.mod hm04 (fun x e1 e2=>h.ne_p e1 e2.symm)
     have hv4:=hms.mod (hm04.mono fun x _ e=>e ▸ h.ownM p (.inl rfl))
     have hpb:b11≠p:=fun e=>by have:=h.own_lt (b:=p) (.inl rfl);have:=hn11.at_;omega
     have hB4:Blk w4 b11 32 (bdC bd):=(hB11.mod (((hg2.trans hg3).trans (Mod.drew No _))) (fun h=>h)).mod hm4 hpb
     have hvb:∀ x,(Value.slice ad al.length c).ownBlock=some x→x≠b11:=fun x e e2=>by have:=h.own_lt (b:=x) (.inr e);have:=hn11.at_;omega
     refine GG ?_
     refine RK.drawM (fun x=>(Value.slice ad al.length c).ownBlock=some x) [(0,false),(1,false),(2,false),(3,false),(4,false),(5,false),(6,false),(7,false),(8,false),(9,false),(10,false),(11,false),(13,false),(12,true),(14,false),(15,true),(16,true),(17,false),(18,false),(19,true)] [19] mixed (by kernel_rfl) ?_
     refine GG ?_
     refine DF (Yld.fieldAddr fo64_2 rfl) ?_
     refine DQ (Yld.load p44 rfl (atM (hb4.cell rfl) (fun e=>h.ne_p e rfl))) (Mod.drew _ _) ?_
     refine GG ?_
     refine DF (Yld.fieldAddr fo64_3 rfl) ?_
     refine DQ (Yld.load p3 rfl (atM (hb4.cell rfl) (fun e=>h.ne_p e rfl))) (Mod.drew _ _) ?_
     refine GG ?_
     refine DQ (Yld.loadN (cs:=bdC bd) a32 rfl (atNM (blk0' hB4) (fun e=>hvb b11 e rfl))) (Mod.drew _ _) ?_
     refine OD (Does.call rfl e64 (copiedR9_ok M ms _ _ (hv4.mod (Mod.drew _ _)) hlen)) ?_
     rintro u5 w5 ⟨hr5,hf5,hg5'⟩
     obtain ⟨ad5,c5,rfl⟩:=hr5.slice
     have hg5:=(Mod.drew No w4).trans hg5'
     refine ⟨Mod.any' hg5,?_⟩
     refine DF (Yld.build (v:=.agg (silC ⟨s.last + 1,0,a,b,.slice ad5 ms.length c5,ms,bd⟩).toArray) rfl (fun w=>by kernel_rfl)) ?_
     refine OD (Does.slice1 u44 i41 rfl rfl rfl rfl rfl) ?_
     rintro _ w6 ⟨b6,rfl,hn6⟩
     have hg6:=hg5.trans hn6.grow
     refine ⟨Mod.any' hg6,?_⟩
     refine OD (Does.append u44 i41 rfl rfl rfl rfl rfl (hrow4.mod hg6 (fun _ _ h=>h)) (Sl.new hn6 8 1 rfl (by omega) (fun h=>h)) (rfl) (by omega)) ?_
     rintro u7 w7 ⟨hr7,hm7,hu7⟩
     obtain ⟨ad7,c7,rfl⟩:=hr7.slice
     refine ⟨(Mod.any' hg6).trans hm7,?_⟩
     have hm47:Mod (fun x=>(Value.slice ad al.length c).ownBlock=some x) w4 w7:=(Mod.any' hg6).trans hm7
     have hb7:=hb4.mod hm47 (fun e=>h.ne_p e rfl)
     have hr57:Row w7 108 3 (.slice ad5 ms.length c5) ms.length (ms.flatMap mtC):=by
       have h1:=hr5.mod hn6.grow (fun _ _ h=>h)
       exact h1.mod hm7 (fun x e1 e2=>(h1.ty e1).ne (((hrow4.mod hg6 (fun _ _ h=>h))).ty e2) rfl rfl)
     refine DL.p rfl rfl rfl ?_
     refine DF (Yld.fieldAddr fo64_2 rfl) ?_
     refine DL.opT rfl (.free rfl) rfl rfl (Does.store i44 rfl rfl rfl hb7 (.s (.s .z))) ?_
     rintro _ w8 ⟨hb8',hm8,_⟩
     have hb8:Blk w8 p 64 [.int .i64 s.most,.int .u64 s.ret,.slice ad7 (al.length + 1) c7,.int .i64 (s.last + 1)]:=hb8'
     have hr8:=hr7.mod hm8 (fun x e1 e2=>(hr7.ty e1).ne hb7.ty rfl e2)
     have hr58:=hr57.mod hm8 (fun x e1 e2=>(hr57.ty e1).ne hb7.ty rfl e2)
     have hmod:Mod (ownR p (.slice ad al.length c)) w w8:=((hm04.mono fun x _ e=>.inl e).trans (hm47.mono fun x _ e=>.inr e)).trans (hm8.mono fun x _ e=>.inl e)
     have hz04:=hm04.size
     have hz6:=hg6.size
     have hz5:=hg5.size
     have hown:∀ x,ownR p (.slice ad7 (al.length + 1) c7) x→ownR p (.slice ad al.length c) x∨w.heap.size≤x:=fun x e=>by
       rcases e with e | e
       ·exact .inl (.inl e)
       ·rcases hu7 with h7 | h7
        ·rw [h7] at e;exact .inl (.inr e)
        ·rw [h7] at e;cases e;exact .inr (by omega)
     refine GG ?_
     refine QQ (Yld.fieldAddr fo64_3 rfl) ?_
     refine QQ (Yld.load p3 rfl (at1 (hb8.cell rfl))) ?_
     refine GG ?_
     refine RK.ret_of Tryz.func30 (res2 rfl rfl rfl) ?_ _
     exact ⟨_,rfl,ownR p (.slice ad7 (al.length + 1) c7),by rw [e],by
       rw [e]
       refine RStore.next (w:=w) (al:=al ++ [⟨s.last + 1,0,a,b,.slice ad5 ms.length c5,ms,bd⟩]) h.ltM (hmod.mono fun x _ e=>h.ownM x e) hb8 ?_ ?_ (fun y hy=>?_) (fun x e=>(hown x e).elim (fun e=>.inl (h.ownM x e)) .inr)
       ·rw [List.length_append,List.flatMap_append,List.flatMap_singleton];exact hr8
       ·rw [List.map_append,h.als];rfl
       ·rcases List.mem_append.1 hy with hy | hy
        ·exact .inl (h.sms y hy)
        ·obtain rfl:=List.mem_singleton.1 hy
         exact .inr ⟨hr58,fun q e=>by have:=hf5 q e;simp only [World.drew] at this;omega⟩,hmod.mono fun x _ e=>(hO x).2 e,fun x e=>(hown x e).elim (fun e=>.inl ((hO x).2 e)) .inr⟩
end Go.Proofs.YtbcbfjnlnmhpbaaGreat
set_option linter.unusedVariables false
set_option linter.unusedSimpArgs false
set_option maxHeartbeats 3200000
set_option maxRecDepth 100000
namespace Go.Proofs.YtbcbfjnlnmhpbaaGreat
open Go Go.X
theorem flat_set {α:Type} {f:α→List Value} {sz:Nat} (hf:∀ x,(f x).length=sz) (tl:List Value) (y:α):∀ (al:List α) (i:Nat),i < al.length→(al.flatMap f ++ tl).take (i * sz) ++ f y ++ (al.flatMap f ++ tl).drop (i * sz + sz)=(al.set i y).flatMap f ++ tl
 | [],i,h=>by simp at h
 | x :: al,0,h=>by
  rw [Nat.zero_mul,List.take_zero,List.nil_append,Nat.zero_add,List.flatMap_cons,List.append_assoc,← hf x,List.drop_left,List.set_cons_zero,List.flatMap_cons,List.append_assoc]
 | x :: al,i + 1,h=>by
  have ih:=flat_set hf tl y al i (by simpa using h)
  have e1:(i + 1) * sz=(f x).length + i * sz:=by rw [hf x,Nat.succ_mul,Nat.add_comm]
  have e2:(x :: al).flatMap f ++ tl=f x ++ (al.flatMap f ++ tl):=by rw [List.flatMap_cons,List.append_assoc]
  rw [List.set_cons_succ,show (x :: al.set i y).flatMap f=f x ++ (al.set i y).flatMap f from List.flatMap_cons,e2,e1,Nat.add_assoc,List.take_length_add_append,List.drop_length_add_append,List.append_assoc (f x) _ tl,← ih]
  simp only [List.append_assoc]
theorem set_stop (sp:Int):∀ (al:List Sil) (i:Nat) (a:Sil),al[i]?=some a→(al.flatMap silC).set (i * 8 + 3) (.int .u64 sp)=(al.set i { a with stop:=sp }).flatMap silC
 | [],i,a,h=>by simp at h
 | x :: al,0,a,h=>by
  obtain rfl:x=a:=by simpa using h
  simp only [List.flatMap_cons,silC,List.set_cons_zero]
  rfl
 | x :: al,i + 1,a,h=>by
  have ih:=set_stop sp al i a (by simpa using h)
  rw [List.set_cons_succ,List.flatMap_cons,List.flatMap_cons,← ih]
  rw [List.set_append_right _ _ (by rw [silC_len];omega),silC_len]
  congr 2
  omega
theorem set_start (sp:Int):∀ (al:List Sil) (i:Nat) (a:Sil),al[i]?=some a→(al.flatMap silC).set (i * 8 + 2) (.int .u64 sp)=(al.set i { a with start:=sp }).flatMap silC
 | [],i,a,h=>by simp at h
 | x :: al,0,a,h=>by
  obtain rfl:x=a:=by simpa using h
  simp only [List.flatMap_cons,silC,List.set_cons_zero]
  rfl
 | x :: al,i + 1,a,h=>by
  have ih:=set_start sp al i a (by simpa using h)
  rw [List.set_cons_succ,List.flatMap_cons,List.flatMap_cons,← ih]
  rw [List.set_append_right _ _ (by rw [silC_len];omega),silC_len]
  congr 2
  omega
theorem placeN_none {s:SS} {id:Int} (h:placeN s id < 0):placeZ s id=none:=by
 unfold placeN at h
 cases e:placeZ s id with
 | none=>rfl
 | some i=>rw [e] at h;simp only at h;omega
theorem placeN_some {s:SS} {id:Int} (h:¬ placeN s id < 0):∃ i,placeZ s id=some i∧placeN s id=(i:Int):=by
 unfold placeN at h ⊢
 cases e:placeZ s id with
 | none=>rw [e] at h;simp at h
 | some i=>exact ⟨i,rfl,rfl⟩
theorem placeZ_at {w:World} {p:Nat} {s:SS} {M:Nat→Prop} {vs:Value} {al:List Sil} (h:RZ w p s M vs al) {id:Int} {i:Nat} (hp:placeZ s id=some i):∃ a,al[i]?=some a∧a.id=id∧s.sl[i]?=some (pubZ a):=by
 unfold placeZ placeI at hp
 rw [← h.ids,List.findIdx?_eq_some_iff_getElem] at hp
 obtain ⟨hi,h1,_⟩:=hp
 have hil:i < al.length:=by simpa using hi
 refine ⟨al[i],List.getElem?_eq_getElem hil,by simpa using h1,?_⟩
 rw [← h.als,List.getElem?_map,List.getElem?_eq_getElem hil]
 rfl
theorem RZ.setted {w w' : World} {p:Nat} {s:SS} {M:Nat→Prop} {vs:Value} {al:List Sil} (h:RZ w p s M vs al) {i:Nat} {a' : Sil} (hm:Mod (fun x=>vs.ownBlock=some x) w w') (hr:Row w' 41 8 vs (al.set i a').length ((al.set i a').flatMap silC))
  (hs:SlM M w a'.mv a'.ms∨(Row w' 108 3 a'.mv a'.ms.length (a'.ms.flatMap mtC)∧∀ b,a'.mv.ownBlock=some b→w.heap.size≤b)) :
  RStore (ownR p vs) (fun b=>M b∨ownR p vs b) w' p (turnS s i (pubZ a')):=
 RStore.next (w:=w) (al:=al.set i a') h.ltM (hm.mono fun x _ e=>h.ownM x (.inr e)) (h.blk.mod hm (fun e=>h.ne_p e rfl)) hr (by rw [List.map_set,h.als];rfl) (fun y hy=>by
  rcases List.mem_or_eq_of_mem_set hy with hy | rfl
  ·exact .inl (h.sms y hy)
  ·exact hs) (fun x e=>.inl (h.ownM x e))
theorem expireR9_ok (w:World) (p:Nat) (s:SS) (O M:Nat→Prop) (h:RStore O M w p s) (g:Gz s) (now id:Int) :
  Fx Tryz.prog 34 [pp p,.int .u64 now,.int .i64 id] w (fun u w'=>u=.int .i64 (expireS s now id).2∧RStore O (fun x=>M x∨O x) w' p (expireS s now id).1∧Mod O w w'):=by
 have hself:=h.self
 have hback:∀ w',Grow w w'→RStore O (fun b=>M b∨O b) w' p s:=fun w' hg=>hself.grow hg
 obtain ⟨vs,al,hO,h⟩:=h
 obtain rfl:O=ownR p vs:=funext fun b=>propext (hO b)
 have hle:=g.le
 have hal:=h.len
 have hsl:=Sl.own (M:=No) h.row (fun _ _ h=>h)
 obtain ⟨ad,c,rfl⟩:=h.row.slice
 refine enter Tryz.func34 rfl rfl rfl _ (Pick.sub (l:=[0,1,2]) (.cons rfl (.cons rfl (.cons rfl .nil)))) ?_
 refine GG ?_
 refine OP (Does.call rfl e80 (placeR9_ok _ p s M _ al h (by omega) id)) ?_
 rintro _ _ ⟨rfl,rfl⟩
 refine GG ?_
 refine CD (fun h12=>?_) (fun h12=>?_)
 ·have e:expireS s now id=(s,5):=by unfold expireS;rw [placeN_none h12]
  refine GG ?_
  refine RK.ret_of Tryz.func34 (res1 rfl rfl) ?_ _
  exact ⟨_,rfl,by rw [e],by rw [e];exact hback _ (Mod.refl _ _),Mod.refl _ _⟩
 ·obtain ⟨i,hpl,hpn⟩:=placeN_some h12
  obtain ⟨a,ha,hid,hsa⟩:=placeZ_at h hpl
  rw [hpn]
  have hil:=(List.getElem?_eq_some_iff.1 ha).1
  obtain ⟨b1,o1,c1',he1,_,_,hc1⟩:=hsl.elem silC_len ha
  cases he1
  refine GG ?_
  refine RK.drawM No [(0,false),(1,false),(2,false),(3,false),(4,false),(5,false),(6,false),(7,false),(8,false),(9,false),(10,false),(11,false),(12,false),(13,false),(14,false),(15,false),(16,false),(17,true),(18,false)] [] mixed (by kernel_rfl) ?_
  refine GG ?_
  refine DF (Yld.fieldAddr fo64_2 rfl) ?_
  refine DQ (Yld.load p44 rfl (atM (h.blk.cell rfl) (fun h=>h))) (Mod.drew _ _) ?_
  refine DL.p rfl rfl rfl ?_
  refine DF (Yld.indexAddrN u44 i41 rfl rfl (by omega)) ?_
  refine DF (Yld.fieldAddr fo41_2 rfl) ?_
  refine DQ (Yld.load p22 rfl (atM (hc1 2 _ rfl) (fun h=>h))) (Mod.drew _ _) ?_
  refine GG ?_
  refine DF (Yld.fieldAddr fo64_2 rfl) ?_
  refine DQ (Yld.load p44 rfl (atM (h.blk.cell rfl) (fun h=>h))) (Mod.drew _ _) ?_
  refine DL.p rfl rfl rfl ?_
  refine DF (Yld.indexAddrN u44 i41 rfl rfl (by omega)) ?_
  refine DF (Yld.fieldAddr fo41_3 rfl) ?_
  refine DQ (Yld.load p22 rfl (atM (hc1 3 _ rfl) (fun h=>h))) (Mod.drew _ _) ?_
  refine OD (Does.call rfl e63 (stateR_ok now a.start a.stop _)) ?_
  rintro _ _ ⟨rfl,rfl⟩
  refine ⟨Mod.drew _ _,?_⟩
  refine GG ?_
  refine CD (fun h31=>?_) (fun h31=>?_)
  ·have e:expireS s now id=(s,6):=by unfold expireS;rw [hpl];simp only [hsa];rw [if_pos (show stateS now (pubZ a).start (pubZ a).stop=3 from h31)]
   refine GG ?_
   refine RK.ret_of Tryz.func34 (res1 rfl rfl) ?_ _
   exact ⟨_,rfl,by rw [e],by rw [e];exact hback _ (Mod.drew _ _),Mod.drew _ _⟩
  ·have e:expireS s now id=(turnS s i { pubZ a with start:=minS a.start now,stop:=now },0):=by unfold expireS;rw [hpl];simp only [hsa];rw [if_neg (show ¬ stateS now (pubZ a).start (pubZ a).stop=3 from h31)];rfl
   have hd:=h.grow (Mod.drew No w)
   have hgd:Grow w w.drew:=Mod.drew _ _
   obtain ⟨g1,cap,tl,hvl,hbg,hclose⟩:=hd.row.open (by omega)
   cases hvl
   have hflat:(al.flatMap silC).length=al.length * 8:=flat_len silC 8 silC_len al
   refine GG ?_
   refine QQ (Yld.fieldAddr fo64_2 rfl) ?_
   refine QQ (Yld.load p44 rfl (at1 (hd.blk.cell rfl))) ?_
   refine GG ?_
   refine QQ (Yld.indexAddrN u44 i41 rfl rfl (hil)) ?_
   refine QQ (Yld.fieldAddr fo41_3 rfl) ?_
   refine OQ (Does.store i22 rfl rfl rfl hbg (SetAt.of (by simp only [List.length_append,hflat];omega))) ?_
   rintro _ w4 ⟨hb4,hm4,_⟩
   have hset:(al.flatMap silC ++ tl).set (0 + i * 8 + 3) (.int .u64 now)=(al.set i { a with stop:=now }).flatMap silC ++ tl:=by rw [List.set_append_left _ _ (by rw [hflat];omega),Nat.zero_add,set_stop now al i a ha]
   have hr4:Row w4 41 8 (.slice (some ⟨b1,0,none⟩) al.length c) (al.set i { a with stop:=now }).length ((al.set i { a with stop:=now }).flatMap silC):=by rw [List.length_set];exact hclose w4 _ (by rw [hflat,flat_len silC 8 silC_len,List.length_set]) (by rw [← hset];exact hb4)
   have hm04:Mod (fun x=>(Value.slice (some ⟨b1,0,none⟩) al.length c).ownBlock=some x) w w4:=(Mod.any' hgd).trans (hm4.mono fun x _ e=>by rw [e];rfl)
   have ha' : (al.set i { a with stop:=now })[i]?=some { a with stop:=now }:=by rw [List.getElem?_set_self hil]
   have hpb:p≠b1:=h.ne_p rfl
   have hblk4:=h.blk.mod hm04 (fun e=>h.ne_p e rfl)
   obtain ⟨b2,o2,c2',he2,_,_,hc2⟩:=(Sl.own (M:=No) hr4 (fun _ _ h=>h)).elem silC_len ha'
   rw [List.length_set] at he2
   cases he2
   refine GG ?_
   refine QQ (Yld.fieldAddr fo64_2 rfl) ?_
   refine QQ (Yld.load p44 rfl (at1 (hblk4.cell rfl))) ?_
   refine RL.p rfl rfl ?_
   refine QQ (Yld.indexAddrN u44 i41 rfl rfl (hil)) ?_
   refine QQ (Yld.fieldAddr fo41_2 rfl) ?_
   refine QQ (Yld.load p22 rfl (at1 (hc2 2 _ rfl))) ?_
   refine GG ?_
   refine CD (fun h49=>?_) (fun h49=>?_)
   ·obtain ⟨g5,cap5,tl5,hvl5,hbg5,hclose5⟩:=hr4.open (by rw [List.length_set];omega)
    rw [List.length_set] at hvl5
    cases hvl5
    refine GG ?_
    refine QQ (Yld.fieldAddr fo64_2 rfl) ?_
    refine QQ (Yld.load p44 rfl (at1 (hblk4.cell rfl))) ?_
    refine GG ?_
    refine QQ (Yld.indexAddrN u44 i41 rfl rfl (hil)) ?_
    refine QQ (Yld.fieldAddr fo41_2 rfl) ?_
    refine OQ (Does.store i22 rfl rfl rfl hbg5 (SetAt.of (by simp only [List.length_append,flat_len silC 8 silC_len,List.length_set];omega))) ?_
    rintro _ w5 ⟨hb5,hm5,_⟩
    have hset5:((al.set i { a with stop:=now }).flatMap silC ++ tl5).set (0 + i * 8 + 2) (.int .u64 now)=(al.set i { a with start:=now,stop:=now }).flatMap silC ++ tl5:=by rw [List.set_append_left _ _ (by rw [flat_len silC 8 silC_len,List.length_set];omega),Nat.zero_add,set_start now _ i _ ha'];simp
    have hr5:Row w5 41 8 (.slice (some ⟨b1,0,none⟩) al.length c) (al.set i { a with start:=now,stop:=now }).length ((al.set i { a with start:=now,stop:=now }).flatMap silC):=by
      have h1:=hclose5 w5 ((al.set i { a with start:=now,stop:=now }).flatMap silC) (by rw [flat_len silC 8 silC_len,flat_len silC 8 silC_len,List.length_set,List.length_set]) (by rw [← hset5];exact hb5)
      rw [List.length_set] at h1 ⊢
      exact h1
    have hm05:=hm04.trans (hm5.mono fun x _ e=>by rw [e];rfl)
    refine GG ?_
    refine RK.ret_of Tryz.func34 (res1 rfl rfl) ?_ _
    exact ⟨_,rfl,by rw [e],by
      rw [e,show minS a.start now=now by unfold minS;rw [if_pos (by omega)]]
      exact h.setted hm05 hr5 (.inl (h.sms a (List.mem_of_getElem? ha))),hm05.mono fun x _ e=>.inr e⟩
   ·refine GG ?_
    refine RK.ret_of Tryz.func34 (res1 rfl rfl) ?_ _
    exact ⟨_,rfl,by rw [e],by
      rw [e,show minS a.start now=a.start by unfold minS;rw [if_neg (by omega)]]
      exact h.setted hm04 hr4 (.inl (h.sms a (List.mem_of_getElem? ha))),hm04.mono fun x _ e=>.inr e⟩
end Go.Proofs.YtbcbfjnlnmhpbaaGreat
set_option linter.unusedVariables false
set_option linter.unusedSimpArgs false
set_option maxHeartbeats 3200000
set_option maxRecDepth 100000
namespace Go.Proofs.YtbcbfjnlnmhpbaaGreat
open Go Go.X
def sT (a b:Int):SS:=⟨5,2,1,[⟨1,a,b,[mP],bdAll⟩]⟩
end Go.Proofs.YtbcbfjnlnmhpbaaGreat
set_option linter.unusedVariables false
set_option linter.unusedSimpArgs false
set_option maxHeartbeats 3200000
set_option maxRecDepth 100000
namespace Go.Proofs.YtbcbfjnlnmhpbaaGreat
open Go Go.X
theorem sets3 {α:Type} (x y z:α):∀ (L:List α) (o:Nat),o + 3≤L.length→L.take o ++ [x,y,z] ++ L.drop (o + 3)=((L.set o x).set (o + 1) y).set (o + 2) z
 | [],o,h=>by simp at h
 | u :: L,0,h=>by
  match L,h with
  | p :: q :: r,_=>rfl
 | u :: L,o + 1,h=>by
  have ih:=sets3 x y z L o (by simpa using h)
  rw [show o + 1 + 3=(o + 3) + 1 by omega,show o + 1 + 2=(o + 2) + 1 by omega,List.take_succ_cons,List.drop_succ_cons,List.set_cons_succ,List.set_cons_succ,List.set_cons_succ,← ih]
  rfl
theorem set_sil2 (v:Value) (ms:List Mt) (bd:Bd):∀ (al:List Sil) (i:Nat) (a:Sil),al[i]?=some a→((((al.flatMap silC).set (i * 8 + 4) v).set (i * 8 + 5) (.bool bd.all)).set (i * 8 + 5 + 1) (.float .f64 bd.lo)).set (i * 8 + 5 + 2) (.float .f64 bd.hi)=(al.set i { a with mv:=v,ms:=ms,bd:=bd }).flatMap silC
 | [],i,a,h=>by simp at h
 | x :: al,0,a,h=>by
  obtain rfl:x=a:=by simpa using h
  simp only [List.flatMap_cons,silC,List.set_cons_zero]
  rfl
 | x :: al,i + 1,a,h=>by
  have ih:=set_sil2 v ms bd al i a (by simpa using h)
  rw [List.set_cons_succ,List.flatMap_cons,List.flatMap_cons,← ih]
  rw [List.set_append_right _ _ (by rw [silC_len];omega),List.set_append_right _ _ (by rw [silC_len];omega),List.set_append_right _ _ (by rw [silC_len];omega),List.set_append_right _ _ (by rw [silC_len];omega),silC_len]
  rw [show (i + 1) * 8 + 4 - 8=i * 8 + 4 by omega,show (i + 1) * 8 + 5 - 8=i * 8 + 5 by omega,show (i + 1) * 8 + 5 + 1 - 8=i * 8 + 5 + 1 by omega,show (i + 1) * 8 + 5 + 2 - 8=i * 8 + 5 + 2 by omega]
def updateS (s:SS) (now id a b:Int) (ms:List Mt) (bd:Bd):SS×Int:=
 if rightS ms bd=false then (s,1) else
 match placeZ s id with
 | none=>(s,5)
 | some i=>match s.sl[i]? with
  | none=>(s,5)
  | some x=>if stateS now x.start x.stop=3 then (s,6) else if fitsS now a b ms≠0 then (s,fitsS now a b ms) else if stateS now x.start x.stop=2∧a≠x.start then (s,6) else (turnS s i ⟨x.id,a,b,ms,bd⟩,0)
theorem updateZ_ok (w:World) (p:Nat) (s:SS) (O M:Nat→Prop) (h:ZStore O M w p s) (g:Gz s) (now id a b:Int) (hb0:0≤b) (ms:List Mt) (vm:Value) (bd:Bd) (hms:SlM M w vm ms) (hlen:ms.length≤1000000) :
  Fx Tryz.prog 21 [pp p,.int .u64 now,.int .i64 id,.int .u64 a,.int .u64 b,vm,.agg (bdC bd).toArray] w (fun u w'=>∃ O',u=.int .i64 (updateS s now id a b ms bd).2∧ZStore O' (fun x=>M x∨O' x) w' p (updateS s now id a b ms bd).1∧Mod O w w'∧∀ x,O' x→O x∨w.heap.size≤x):=by
 have hself:=h.self
 have hback:∀ w',Grow w w'→ZStore O (fun b=>M b∨O b) w' p s:=fun w' hg=>hself.grow hg
 obtain ⟨pl,qu,vp,vq,vs,al,q,hO,h⟩:=h
 have hle:=g.le
 have hal:=h.len
 have hids:=h.ids
 have hals:=h.als
 have hql:=h.qlen
 obtain ⟨adm,cm,rfl⟩:=hms.shape
 obtain ⟨ads,cs0,rfl⟩:=h.row.slice
 cases hpz:placeZ s id with
 | none=>
  refine enter Tryz.func21 rfl rfl rfl _ (Pick.sub (l:=[0,1,2,3,4,5,6]) (.cons rfl (.cons rfl (.cons rfl (.cons rfl (.cons rfl (.cons rfl (.cons rfl .nil)))))))) ?_
  refine GG ?_
  refine OP (Does.box rfl) ?_
  rintro _ w1 ⟨b13,rfl,hn13⟩
  have hB13:Blk w1 b13 32 (bdC bd):=hn13.blk
  refine GG ?_
  refine QQ (Yld.loadN (cs:=bdC bd) a32 rfl (atN (blk0' hB13))) ?_
  refine OP (Does.call rfl e45 (rightZ_ok M ms _ bd _ (hms.mod (Mod.any' hn13.grow)))) ?_
  rintro _ w2 ⟨rfl,hg2⟩
  have hg02:=hn13.grow.trans hg2
  refine GG ?_
  refine CD (fun h23=>?_) (fun h23=>?_)
  ·have e:updateS s now id a b ms bd=(s,1):=by unfold updateS;rw [if_pos (by simpa using h23)]
   refine GG ?_
   refine RK.ret_of Tryz.func21 (res1 rfl rfl) ?_ _
   exact ⟨_,rfl,O,by rw [e],by rw [e];exact hback _ hg02,Mod.any' hg02,fun x e=>.inl e⟩
  ·refine GG ?_
   refine OP (Does.call rfl e54 (findZ_ok _ p s M pl qu vp vq _ al q (h.grow hg02) g id)) ?_
   rintro _ w3 ⟨⟨i,rfl,hi⟩,hg3⟩
   rw [hpz]
   refine GG ?_
   refine RK.condT (hcT rfl (rfl)) ?_
   have e:updateS s now id a b ms bd=(s,5):=by unfold updateS;rw [if_neg (by simpa using h23),hpz]
   refine GG ?_
   refine RK.ret_of Tryz.func21 (res1 rfl rfl) ?_ _
   exact ⟨_,rfl,O,by rw [e],by rw [e];exact hback _ (hg02.trans hg3),Mod.any' (hg02.trans hg3),fun x e=>.inl e⟩
 | some j=>
  refine enter Tryz.func21 rfl rfl rfl _ (Pick.sub (l:=[0,1,2,3,4,5,6]) (.cons rfl (.cons rfl (.cons rfl (.cons rfl (.cons rfl (.cons rfl (.cons rfl .nil)))))))) ?_
  refine GG ?_
  refine OP (Does.box rfl) ?_
  rintro _ w1 ⟨b13,rfl,hn13⟩
  have hB13:Blk w1 b13 32 (bdC bd):=hn13.blk
  refine GG ?_
  refine QQ (Yld.loadN (cs:=bdC bd) a32 rfl (atN (blk0' hB13))) ?_
  refine OP (Does.call rfl e45 (rightZ_ok M ms _ bd _ (hms.mod (Mod.any' hn13.grow)))) ?_
  rintro _ w2 ⟨rfl,hg2⟩
  have hg02:=hn13.grow.trans hg2
  refine GG ?_
  refine CD (fun h23=>?_) (fun h23=>?_)
  ·have e:updateS s now id a b ms bd=(s,1):=by unfold updateS;rw [if_pos (by simpa using h23)]
   refine GG ?_
   refine RK.ret_of Tryz.func21 (res1 rfl rfl) ?_ _
   exact ⟨_,rfl,O,by rw [e],by rw [e];exact hback _ hg02,Mod.any' hg02,fun x e=>.inl e⟩
  ·refine GG ?_
   refine OP (Does.call rfl e54 (findZ_ok _ p s M pl qu vp vq _ al q (h.grow hg02) g id)) ?_
   rintro _ w3 ⟨⟨i,rfl,hi⟩,hg3⟩
   obtain ⟨rfl,hil⟩:=hi j hpz
   rw [hpz]
   refine GG ?_
   refine RK.condF (hcF rfl (rfl)) ?_
   obtain ⟨x,ha⟩:∃ x,al[j]?=some x:=⟨al[j]'hil,List.getElem?_eq_getElem hil⟩
   have hsj:s.sl[j]?=some (pubZ x):=by rw [← hals];simp [ha]
   have hg03:=hg02.trans hg3
   have h3:=h.grow hg03
   obtain ⟨b1,o1,c1',he1,_,_,hc1⟩:=(Sl.own (M:=No) h3.row (fun _ _ h=>h)).elem silC_len ha
   cases he1
   have hsm:=h3.sms x (List.mem_of_getElem? ha)
   refine GG ?_
   refine QQ (Yld.fieldAddr fo101_3 rfl) ?_
   refine QQ (Yld.load p44 rfl (at1 (h3.blk.cell rfl))) ?_
   refine RL.p rfl rfl ?_
   refine QQ (Yld.indexAddrN u44 i41 rfl rfl (by omega)) ?_
   refine QQ (Yld.loadN (cs:=silC x) a41 rfl (atN (hc1))) ?_
   refine OP (Does.alloc i41) ?_
   rintro _ w4 ⟨b17,rfl,hn17⟩
   refine OQ (Does.storeN i41 rfl rfl rfl (silC_one hsm) hn17.blk (Nat.le_refl 8)) ?_
   rintro _ w5 ⟨hb5,hm5,_⟩
   have hg35:Grow w3 w5:=hn17.grow.then hm5 (fun y hy e=>by have e' : y=b17:=e;have:=hn17.at_;omega)
   have hg05:=hg03.trans hg35
   have hB5:Blk w5 b17 41 [.int .i64 x.id,.int .i64 x.ver,.int .u64 x.start,.int .u64 x.stop,x.mv,.bool x.bd.all,.float .f64 x.bd.lo,.float .f64 x.bd.hi]:=hb5
   refine GG ?_
   refine QQ (Yld.fieldAddr fo41_2 rfl) ?_
   refine QQ (Yld.load p22 rfl (at1 (hB5.cell rfl))) ?_
   refine QQ (Yld.fieldAddr fo41_3 rfl) ?_
   refine QQ (Yld.load p22 rfl (at1 (hB5.cell rfl))) ?_
   refine OP (Does.call rfl e51 (state_ok now x.start x.stop _)) ?_
   rintro _ _ ⟨rfl,rfl⟩
   refine GG ?_
   refine CD (fun h46=>?_) (fun h46=>?_)
   ·have e:updateS s now id a b ms bd=(s,6):=by unfold updateS;rw [if_neg (by simpa using h23),hpz];simp only;rw [hsj];simp only;exact if_pos h46
    refine GG ?_
    refine RK.ret_of Tryz.func21 (res1 rfl rfl) ?_ _
    exact ⟨_,rfl,O,by rw [e],by rw [e];exact hback _ hg05,Mod.any' hg05,fun x e=>.inl e⟩
   ·refine GG ?_
    refine OP (Does.call rfl e46 (fitsZ_ok M now a b ms _ _ (hms.mod (Mod.any' hg05)))) ?_
    rintro _ w6 ⟨rfl,hg6⟩
    have hg06:=hg05.trans hg6
    refine GG ?_
    refine CD (fun h53=>?_) (fun h53=>?_)
    ·have e:updateS s now id a b ms bd=(s,fitsS now a b ms):=by unfold updateS;rw [if_neg (by simpa using h23),hpz];simp only;rw [hsj];simp only;rw [if_neg (show ¬ stateS now (pubZ x).start (pubZ x).stop=3 from h46)];exact if_pos h53
     refine GG ?_
     refine RK.ret_of Tryz.func21 (res1 rfl rfl) ?_ _
     exact ⟨_,rfl,O,by rw [e],by rw [e];exact hback _ hg06,Mod.any' hg06,fun x e=>.inl e⟩
    ·have hB6:=hB5.mod hg6 (fun h=>h)
     refine GG ?_
     refine SP 57 (fun h56=>?_) (fun h56=>?_)
     ·refine QQ (Yld.pure rfl) ?_
      refine QQ (Yld.fieldAddr fo41_2 rfl) ?_
      refine QQ (Yld.load p22 rfl (at1 (hB6.cell rfl))) ?_
      refine QQ (Yld.pure rfl) ?_
      refine GG ?_
      refine CD (fun h62=>?_) (fun h62=>?_)
      ·have e:updateS s now id a b ms bd=(s,6):=by unfold updateS;rw [if_neg (by simpa using h23),hpz];simp only;rw [hsj];simp only;rw [if_neg (show ¬ stateS now (pubZ x).start (pubZ x).stop=3 from h46),if_neg h53];exact if_pos ⟨h56,h62⟩
       refine GG ?_
       refine RK.ret_of Tryz.func21 (res1 rfl rfl) ?_ _
       exact ⟨_,rfl,O,by rw [e],by rw [e];exact hback _ hg06,Mod.any' hg06,fun x e=>.inl e⟩
      ·have e:updateS s now id a b ms bd=(turnS s j ⟨x.id,a,b,ms,bd⟩,0):=by unfold updateS;rw [if_neg (by simpa using h23),hpz];simp only;rw [hsj];simp only;rw [if_neg (show ¬ stateS now (pubZ x).start (pubZ x).stop=3 from h46),if_neg h53];exact if_neg (fun h=>h62 h.2)
       have h6:=h.grow hg06
       obtain ⟨gb,cp,cs,hvs,hbk,hl,hkc,hcm,htk⟩:=h6.row.whole (by omega)
       cases hvs
       have hpg:p≠b1:=h6.blk.ty.ne hbk.ty rfl
       have hB13':=(((hB13.mod hg2 (fun h=>h)).mod hg3 (fun h=>h)).mod hg35 (fun h=>h)).mod hg6 (fun h=>h)
       have hgb13:b1≠b13:=hbk.ty.ne hB13'.ty rfl
       refine GG ?_
       refine RK.drawM (·=b1) [(0,false),(1,false),(2,false),(3,false),(4,false),(5,false),(6,false),(7,false),(8,false),(9,false),(10,false),(12,false),(11,true),(13,false),(14,false),(15,true),(16,false),(17,false),(18,true)] [18] mixed (by kernel_rfl) ?_
       refine GG ?_
       refine DF (Yld.fieldAddr fo101_3 rfl) ?_
       refine DQ (Yld.load p44 rfl (atM (h6.blk.cell rfl) (hpg))) (Mod.drew _ _) ?_
       refine GG ?_
       refine DF (Yld.fieldAddr fo101_3 rfl) ?_
       refine DQ (Yld.load p44 rfl (atM (h6.blk.cell rfl) (hpg))) (Mod.drew _ _) ?_
       refine GG ?_
       refine DQ (Yld.loadN (cs:=bdC bd) a32 rfl (atNM (blk0' hB13') (hgb13.symm))) (Mod.drew _ _) ?_
       refine OD (Does.call rfl e48 (cloneM_ok M ms _ _ ((hms.mod (Mod.any' hg06)).mod (Mod.drew _ _)) hlen)) ?_
       rintro u7 w7 ⟨hr7,hf7,hg7'⟩
       obtain ⟨ad7,c7,rfl⟩:=hr7.slice
       have hg7:=(Mod.drew No w6).trans hg7'
       refine ⟨Mod.any' hg7,?_⟩
       refine DF (Yld.indexAddrN u44 i41 rfl rfl (by omega)) ?_
       refine DF (Yld.fieldAddr fo41_4 rfl) ?_
       refine DL.op' rfl (.free rfl) rfl (Does.store i28 rfl rfl rfl (hbk.mod hg7 (fun h=>h)) (SetAt.of (by rw [hl];omega))) ?_
       rintro _ w8 ⟨hb8,hm8,hs8⟩
       refine ⟨(Mod.any' hg7).trans hm8,?_⟩
       refine DF (Yld.indexAddrN u44 i41 rfl rfl (by omega)) ?_
       refine DF (Yld.fieldAddr fo41_5 rfl) ?_
       refine DL.opT rfl (.free rfl) rfl rfl (Does.storeN i32 rfl rfl rfl rfl hb8 (by rw [List.length_set,hl];omega)) ?_
       rintro _ w9 ⟨hb9,hm9,_⟩
       obtain ⟨x',hx'⟩:∃ x' : Sil,x'={ x with mv:=.slice ad7 ms.length c7,ms:=ms,bd:=bd }:=⟨_,rfl⟩
       have hb9' : Blk w9 b1 41 ((((cs.set (0 + j * 8 + 4) (.slice ad7 ms.length c7)).set (0 + j * 8 + 5) (.bool bd.all)).set (0 + j * 8 + 5 + 1) (.float .f64 bd.lo)).set (0 + j * 8 + 5 + 2) (.float .f64 bd.hi)):=by
         rw [← sets3 _ _ _ _ _ (by rw [List.length_set,hl];omega)]
         exact hb9
       have hR9:Row w9 41 8 (.slice (some ⟨b1,0,none⟩) al.length cs0) (al.set j x').length ((al.set j x').flatMap silC):=by
         have hR:=Row.shut hb9' (sz:=8) (cap:=cs0) (k:=al.length) (by simp only [List.length_set];exact hl) hkc hcm
         rw [List.take_set,List.take_set,List.take_set,List.take_set,htk,Nat.zero_add,set_sil2 (.slice ad7 ms.length c7) ms bd al j x ha] at hR
         rw [List.length_set,hx']
         exact hR
       have hm69:Mod (·=b1) w6 w9:=((Mod.any' hg7).trans hm8).trans hm9
       have hbp9:=h6.blk.mod hm69 hpg
       have hq9:=h6.que.mod hm69 (hbk.ty.ne h6.que.blk.ty rfl).symm (fun y e1 e2=>(h6.que.row.ty e1).ne hbk.ty rfl e2)
       have hr9:=(hr7.mod hm8 (fun y e1 e2=>(hr7.ty e1).ne (hbk.mod hg7 (fun h=>h)).ty rfl e2)).mod hm9 (fun y e1 e2=>((hr7.mod hm8 (fun y e1 e2=>(hr7.ty e1).ne (hbk.mod hg7 (fun h=>h)).ty rfl e2)).ty e1).ne hb8.ty rfl e2)
       have hxj:(al.set j x')[j]?=some x':=by rw [List.getElem?_set_self hil]
       have hsp:=fits_span h53
       have hr0:=g.r0
       have hr1:=g.r1
       have hxid:x'.id=x.id:=by rw [hx']
       refine GG ?_
       refine OP (Does.call rfl e49 (turnZ_ok _ p pl qu s.ret a b vq _ (al.set j x') q j x' (by rw [List.length_set] at *;exact hbp9) hq9 h6.sort hR9 hxj (by omega) (by rw [List.length_set];omega) (by omega) (by omega))) ?_
       rintro _ w10 ⟨rfl,vq',hb10,hq10,hr10,hm10,hf10⟩
       have hn6:∀ y,(y=qu∨vq.ownBlock=some y∨(Value.slice (some ⟨b1,0,none⟩) al.length cs0).ownBlock=some y)→Ty w9 y 155∨Ty w9 y 164∨Ty w9 y 41:=fun y e=>by
         rcases e with rfl | e | e
         ·exact .inl hq9.blk.ty
         ·exact .inr (.inl (hq9.row.ty e))
         ·exact .inr (.inr (hR9.ty e))
       have hr10m:=hr9.mod hm10 (fun y e1 e=>by
         rcases hn6 _ e with e | e | e
         ·exact (hr9.ty e1).ne e rfl rfl
         ·exact (hr9.ty e1).ne e rfl rfl
         ·exact (hr9.ty e1).ne e rfl rfl)
       have hz6:=hg06.size
       have hz7:=hg7.size
       have hz9:=hm69.size
       have hset:(al.set j x').set j { x' with start:=a,stop:=b }=al.set j { x' with start:=a,stop:=b }:=by simp
       rw [hset] at hr10
       obtain ⟨O',hz,hmO,hO'⟩:=turned _ w10 p s (turnS s j ⟨x.id,a,b,ms,bd⟩) O M pl qu vp vq _ vq' al (al.set j { x' with start:=a,stop:=b }) q _ hO h6 rfl rfl rfl hb10 hq10 (by rw [List.length_set];rw [List.length_set] at hr10;exact hr10) (by rw [List.map_set,hals,hx'];rfl) (set_ids ha hxid) (fun y hy=>by
         rcases List.mem_or_eq_of_mem_set hy with hy | rfl
         ·exact .inl (h6.sms y hy)
         ·exact .inr ⟨by rw [hx'];exact hr10m,fun c e=>by rw [hx'] at e;have:=hf7 c e;simp only [World.drew] at this;omega⟩) (turn_sort h6.sort h6.perm' (by rw [hids];exact g.ris)) (by have hp:=turn_perm (a':={ x' with start:=a,stop:=b }) h6.perm' (by rw [hids];exact g.ris) ha hxid;rw [← hxid] at hp;exact hp) ((hm69.mono fun y _ e=>.inr (.inr (by rw [e];rfl))).trans hm10) (fun c e=>(hf10 c e).elim .inl (fun e=>.inr (by omega)))
       refine GG ?_
       refine RK.ret_of Tryz.func21 (res1 rfl rfl) ?_ _
       exact ⟨_,rfl,O',by rw [e],by rw [e];exact hz,(Mod.any' hg06).trans hmO,fun y e=>(hO' y e).elim .inl (fun e=>.inr (by omega))⟩
     ·have e:updateS s now id a b ms bd=(turnS s j ⟨x.id,a,b,ms,bd⟩,0):=by unfold updateS;rw [if_neg (by simpa using h23),hpz];simp only;rw [hsj];simp only;rw [if_neg (show ¬ stateS now (pubZ x).start (pubZ x).stop=3 from h46),if_neg h53];exact if_neg (fun h=>h56 h.1)
      have h6:=h.grow hg06
      obtain ⟨gb,cp,cs,hvs,hbk,hl,hkc,hcm,htk⟩:=h6.row.whole (by omega)
      cases hvs
      have hpg:p≠b1:=h6.blk.ty.ne hbk.ty rfl
      have hB13':=(((hB13.mod hg2 (fun h=>h)).mod hg3 (fun h=>h)).mod hg35 (fun h=>h)).mod hg6 (fun h=>h)
      have hgb13:b1≠b13:=hbk.ty.ne hB13'.ty rfl
      iterate 4 refine RL.no (.no rfl rfl rfl rfl) rfl rfl ?_
      refine GG ?_
      refine RK.condF rfl ?_
      refine GG ?_
      refine RK.drawM (·=b1) [(0,false),(1,false),(2,false),(3,false),(4,false),(5,false),(6,false),(7,false),(8,false),(9,false),(10,false),(12,false),(11,true),(13,false),(14,false),(15,true),(16,false),(17,false),(18,true)] [18] mixed (by kernel_rfl) ?_
      refine GG ?_
      refine DF (Yld.fieldAddr fo101_3 rfl) ?_
      refine DQ (Yld.load p44 rfl (atM (h6.blk.cell rfl) (hpg))) (Mod.drew _ _) ?_
      refine GG ?_
      refine DF (Yld.fieldAddr fo101_3 rfl) ?_
      refine DQ (Yld.load p44 rfl (atM (h6.blk.cell rfl) (hpg))) (Mod.drew _ _) ?_
      refine GG ?_
      refine DQ (Yld.loadN (cs:=bdC bd) a32 rfl (atNM (blk0' hB13') (hgb13.symm))) (Mod.drew _ _) ?_
      refine OD (Does.call rfl e48 (cloneM_ok M ms _ _ ((hms.mod (Mod.any' hg06)).mod (Mod.drew _ _)) hlen)) ?_
      rintro u7 w7 ⟨hr7,hf7,hg7'⟩
      obtain ⟨ad7,c7,rfl⟩:=hr7.slice
      have hg7:=(Mod.drew No w6).trans hg7'
      refine ⟨Mod.any' hg7,?_⟩
      refine DF (Yld.indexAddrN u44 i41 rfl rfl (by omega)) ?_
      refine DF (Yld.fieldAddr fo41_4 rfl) ?_
      refine DL.op' rfl (.free rfl) rfl (Does.store i28 rfl rfl rfl (hbk.mod hg7 (fun h=>h)) (SetAt.of (by rw [hl];omega))) ?_
      rintro _ w8 ⟨hb8,hm8,hs8⟩
      refine ⟨(Mod.any' hg7).trans hm8,?_⟩
      refine DF (Yld.indexAddrN u44 i41 rfl rfl (by omega)) ?_
      refine DF (Yld.fieldAddr fo41_5 rfl) ?_
      refine DL.opT rfl (.free rfl) rfl rfl (Does.storeN i32 rfl rfl rfl rfl hb8 (by rw [List.length_set,hl];omega)) ?_
      rintro _ w9 ⟨hb9,hm9,_⟩
      obtain ⟨x',hx'⟩:∃ x' : Sil,x'={ x with mv:=.slice ad7 ms.length c7,ms:=ms,bd:=bd }:=⟨_,rfl⟩
      have hb9' : Blk w9 b1 41 ((((cs.set (0 + j * 8 + 4) (.slice ad7 ms.length c7)).set (0 + j * 8 + 5) (.bool bd.all)).set (0 + j * 8 + 5 + 1) (.float .f64 bd.lo)).set (0 + j * 8 + 5 + 2) (.float .f64 bd.hi)):=by
        rw [← sets3 _ _ _ _ _ (by rw [List.length_set,hl];omega)]
        exact hb9
      have hR9:Row w9 41 8 (.slice (some ⟨b1,0,none⟩) al.length cs0) (al.set j x').length ((al.set j x').flatMap silC):=by
        have hR:=Row.shut hb9' (sz:=8) (cap:=cs0) (k:=al.length) (by simp only [List.length_set];exact hl) hkc hcm
        rw [List.take_set,List.take_set,List.take_set,List.take_set,htk,Nat.zero_add,set_sil2 (.slice ad7 ms.length c7) ms bd al j x ha] at hR
        rw [List.length_set,hx']
        exact hR
      have hm69:Mod (·=b1) w6 w9:=((Mod.any' hg7).trans hm8).trans hm9
      have hbp9:=h6.blk.mod hm69 hpg
      have hq9:=h6.que.mod hm69 (hbk.ty.ne h6.que.blk.ty rfl).symm (fun y e1 e2=>(h6.que.row.ty e1).ne hbk.ty rfl e2)
      have hr9:=(hr7.mod hm8 (fun y e1 e2=>(hr7.ty e1).ne (hbk.mod hg7 (fun h=>h)).ty rfl e2)).mod hm9 (fun y e1 e2=>((hr7.mod hm8 (fun y e1 e2=>(hr7.ty e1).ne (hbk.mod hg7 (fun h=>h)).ty rfl e2)).ty e1).ne hb8.ty rfl e2)
      have hxj:(al.set j x')[j]?=some x':=by rw [List.getElem?_set_self hil]
      have hsp:=fits_span h53
      have hr0:=g.r0
      have hr1:=g.r1
      have hxid:x'.id=x.id:=by rw [hx']
      refine GG ?_
      refine OP (Does.call rfl e49 (turnZ_ok _ p pl qu s.ret a b vq _ (al.set j x') q j x' (by rw [List.length_set] at *;exact hbp9) hq9 h6.sort hR9 hxj (by omega) (by rw [List.length_set];omega) (by omega) (by omega))) ?_
      rintro _ w10 ⟨rfl,vq',hb10,hq10,hr10,hm10,hf10⟩
      have hn6:∀ y,(y=qu∨vq.ownBlock=some y∨(Value.slice (some ⟨b1,0,none⟩) al.length cs0).ownBlock=some y)→Ty w9 y 155∨Ty w9 y 164∨Ty w9 y 41:=fun y e=>by
        rcases e with rfl | e | e
        ·exact .inl hq9.blk.ty
        ·exact .inr (.inl (hq9.row.ty e))
        ·exact .inr (.inr (hR9.ty e))
      have hr10m:=hr9.mod hm10 (fun y e1 e=>by
        rcases hn6 _ e with e | e | e
        ·exact (hr9.ty e1).ne e rfl rfl
        ·exact (hr9.ty e1).ne e rfl rfl
        ·exact (hr9.ty e1).ne e rfl rfl)
      have hz6:=hg06.size
      have hz7:=hg7.size
      have hz9:=hm69.size
      have hset:(al.set j x').set j { x' with start:=a,stop:=b }=al.set j { x' with start:=a,stop:=b }:=by simp
      rw [hset] at hr10
      obtain ⟨O',hz,hmO,hO'⟩:=turned _ w10 p s (turnS s j ⟨x.id,a,b,ms,bd⟩) O M pl qu vp vq _ vq' al (al.set j { x' with start:=a,stop:=b }) q _ hO h6 rfl rfl rfl hb10 hq10 (by rw [List.length_set];rw [List.length_set] at hr10;exact hr10) (by rw [List.map_set,hals,hx'];rfl) (set_ids ha hxid) (fun y hy=>by
        rcases List.mem_or_eq_of_mem_set hy with hy | rfl
        ·exact .inl (h6.sms y hy)
        ·exact .inr ⟨by rw [hx'];exact hr10m,fun c e=>by rw [hx'] at e;have:=hf7 c e;simp only [World.drew] at this;omega⟩) (turn_sort h6.sort h6.perm' (by rw [hids];exact g.ris)) (by have hp:=turn_perm (a':={ x' with start:=a,stop:=b }) h6.perm' (by rw [hids];exact g.ris) ha hxid;rw [← hxid] at hp;exact hp) ((hm69.mono fun y _ e=>.inr (.inr (by rw [e];rfl))).trans hm10) (fun c e=>(hf10 c e).elim .inl (fun e=>.inr (by omega)))
      refine GG ?_
      refine RK.ret_of Tryz.func21 (res1 rfl rfl) ?_ _
      exact ⟨_,rfl,O',by rw [e],by rw [e];exact hz,(Mod.any' hg06).trans hmO,fun y e=>(hO' y e).elim .inl (fun e=>.inr (by omega))⟩
end Go.Proofs.YtbcbfjnlnmhpbaaGreat
set_option linter.unusedVariables false
set_option linter.unusedSimpArgs false
set_option maxHeartbeats 3200000
set_option maxRecDepth 100000
namespace Go.Proofs.YtbcbfjnlnmhpbaaGreat
open Go Go.X
theorem updateR9_ok (w:World) (p:Nat) (s:SS) (O M:Nat→Prop) (h:RStore O M w p s) (g:Gz s) (now id a b:Int) (ms:List Mt) (hn:∀ m∈ms,m.name.size≤9223372036854775807) (vm:Value) (bd:Bd) (hms:SlM M w vm ms) (hlen:ms.length≤1000000) :
  Fx Tryz.prog 33 [pp p,.int .u64 now,.int .i64 id,.int .u64 a,.int .u64 b,vm,.agg (bdC bd).toArray] w (fun u w'=>u=.int .i64 (updateS s now id a b ms bd).2∧RStore O (fun x=>M x∨O x) w' p (updateS s now id a b ms bd).1∧Mod O w w'):=by
 have hself:=h.self
 have hback:∀ w',Grow w w'→RStore O (fun b=>M b∨O b) w' p s:=fun w' hg=>hself.grow hg
 obtain ⟨vs,al,hO,h⟩:=h
 obtain rfl:O=ownR p vs:=funext fun b=>propext (hO b)
 have hle:=g.le
 have hal:=h.len
 have hsl:=Sl.own (M:=No) h.row (fun _ _ h=>h)
 obtain ⟨adm,cm,rfl⟩:=hms.shape
 obtain ⟨ad,c,rfl⟩:=h.row.slice
 refine enter Tryz.func33 rfl rfl rfl _ (Pick.sub (l:=[0,1,2,3,4,5,6]) (.cons rfl (.cons rfl (.cons rfl (.cons rfl (.cons rfl (.cons rfl (.cons rfl .nil)))))))) ?_
 refine GG ?_
 refine OP (Does.box rfl) ?_
 rintro _ w1 ⟨b13,rfl,hn13⟩
 have hB13:Blk w1 b13 32 (bdC bd):=hn13.blk
 refine GG ?_
 refine QQ (Yld.loadN (cs:=bdC bd) a32 rfl (atN (blk0' hB13))) ?_
 refine OP (Does.call rfl e74 (mayR9_ok M ms hn _ bd _ (hms.mod (Mod.any' hn13.grow)))) ?_
 rintro _ w2 ⟨rfl,hg2⟩
 have hg02:=hn13.grow.trans hg2
 refine GG ?_
 refine CD (fun h20=>?_) (fun h20=>?_)
 ·have e:updateS s now id a b ms bd=(s,1):=by unfold updateS;rw [if_pos (by simpa using h20)]
  refine GG ?_
  refine RK.ret_of Tryz.func33 (res1 rfl rfl) ?_ _
  exact ⟨_,rfl,by rw [e],by rw [e];exact hback _ hg02,Mod.any' hg02⟩
 ·have h2:=h.grow hg02
  refine GG ?_
  refine OP (Does.call rfl e80 (placeR9_ok _ p s M _ al h2 (by omega) id)) ?_
  rintro _ _ ⟨rfl,rfl⟩
  refine GG ?_
  refine CD (fun h25=>?_) (fun h25=>?_)
  ·have e:updateS s now id a b ms bd=(s,5):=by unfold updateS;rw [if_neg (by simpa using h20),placeN_none h25]
   refine GG ?_
   refine RK.ret_of Tryz.func33 (res1 rfl rfl) ?_ _
   exact ⟨_,rfl,by rw [e],by rw [e];exact hback _ hg02,Mod.any' hg02⟩
  ·obtain ⟨i,hpl,hpn⟩:=placeN_some h25
   obtain ⟨x,ha,hid,hsa⟩:=placeZ_at h hpl
   rw [hpn]
   have hil:=(List.getElem?_eq_some_iff.1 ha).1
   obtain ⟨b1,o1,c1',he1,_,_,hc1⟩:=hsl.elem silC_len ha
   cases he1
   refine GG ?_
   refine RK.drawM No [(0,false),(1,false),(2,false),(3,false),(4,false),(5,false),(6,false),(7,false),(8,false),(9,false),(10,false),(11,false),(12,false),(13,false),(14,false),(15,false),(16,false),(17,true),(18,false)] [] mixed (by kernel_rfl) ?_
   refine GG ?_
   refine DF (Yld.fieldAddr fo64_2 rfl) ?_
   refine DQ (Yld.load p44 rfl (atM (h2.blk.cell rfl) (fun h=>h))) (Mod.drew _ _) ?_
   refine DL.p rfl rfl rfl ?_
   refine DF (Yld.indexAddrN u44 i41 rfl rfl (by omega)) ?_
   refine DF (Yld.fieldAddr fo41_2 rfl) ?_
   refine DQ (Yld.load p22 rfl (atM (hg02.cell (hc1 2 _ rfl) (fun h=>h)) (fun h=>h))) (Mod.drew _ _) ?_
   refine GG ?_
   refine DF (Yld.fieldAddr fo64_2 rfl) ?_
   refine DQ (Yld.load p44 rfl (atM (h2.blk.cell rfl) (fun h=>h))) (Mod.drew _ _) ?_
   refine DL.p rfl rfl rfl ?_
   refine DF (Yld.indexAddrN u44 i41 rfl rfl (by omega)) ?_
   refine DF (Yld.fieldAddr fo41_3 rfl) ?_
   refine DQ (Yld.load p22 rfl (atM (hg02.cell (hc1 3 _ rfl) (fun h=>h)) (fun h=>h))) (Mod.drew _ _) ?_
   refine OD (Does.call rfl e63 (stateR_ok now x.start x.stop _)) ?_
   rintro _ _ ⟨rfl,rfl⟩
   refine ⟨Mod.drew _ _,?_⟩
   have hg03:=hg02.trans (Mod.drew No w2)
   refine GG ?_
   refine CD (fun h44=>?_) (fun h44=>?_)
   ·have e:updateS s now id a b ms bd=(s,6):=by unfold updateS;rw [if_neg (by simpa using h20),hpl];simp only;rw [hsa];simp only;exact if_pos h44
    refine GG ?_
    refine RK.ret_of Tryz.func33 (res1 rfl rfl) ?_ _
    exact ⟨_,rfl,by rw [e],by rw [e];exact hback _ hg03,Mod.any' hg03⟩
   ·refine GG ?_
    refine OP (Does.call rfl e75 (anyLR_ok M ms hn _ _ (hms.mod (Mod.any' hg03)))) ?_
    rintro _ w5 ⟨rfl,hg5⟩
    have hg05:=hg03.trans hg5
    refine GG ?_
    refine CD (fun h47=>?_) (fun h47=>?_)
    ·have hf:fitsS now a b ms=7:=by unfold fitsS;rw [if_pos h47]
     have e:updateS s now id a b ms bd=(s,7):=by unfold updateS;rw [if_neg (by simpa using h20),hpl];simp only;rw [hsa];simp only;rw [if_neg (show ¬ stateS now (pubZ x).start (pubZ x).stop=3 from h44),hf];rfl
     refine GG ?_
     refine RK.ret_of Tryz.func33 (res1 rfl rfl) ?_ _
     exact ⟨_,rfl,by rw [e],by rw [e];exact hback _ hg05,Mod.any' hg05⟩
    ·refine GG ?_
     refine OP (Does.call rfl e76 (spanR9_ok now a b _)) ?_
     rintro _ _ ⟨rfl,rfl⟩
     refine GG ?_
     refine CD (fun h50=>?_) (fun h50=>?_)
     ·have hf:fitsS now a b ms=8:=by unfold fitsS;rw [if_neg (by simpa using h47),if_neg (by simpa using h50)]
      have e:updateS s now id a b ms bd=(s,8):=by unfold updateS;rw [if_neg (by simpa using h20),hpl];simp only;rw [hsa];simp only;rw [if_neg (show ¬ stateS now (pubZ x).start (pubZ x).stop=3 from h44),hf];rfl
      refine GG ?_
      refine RK.ret_of Tryz.func33 (res1 rfl rfl) ?_ _
      exact ⟨_,rfl,by rw [e],by rw [e];exact hback _ hg05,Mod.any' hg05⟩
     ·have hf:¬ fitsS now a b ms≠0:=by unfold fitsS;rw [if_neg (by simpa using h47),if_pos (by simpa using h50)];simp
      have hg06:=hg05
      have hg16:=(hg2.trans (Mod.drew No w2)).trans hg5
      have h6:=h.grow hg06
      refine GG ?_
      refine SP 59 (fun h58=>?_) (fun h58=>?_)
      ·iterate 3 refine QQ (Yld.pure rfl) ?_
       refine QQ (Yld.fieldAddr fo64_2 rfl) ?_
       refine QQ (Yld.load p44 rfl (at1 (h6.blk.cell rfl))) ?_
       refine QQ (Yld.pure rfl) ?_
       refine QQ (Yld.indexAddrN u44 i41 rfl rfl (by omega)) ?_
       refine QQ (Yld.fieldAddr fo41_2 rfl) ?_
       refine QQ (Yld.load p22 rfl (at1 (hg06.cell (hc1 2 _ rfl) (fun h=>h)))) ?_
       refine QQ (Yld.pure rfl) ?_
       refine GG ?_
       refine CD (fun h56=>?_) (fun h56=>?_)
       ·have e:updateS s now id a b ms bd=(s,6):=by unfold updateS;rw [if_neg (by simpa using h20),hpl];simp only;rw [hsa];simp only;rw [if_neg (show ¬ stateS now (pubZ x).start (pubZ x).stop=3 from h44),if_neg hf];exact if_pos ⟨h58,h56⟩
        refine GG ?_
        refine RK.ret_of Tryz.func33 (res1 rfl rfl) ?_ _
        exact ⟨_,rfl,by rw [e],by rw [e];exact hback _ hg06,Mod.any' hg06⟩
       ·have e:updateS s now id a b ms bd=(turnS s i ⟨x.id,a,b,ms,bd⟩,0):=by unfold updateS;rw [if_neg (by simpa using h20),hpl];simp only;rw [hsa];simp only;rw [if_neg (show ¬ stateS now (pubZ x).start (pubZ x).stop=3 from h44),if_neg hf];exact if_neg (fun h=>h56 h.2)
        have hd:=h.grow hg06
        obtain ⟨g1,cap,tl,hvl,hbg,hclose⟩:=hd.row.open (by omega)
        cases hvl
        have hflat:(al.flatMap silC).length=al.length * 8:=flat_len silC 8 silC_len al
        have hB6:Blk _ b13 32 (bdC bd):=hB13.mod hg16 (fun h=>h)
        refine GG ?_
        refine RK.drawM No [(0,false),(1,false),(2,false),(3,false),(4,false),(5,false),(6,false),(7,false),(8,false),(10,false),(9,true),(11,false),(12,false),(13,true)] [13] mixed (by kernel_rfl) ?_
        refine GG ?_
        refine DF (Yld.fieldAddr fo64_2 rfl) ?_
        refine DQ (Yld.load p44 rfl (atM (hd.blk.cell rfl) (fun h=>h))) (Mod.drew _ _) ?_
        refine GG ?_
        refine DQ (Yld.loadN (cs:=bdC bd) a32 rfl (atNM (blk0' hB6) (fun h=>h))) (Mod.drew _ _) ?_
        refine OD (Does.call rfl e64 (copiedR9_ok M ms _ _ ((hms.mod (Mod.any' hg06)).mod (Mod.drew _ _)) hlen)) ?_
        rintro u7 w7 ⟨hr7,hf7,hg7'⟩
        obtain ⟨ad7,c7,rfl⟩:=hr7.slice
        have hg7:=(Mod.drew No _).trans hg7'
        refine ⟨Mod.any' hg7,?_⟩
        refine DF (Yld.build (v:=.agg (silC ⟨id,0,a,b,.slice ad7 ms.length c7,ms,bd⟩).toArray) rfl (fun w=>by kernel_rfl)) ?_
        refine DF (Yld.indexAddrN u44 i41 rfl rfl (hil)) ?_
        refine DL.opT rfl (.free rfl) rfl rfl (Does.storeN i41 rfl rfl rfl rfl (hbg.mod hg7 (fun h=>h)) (by simp only [List.length_append,hflat];omega)) ?_
        rintro _ w8 ⟨hb8,hm8,_⟩
        have hset:=flat_set silC_len tl (⟨id,0,a,b,.slice ad7 ms.length c7,ms,bd⟩:Sil) al i hil
        have hb8' : Blk w8 b1 41 ((al.set i ⟨id,0,a,b,.slice ad7 ms.length c7,ms,bd⟩).flatMap silC ++ tl):=by rw [← hset];simpa [Value.cells] using hb8
        have hr8:Row w8 41 8 (.slice (some ⟨b1,0,none⟩) al.length c) (al.set i ⟨id,0,a,b,.slice ad7 ms.length c7,ms,bd⟩).length ((al.set i ⟨id,0,a,b,.slice ad7 ms.length c7,ms,bd⟩).flatMap silC):=by rw [List.length_set];exact hclose w8 _ (by rw [hflat,flat_len silC 8 silC_len,List.length_set]) hb8'
        have hz6:=hg06.size
        have hz7:=hg7.size
        have hm08:Mod (fun x=>(Value.slice (some ⟨b1,0,none⟩) al.length c).ownBlock=some x) w w8:=(Mod.any' (hg06.trans hg7)).trans (hm8.mono fun x _ e=>by rw [e];rfl)
        have hr78:=hr7.mod hm8 (fun x e1 e2=>(hr7.ty e1).ne (hbg.mod hg7 (fun h=>h)).ty rfl e2)
        refine GG ?_
        refine RK.ret_of Tryz.func33 (res1 rfl rfl) ?_ _
        exact ⟨_,rfl,by rw [e],by
          rw [e]
          have:=h.setted hm08 hr8 (.inr ⟨hr78,fun q e=>by have:=hf7 q e;simp only [World.drew] at this;omega⟩)
          subst hid
          exact this,hm08.mono fun x _ e=>.inr e⟩
      ·have e:updateS s now id a b ms bd=(turnS s i ⟨x.id,a,b,ms,bd⟩,0):=by unfold updateS;rw [if_neg (by simpa using h20),hpl];simp only;rw [hsa];simp only;rw [if_neg (show ¬ stateS now (pubZ x).start (pubZ x).stop=3 from h44),if_neg hf];exact if_neg (fun h=>h58 h.1)
       have hd:=h.grow hg06
       obtain ⟨g1,cap,tl,hvl,hbg,hclose⟩:=hd.row.open (by omega)
       cases hvl
       have hflat:(al.flatMap silC).length=al.length * 8:=flat_len silC 8 silC_len al
       have hB6:Blk _ b13 32 (bdC bd):=hB13.mod hg16 (fun h=>h)
       iterate 10 refine RL.no (.no rfl rfl rfl rfl) rfl rfl ?_
       refine GG ?_
       refine RK.condF rfl ?_
       refine GG ?_
       refine RK.drawM No [(0,false),(1,false),(2,false),(3,false),(4,false),(5,false),(6,false),(7,false),(8,false),(10,false),(9,true),(11,false),(12,false),(13,true)] [13] mixed (by kernel_rfl) ?_
       refine GG ?_
       refine DF (Yld.fieldAddr fo64_2 rfl) ?_
       refine DQ (Yld.load p44 rfl (atM (hd.blk.cell rfl) (fun h=>h))) (Mod.drew _ _) ?_
       refine GG ?_
       refine DQ (Yld.loadN (cs:=bdC bd) a32 rfl (atNM (blk0' hB6) (fun h=>h))) (Mod.drew _ _) ?_
       refine OD (Does.call rfl e64 (copiedR9_ok M ms _ _ ((hms.mod (Mod.any' hg06)).mod (Mod.drew _ _)) hlen)) ?_
       rintro u7 w7 ⟨hr7,hf7,hg7'⟩
       obtain ⟨ad7,c7,rfl⟩:=hr7.slice
       have hg7:=(Mod.drew No _).trans hg7'
       refine ⟨Mod.any' hg7,?_⟩
       refine DF (Yld.build (v:=.agg (silC ⟨id,0,a,b,.slice ad7 ms.length c7,ms,bd⟩).toArray) rfl (fun w=>by kernel_rfl)) ?_
       refine DF (Yld.indexAddrN u44 i41 rfl rfl (hil)) ?_
       refine DL.opT rfl (.free rfl) rfl rfl (Does.storeN i41 rfl rfl rfl rfl (hbg.mod hg7 (fun h=>h)) (by simp only [List.length_append,hflat];omega)) ?_
       rintro _ w8 ⟨hb8,hm8,_⟩
       have hset:=flat_set silC_len tl (⟨id,0,a,b,.slice ad7 ms.length c7,ms,bd⟩:Sil) al i hil
       have hb8' : Blk w8 b1 41 ((al.set i ⟨id,0,a,b,.slice ad7 ms.length c7,ms,bd⟩).flatMap silC ++ tl):=by rw [← hset];simpa [Value.cells] using hb8
       have hr8:Row w8 41 8 (.slice (some ⟨b1,0,none⟩) al.length c) (al.set i ⟨id,0,a,b,.slice ad7 ms.length c7,ms,bd⟩).length ((al.set i ⟨id,0,a,b,.slice ad7 ms.length c7,ms,bd⟩).flatMap silC):=by rw [List.length_set];exact hclose w8 _ (by rw [hflat,flat_len silC 8 silC_len,List.length_set]) hb8'
       have hz6:=hg06.size
       have hz7:=hg7.size
       have hm08:Mod (fun x=>(Value.slice (some ⟨b1,0,none⟩) al.length c).ownBlock=some x) w w8:=(Mod.any' (hg06.trans hg7)).trans (hm8.mono fun x _ e=>by rw [e];rfl)
       have hr78:=hr7.mod hm8 (fun x e1 e2=>(hr7.ty e1).ne (hbg.mod hg7 (fun h=>h)).ty rfl e2)
       refine GG ?_
       refine RK.ret_of Tryz.func33 (res1 rfl rfl) ?_ _
       exact ⟨_,rfl,by rw [e],by
         rw [e]
         have:=h.setted hm08 hr8 (.inr ⟨hr78,fun q e=>by have:=hf7 q e;simp only [World.drew] at this;omega⟩)
         subst hid
         exact this,hm08.mono fun x _ e=>.inr e⟩
theorem listR9_ok (w:World) (p:Nat) (s:SS) (O M:Nat→Prop) (h:RStore O M w p s) (g:Gz s) (now st:Int) (hms:∀ a∈s.sl,a.ms.length≤1000000) :
  Fx Tryz.prog 24 [pp p,.int .u64 now,.int .i64 st] w (fun u w'=>(∃ tl:List Sil,tl.map pubT=listZ now st s.sl∧Row w' 41 8 u tl.length (tl.flatMap silC)∧∀ a∈tl,Row w' 108 3 a.mv a.ms.length (a.ms.flatMap mtC))∧Fresh w.heap.size u∧Grow w w'):=by
 obtain ⟨vs,al,hO,h⟩:=h
 have hle:=g.le
 have hal:=h.len
 have hals:=h.als
 have hsl:=Sl.own (M:=No) h.row (fun _ _ h=>h)
 have hsms:=h.sms
 have hblk:=h.blk
 obtain ⟨ads,cs,rfl⟩:=h.row.slice
 clear h
 refine enter Tryz.func24 rfl rfl rfl _ (Pick.sub (l:=[0,1,2]) (.cons rfl (.cons rfl (.cons rfl .nil)))) ?_
 refine GG ?_
 refine RK.loop (fun s:Nat×Value=>[(0,pp p),(1,.int .u64 now),(2,.int .i64 st),(7,s.2),(8,.int .i64 (s.1:Int))]) (fun s w'=>(∃ tl:List Sil,tl.map pubT=listZ now st ((al.take s.1).map pubZ)∧Row w' 41 8 s.2 tl.length (tl.flatMap silC)∧∀ a∈tl,Row w' 108 3 a.mv a.ms.length (a.ms.flatMap mtC))∧Fresh w.heap.size s.2∧Grow w w'∧s.1≤al.length) (fun s=>al.length - s.1) (0,.slice none 0 0) ⟨rfl,rfl,rfl,rfl,rfl,trivial⟩ ⟨⟨[],by simp [listZ],Row.nil _ _ _,fun a h=>(by cases h)⟩,fun b e=>by simp [Value.ownBlock] at e,Mod.refl _ _,by simp⟩ (fun s w' hI ih=>?_)
 obtain ⟨k,u⟩:=s
 obtain ⟨⟨tl,htl,hr,hsh⟩,hf,hg,hk⟩:=hI
 simp only at hr hf hk htl
 have hbk:=hblk.mod hg (fun h=>h)
 refine GG ?_
 refine QQ (Yld.fieldAddr fo64_2 rfl) ?_
 refine QQ (Yld.load p44 rfl (at1 (hbk.cell rfl))) ?_
 refine QQ (Yld.lenSl u44 rfl) ?_
 refine GG ?_
 refine CD (fun h16=>?_) (fun h16=>?_)
 ·obtain ⟨s,hs⟩:∃ s,al[k]?=some s:=⟨al[k]'(by omega),List.getElem?_eq_getElem (by omega)⟩
  obtain ⟨b1,o1,c1',he1,_,_,hc1⟩:=hsl.elem silC_len hs
  cases he1
  have hsm:=(hsms s (List.mem_of_getElem? hs)).mod (Mod.any' hg)
  have hsn:=listZ_snoc now st hs
  have hml:=hms (pubZ s) (by rw [← hals];exact List.mem_map.2 ⟨s,List.mem_of_getElem? hs,rfl⟩)
  have hsl1:=listZ_len now st ((al.take k).map pubZ)
  have hsl2:((al.take k).map pubZ).length≤k:=by simp;omega
  have hsl3:tl.length≤k:=by rw [← htl,List.length_map] at hsl1;omega
  refine GG ?_
  refine QQ (Yld.fieldAddr fo64_2 rfl) ?_
  refine QQ (Yld.load p44 rfl (at1 (hbk.cell rfl))) ?_
  refine RL.p rfl rfl ?_
  refine QQ (Yld.indexAddrN u44 i41 rfl rfl (by omega)) ?_
  refine QQ (Yld.loadN (cs:=silC s) a41 rfl (atN (fun q z hq=>hg.cell (hc1 q z hq) (fun h=>h)))) ?_
  refine OP (Does.alloc i41) ?_
  rintro _ w1 ⟨b9,rfl,hn9⟩
  refine OQ (Does.storeN i41 rfl rfl rfl (silC_one hsm) hn9.blk (Nat.le_refl 8)) ?_
  rintro _ w2 ⟨hb2,hm2,_⟩
  have hat9:=hn9.at_
  have hg2' : Grow w' w2:=hn9.grow.then hm2 (fun y hy e=>by have e' : y=b9:=e;omega)
  have hB2:Blk w2 b9 41 [.int .i64 s.id,.int .i64 s.ver,.int .u64 s.start,.int .u64 s.stop,s.mv,.bool s.bd.all,.float .f64 s.bd.lo,.float .f64 s.bd.hi]:=hb2
  refine GG ?_
  refine QQ (Yld.fieldAddr fo41_2 rfl) ?_
  refine QQ (Yld.load p22 rfl (at1 (hB2.cell rfl))) ?_
  refine QQ (Yld.fieldAddr fo41_3 rfl) ?_
  refine QQ (Yld.load p22 rfl (at1 (hB2.cell rfl))) ?_
  refine OP (Does.call rfl e63 (stateR_ok now s.start s.stop _)) ?_
  rintro _ _ ⟨rfl,rfl⟩
  refine QQ (Yld.fieldAddr fo41_1 rfl) ?_
  refine OQ (Does.store i3 rfl rfl rfl hB2 (.s .z)) ?_
  rintro _ w3 ⟨hb3',hm3,_⟩
  have hB3:Blk w3 b9 41 [.int .i64 s.id,.int .i64 (stateS now s.start s.stop),.int .u64 s.start,.int .u64 s.stop,s.mv,.bool s.bd.all,.float .f64 s.bd.lo,.float .f64 s.bd.hi]:=hb3'
  have hg3:Grow w' w3:=hg2'.then hm3 (fun y hy e=>by have e' : y=b9:=e;omega)
  refine GG ?_
  refine QQ (Yld.fieldAddr fo41_4 rfl) ?_
  refine QQ (Yld.load p28 rfl (at1 (hB3.cell rfl))) ?_
  refine OP (Does.call rfl e64 (copiedR9_ok M s.ms _ _ (hsm.mod (Mod.any' hg3)) hml)) ?_
  rintro v4 w4 ⟨hr4m,hf4,hg34⟩
  obtain ⟨ad4,c4,rfl⟩:=hr4m.slice
  have hB4':=hB3.mod hg34 (fun h=>h)
  refine QQ (Yld.fieldAddr fo41_4 rfl) ?_
  refine OQ (Does.store i28 rfl rfl rfl hB4' (.s (.s (.s (.s .z))))) ?_
  rintro _ w5 ⟨hb5,hm5,_⟩
  obtain ⟨t,ht⟩:∃ t:Sil,t={ s with ver:=stateS now s.start s.stop,mv:=.slice ad4 s.ms.length c4 }:=⟨_,rfl⟩
  have hB4:Blk w5 b9 41 (silC t):=by subst ht;exact hb5
  have hgw:Grow w' w5:=(hg3.trans hg34).then hm5 (fun y hy e=>by have e' : y=b9:=e;omega)
  have hg4:=hg.trans hgw
  have hr4:=hr.mod hgw (fun _ _ h=>h)
  have hrt4:Row w5 108 3 t.mv t.ms.length (t.ms.flatMap mtC):=by subst ht;exact hr4m.mod hm5 (fun x e1 e2=>by have e' : x=b9:=e2;exact (hr4m.ty e1).ne hB4'.ty rfl e')
  have hsh4:∀ a∈tl,Row w5 108 3 a.mv a.ms.length (a.ms.flatMap mtC):=fun a ha=>(hsh a ha).mod hgw (fun _ _ h=>h)
  have hpt:pubT t=toldP now (pubZ s):=by subst ht;rfl
  have hz4:=hg4.size
  refine GG ?_
  refine SP 39 (fun h38=>?_) (fun h38=>?_)
  ·have hwant:wantZ now st (pubZ s)=true:=by unfold wantZ;rw [decide_eq_true h38];rfl
   have hone:((Value.agg (silC t).toArray).cells.toList.all fun x=>x.oneCell')=true:=by subst ht;rfl
   iterate 4 refine RL.no (.no rfl rfl rfl rfl) rfl rfl ?_
   refine GG ?_
   refine RK.condT rfl ?_
   refine GG ?_
   refine QQ (Yld.loadN (cs:=silC t) a41 rfl (atN (blk0' hB4))) ?_
   refine OP (Does.slice1 u44 i41 rfl rfl rfl rfl rfl) ?_
   rintro _ w5 ⟨b47,rfl,hn47⟩
   refine OP (Does.append u44 i41 rfl rfl rfl rfl rfl (hr4.mod hn47.grow (fun _ _ h=>h)) (Sl.new hn47 8 1 rfl (by omega) (fun h=>h)) (hone) (by omega)) ?_
   rintro z8 w8 ⟨hr8,hm8,hu8⟩
   have hs5:=hn47.grow.size
   refine RL.p rfl rfl ?_
   refine RL.done ?_
   refine RK.inBlock ?_
   refine RK.region ?_
   iterate 2 refine RL.p rfl rfl ?_
   refine RL.re (d:=18) rfl rfl (succ_i64 (by omega)) ?_
   refine GG ?_
   exact RK.back (ih (k + 1,z8) _ ⟨⟨tl ++ [t],by
     simp only
     rw [hsn,if_pos hwant,List.map_append,htl,List.map_singleton,hpt],by
     rw [List.length_append,List.flatMap_append,List.flatMap_singleton]
     simpa [Value.cells] using hr8,fun a ha=>by
     rcases List.mem_append.1 ha with ha | ha
     ·have h1:=(hsh4 a ha).mod hn47.grow (fun _ _ h=>h)
      exact h1.mod hm8 (fun x e1 e2=>(h1.ty e1).ne ((hr4.mod hn47.grow (fun _ _ h=>h)).ty e2) rfl rfl)
     ·have e:=List.mem_singleton.1 ha
      have h1:=hrt4.mod hn47.grow (fun _ _ h=>h)
      rw [e]
      exact h1.mod hm8 (fun x e1 e2=>(h1.ty e1).ne ((hr4.mod hn47.grow (fun _ _ h=>h)).ty e2) rfl rfl)⟩,fun b e=>by
     rcases hu8 with h1 | h1
     ·exact hf b (h1 ▸ e)
     ·rw [h1] at e;cases e;omega,(hg4.trans hn47.grow).then hm8 (fun b hb e=>by have:=hf b e;omega),by simp only;omega⟩ (by simp only;omega)) ⟨rfl,rfl,rfl,rfl,rfl,trivial⟩
  ·refine QQ (Yld.fieldAddr fo41_1 rfl) ?_
   refine QQ (Yld.load p3 rfl (at1 (hB4.cell (by subst ht;rfl)))) ?_
   iterate 2 refine QQ (Yld.pure rfl) ?_
   refine GG ?_
   refine CD (fun h44=>?_) (fun h44=>?_)
   ·have hwant:wantZ now st (pubZ s)=true:=by unfold wantZ pubZ;simp only;rw [decide_eq_true h44];simp
    have hone:((Value.agg (silC t).toArray).cells.toList.all fun x=>x.oneCell')=true:=by subst ht;rfl
    refine GG ?_
    refine QQ (Yld.loadN (cs:=silC t) a41 rfl (atN (blk0' hB4))) ?_
    refine OP (Does.slice1 u44 i41 rfl rfl rfl rfl rfl) ?_
    rintro _ w5 ⟨b47,rfl,hn47⟩
    refine OP (Does.append u44 i41 rfl rfl rfl rfl rfl (hr4.mod hn47.grow (fun _ _ h=>h)) (Sl.new hn47 8 1 rfl (by omega) (fun h=>h)) (hone) (by omega)) ?_
    rintro z8 w8 ⟨hr8,hm8,hu8⟩
    have hs5:=hn47.grow.size
    refine RL.p rfl rfl ?_
    refine RL.done ?_
    refine RK.inBlock ?_
    refine RK.region ?_
    iterate 2 refine RL.p rfl rfl ?_
    refine RL.re (d:=18) rfl rfl (succ_i64 (by omega)) ?_
    refine GG ?_
    exact RK.back (ih (k + 1,z8) _ ⟨⟨tl ++ [t],by
      simp only
      rw [hsn,if_pos hwant,List.map_append,htl,List.map_singleton,hpt],by
      rw [List.length_append,List.flatMap_append,List.flatMap_singleton]
      simpa [Value.cells] using hr8,fun a ha=>by
      rcases List.mem_append.1 ha with ha | ha
      ·have h1:=(hsh4 a ha).mod hn47.grow (fun _ _ h=>h)
       exact h1.mod hm8 (fun x e1 e2=>(h1.ty e1).ne ((hr4.mod hn47.grow (fun _ _ h=>h)).ty e2) rfl rfl)
      ·have e:=List.mem_singleton.1 ha
       have h1:=hrt4.mod hn47.grow (fun _ _ h=>h)
       rw [e]
       exact h1.mod hm8 (fun x e1 e2=>(h1.ty e1).ne ((hr4.mod hn47.grow (fun _ _ h=>h)).ty e2) rfl rfl)⟩,fun b e=>by
      rcases hu8 with h1 | h1
      ·exact hf b (h1 ▸ e)
      ·rw [h1] at e;cases e;omega,(hg4.trans hn47.grow).then hm8 (fun b hb e=>by have:=hf b e;omega),by simp only;omega⟩ (by simp only;omega)) ⟨rfl,rfl,rfl,rfl,rfl,trivial⟩
   ·have hnot:wantZ now st (pubZ s)=false:=by unfold wantZ pubZ;simp only;rw [decide_eq_false h38,decide_eq_false h44];rfl
    refine RK.skip ?_
    refine RK.inBlock ?_
    refine RK.region ?_
    iterate 2 refine RL.p rfl rfl ?_
    refine RL.re (d:=18) rfl rfl (succ_i64 (by omega)) ?_
    refine GG ?_
    exact RK.back (ih (k + 1,u) _ ⟨⟨tl,by simp only;rw [hsn,if_neg (by simp [hnot]),List.append_nil];exact htl,hr4,hsh4⟩,hf,hg4,by simp only;omega⟩ (by simp only;omega)) ⟨rfl,rfl,rfl,rfl,rfl,trivial⟩
 ·have ek:al.take k=al:=List.take_of_length_le (by omega)
  rw [ek,hals] at htl
  refine RK.exit rfl ?_
  refine GG ?_
  refine RK.ret_of Tryz.func24 (res1 rfl rfl) ?_ _
  exact ⟨_,rfl,⟨tl,htl,hr,hsh⟩,hf,hg⟩
theorem holdsR9_ok (w:World) (p:Nat) (s:SS) (O M:Nat→Prop) (h:RStore O M w p s) (g:Gz s) (now:Int) (M' : Nat→Prop) (ls:List Lab) (vl:Value) (v:Nat) (hl:SlL M' w vl ls) (hz:∀ x∈ls,x.value.size≤100000) (hsz:∀ a∈s.sl,∀ m∈a.ms,m.name.size≤9223372036854775807) :
  Fx Tryz.prog 28 [pp p,.int .u64 now,vl,.float .f64 v] w (fun u w'=>Row w' 3 1 u (holdsZ now ls v s.sl).length (ints (holdsZ now ls v s.sl))∧Fresh w.heap.size u∧Grow w w'):=by
 obtain ⟨vs,al,hO,h⟩:=h
 have hle:=g.le
 have hal:=h.len
 have hals:=h.als
 have hsl:=Sl.own (M:=No) h.row (fun _ _ h=>h)
 have hsms:=h.sms
 have hblk:=h.blk
 obtain ⟨ads,cs,rfl⟩:=h.row.slice
 clear h
 obtain ⟨adl,cl,rfl⟩:=hl.shape
 refine enter Tryz.func28 rfl rfl rfl _ (Pick.sub (l:=[0,1,2,3]) (.cons rfl (.cons rfl (.cons rfl (.cons rfl .nil))))) ?_
 refine GG ?_
 refine RK.loop (fun s:Nat×Value=>[(0,pp p),(1,.int .u64 now),(2,.slice adl ls.length cl),(3,.float .f64 v),(9,s.2),(10,.int .i64 (s.1:Int))]) (fun s w'=>Row w' 3 1 s.2 (holdsZ now ls v ((al.take s.1).map pubZ)).length (ints (holdsZ now ls v ((al.take s.1).map pubZ)))∧Fresh w.heap.size s.2∧Grow w w'∧s.1≤al.length) (fun s=>al.length - s.1) (0,.slice none 0 0) ⟨rfl,rfl,rfl,rfl,rfl,rfl,trivial⟩ ⟨by simpa [holdsZ] using Row.nil _ _ _,fun b e=>by simp [Value.ownBlock] at e,Mod.refl _ _,by simp⟩ (fun s w' hI ih=>?_)
 obtain ⟨k,u⟩:=s
 obtain ⟨hr,hf,hg,hk⟩:=hI
 simp only at hr hf hk
 have hbk:=hblk.mod hg (fun h=>h)
 refine GG ?_
 refine QQ (Yld.fieldAddr fo64_2 rfl) ?_
 refine QQ (Yld.load p44 rfl (at1 (hbk.cell rfl))) ?_
 refine QQ (Yld.lenSl u44 rfl) ?_
 refine GG ?_
 refine CD (fun h18=>?_) (fun h18=>?_)
 ·obtain ⟨s,hs⟩:∃ s,al[k]?=some s:=⟨al[k]'(by omega),List.getElem?_eq_getElem (by omega)⟩
  obtain ⟨b1,o1,c1',he1,_,_,hc1⟩:=hsl.elem silC_len hs
  cases he1
  have hsm0:=hsms s (List.mem_of_getElem? hs)
  have hsm:=hsm0.mod (Mod.any' hg)
  have hsn:=holdsZ_snoc now ls v hs
  have hsz1:=hsz (pubZ s) (by rw [← hals];exact List.mem_map.2 ⟨s,List.mem_of_getElem? hs,rfl⟩)
  have hsl1:=holdsZ_len now ls v ((al.take k).map pubZ)
  have hsl2:((al.take k).map pubZ).length≤k:=by simp;omega
  refine GG ?_
  refine QQ (Yld.fieldAddr fo64_2 rfl) ?_
  refine QQ (Yld.load p44 rfl (at1 (hbk.cell rfl))) ?_
  refine RL.p rfl rfl ?_
  refine QQ (Yld.indexAddrN u44 i41 rfl rfl (by omega)) ?_
  refine QQ (Yld.loadN (cs:=silC s) a41 rfl (atN (fun q z hq=>hg.cell (hc1 q z hq) (fun h=>h)))) ?_
  refine OP (Does.alloc i41) ?_
  rintro _ w1 ⟨b11,rfl,hn11⟩
  refine OQ (Does.storeN i41 rfl rfl rfl (silC_one hsm) hn11.blk (Nat.le_refl 8)) ?_
  rintro _ w2 ⟨hb2,hm2,_⟩
  have hg2' : Grow w' w2:=hn11.grow.then hm2 (fun y hy e=>by have e' : y=b11:=e;have:=hn11.at_;omega)
  have hg2:=hg.trans hg2'
  have hB2:Blk w2 b11 41 [.int .i64 s.id,.int .i64 s.ver,.int .u64 s.start,.int .u64 s.stop,s.mv,.bool s.bd.all,.float .f64 s.bd.lo,.float .f64 s.bd.hi]:=hb2
  refine GG ?_
  refine QQ (Yld.fieldAddr fo41_2 rfl) ?_
  refine QQ (Yld.load p22 rfl (at1 (hB2.cell rfl))) ?_
  refine QQ (Yld.fieldAddr fo41_3 rfl) ?_
  refine QQ (Yld.load p22 rfl (at1 (hB2.cell rfl))) ?_
  refine OP (Does.call rfl e63 (stateR_ok now s.start s.stop _)) ?_
  rintro _ _ ⟨rfl,rfl⟩
  refine GG ?_
  refine SP 35 (fun h35=>?_) (fun h35=>?_)
  ·refine QQ (Yld.fieldAddr fo41_4 rfl) ?_
   refine QQ (Yld.load p28 rfl (at1 (hB2.cell rfl))) ?_
   refine QQ (Yld.pure rfl) ?_
   refine OP (Does.call rfl e72 (allR_ok s.ms hsz1 M' M ls hz _ _ _ (hsm.mod (Mod.any' hg2')) (hl.mod (Mod.any' hg2)))) ?_
   rintro _ w3 ⟨rfl,hg3⟩
   have hg23:=hg2.trans hg3
   have hB3:=hB2.mod hg3 (fun h=>h)
   refine GG ?_
   refine SP 41 (fun h41=>?_) (fun h41=>?_)
   ·refine QQ (Yld.fieldAddr fo41_5 rfl) ?_
    refine QQ (Yld.loadN (cs:=bdC s.bd) a32 rfl (atN (fldN hB3 5 3))) ?_
    refine QQ (Yld.pure rfl) ?_
    refine OP (Does.call rfl e73 (inR_ok s.bd v _)) ?_
    rintro _ w4 ⟨rfl,hg4⟩
    have hg24:=hg23.trans hg4
    have hr4:=hr.mod ((hg2'.trans hg3).trans hg4) (fun _ _ h=>h)
    refine GG ?_
    refine CD (fun h46=>?_) (fun h46=>?_)
    ·have hyes:holdZ now ls v (pubZ s)=true:=by unfold holdZ pubZ;simp only;rw [decide_eq_true h35,h41,h46];rfl
     refine GG ?_
     refine QQ (Yld.fieldAddr fo41_0 rfl) ?_
     refine QQ (Yld.load p3 rfl (at1 ((hB3.mod hg4 (fun h=>h)).cell rfl))) ?_
     refine OP (Does.slice1 u35 i3 rfl rfl rfl rfl rfl) ?_
     rintro _ w5 ⟨b7,rfl,hn7⟩
     refine OP (Does.append u35 i3 rfl rfl rfl rfl rfl (hr4.mod hn7.grow (fun _ _ h=>h)) (Sl.new hn7 1 1 rfl (by omega) (fun h=>h)) (rfl) (by omega)) ?_
     rintro z8 w8 ⟨hr8,hm8,hu8⟩
     have hs7:=hn7.grow.size
     have hs4:=hg24.size
     refine RL.p rfl rfl ?_
     refine RL.done ?_
     refine RK.inBlock ?_
     refine RK.region ?_
     iterate 2 refine RL.p rfl rfl ?_
     refine RL.re (d:=20) rfl rfl (succ_i64 (by omega)) ?_
     refine GG ?_
     exact RK.back (ih (k + 1,z8) _ ⟨by
       simp only
       rw [hsn,if_pos hyes]
       have e1:ints (holdsZ now ls v ((al.take k).map pubZ) ++ [s.id])=ints (holdsZ now ls v ((al.take k).map pubZ)) ++ (Value.int .i64 s.id).cells.toList:=by simp [ints,Value.cells]
       rw [e1,List.length_append];exact hr8,fun b e=>by
       rcases hu8 with h1 | h1
       ·exact hf b (h1 ▸ e)
       ·rw [h1] at e;cases e;omega,(hg24.trans hn7.grow).then hm8 (fun b hb e=>by have:=hf b e;omega),by simp only;omega⟩ (by simp only;omega)) ⟨rfl,rfl,rfl,rfl,rfl,rfl,trivial⟩
    ·have hnos:holdZ now ls v (pubZ s)=false:=by unfold holdZ pubZ;simp only;rw [decide_eq_true h35,h41,show inBd s.bd v=false by simpa using h46];rfl
     refine RK.skip ?_
     refine RK.inBlock ?_
     refine RK.region ?_
     iterate 2 refine RL.p rfl rfl ?_
     refine RL.re (d:=20) rfl rfl (succ_i64 (by omega)) ?_
     refine GG ?_
     exact RK.back (ih (k + 1,u) _ ⟨by simp only;rw [hsn,if_neg (by simp [hnos]),List.append_nil];exact hr4,hf,hg24,by simp only;omega⟩ (by simp only;omega)) ⟨rfl,rfl,rfl,rfl,rfl,rfl,trivial⟩
   ·have hnos:holdZ now ls v (pubZ s)=false:=by unfold holdZ pubZ;simp only;rw [show (s.ms.all fun m=>holdsM m ls)=false by simpa only [Bool.not_eq_true] using h41];simp
    iterate 4 refine RL.no (.no rfl rfl rfl rfl) rfl rfl ?_
    refine GG ?_
    refine RK.condF rfl ?_
    refine RK.skip ?_
    refine RK.inBlock ?_
    refine RK.region ?_
    iterate 2 refine RL.p rfl rfl ?_
    refine RL.re (d:=20) rfl rfl (succ_i64 (by omega)) ?_
    refine GG ?_
    exact RK.back (ih (k + 1,u) _ ⟨by simp only;rw [hsn,if_neg (by simp [hnos]),List.append_nil];exact hr.mod (hg2'.trans hg3) (fun _ _ h=>h),hf,hg23,by simp only;omega⟩ (by simp only;omega)) ⟨rfl,rfl,rfl,rfl,rfl,rfl,trivial⟩
  ·have hnos:holdZ now ls v (pubZ s)=false:=by unfold holdZ pubZ;simp only;rw [decide_eq_false h35];rfl
   iterate 4 refine RL.no (.no rfl rfl rfl rfl) rfl rfl ?_
   refine GG ?_
   iterate 4 refine RL.no (.no rfl rfl rfl rfl) rfl rfl ?_
   refine GG ?_
   refine RK.condF rfl ?_
   refine RK.skip ?_
   refine RK.inBlock ?_
   refine RK.region ?_
   iterate 2 refine RL.p rfl rfl ?_
   refine RL.re (d:=20) rfl rfl (succ_i64 (by omega)) ?_
   refine GG ?_
   exact RK.back (ih (k + 1,u) _ ⟨by simp only;rw [hsn,if_neg (by simp [hnos]),List.append_nil];exact hr.mod hg2' (fun _ _ h=>h),hf,hg2,by simp only;omega⟩ (by simp only;omega)) ⟨rfl,rfl,rfl,rfl,rfl,rfl,trivial⟩
 ·have ek:al.take k=al:=List.take_of_length_le (by omega)
  rw [ek,hals] at hr
  refine RK.exit rfl ?_
  refine GG ?_
  refine RK.ret_of Tryz.func28 (res1 rfl rfl) ?_ _
  exact ⟨_,rfl,hr,hf,hg⟩
end Go.Proofs.YtbcbfjnlnmhpbaaGreat
