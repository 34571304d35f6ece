/- What the claim stands on, part 7. Of own lemmas only those that it reaches. -/
import Derived.Test.YtbcbfjnlnmhpbaaGreatKv6
set_option linter.unusedVariables false
set_option linter.unusedSimpArgs false
set_option maxHeartbeats 1600000
set_option maxRecDepth 100000
namespace Go.Proofs.YtbcbfjnlnmhpbaaGreat
open Go Go.X
theorem overlapsX (vs:Array Value) (w:World):(callFunc 165 vs).run Tryz.prog w=((Extern.SlicesOverlaps.overlaps #[153,153] #[4] vs).run Tryz.prog w).andThen fun v w'=>.ok (.value v) w':=
 run_callFunc_extern Tryz.func165 (by kernel_rfl) (by kernel_rfl) (by kernel_rfl) (by kernel_rfl) vs w
theorem allOne_en (q:List En):(q.flatMap enC).all (·.oneCell')=true:=by
 rw [List.all_eq_true]
 intro u hu
 obtain ⟨a,_,hu⟩:=List.mem_flatMap.1 hu
 simp only [enC,List.mem_cons,List.not_mem_nil,or_false] at hu
 rcases hu with rfl | rfl <;> rfl
theorem slE {w:World} {b T:Nat} {e:En} (M:Nat→Prop) (h:Blk w b T (enC e)) (hM:¬ M b):Sl M w (.slice (some ⟨b,0,none⟩) 1 1) 2 1 (enC e):=
 ⟨rfl,by decide,_,_,rfl,fun _=>⟨b,0,rfl,hM,fun j u hj=>by rw [Nat.zero_add];exact h.cell' hj⟩⟩
theorem ins_cut {A E S X R:List Value} {a s:Nat} (hA:A.length=a * 2) (hE:E.length=2) (hS:S.length=s * 2) (hX:X=A ++ R) :
  (X.take (a * 2) ++ E ++ X.drop ((a + 1) * 2)).take ((a + 1) * 2) ++ S=A ++ E ++ S:=by
 subst hX
 have e1:(A ++ R).take (a * 2)=A:=by rw [← hA,List.take_left]
 rw [e1,List.take_append_of_le_length (by simp only [List.length_append];omega),List.take_of_length_le (by simp only [List.length_append];omega)]
theorem ins_put {A B E S R:List Value} {a s k:Nat} (hA:A.length=a * 2) (hB:B.length=(a + 1) * 2) (hE:E.length=2) (hS:S.length=s * 2) (hAB:B.take (a * 2)=A) (hk:k=a + 1 + s) :
  ((B ++ S ++ R).take (a * 2) ++ E ++ (B ++ S ++ R).drop ((a + 1) * 2)).take (k * 2)=A ++ E ++ S:=by
 have e1:(B ++ S ++ R).take (a * 2)=A:=by
  rw [List.append_assoc,List.take_append_of_le_length (by omega)]
  exact hAB
 have e2:(B ++ S ++ R).drop ((a + 1) * 2)=S ++ R:=by
  rw [List.append_assoc,← hB,List.drop_left]
 rw [e1,e2,← List.append_assoc,List.take_append_of_le_length (by simp only [List.length_append];omega),List.take_of_length_le (by simp only [List.length_append];omega)]
theorem insEnd_ok (q:List En) (e:En) (v:Value) (b2:Nat) (w:World) (hv:Row w 164 2 v q.length (q.flatMap enC)) (hE:Blk w b2 164 (enC e)) (hb:q.length≤1000000) :
  Fx Tryz.prog 137 [v,.int .i64 (q.length:Int),.slice (some ⟨b2,0,none⟩) 1 1] w (fun u w'=>Row w' 164 2 u (q.length + 1) ((q ++ [e]).flatMap enC)∧Mod (fun b=>v.ownBlock=some b) w w'∧(u.ownBlock=v.ownBlock∨u.ownBlock=some w.heap.size)):=by
 obtain ⟨ad,c,rfl⟩:=hv.slice
 refine enter Tryz.func137 rfl rfl rfl _ (Pick.sub (l:=[0,1,2]) (.cons rfl (.cons rfl (.cons rfl .nil)))) ?_
 refine GG ?_
 refine QQ (Yld.sliceFrom u153 i164 (m:=q.length) rfl rfl (Nat.le_refl _)) ?_
 refine GG ?_
 refine QQ (Yld.lenSl u153 rfl) ?_
 refine GG ?_
 refine RK.condF (hcF rfl (rfl)) ?_
 refine GG ?_
 refine QQ (Yld.lenSl u153 rfl) ?_
 refine GG ?_
 refine RK.condT (hcT rfl (decide_eq_true rfl)) ?_
 refine GG ?_
 refine OP (Does.append u153 i164 rfl rfl rfl rfl rfl (hv) (slE No hE (fun h=>h)) (rfl) (by omega)) ?_
 rintro u3 w3 ⟨hr3,hm3,hu3⟩
 refine GG ?_
 refine RK.ret_of Tryz.func137 (res1 rfl rfl) ?_ _
 exact ⟨_,rfl,by rw [List.flatMap_append,List.flatMap_singleton];exact hr3,hm3,hu3⟩
theorem insMid_ok (q : List En) (e : En) (i : Nat) (v : Value) (b2 : Nat) (w : World) (hv : Row w 164 2 v q.length (q.flatMap enC)) (hE : Blk w b2 164 (enC e)) (hne : v.ownBlock ≠ some b2) (hi : i < q.length) (hb : q.length ≤ 1000000) :
    Fx Tryz.prog 137 [v,.int .i64 (i:Int),.slice (some ⟨b2,0,none⟩) 1 1] w (fun u w'=>Row w' 164 2 u (q.length + 1) ((q.take i ++ e :: q.drop i).flatMap enC)∧Mod (fun b=>v.ownBlock=some b) w w'∧(u.ownBlock=v.ownBlock∨u.ownBlock=some w.heap.size)):=by
  obtain ⟨gb,cp,cs,rfl,hbk,hl,hkc,hcm,htk⟩:=hv.whole (by omega)
  have hmax:maxLen≤9223372036854775807:=by decide
  have hgb2:gb≠b2:=fun h=>hne (by rw [h];rfl)
  have hb2lt:=hE.lt
  have hgblt:=hbk.lt
  have hpre:cs.take (i * 2)=(q.take i).flatMap enC:=by
    rw [← flat_take enC 2 enC_len,← htk,List.take_take,Nat.min_eq_left (by omega)]
  have hsuf:(cs.drop (i * 2)).take ((q.length - i) * 2)=(q.drop i).flatMap enC:=by
    rw [← flat_drop enC 2 enC_len,← htk,List.drop_take]
    congr 1
    omega
  have hall:(q.take i ++ e :: q.drop i).flatMap enC=cs.take (i * 2) ++ enC e ++ (cs.drop (i * 2)).take ((q.length - i) * 2):=by
    rw [List.flatMap_append,List.flatMap_cons,hpre,hsuf,List.append_assoc]
  have hA:(cs.take (i * 2)).length=i * 2:=by rw [List.length_take,hl];omega
  have hS:((cs.drop (i * 2)).take ((q.length - i) * 2)).length=(q.length - i) * 2:=by rw [List.length_take,List.length_drop,hl];omega
  have hone:((cs.drop (i * 2)).take ((q.length - i) * 2)).all (·.oneCell')=true:=by rw [hsuf];exact allOne_en _
  have hk1:i + (q.length + 1 - i)=q.length + 1:=by omega
  refine enter Tryz.func137 rfl rfl rfl _ (Pick.sub (l:=[0,1,2]) (.cons rfl (.cons rfl (.cons rfl .nil)))) ?_
  refine RK.seq ?_
  refine RK.region ?_
  refine RL.p rfl rfl ?_
  refine RL.done ?_
  refine RK.seq ?_
  refine RK.region ?_
  iterate 2 refine RL.p rfl rfl ?_
  refine RL.q (.free rfl) rfl rfl (Yld.sliceFrom u153 i164 (m:=i) rfl rfl (by omega)) ?_
  refine RL.done ?_
  refine RK.seq ?_
  refine RK.region ?_
  refine RL.p rfl rfl ?_
  refine RL.q (.free rfl) rfl rfl (Yld.lenSl u153 rfl) ?_
  refine RL.p rfl rfl ?_
  refine RL.done ?_
  iterate 2 refine RK.seq ?_
  refine RK.region ?_
  iterate 2 refine RL.p rfl rfl ?_
  refine RL.done ?_
  refine RK.condF (hcF rfl (rfl)) ?_
  refine RK.skip ?_
  refine RK.seq ?_
  refine RK.region ?_
  refine RL.p rfl rfl ?_
  refine RL.q (.free rfl) rfl rfl (Yld.lenSl u153 rfl) ?_
  refine RL.p rfl rfl ?_
  refine RL.done ?_
  iterate 2 refine RK.seq ?_
  refine RK.region ?_
  iterate 3 refine RL.p rfl rfl ?_
  refine RL.done ?_
  refine RK.condF (hcF rfl (decide_eq_false (by omega))) ?_
  refine RK.skip ?_
  iterate 2 refine RK.seq ?_
  refine RK.region ?_
  iterate 3 refine RL.p rfl rfl ?_
  refine RL.re (d:=28) rfl rfl (add_i64 (z:=((q.length + 1:Nat):Int)) (by simp) (by omega) (by omega)) ?_
  refine RL.p rfl rfl ?_
  refine RL.q (.free rfl) rfl rfl (Yld.capSl u153 rfl) ?_
  refine RL.p rfl rfl ?_
  refine RL.done ?_
  first | refine RK.condD rfl (fun h31=>?_) (fun h31=>?_) | refine RK.condN rfl (fun h31=>?_) (fun h31=>?_) | refine RK.cond rfl (fun h31=>?_) (fun h31=>?_)
  · refine RK.seq ?_
    refine RK.region ?_
    iterate 2 refine RL.p rfl rfl ?_
    refine RL.q (.free rfl) rfl rfl (Yld.sliceHi u153 i164 (m:=i) rfl rfl (by omega)) ?_
    iterate 3 refine RL.p rfl rfl ?_
    refine RL.re (d:=37) rfl rfl (add_i64 (z:=((q.length + 1:Nat):Int)) (by simp) (by omega) (by omega)) ?_
    iterate 2 refine RL.p rfl rfl ?_
    refine RL.re (d:=39) rfl rfl (sub_i64 (z:=((q.length + 1 - i:Nat):Int)) (by omega) (by omega) (by omega)) ?_
    refine RL.op (.free rfl) rfl rfl (Does.appendZG u153 Tryz.underlying3 i164 rfl rfl rfl (k:=i) (m:=q.length + 1 - i) rfl rfl (Sl.own (Row.shut hbk hl (by omega) hcm) (fun _ _ h=>h)) (by omega) (by omega) (by omega)) ?_
    rintro _ w2 ⟨cp2,zs,rfl,hn2,hc1,hc2,hzs,hg2⟩
    rw [hk1] at hc1
    have hX1:(cs.take (i * 2) ++ zs).length=cp2 * 2:=by rw [List.length_append,hA,hzs];omega
    have hE2:Blk w2 b2 164 (enC e):=hE.mod hg2 (fun h=>h)
    refine RL.p rfl rfl ?_
    refine RL.done ?_
    refine RK.seq ?_
    refine RK.region ?_
    iterate 2 refine RL.p rfl rfl ?_
    refine RL.q (.free rfl) rfl rfl (Yld.sliceFrom u153 i164 (m:=i) rfl rfl (by omega)) ?_
    refine RL.p rfl rfl ?_
    refine RL.op (.free rfl) rfl rfl (Does.copyG u153 i164 (lo:=i) (cap:=cp2) (m:=1) (L:=1) rfl rfl hn2.blk hX1 (slE No hE2 (fun h=>h)) (by omega) (by omega) (by omega) rfl) ?_
    rintro _ w3 ⟨hb3,hm3,hs3⟩
    have hsz:=hn2.blk.lt
    have hX2:((cs.take (i * 2) ++ zs).take (i * 2) ++ (enC e).take (1 * 2) ++ (cs.take (i * 2) ++ zs).drop ((i + 1) * 2)).length=cp2 * 2:=by simp only [List.length_append,List.length_take,List.length_drop,hA,hzs,enC_len];omega
    refine RL.done ?_
    refine RK.seq ?_
    refine RK.drawM (·=w.heap.size) [(0,false),(1,false),(2,false),(3,false),(4,false),(5,false),(6,false),(7,false),(8,true)] [] mixed (by kernel_rfl) ?_
    iterate 4 refine DL.p rfl rfl rfl ?_
    refine DL.re (d:=49) rfl rfl (add_i64 (z:=((i + 1:Nat):Int)) (by simp) (by omega) (by omega)) ?_
    refine DL.qf rfl (.free rfl) rfl rfl (Yld.sliceFrom u153 i164 (m:=i + 1) rfl rfl (by omega)) ?_
    have hg3:Mod (·=w.heap.size) w w3:=(Mod.any' hg2).trans hm3
    have hbk3:Blk w3.drew gb 164 cs:=(hbk.mod hg3 (by omega)).mod (Mod.drew No _) (fun h=>h)
    iterate 2 refine DL.p rfl rfl rfl ?_
    refine DL.qf rfl (.free rfl) rfl rfl (Yld.sliceFrom u153 i164 (m:=i) rfl rfl (by omega)) ?_
    refine DL.op rfl (.free rfl) rfl rfl (Does.copyG u153 i164 (lo:=i + 1) (cap:=cp2) (m:=q.length - i) (L:=q.length - i) rfl rfl (hb3.mod (Mod.drew No _) (fun h=>h)) hX2 (Sl.ofBlk hbk3 hl (by omega) (fun h=>h) (by omega)) (by omega) (by omega) (by omega) (by rw [List.take_take,Nat.min_self];exact hone)) ?_
    rintro _ w4 ⟨hb4,hm4,hs4⟩
    refine ⟨(Mod.drew _ _).trans hm4,?_⟩
    refine DL.done ?_
    refine RK.seq ?_
    refine RK.region ?_
    iterate 2 refine RL.p rfl rfl ?_
    refine RL.done ?_
    refine RK.ret_of Tryz.func137 (res1 rfl rfl) ?_ _
    exact ⟨_, rfl, by
        have hR:=Row.shut hb4 (sz:=2) (cap:=cp2) (k:=q.length + 1) (by simp only [List.length_append,List.length_take,List.length_drop,hA,hzs,enC_len,hS,hl];omega) (by omega) hc2
        have hcut:=ins_cut (A:=cs.take (i * 2)) (E:=(enC e).take (1 * 2)) (S:=((cs.drop (i * 2)).take ((q.length - i) * 2)).take ((q.length - i) * 2)) (X:=cs.take (i * 2) ++ zs) (R:=zs) (a:=i) (s:=q.length - i) hA rfl (by rw [List.take_take,Nat.min_self];exact hS) rfl
        rw [hcut,List.take_append_of_le_length (by simp only [List.length_append,List.length_take,List.length_drop,hA,enC_len,hS,hl];omega),List.take_of_length_le (by simp only [List.length_append,List.length_take,List.length_drop,hA,enC_len,hS,hl];omega),List.take_take,Nat.min_self] at hR
        rw [hk1,hall]
        exact hR,((hg3.trans (Mod.drew _ _)).trans hm4).mono (fun b hb e=>absurd e (Nat.ne_of_lt hb)),.inr rfl⟩
  · have hcn:q.length + 1≤cp:=by omega
    refine RK.skip ?_
    refine RK.seq ?_
    refine RK.region ?_
    iterate 4 refine RL.p rfl rfl ?_
    refine RL.re (d:=59) rfl rfl (add_i64 (z:=((q.length + 1:Nat):Int)) (by simp) (by omega) (by omega)) ?_
    refine RL.q (.free rfl) rfl rfl (Yld.sliceHi u153 i164 (m:=q.length + 1) rfl rfl (by omega)) ?_
    refine RL.p rfl rfl ?_
    refine RL.done ?_
    iterate 2 refine RK.seq ?_
    refine RK.region ?_
    iterate 5 refine RL.p rfl rfl ?_
    refine RL.re (d:=65) rfl rfl (add_i64 (z:=((i + 1:Nat):Int)) (by simp) (by omega) (by omega)) ?_
    refine RL.q (.free rfl) rfl rfl (Yld.sliceFrom u153 i164 (m:=i + 1) rfl rfl (by omega)) ?_
    refine RL.op (.free rfl) rfl rfl (Does.overlapsNo u153 i164 overlapsX rfl (by split <;> rfl) hE hbk (fun h=>hgb2 h.symm) (fun h=>by rw [h] at hl;simp at hl;omega)) ?_
    rintro _ _ ⟨rfl,rfl⟩
    refine RL.p rfl rfl ?_
    refine RL.done ?_
    refine RK.condT (hcT rfl (rfl)) ?_
    refine RK.seq ?_
    refine RK.drawM (·=gb) [(0,false),(1,false),(2,false),(3,false),(4,false),(5,false),(6,false),(7,false),(8,true)] [] mixed (by kernel_rfl) ?_
    iterate 4 refine DL.p rfl rfl rfl ?_
    refine DL.re (d:=72) rfl rfl (add_i64 (z:=((i + 1:Nat):Int)) (by simp) (by omega) (by omega)) ?_
    refine DL.qf rfl (.free rfl) rfl rfl (Yld.sliceFrom u153 i164 (m:=i + 1) rfl rfl (by omega)) ?_
    have hbkd:Blk w.drew gb 164 cs:=hbk.mod (Mod.drew No _) (fun h=>h)
    have htt:((cs.drop (i * 2)).take ((q.length + 1 - i) * 2)).take ((q.length - i) * 2)=(cs.drop (i * 2)).take ((q.length - i) * 2):=by rw [List.take_take];congr 1;omega
    iterate 2 refine DL.p rfl rfl rfl ?_
    refine DL.qf rfl (.free rfl) rfl rfl (Yld.sliceFrom u153 i164 (m:=i) rfl rfl (by omega)) ?_
    refine DL.op rfl (.free rfl) rfl rfl (Does.copyG u153 i164 (lo:=i + 1) (cap:=cp) (m:=q.length - i) (L:=q.length + 1 - i) rfl rfl hbkd hl (Sl.ofBlk hbkd hl (by omega) (fun h=>h) (by omega)) (by omega) (by omega) (by omega) (by rw [htt];exact hone)) ?_
    rintro _ w4 ⟨hb4,hm4,hs4⟩
    refine ⟨(Mod.drew _ _).trans hm4,?_⟩
    rw [htt] at hb4
    have hm04:Mod (·=gb) w w4:=(Mod.drew _ _).trans hm4
    have hE4:Blk w4 b2 164 (enC e):=hE.mod hm04 (fun h=>hgb2 h.symm)
    have hB:(cs.take ((i + 1) * 2)).length=(i + 1) * 2:=by rw [List.length_take,hl];omega
    have hX4:(cs.take ((i + 1) * 2) ++ (cs.drop (i * 2)).take ((q.length - i) * 2) ++ cs.drop ((i + 1 + (q.length - i)) * 2)).length=cp * 2:=by simp only [List.length_append,hS,hB,List.length_drop,hl];omega
    refine DL.done ?_
    refine RK.seq ?_
    refine RK.region ?_
    iterate 2 refine RL.p rfl rfl ?_
    refine RL.q (.free rfl) rfl rfl (Yld.sliceFrom u153 i164 (m:=i) rfl rfl (by omega)) ?_
    refine RL.p rfl rfl ?_
    refine RL.op (.free rfl) rfl rfl (Does.copyG u153 i164 (lo:=i) (cap:=cp) (m:=1) (L:=1) rfl rfl hb4 hX4 (slE No hE4 (fun h=>h)) (by omega) (by omega) (by omega) rfl) ?_
    rintro _ w5 ⟨hb5,hm5,hs5⟩
    refine RL.done ?_
    refine RK.seq ?_
    refine RK.region ?_
    iterate 2 refine RL.p rfl rfl ?_
    refine RL.done ?_
    refine RK.ret_of Tryz.func137 (res1 rfl rfl) ?_ _
    exact ⟨_, rfl, by
        have hR:=Row.shut hb5 (sz:=2) (cap:=cp) (k:=q.length + 1) (by simp only [List.length_append,List.length_take,List.length_drop,hS,hB,hA,enC_len,hl];omega) (by omega) hcm
        have hcut:=ins_put (A:=cs.take (i * 2)) (B:=cs.take ((i + 1) * 2)) (E:=enC e) (S:=(cs.drop (i * 2)).take ((q.length - i) * 2)) (R:=cs.drop ((i + 1 + (q.length - i)) * 2)) (a:=i) (s:=q.length - i) (k:=q.length + 1) hA hB rfl hS (by rw [List.take_take];congr 1;omega) (by omega)
        rw [show (enC e).take (1 * 2)=enC e from rfl,hcut] at hR
        rw [hall]
        exact hR,(hm04.trans hm5).mono (fun b _ e=>by rw [e];rfl),.inl rfl⟩
end Go.Proofs.YtbcbfjnlnmhpbaaGreat
set_option linter.unusedVariables false
set_option linter.unusedSimpArgs false
set_option maxHeartbeats 1600000
set_option maxRecDepth 100000
namespace Go.Proofs.YtbcbfjnlnmhpbaaGreat
open Go Go.X
theorem insE_ok (q:List En) (e:En) (i:Nat) (v:Value) (b2:Nat) (w:World) (hv:Row w 164 2 v q.length (q.flatMap enC)) (hE:Blk w b2 164 (enC e)) (hne:v.ownBlock≠some b2) (hi:i≤q.length) (hb:q.length≤1000000) :
  Fx Tryz.prog 137 [v,.int .i64 (i:Int),.slice (some ⟨b2,0,none⟩) 1 1] w (fun u w'=>Row w' 164 2 u (q.length + 1) ((q.take i ++ e :: q.drop i).flatMap enC)∧Mod (fun b=>v.ownBlock=some b) w w'∧(u.ownBlock=v.ownBlock∨u.ownBlock=some w.heap.size)):=by
 by_cases h:i < q.length
 ·exact insMid_ok q e i v b2 w hv hE hne h hb
 ·obtain rfl:i=q.length:=by omega
  have h1:=insEnd_ok q e v b2 w hv hE hb
  rw [List.take_of_length_le (Nat.le_refl _),List.drop_of_length_le (Nat.le_refl _)]
  exact h1
theorem deleteE_ok (q : List En) (i : Nat) (v : Value) (w : World) (hv : Row w 164 2 v q.length (q.flatMap enC)) (hi : i < q.length) (hb : q.length ≤ 1000000) :
    Fx Tryz.prog 107 [v,.int .i64 (i:Int),.int .i64 ((i + 1:Nat):Int)] w (fun u w'=>Row w' 164 2 u (q.eraseIdx i).length ((q.eraseIdx i).flatMap enC)∧u.ownBlock=v.ownBlock∧Mod (fun b=>v.ownBlock=some b) w w'):=by
  obtain ⟨gb,cp,cs,rfl,hbk,hl,hkc,hcm,htk⟩:=hv.whole (by omega)
  have hmax:maxLen≤9223372036854775807:=by decide
  have hnews:(cs.drop ((i + 1) * 2)).take ((q.length - (i + 1)) * 2)=(q.drop (i + 1)).flatMap enC:=by
    rw [← flat_drop enC 2 enC_len,← htk,List.drop_take]
    congr 1
    omega
  have hpre:cs.take (i * 2)=(q.take i).flatMap enC:=by
    rw [← flat_take enC 2 enC_len,← htk,List.take_take,Nat.min_eq_left (by omega)]
  have herase:(q.take i).flatMap enC ++ (q.drop (i + 1)).flatMap enC=(q.eraseIdx i).flatMap enC:=by
    rw [List.eraseIdx_eq_take_drop_succ,List.flatMap_append]
  have hlen:(q.eraseIdx i).length=i + (q.length - (i + 1)):=by rw [List.length_eraseIdx];simp [hi];omega
  have hone:((cs.drop ((i + 1) * 2)).take ((q.length - (i + 1)) * 2)).all (·.oneCell')=true:=by
    rw [hnews]
    exact allOne_en _
  have hbd:∀ w',Grow w w'→Blk w' gb 164 cs:=fun w' h=>hbk.mod h (fun h=>h)
  refine enter Tryz.func107 rfl rfl rfl _ (Pick.sub (l:=[0,1,2]) (.cons rfl (.cons rfl (.cons rfl .nil)))) ?_
  refine RK.seq ?_
  refine RK.region ?_
  refine RL.p rfl rfl ?_
  refine RL.done ?_
  refine RK.seq ?_
  refine RK.region ?_
  iterate 4 refine RL.p rfl rfl ?_
  refine RL.q (.free rfl) rfl rfl (Yld.lenSl u153 rfl) ?_
  refine RL.q (.free rfl) rfl rfl (Yld.slice3 u153 i164 (lo:=i) (hi:=i + 1) (mx:=q.length) rfl rfl rfl rfl (by omega) (by omega) hkc) ?_
  refine RL.done ?_
  iterate 2 refine RK.seq ?_
  refine RK.region ?_
  iterate 3 refine RL.p rfl rfl ?_
  refine RL.done ?_
  refine RK.condF (hcF rfl (decide_eq_false (by omega))) ?_
  refine RK.skip ?_
  refine RK.seq ?_
  refine RK.region ?_
  refine RL.p rfl rfl ?_
  refine RL.q (.free rfl) rfl rfl (Yld.lenSl u153 rfl) ?_
  refine RL.p rfl rfl ?_
  refine RL.done ?_
  refine RK.seq ?_
  refine RK.drawM (·=gb) [(0,false),(1,false),(2,false),(3,false),(4,false),(5,false),(6,true),(7,false)] [] mixed (by kernel_rfl) ?_
  iterate 2 refine DL.p rfl rfl rfl ?_
  refine DL.qf rfl (.free rfl) rfl rfl (Yld.sliceHi u153 i164 (m:=i) rfl rfl (by omega)) ?_
  iterate 2 refine DL.p rfl rfl rfl ?_
  refine DL.qf rfl (.free rfl) rfl rfl (Yld.sliceFrom u153 i164 (m:=i + 1) rfl rfl (by omega)) ?_
  refine DL.op rfl (.free rfl) rfl rfl (Does.appendIn u153 i164 (m:=q.length - (i + 1)) rfl rfl (hbd _ (Mod.drew No _)) hl (Sl.ofBlk (hbd _ (Mod.drew No _)) hl (by omega) (fun h=>h) (by omega)) hone (by omega)) ?_
  rintro _ w3 ⟨rfl,⟨cs3,hb3,hl3,ht3⟩,hm3,hs3⟩
  refine ⟨(Mod.drew _ _).trans hm3,?_⟩
  refine DL.p rfl rfl rfl ?_
  refine DL.done ?_
  refine RK.seq ?_
  refine RK.region ?_
  iterate 2 refine RL.p rfl rfl ?_
  refine RL.q (.free rfl) rfl rfl (Yld.lenSl u153 rfl) ?_
  refine RL.p rfl rfl ?_
  refine RL.q (.free rfl) rfl rfl (Yld.sliceLH u153 i164 (lo:=i + (q.length - (i + 1))) (hi:=q.length) rfl rfl rfl (by omega) (by omega)) ?_
  refine RL.op' (.free rfl) rfl (Does.clear u153 i164 (cap:=cp) (lo:=i + (q.length - (i + 1))) (m:=q.length - (i + (q.length - (i + 1)))) rfl (by simp [Value.cells,Value.oneCell']) rfl hb3 (by rw [hl3,hl]) (by omega)) ?_
  rintro _ w4 ⟨⟨cs4,hb4,hl4,ht4⟩,hm4,hs4⟩
  refine RL.done ?_
  refine RK.seq ?_
  refine RK.region ?_
  iterate 2 refine RL.p rfl rfl ?_
  refine RL.done ?_
  refine RK.ret_of Tryz.func107 (res1 rfl rfl) ?_ _
  exact ⟨_, rfl, by
      rw [ht3,hpre,hnews,herase] at ht4
      rw [← ht4,hlen]
      exact Row.shut hb4 (by rw [hl4,hl3,hl]) (by omega) hcm,rfl,(((Mod.drew _ _).trans hm3).trans hm4).mono fun b _ e=>congrArg some e.symm⟩
theorem placeE1_ok (w:World) (b:Nat) (id:Int) (hb:Blk w b 3 [.int .i64 id]) (x:En):Fx Tryz.prog 198 [.agg (enC x).toArray,pp b] w (fun u w'=>u=.bool (decide (x.id=id))∧Grow w w'):=by
 refine enter Tryz.func198 rfl rfl rfl _ (Pick.sub (l:=[0,1]) (.cons rfl (.cons rfl .nil))) ?_
 refine GG ?_
 refine OP (Does.box rfl) ?_
 rintro _ w1 ⟨bx,rfl,hbx⟩
 refine GG ?_
 refine QQ (Yld.fieldAddr fo164_1 rfl) ?_
 refine QQ (Yld.load p3 rfl (at1 (hbx.blk.cell rfl))) ?_
 refine QQ (Yld.load p3 rfl (at1 ((hb.mod hbx.grow (fun h=>h)).cell rfl))) ?_
 refine GG ?_
 refine RK.ret_of Tryz.func198 (res1 rfl rfl) ?_ _
 exact ⟨_,rfl,rfl,hbx.grow⟩
theorem ixE_ok (q:List En) (v:Value) (id:Int) (b4:Nat) (w:World) (hv:Sl No w v 2 q.length (q.flatMap enC)) (hb:Blk w b4 3 [.int .i64 id]) :
  Fx Tryz.prog 197 [v,.func (.func 198) #[] #[pp b4]] w (fun u w'=>u=.int .i64 (optI (q.findIdx? fun x=>decide (x.id=id)))∧Grow w w'):=by
 obtain ⟨ad,c,rfl⟩:=hv.shape
 have hbig:=hv.big
 refine enter Tryz.func197 rfl rfl rfl _ (Pick.sub (l:=[0,1]) (.cons rfl (.cons rfl .nil))) ?_
 refine GG ?_
 refine QQ (Yld.lenSl u153 rfl) ?_
 refine GG ?_
 refine RK.loop (fun k:Nat=>[(0,.slice ad q.length c),(1,.func (.func 198) #[] #[pp b4]),(7,.int .i64 q.length),(8,.int .i64 k)]) (fun k w'=>Grow w w'∧k≤q.length∧∀ (i:Nat) (a:En),i < k→q[i]?=some a→a.id≠id) (fun k=>q.length - k) 0 ⟨rfl,rfl,rfl,rfl,trivial⟩ ⟨Mod.refl _ _,by omega,fun i a h=>by omega⟩ (fun k w' hI ih=>?_)
 obtain ⟨hg,hk,hno⟩:=hI
 refine GG ?_
 refine CD (fun h9=>?_) (fun h9=>?_)
 ·obtain ⟨x,hx⟩:∃ x,q[k]?=some x:=⟨q[k]'(by omega),List.getElem?_eq_getElem (by omega)⟩
  obtain ⟨b1,o1,c1',he1,_,_,hc1⟩:=hv.elem enC_len hx
  cases he1
  refine GG ?_
  refine QQ (Yld.indexAddrN u153 i164 rfl rfl (by omega)) ?_
  refine QQ (Yld.loadN (cs:=enC x) a164 rfl (atN (fun j u hj=>hg.cell (hc1 j u hj) (fun h=>h)))) ?_
  refine OP (Does.callv rfl rfl e198 (placeE1_ok _ b4 id (hb.mod hg (fun h=>h)) x)) ?_
  rintro _ w2 ⟨rfl,hg2⟩
  refine RL.done ?_
  refine CD (fun h16=>?_) (fun h16=>?_)
  ·refine GG ?_
   refine RK.ret_of Tryz.func197 (res1 rfl rfl) ?_ _
   exact ⟨_,rfl,congrArg _ (by
     have:q.findIdx? (fun x=>decide (x.id=id))=some k:=by
      rw [List.findIdx?_eq_some_iff_getElem]
      refine ⟨by omega,?_,fun j hj=>?_⟩
      ·simp [(List.getElem?_eq_some_iff.1 hx).2,h16]
      ·simpa using hno j (q[j]'(by omega)) hj (List.getElem?_eq_getElem (by omega))
     rw [this];rfl),hg.trans hg2⟩
  ·refine RK.skip ?_
   refine RK.inBlock ?_
   refine RK.region ?_
   refine RL.p rfl rfl ?_
   refine RL.re (d:=18) rfl rfl (succ_i64 (by omega)) ?_
   refine GG ?_
   exact RK.back (ih (k + 1) _ ⟨hg.trans hg2,by omega,fun i a' hi ha'=>by by_cases e:i=k;(subst e;rw [hx] at ha';cases ha';exact h16);exact hno i a' (by omega) ha'⟩ (by omega)) ⟨rfl,rfl,rfl,rfl,trivial⟩
 ·refine RK.exit rfl ?_
  refine GG ?_
  refine RK.ret_of Tryz.func197 (res1 rfl rfl) ?_ _
  exact ⟨_,rfl,congrArg _ (by
    have:q.findIdx? (fun x=>decide (x.id=id))=none:=by
     rw [List.findIdx?_eq_none_iff]
     intro x hx
     obtain ⟨i,hi⟩:=List.getElem?_of_mem hx
     have hil:=(List.getElem?_eq_some_iff.1 hi).1
     simpa using hno i x (by omega) hi
    rw [this];rfl),hg⟩
structure QAt (w:World) (p:Nat) (q:List En) (v:Value):Prop where
 blk:Blk w p 155 [v]
 row:Row w 164 2 v q.length (q.flatMap enC)
 ne:v.ownBlock≠some p
theorem QAt.mod {M:Nat→Prop} {w w' : World} {p:Nat} {q:List En} {v:Value} (h:QAt w p q v) (hm:Mod M w w') (hp:¬ M p) (hv:∀ b,v.ownBlock=some b→¬ M b):QAt w' p q v:=⟨h.blk.mod hm hp,h.row.mod hm hv,h.ne⟩
theorem QAt.grow {w w' : World} {p:Nat} {q:List En} {v:Value} (h:QAt w p q v) (hm:Grow w w'):QAt w' p q v:=h.mod hm (fun h=>h) (fun _ _ h=>h)
theorem reapNew_ok (w:World):Fx Tryz.prog 44 [] w (fun u w'=>∃ p,u=pp p∧p=w.heap.size∧QAt w' p [] (.slice none 0 0)∧Grow w w'∧w'.heap.size=w.heap.size + 1):=by
 refine enter Tryz.func44 rfl rfl rfl _ (Pick.sub (l:=[]) .nil) ?_
 refine GG ?_
 refine QQ (Yld.build (v:=.agg #[.slice none 0 0]) rfl (fun w=>by kernel_rfl)) ?_
 refine OP (Does.box rfl) ?_
 rintro _ w1 ⟨b1,rfl,hn1⟩
 refine GG ?_
 refine RK.ret_of Tryz.func44 (res1 rfl rfl) ?_ _
 exact ⟨_,rfl,b1,rfl,hn1.at_,⟨hn1.blk,Row.nil _ _ _,by simp [Value.ownBlock]⟩,hn1.grow,hn1.size⟩
theorem place_ok (w:World) (p:Nat) (q:List En) (v:Value) (h:QAt w p q v) (id:Int) :
  Fx Tryz.prog 163 [pp p,.int .i64 id] w (fun u w'=>u=.int .i64 (optI (q.findIdx? fun x=>decide (x.id=id)))∧Grow w w'):=by
 refine enter Tryz.func163 rfl rfl rfl _ (Pick.sub (l:=[0,1]) (.cons rfl (.cons rfl .nil))) ?_
 refine GG ?_
 refine OP (Does.box rfl) ?_
 rintro _ w1 ⟨b3,rfl,hn3⟩
 refine GG ?_
 refine QQ (Yld.fieldAddr fo155_0 rfl) ?_
 refine QQ (Yld.load p153 rfl (at1 ((h.blk.mod hn3.grow (fun h=>h)).cell rfl))) ?_
 refine RL.p rfl rfl ?_
 refine OP (Does.call rfl e197 (ixE_ok q v id b3 _ (Sl.own (h.row.mod hn3.grow (fun _ _ h=>h)) (fun _ _ h=>h)) hn3.blk)) ?_
 rintro _ w2 ⟨rfl,hg2⟩
 refine GG ?_
 refine RK.ret_of Tryz.func163 (res1 rfl rfl) ?_ _
 exact ⟨_,rfl,rfl,hn3.grow.trans hg2⟩
def dropE (q:List En) (id:Int):List En:=q.eraseP fun x=>decide (x.id=id)
theorem reapDrop_ok (w:World) (p:Nat) (q:List En) (v:Value) (h:QAt w p q v) (id:Int) (hb:q.length≤1000000) :
  Fx Tryz.prog 134 [pp p,.int .i64 id] w (fun u w'=>(∃ b,u=.bool b)∧∃ v',QAt w' p (dropE q id) v'∧v'.ownBlock=v.ownBlock∧Mod (fun b=>b=p∨v.ownBlock=some b) w w'):=by
 have hcall:=place_ok w p q v h id
 cases hf:q.findIdx? (fun x=>decide (x.id=id)) with
 | none=>
  have e:dropE q id=q:=by unfold dropE;rw [List.eraseP_eq_eraseIdx,hf]
  rw [hf] at hcall
  refine enter Tryz.func134 rfl rfl rfl _ (Pick.sub (l:=[0,1]) (.cons rfl (.cons rfl .nil))) ?_
  refine GG ?_
  refine OP (Does.call rfl e163 (hcall)) ?_
  rintro _ w2 ⟨rfl,hg2⟩
  refine GG ?_
  refine RK.condT (hcT rfl (rfl)) ?_
  refine GG ?_
  refine RK.ret_of Tryz.func134 (res1 rfl rfl) ?_ _
  exact ⟨_,rfl,⟨_,rfl⟩,v,e.symm ▸ h.grow hg2,rfl,Mod.any' hg2⟩
 | some k=>
  have e:dropE q id=q.eraseIdx k:=by unfold dropE;rw [List.eraseP_eq_eraseIdx,hf]
  have hk:k < q.length:=by obtain ⟨h1,_⟩:=List.findIdx?_eq_some_iff_getElem.1 hf;exact h1
  rw [hf] at hcall
  refine enter Tryz.func134 rfl rfl rfl _ (Pick.sub (l:=[0,1]) (.cons rfl (.cons rfl .nil))) ?_
  refine GG ?_
  refine OP (Does.call rfl e163 (hcall)) ?_
  rintro _ w2 ⟨rfl,hg2⟩
  have h2:=h.grow hg2
  refine GG ?_
  refine RK.condF (hcF rfl (decide_eq_false (show ¬ ((k:Int) < 0) by omega))) ?_
  refine GG ?_
  refine QQ (Yld.fieldAddr fo155_0 rfl) ?_
  refine QQ (Yld.load p153 rfl (at1 (h2.blk.cell rfl))) ?_
  iterate 3 refine RL.p rfl rfl ?_
  refine RL.re (d:=18) rfl rfl (succ_i64 (k:=k) (by omega)) ?_
  refine OP (Does.call rfl e107 (deleteE_ok q k v _ h2.row hk hb)) ?_
  rintro u3 w3 ⟨hr3,ho3,hm3⟩
  obtain ⟨ad3,c3,rfl⟩:=hr3.slice
  refine RL.p rfl rfl ?_
  refine QQ (Yld.fieldAddr fo155_0 rfl) ?_
  refine OQ (Does.store i153 rfl rfl rfl (h2.blk.mod hm3 h.ne) (.z)) ?_
  rintro _ w4 ⟨hb4,hm4,hs4⟩
  refine GG ?_
  refine RK.ret_of Tryz.func134 (res1 rfl rfl) ?_ _
  exact ⟨_,rfl,⟨_,rfl⟩,.slice ad3 _ c3,e.symm ▸ ⟨hb4,hr3.mod hm4 (fun b hb e=>h.ne (by rw [← ho3,hb,e])),by rw [ho3];exact h.ne⟩,ho3,((Mod.any' hg2).trans (hm3.mono fun b _ e=>.inr e)).trans (hm4.mono fun b _ e=>.inl e)⟩
end Go.Proofs.YtbcbfjnlnmhpbaaGreat
set_option linter.unusedVariables false
set_option linter.unusedSimpArgs false
set_option maxHeartbeats 1600000
set_option maxRecDepth 100000
namespace Go.Proofs.YtbcbfjnlnmhpbaaGreat
open Go Go.X
def putE (q:List En) (e:En):List En:=q.filter (fun a=>decide (ltE a e)) ++ e :: q.filter (fun a=>!decide (ltE a e))
theorem filter_at {α:Type} (p:α→Bool):∀ (l:List α) (i:Nat),i≤l.length→(∀ t a,t < i→l[t]?=some a→p a=true)→(∀ t a,i≤t→l[t]?=some a→p a=false)→l.filter p=l.take i∧l.filter (fun a=>!p a)=l.drop i
 | [],i,hi,_,_=>by simp
 | x :: l,0,_,_,h2=>by
  have hx:∀ a∈x :: l,p a=false:=fun a ha=>by
   obtain ⟨t,ht⟩:=List.getElem?_of_mem ha
   exact h2 t a (Nat.zero_le _) ht
  refine ⟨?_,?_⟩
  ·rw [List.take_zero,List.filter_eq_nil_iff]
   intro a ha;rw [hx a ha];simp
  ·rw [List.drop_zero,List.filter_eq_self]
   intro a ha;rw [hx a ha];rfl
 | x :: l,i + 1,hi,h1,h2=>by
  obtain ⟨e1,e2⟩:=filter_at p l i (by simpa using hi) (fun t a ht ha=>h1 (t + 1) a (by omega) (by simpa using ha)) (fun t a ht ha=>h2 (t + 1) a (by omega) (by simpa using ha))
  have hx:=h1 0 x (by omega) rfl
  refine ⟨?_,?_⟩
  ·rw [List.filter_cons_of_pos hx,e1,List.take_succ_cons]
  ·rw [List.filter_cons_of_neg (by rw [hx];simp),e2,List.drop_succ_cons]
theorem putE_at {q:List En} {e:En} {i:Nat} (hi:i≤q.length) (hlo:∀ t a,t < i→q[t]?=some a→ltE a e) (hhi:∀ t a,i≤t→q[t]?=some a→¬ ltE a e):putE q e=q.take i ++ e :: q.drop i:=by
 obtain ⟨e1,e2⟩:=filter_at (fun a=>decide (ltE a e)) q i hi (fun t a ht ha=>decide_eq_true (hlo t a ht ha)) (fun t a ht ha=>decide_eq_false (hhi t a ht ha))
 unfold putE
 rw [e1,e2]
theorem putE_perm (q:List En) (e:En):(putE q e).Perm (e :: q):=by
 unfold putE
 refine (List.perm_middle).trans (List.Perm.cons _ ?_)
 exact List.filter_append_perm _ _
theorem putE_sort {q:List En} {e:En} (hs:SortE q) (hne:e∉q):SortE (putE q e):=by
 unfold putE SortE
 rw [List.pairwise_append]
 refine ⟨hs.filter _,List.pairwise_cons.2 ⟨fun a ha=>?_,hs.filter _⟩,fun a ha b hb=>?_⟩
 ·have h1:=List.mem_filter.1 ha
  rcases ltE_total (x:=a) (y:=e) (by simpa using h1.2) with h | h
  ·exact absurd h1.1 (h ▸ hne)
  ·exact h
 ·have h1:ltE a e:=by simpa using (List.mem_filter.1 ha).2
  rcases List.mem_cons.1 hb with rfl | hb
  ·exact h1
  ·have h2:=List.mem_filter.1 hb
   rcases ltE_total (x:=b) (y:=e) (by simpa using h2.2) with h | h
   ·exact absurd h2.1 (h ▸ hne)
   ·exact ltE_trans h1 h
theorem dropE_sub (q:List En) (id:Int):(dropE q id).Sublist q:=List.eraseP_sublist
theorem dropE_sort {q:List En} (hs:SortE q) (id:Int):SortE (dropE q id):=hs.sublist (dropE_sub q id)
theorem reapPut_ok (w : World) (p : Nat) (q : List En) (v : Value) (h : QAt w p q v) (hs : SortE q) (id due : Int) (hb : q.length ≤ 1000000) :
    Fx Tryz.prog 99 [pp p,.int .i64 id,.int .u64 due] w (fun u w'=>u=.tuple #[]∧∃ v',QAt w' p (putE (dropE q id) ⟨due,id⟩) v'∧Mod (fun b=>b=p∨v.ownBlock=some b) w w'∧(∀ b,v'.ownBlock=some b→v.ownBlock=some b∨w.heap.size≤b)):=by
  have hs1:=dropE_sort hs id
  have hb1:(dropE q id).length≤1000000:=Nat.le_trans (dropE_sub q id).length_le hb
  refine enter Tryz.func99 rfl rfl rfl _ (Pick.sub (l:=[0,1,2]) (.cons rfl (.cons rfl (.cons rfl .nil)))) ?_
  refine RK.seq ?_
  refine RK.region ?_
  iterate 2 refine RL.p rfl rfl ?_
  refine RL.op (.free rfl) rfl rfl (Does.call rfl e134 (reapDrop_ok w p q v h id hb)) ?_
  rintro _ w1 ⟨⟨bb,rfl⟩,v1,hq1,ho1,hm1⟩
  refine RL.done ?_
  refine RK.seq ?_
  refine RK.region ?_
  iterate 2 refine RL.p rfl rfl ?_
  refine RL.q (.free rfl) rfl rfl (Yld.build (v:=.agg #[.int .u64 due,.int .i64 id]) rfl (fun w=>by kernel_rfl)) ?_
  refine RL.op (.free rfl) rfl rfl (Does.alloc i164) ?_
  rintro _ w2 ⟨b6,rfl,hn6⟩
  refine RL.op' (.free rfl) rfl (Does.storeN i164 rfl rfl rfl rfl hn6.blk (Nat.le_refl 2)) ?_
  rintro _ w3 ⟨hb3,hm3,_⟩
  have hB3:Blk w3 b6 164 (enC ⟨due,id⟩):=hb3
  have hg13:Grow w1 w3:=hn6.grow.then hm3 (fun y hy e=>by have e' : y=b6:=e;have:=hn6.at_;omega)
  have hq3:=hq1.grow hg13
  have hlt1:∀ b,v1.ownBlock=some b→b < w1.heap.size:=fun b e=>hq1.row.lt e
  have hz1:=hm1.size
  refine RL.done ?_
  refine RK.seq ?_
  refine RK.drawM No [(0,false),(1,false),(2,false),(3,false),(4,false),(5,true),(6,false),(7,false),(8,false),(9,false),(10,false)] [] mixed (by kernel_rfl) ?_
  iterate 2 refine DL.p rfl rfl rfl ?_
  refine DL.qf rfl (.free rfl) rfl rfl (Yld.fieldAddr fo155_0 rfl) ?_
  refine DL.q rfl (.free rfl) rfl rfl rfl (Yld.load p153 rfl (atM (hq3.blk.cell rfl) (fun h=>h))) (Mod.drew _ _) ?_
  refine DL.q rfl (.free rfl) rfl rfl rfl (Yld.loadN (cs:=enC ⟨due,id⟩) a164 rfl (atNM (blk0' hB3) (fun h=>h))) (Mod.drew _ _) ?_
  refine DL.op rfl (.free rfl) rfl rfl (Does.call rfl e135 (bsE_ok (dropE q id) ⟨due,id⟩ v1 _ (Sl.own (hq3.row.mod (Mod.drew No _) (fun _ _ h=>h)) (fun _ _ h=>h)) hs1 hb1)) ?_
  rintro _ w4 ⟨⟨i,bx,hi,hlo,hhi,rfl⟩,hg4'⟩
  have hg4:=(Mod.drew No w3).trans hg4'
  refine ⟨hg4,?_⟩
  have hq4:=hq3.grow hg4
  have hB4:=hB3.mod hg4 (fun h=>h)
  have hn6b:¬ v1.ownBlock=some b6:=fun e=>by have:=hlt1 b6 e;have:=hn6.at_;omega
  iterate 5 refine DL.p rfl rfl rfl ?_
  refine DL.done ?_
  refine RK.drawM (fun b=>v1.ownBlock=some b) [(0,false),(1,false),(2,false),(3,false),(4,false),(5,false),(6,false),(7,true),(8,true),(9,false),(10,false),(11,true)] [11] mixed (by kernel_rfl) ?_
  iterate 3 refine DL.p rfl rfl rfl ?_
  refine DL.qf rfl (.free rfl) rfl rfl (Yld.fieldAddr fo155_0 rfl) ?_
  refine DL.q rfl (.free rfl) rfl rfl rfl (Yld.load p153 rfl (atM (hq4.blk.cell rfl) (fun h=>hq4.ne h))) (Mod.drew _ _) ?_
  refine DL.p rfl rfl rfl ?_
  refine DL.q rfl (.free rfl) rfl rfl rfl (Yld.loadN (cs:=enC ⟨due,id⟩) a164 rfl (atNM (blk0' hB4) (hn6b))) (Mod.drew _ _) ?_
  refine DL.op rfl (.free rfl) rfl rfl (Does.slice1 u153 i164 rfl rfl rfl rfl rfl) ?_
  rintro _ w5 ⟨b7,rfl,hn7⟩
  refine ⟨(Mod.drew _ _).trans (Mod.any' hn7.grow),?_⟩
  have hq5:=(hq4.grow (Mod.drew No w4)).grow hn7.grow
  have hz4:w1.heap.size≤w4.heap.size:=Nat.le_trans hg13.size hg4.size
  have hn7a:w4.heap.size≤b7:=Nat.le_of_eq hn7.at_.symm
  refine DL.op rfl (.free rfl) rfl rfl (Does.call rfl e137 (insE_ok (dropE q id) ⟨due,id⟩ i v1 b7 _ hq5.row hn7.blk (fun e=>by have:=hlt1 b7 e;omega) hi hb1)) ?_
  rintro u8 w6 ⟨hr8,hm8,hu8⟩
  refine ⟨((Mod.drew _ _).trans (Mod.any' hn7.grow)).trans hm8,?_⟩
  obtain ⟨ad8,c8,rfl⟩:=hr8.slice
  have hz7:=hn7.grow.size
  have hu9 : ∀ b, (Value.slice ad8 ((dropE q id).length + 1) c8).ownBlock = some b → b ≠ p ∧ (v.ownBlock = some b ∨ w.heap.size ≤ b) := fun b e => by
      have hp:=hq1.blk.lt
      rcases hu8 with h8 | h8
      · rw [h8] at e
        exact ⟨fun hh=>hq1.ne (hh ▸ e),.inl (ho1 ▸ e)⟩
      · rw [h8] at e
        cases e
        simp only [World.drew] at hz7
        exact ⟨by omega,.inr (by omega)⟩
  have hb6:=hq5.blk.mod hm8 hq5.ne
  refine DL.p rfl rfl rfl ?_
  refine DL.qf rfl (.free rfl) rfl rfl (Yld.fieldAddr fo155_0 rfl) ?_
  refine DL.opT rfl (.free rfl) rfl rfl (Does.store i153 rfl rfl rfl hb6 (.z)) ?_
  rintro _ w7 ⟨hb7,hm7,hs7⟩
  refine DL.done ?_
  refine RK.end_of Tryz.func99 (res0 rfl) ?_
  exact ⟨_, rfl, rfl, .slice ad8 ((dropE q id).length + 1) c8, by
      rw [putE_at hi hlo hhi]
      refine ⟨hb7,?_,fun e=>(hu9 p e).1 rfl⟩
      have e1:(List.take i (dropE q id) ++ ⟨due,id⟩ :: List.drop i (dropE q id)).length=(dropE q id).length + 1:=by simp;omega
      rw [e1]
      exact hr8.mod hm7 (fun b e hh=>(hu9 b e).1 hh),((((hm1.trans (Mod.any' hg13)).trans (Mod.any' hg4)).trans (Mod.any' ((Mod.drew No w4).trans hn7.grow))).trans (hm8.mono fun b _ e=>.inr (ho1 ▸ e))).trans (hm7.mono fun b _ e=>.inl e),fun b e=>(hu9 b e).2⟩
end Go.Proofs.YtbcbfjnlnmhpbaaGreat
set_option linter.unusedVariables false
set_option linter.unusedSimpArgs false
set_option maxHeartbeats 1600000
set_option maxRecDepth 100000
namespace Go.Proofs.YtbcbfjnlnmhpbaaGreat
open Go Go.X
def dueE (q:List En) (now:Int):List En:=q.filter fun a=>decide (a.due≤now)
def restE (q:List En) (now:Int):List En:=q.filter fun a=>!decide (a.due≤now)
theorem due_at {q:List En} {now:Int} {k:Nat} (hs:SortE q) (hk:k≤q.length) (hlo:∀ t a,t < k→q[t]?=some a→a.due≤now) (hhi:∀ a,q[k]?=some a→¬ a.due≤now):dueE q now=q.take k∧restE q now=q.drop k:=by
 refine filter_at (fun a:En=>decide (a.due≤now)) q k hk (fun t a ht ha=>decide_eq_true (hlo t a ht ha)) (fun t a ht ha=>decide_eq_false ?_)
 have h3:=(List.getElem?_eq_some_iff.1 ha).1
 obtain ⟨b,hb⟩:∃ b,q[k]?=some b:=⟨q[k]'(by omega),List.getElem?_eq_getElem (by omega)⟩
 have h1:=hhi b hb
 by_cases e:t=k
 ·subst e;rw [ha] at hb;cases hb;exact h1
 ·have h2:=List.pairwise_iff_getElem.1 hs k t (by omega) h3 (by omega)
  rw [(List.getElem?_eq_some_iff.1 ha).2,(List.getElem?_eq_some_iff.1 hb).2] at h2
  unfold ltE at h2
  omega
theorem reapDue_ok (w:World) (p:Nat) (q:List En) (v:Value) (h:QAt w p q v) (hs:SortE q) (now:Int) (hb:q.length≤1000000) :
  Fx Tryz.prog 56 [pp p,.int .u64 now] w (fun u w'=>Row w' 3 1 u (dueE q now).length (ints ((dueE q now).map (·.id)))∧Fresh w.heap.size u∧(∃ v',QAt w' p (restE q now) v'∧v'.ownBlock=v.ownBlock)∧Mod (fun b=>b=p∨v.ownBlock=some b) w w'):=by
 refine enter Tryz.func56 rfl rfl rfl _ (Pick.sub (l:=[0,1]) (.cons rfl (.cons rfl .nil))) ?_
 refine GG ?_
 refine RK.loop (fun s:Nat×Value=>[(0,pp p),(1,.int .u64 now),(5,s.2)]) (fun s w'=>s.1≤q.length∧(∀ t a,t < s.1→q[t]?=some a→a.due≤now)∧(∃ vq,QAt w' p (q.drop s.1) vq∧vq.ownBlock=v.ownBlock)∧Row w' 3 1 s.2 s.1 (ints ((q.take s.1).map (·.id)))∧Fresh w.heap.size s.2∧Mod (fun b=>b=p∨v.ownBlock=some b) w w') (fun s=>q.length - s.1) (0,.slice none 0 0) ⟨rfl,rfl,rfl,trivial⟩ ⟨by simp,fun t a h=>by simp only at h;omega,⟨v,h,rfl⟩,by simpa using Row.nil _ _ _,fun b e=>by simp [Value.ownBlock] at e,Mod.refl _ _⟩ (fun s w' hI ih=>?_)
 obtain ⟨k,u⟩:=s
 obtain ⟨hk,hlo,⟨vq,hq,hqo⟩,hr,hf,hm⟩:=hI
 simp only at hk hlo hq hr hf
 obtain ⟨adq,cq,rfl⟩:=hq.row.slice
 have hlen:(q.drop k).length=q.length - k:=by simp
 have hsz:=hm.size
 refine GG ?_
 refine QQ (Yld.fieldAddr fo155_0 rfl) ?_
 refine QQ (Yld.load p153 rfl (at1 (hq.blk.cell rfl))) ?_
 refine QQ (Yld.lenSl u153 rfl) ?_
 refine GG ?_
 refine SP 12 (fun h11=>?_) (fun h11=>?_)
 ·have hkl:k < q.length:=by omega
  obtain ⟨x,hx⟩:∃ x,q[k]?=some x:=⟨q[k]'(by omega),List.getElem?_eq_getElem (by omega)⟩
  have hx0:(q.drop k)[0]?=some x:=by rw [List.getElem?_drop];exact hx
  obtain ⟨b1,o1,c1',he1,_,_,hc1⟩:=(Sl.own (M:=No) hq.row (fun _ _ h=>h)).elem enC_len hx0
  cases he1
  iterate 2 refine QQ (Yld.pure rfl) ?_
  refine QQ (Yld.fieldAddr fo155_0 rfl) ?_
  refine QQ (Yld.load p153 rfl (at1 (hq.blk.cell rfl))) ?_
  refine QQ (Yld.indexAddrN u153 i164 rfl rfl (by omega)) ?_
  refine QQ (Yld.fieldAddr fo164_0 rfl) ?_
  refine QQ (Yld.load p22 rfl (at1 (hc1 0 _ rfl))) ?_
  iterate 2 refine QQ (Yld.pure rfl) ?_
  refine GG ?_
  refine CD (fun h22=>?_) (fun h22=>?_)
  ·refine GG ?_
   refine QQ (Yld.fieldAddr fo155_0 rfl) ?_
   refine QQ (Yld.load p153 rfl (at1 (hq.blk.cell rfl))) ?_
   refine QQ (Yld.indexAddrN u153 i164 rfl rfl (by omega)) ?_
   refine QQ (Yld.fieldAddr fo164_1 rfl) ?_
   refine QQ (Yld.load p3 rfl (at1 (hc1 1 _ rfl))) ?_
   refine OP (Does.slice1 u35 i3 rfl rfl rfl rfl rfl) ?_
   rintro _ w2 ⟨b7,rfl,hn7⟩
   refine OP (Does.append u35 i3 rfl rfl rfl rfl rfl (hr.mod hn7.grow (fun _ _ h=>h)) (Sl.new hn7 1 1 rfl (by omega) (fun h=>h)) (rfl) (by omega)) ?_
   rintro u8 w3 ⟨hr8,hm8,hu8⟩
   have hz7:=hn7.grow.size
   have hpl:=hq.blk.lt
   have hpw:=h.blk.lt
   have hqf:∀ b,(Value.slice (some ⟨b1,o1,none⟩) (q.drop k).length cq).ownBlock=some b→b < w.heap.size:=fun b e=>h.row.lt (hqo ▸ e)
   have hq2:=hq.grow hn7.grow
   have hq3:=hq2.mod hm8 (fun e=>by have:=hf p e;omega) (fun b e e2=>by have h5:=hf b e2;have h6:=hqf b e;omega)
   have hu9:∀ b,u8.ownBlock=some b→w.heap.size≤b:=fun b e=>by
     rcases hu8 with h8 | h8
     ·rw [h8] at e;exact hf b e
     ·rw [h8] at e;cases e;omega
   have hm03:Mod (fun b=>b=p∨v.ownBlock=some b) w w3:=(hm.trans (Mod.any' hn7.grow)).then hm8 (fun b hb e=>by have:=hf b e;omega)
   refine GG ?_
   refine QQ (Yld.fieldAddr fo155_0 rfl) ?_
   refine QQ (Yld.load p153 rfl (at1 (hq3.blk.cell rfl))) ?_
   refine OP (Does.call rfl e107 (deleteE_ok (q.drop k) 0 _ _ hq3.row (by omega) (by omega))) ?_
   rintro v10 w10 ⟨hr10,ho10,hm10⟩
   obtain ⟨ad10,c10,rfl⟩:=hr10.slice
   have hbp:=hq3.blk.mod hm10 hq3.ne
   refine RL.p rfl rfl ?_
   refine QQ (Yld.fieldAddr fo155_0 rfl) ?_
   refine OQ (Does.store i153 rfl rfl rfl hbp (.z)) ?_
   rintro _ w11 ⟨hb11,hm11,hs11⟩
   have hdr:(q.drop k).eraseIdx 0=q.drop (k + 1):=by rw [List.drop_eq_getElem_cons hkl];rfl
   have htk:q.take (k + 1)=q.take k ++ [x]:=by rw [List.take_add_one,hx];rfl
   refine GG ?_
   exact RK.back (ih (k + 1,u8) _ ⟨by simp only;omega,fun t a ht ha=>by
     simp only at ht
     by_cases e:t=k
     ·subst e;rw [hx] at ha;cases ha;exact h22
     ·exact hlo t a (by omega) ha,⟨.slice ad10 ((q.drop k).eraseIdx 0).length c10,by
     simp only
     rw [← hdr]
     exact ⟨hb11,hr10.mod hm11 (fun b e hh=>hq3.ne (by rw [← ho10,e,hh])),fun e=>hq3.ne (by rw [← ho10,e])⟩,ho10.trans hqo⟩,by
     simp only
     rw [htk,List.map_append]
     have e1:ints (List.map (fun x=>x.id) (q.take k) ++ List.map (fun x=>x.id) [x])=ints ((q.take k).map (·.id)) ++ (Value.int .i64 x.id).cells.toList:=by simp [ints,Value.cells]
     rw [e1]
     exact (hr8.mod hm10 (fun b e hh=>by have h5:=hu9 b e;have h6:=hqf b hh;omega)).mod hm11 (fun b e hh=>by have h5:=hu9 b e;omega),hu9,(hm03.trans (hm10.mono fun b _ e=>.inr (hqo ▸ e))).trans (hm11.mono fun b _ e=>.inl e)⟩ (by simp only;omega)) ⟨rfl,rfl,rfl,trivial⟩
  ·obtain ⟨e1,e2⟩:=due_at hs hk hlo (fun a ha=>by rw [hx] at ha;cases ha;exact h22)
   refine RK.exit rfl ?_
   refine GG ?_
   refine RK.ret_of Tryz.func56 (res1 rfl rfl) ?_ _
   exact ⟨_,rfl,by
     rw [e1,List.length_take,Nat.min_eq_left hk];exact hr,hf,⟨_,e2 ▸ hq,hqo⟩,hm⟩
 ·have hke:k=q.length:=by omega
  obtain ⟨e1,e2⟩:=due_at hs hk hlo (fun a ha=>by have:=(List.getElem?_eq_some_iff.1 ha).1;omega)
  iterate 9 refine RL.no (.no rfl rfl rfl rfl) rfl rfl ?_
  refine GG ?_
  refine RK.condF rfl ?_
  refine RK.exit rfl ?_
  refine GG ?_
  refine RK.ret_of Tryz.func56 (res1 rfl rfl) ?_ _
  exact ⟨_,rfl,by
    rw [e1,List.length_take,Nat.min_eq_left hk];exact hr,hf,⟨_,e2 ▸ hq,hqo⟩,hm⟩
end Go.Proofs.YtbcbfjnlnmhpbaaGreat
set_option linter.unusedVariables false
set_option linter.unusedSimpArgs false
set_option maxHeartbeats 1000000
set_option maxRecDepth 100000
namespace Go.Proofs.YtbcbfjnlnmhpbaaGreat
open Go Go.X Go.Rex
def anyL (ms:List Mt):Bool:=ms.any largeM
theorem anyL_at {ms:List Mt} {k:Nat} {x:Mt} (hx:ms[k]?=some x) (h:largeM x=true):anyL ms=true:=List.any_eq_true.2 ⟨x,List.mem_of_getElem? hx,h⟩
theorem anyL_no {ms:List Mt} (h:∀ (i:Nat) (x:Mt),ms[i]?=some x→largeM x=false):anyL ms=false:=by
 unfold anyL
 rw [List.any_eq_false]
 intro x hx
 obtain ⟨i,hi⟩:=List.getElem?_of_mem hx
 simp [h i x hi]
theorem indexL_ok (M:Nat→Prop) (ms:List Mt) (v:Value) (w:World) (hv:SlM M w v ms) :
  Fx Tryz.prog 138 [v,.func (.func 133) #[] #[]] w (fun u w'=>(∃ z:Int,u=.int .i64 z∧decide (0≤z)=anyL ms)∧Grow w w'):=by
 obtain ⟨ad,c,rfl⟩:=hv.shape
 have hbig:=hv.big
 refine enter Tryz.func138 rfl rfl rfl _ (Pick.sub (l:=[0,1]) (.cons rfl (.cons rfl .nil))) ?_
 refine GG ?_
 refine QQ (Yld.lenSl u28 rfl) ?_
 refine GG ?_
 refine RK.loop (fun k:Nat=>[(0,.slice ad ms.length c),(1,.func (.func 133) #[] #[]),(7,.int .i64 ms.length),(8,.int .i64 k)]) (fun k w'=>Grow w w'∧k≤ms.length∧∀ (i:Nat) (a:Mt),i < k→ms[i]?=some a→largeM a=false) (fun k=>ms.length - k) 0 ⟨rfl,rfl,rfl,rfl,trivial⟩ ⟨Mod.refl _ _,by omega,fun i a h=>by omega⟩ (fun k w' hI ih=>?_)
 obtain ⟨hg,hk,hno⟩:=hI
 refine GG ?_
 refine CD (fun h9=>?_) (fun h9=>?_)
 ·obtain ⟨x,hx⟩:∃ x,ms[k]?=some x:=⟨ms[k]'(by omega),List.getElem?_eq_getElem (by omega)⟩
  obtain ⟨b1,o1,c1',he1,_,_,hc1⟩:=hv.elem mtC_len hx
  cases he1
  refine GG ?_
  refine QQ (Yld.indexAddrN u28 i108 rfl rfl (by omega)) ?_
  refine QQ (Yld.loadN (cs:=[.int .i64 x.kind,.string x.name,.string x.value]) a108 rfl (atN (fun j u hj=>hg.cell (hc1 j u hj) (fun h=>h)))) ?_
  refine OP (Does.callv rfl rfl e133 (matchLarge_ok x _)) ?_
  rintro _ w2 ⟨rfl,hg2⟩
  refine RL.done ?_
  refine CD (fun h16=>?_) (fun h16=>?_)
  ·refine GG ?_
   refine RK.ret_of Tryz.func138 (res1 rfl rfl) ?_ _
   exact ⟨_,rfl,⟨_,rfl,by rw [anyL_at hx h16];simp⟩,hg.trans hg2⟩
  ·refine RK.skip ?_
   refine RK.inBlock ?_
   refine RK.region ?_
   refine RL.p rfl rfl ?_
   refine RL.re (d:=18) rfl rfl (succ_i64 (by omega)) ?_
   refine GG ?_
   exact RK.back (ih (k + 1) _ ⟨hg.trans hg2,by omega,fun i a' hi ha'=>by by_cases e:i=k;(subst e;rw [hx] at ha';cases ha';simpa using h16);exact hno i a' (by omega) ha'⟩ (by omega)) ⟨rfl,rfl,rfl,rfl,trivial⟩
 ·refine RK.exit rfl ?_
  refine GG ?_
  refine RK.ret_of Tryz.func138 (res1 rfl rfl) ?_ _
  exact ⟨_,rfl,⟨_,rfl,by rw [anyL_no fun i x hx=>hno i x (by have:=(List.getElem?_eq_some_iff.1 hx).1;omega) hx];rfl⟩,hg⟩
theorem containsL_ok (M:Nat→Prop) (ms:List Mt) (v:Value) (w:World) (hv:SlM M w v ms) :
  Fx Tryz.prog 101 [v,.func (.func 133) #[] #[]] w (fun u w'=>u=.bool (anyL ms)∧Grow w w'):=by
 obtain ⟨ad,c,rfl⟩:=hv.shape
 refine enter Tryz.func101 rfl rfl rfl _ (Pick.sub (l:=[0,1]) (.cons rfl (.cons rfl .nil))) ?_
 refine GG ?_
 refine OP (Does.call rfl e138 (indexL_ok M ms _ _ hv)) ?_
 rintro _ w2 ⟨⟨z,rfl,hz⟩,hg2⟩
 refine GG ?_
 refine RK.ret_of Tryz.func101 (res1 rfl rfl) ?_ _
 exact ⟨_,rfl,congrArg _ hz,hg2⟩
theorem matchAnyL_ok (M:Nat→Prop) (ms:List Mt) (v:Value) (w:World) (hv:SlM M w v ms) :
  Fx Tryz.prog 97 [v] w (fun u w'=>u=.bool (anyL ms)∧Grow w w'):=by
 obtain ⟨ad,c,rfl⟩:=hv.shape
 refine enter Tryz.func97 rfl rfl rfl _ (Pick.sub (l:=[0]) (.cons rfl .nil)) ?_
 refine GG ?_
 refine OP (Does.call rfl e101 (containsL_ok M ms _ _ hv)) ?_
 rintro _ w2 ⟨rfl,hg2⟩
 refine GG ?_
 refine RK.ret_of Tryz.func97 (res1 rfl rfl) ?_ _
 exact ⟨_,rfl,rfl,hg2⟩
theorem anyLR_ok (M:Nat→Prop) (ms:List Mt) (hn:∀ m∈ms,m.name.size≤9223372036854775807) (v:Value) (w:World) (hv:SlM M w v ms) :
  Fx Tryz.prog 75 [v] w (fun u w'=>u=.bool (anyL ms)∧Grow w w'):=by
 obtain ⟨ad,c,rfl⟩:=hv.shape
 have hbig:=hv.big
 refine enter Tryz.func75 rfl rfl rfl _ (Pick.sub (l:=[0]) (.cons rfl .nil)) ?_
 refine GG ?_
 refine RK.loop (fun k:Nat=>[(0,.slice ad ms.length c),(3,.int .i64 k)]) (fun k w'=>Grow w w'∧k≤ms.length∧∀ (i:Nat) (a:Mt),i < k→ms[i]?=some a→largeM a=false) (fun k=>ms.length - k) 0 ⟨rfl,rfl,trivial⟩ ⟨Mod.refl _ _,by omega,fun i a h=>by omega⟩ (fun k w' hI ih=>?_)
 obtain ⟨hg,hk,hno⟩:=hI
 refine GG ?_
 refine QQ (Yld.lenSl u28 rfl) ?_
 refine GG ?_
 refine CD (fun h7=>?_) (fun h7=>?_)
 ·obtain ⟨x,hx⟩:∃ x,ms[k]?=some x:=⟨ms[k]'(by omega),List.getElem?_eq_getElem (by omega)⟩
  obtain ⟨b1,o1,c1',he1,_,_,hc1⟩:=hv.elem mtC_len hx
  cases he1
  refine GG ?_
  refine QQ (Yld.indexAddrN u28 i108 rfl rfl (by omega)) ?_
  refine QQ (Yld.loadN (cs:=[.int .i64 x.kind,.string x.name,.string x.value]) a108 rfl (atN (fun j u hj=>hg.cell (hc1 j u hj) (fun h=>h)))) ?_
  refine OP (Does.call rfl e118 (largeR_ok x (hn x (List.mem_of_getElem? hx)) _)) ?_
  rintro _ w2 ⟨rfl,hg2⟩
  refine RL.done ?_
  refine CD (fun h14=>?_) (fun h14=>?_)
  ·refine GG ?_
   refine RK.ret_of Tryz.func75 (res1 rfl rfl) ?_ _
   exact ⟨_,rfl,congrArg _ (anyL_at hx h14).symm,hg.trans hg2⟩
  ·refine RK.skip ?_
   refine RK.inBlock ?_
   refine RK.region ?_
   iterate 2 refine RL.p rfl rfl ?_
   refine RL.re (d:=9) rfl rfl (succ_i64 (by omega)) ?_
   refine GG ?_
   exact RK.back (ih (k + 1) _ ⟨hg.trans hg2,by omega,fun i a' hi ha'=>by by_cases e:i=k;(subst e;rw [hx] at ha';cases ha';simpa using h14);exact hno i a' (by omega) ha'⟩ (by omega)) ⟨rfl,rfl,trivial⟩
 ·refine RK.exit rfl ?_
  refine GG ?_
  refine RK.ret_of Tryz.func75 (res1 rfl rfl) ?_ _
  exact ⟨_,rfl,congrArg _ (anyL_no fun i x hx=>hno i x (by have:=(List.getElem?_eq_some_iff.1 hx).1;omega) hx).symm,hg⟩
theorem listR_ok (M:Nat→Prop) (ms:List Mt) (hn:∀ m∈ms,m.name.size≤9223372036854775807) (v:Value) (w:World) (hv:SlM M w v ms):Fx Tryz.prog 31 [v] w (fun u w'=>u=.bool (listM ms)∧Grow w w'):=by
  obtain ⟨ad,c,rfl⟩:=hv.shape
  have hbig:=hv.big
  refine enter Tryz.func31 rfl rfl rfl _ (Pick.sub (l:=[0]) (.cons rfl .nil)) ?_
  refine RK.seq ?_
  refine RK.region ?_
  refine RL.p rfl rfl ?_
  refine RL.done ?_
  iterate 2 refine RK.seq ?_
  refine RK.region ?_
  refine RL.p rfl rfl ?_
  refine RL.q (.free rfl) rfl rfl (Yld.lenSl u28 rfl) ?_
  refine RL.p rfl rfl ?_
  refine RL.done ?_
  first | refine RK.condD rfl (fun h6=>?_) (fun h6=>?_) | refine RK.condN rfl (fun h6=>?_) (fun h6=>?_) | refine RK.cond rfl (fun h6=>?_) (fun h6=>?_)
  · refine RK.seq ?_
    refine RK.region ?_
    refine RL.p rfl rfl ?_
    refine RL.done ?_
    refine RK.ret_of Tryz.func31 (res1 rfl rfl) ?_ _
    exact ⟨_,rfl,by rw [listM_big (by omega)],Mod.refl _ _⟩
  · refine RK.skip ?_
    iterate 2 refine RK.seq ?_
    refine RK.region ?_
    refine RL.p rfl rfl ?_
    refine RL.done ?_
    refine RK.block ?_
    refine RK.loop (fun k:Nat=>[(0,.slice ad ms.length c),(3,.int .i64 (k:Int))]) (fun k w'=>Grow w w'∧k≤ms.length∧∀ i,i < k→okM ms i=true) (fun k=>ms.length - k) 0 ⟨rfl,rfl,trivial⟩ ⟨Mod.refl _ _,by omega,fun i hi=>by omega⟩ (fun k w' hI ih=>?_)
    obtain ⟨hg,hk,hall⟩:=hI
    iterate 2 refine RK.seq ?_
    refine RK.region ?_
    iterate 2 refine RL.p rfl rfl ?_
    refine RL.q (.free rfl) rfl rfl (Yld.lenSl u28 rfl) ?_
    refine RL.p rfl rfl ?_
    refine RL.done ?_
    first | refine RK.condD rfl (fun h10=>?_) (fun h10=>?_) | refine RK.condN rfl (fun h10=>?_) (fun h10=>?_) | refine RK.cond rfl (fun h10=>?_) (fun h10=>?_)
    · obtain ⟨x,hx⟩:∃ x,ms[k]?=some x:=⟨ms[k]'(by omega),List.getElem?_eq_getElem (by omega)⟩
      obtain ⟨b1,o1,c1',he1,_,_,hc1⟩:=hv.elem mtC_len hx
      cases he1
      refine RK.skip ?_
      refine RK.seq ?_
      refine RK.block ?_
      refine RK.seq ?_
      refine RK.drawM No [(0,false),(1,false),(2,false),(3,false),(4,true),(5,false),(6,false),(7,false),(8,false),(9,false),(10,false),(11,false),(12,false),(13,false),(14,false),(15,false),(16,false),(17,false),(18,false),(19,true),(20,false),(21,false),(22,false)] [] mixed (by kernel_rfl) ?_
      iterate 2 refine DL.p rfl rfl rfl ?_
      refine DL.qf rfl (.free rfl) rfl rfl (Yld.indexAddrN u28 i108 rfl rfl (by omega)) ?_
      refine DL.q rfl (.free rfl) rfl rfl rfl (Yld.loadN (cs:=mtC x) a108 rfl (atNM (fun q z hq=>hg.cell (hc1 q z hq) (fun h=>h)) (fun h=>h))) (Mod.drew _ _) ?_
      refine DL.op rfl (.free rfl) rfl rfl (Does.call rfl e77 (isMatcher_ok x (hn x (List.mem_of_getElem? hx)) _)) ?_
      rintro _ w6 ⟨rfl,hg6⟩
      refine ⟨(Mod.drew No _).trans hg6,?_⟩
      have hg5:=hg.trans ((Mod.drew No _).trans hg6)
      iterate 2 refine DL.p rfl rfl rfl ?_
      first | refine DL.splitD (d:=19) rfl rfl (fun h18=>?_) (fun h18=>?_) | refine DL.splitN (d:=19) rfl rfl (fun h18=>?_) (fun h18=>?_) | refine DL.split (d:=19) rfl rfl (fun h18=>?_) (fun h18=>?_)
      · iterate 12 refine DL.no rfl (.no rfl rfl rfl rfl) rfl rfl ?_
        refine DL.lno rfl (.no rfl rfl rfl rfl) rfl rfl ?_
        iterate 2 refine DL.no rfl (.no rfl rfl rfl rfl) rfl rfl ?_
        refine DL.p rfl rfl rfl ?_
        refine DL.done ?_
        refine RK.condT rfl ?_
        refine RK.seq ?_
        refine RK.region ?_
        refine RL.p rfl rfl ?_
        refine RL.done ?_
        refine RK.ret_of Tryz.func31 (res1 rfl rfl) ?_ _
        exact ⟨_, rfl, by rw [listM_no (i := k) (by omega) (by
            have hf:isM x=false:=by simpa using h18
            cases k with
            | zero=>rw [okM_0 hx];exact hf
            | succ j=>rw [okM_s hx (List.getElem?_eq_getElem (by omega)),hf];rfl)],hg5⟩
      · have hix:isM x=true:=by simpa using h18
        iterate 3 refine DL.qf rfl (.yes rfl rfl rfl) rfl rfl (Yld.pure rfl) ?_
        first | refine DL.splitD (d:=22) rfl rfl (fun h21=>?_) (fun h21=>?_) | refine DL.splitN (d:=22) rfl rfl (fun h21=>?_) (fun h21=>?_) | refine DL.split (d:=22) rfl rfl (fun h21=>?_) (fun h21=>?_)
        · obtain ⟨j,rfl⟩:∃ j,k=j + 1:=⟨k - 1,by omega⟩
          obtain ⟨y,hy⟩:∃ y,ms[j]?=some y:=⟨ms[j]'(by omega),List.getElem?_eq_getElem (by omega)⟩
          obtain ⟨b2,o2,c2',he2,_,_,hc2⟩:=hv.elem mtC_len hy
          cases he2
          iterate 3 refine DL.qf rfl (.yes rfl rfl rfl) rfl rfl (Yld.pure rfl) ?_
          refine DL.re (d:=25) rfl rfl (sub_i64 (z:=(j:Int)) (by omega) (by omega) (by omega)) ?_
          refine DL.qf rfl (.yes rfl rfl rfl) rfl rfl (Yld.indexAddrN u28 i108 rfl rfl (by omega)) ?_
          refine DL.q rfl (.yes rfl rfl rfl) rfl rfl rfl (Yld.loadN (cs:=mtC y) a108 rfl (atNM (fun q z hq=>hg.cell (hc2 q z hq) (fun h=>h)) (fun h=>h))) ((Mod.drew No _).trans hg6) ?_
          iterate 2 refine DL.qf rfl (.yes rfl rfl rfl) rfl rfl (Yld.pure rfl) ?_
          refine DL.qf rfl (.yes rfl rfl rfl) rfl rfl (Yld.indexAddrN u28 i108 rfl rfl (by omega)) ?_
          refine DL.q rfl (.yes rfl rfl rfl) rfl rfl rfl (Yld.loadN (cs:=mtC x) a108 rfl (atNM (fun q z hq=>hg.cell (hc1 q z hq) (fun h=>h)) (fun h=>h))) ((Mod.drew No _).trans hg6) ?_
          refine DL.op rfl (.yes rfl rfl rfl) rfl rfl (Does.call rfl e78 (before_ok y x _)) ?_
          rintro _ w7 ⟨rfl,hg7⟩
          have hg8:=hg.trans (((Mod.drew No _).trans hg6).trans hg7)
          refine ⟨((Mod.drew No _).trans hg6).trans hg7,?_⟩
          iterate 2 refine DL.qf rfl (.yes rfl rfl rfl) rfl rfl (Yld.pure rfl) ?_
          refine DL.p rfl rfl rfl ?_
          refine DL.done ?_
          first | refine RK.condD rfl (fun h33=>?_) (fun h33=>?_) | refine RK.condN rfl (fun h33=>?_) (fun h33=>?_) | refine RK.cond rfl (fun h33=>?_) (fun h33=>?_)
          · refine RK.seq ?_
            refine RK.region ?_
            refine RL.p rfl rfl ?_
            refine RL.done ?_
            refine RK.ret_of Tryz.func31 (res1 rfl rfl) ?_ _
            exact ⟨_,rfl,by rw [listM_no (i:=j + 1) (by omega) (by rw [okM_s hx hy,hix,show aheadM y x=false by simpa using h33];rfl)],hg8⟩
          · have hay:aheadM y x=true:=by simpa using h33
            refine RK.skip ?_
            refine RK.inBlock ?_
            refine RK.region ?_
            iterate 2 refine RL.p rfl rfl ?_
            refine RL.re (d:=12) rfl rfl (succ_i64 (by omega)) ?_
            refine RL.p rfl rfl ?_
            refine RL.done ?_
            exact RK.back (ih (j + 1 + 1) _ ⟨hg8,by omega,fun i hi=>by by_cases e:i=j + 1;(subst e;rw [okM_s hx hy,hix,hay];rfl);exact hall i (by omega)⟩ (by omega)) ⟨rfl,rfl,trivial⟩
        · have hk0:k=0:=by omega
          subst hk0
          iterate 9 refine DL.no rfl (.no rfl rfl rfl rfl) rfl rfl ?_
          refine DL.lno rfl (.no rfl rfl rfl rfl) rfl rfl ?_
          refine DL.no rfl (.no rfl rfl rfl rfl) rfl rfl ?_
          refine DL.qf rfl (.yes rfl rfl rfl) rfl rfl (Yld.pure rfl) ?_
          refine DL.p rfl rfl rfl ?_
          refine DL.done ?_
          refine RK.condF rfl ?_
          refine RK.skip ?_
          refine RK.inBlock ?_
          refine RK.region ?_
          iterate 2 refine RL.p rfl rfl ?_
          refine RL.re (d:=12) rfl rfl (succ_i64 (by omega)) ?_
          refine RL.p rfl rfl ?_
          refine RL.done ?_
          exact RK.back (ih (0 + 1) _ ⟨hg5,by omega,fun i hi=>by by_cases e:i=0;(subst e;rw [okM_0 hx];exact hix);omega⟩ (by omega)) ⟨rfl,rfl,trivial⟩
    · refine RK.exit rfl ?_
      refine RK.seq ?_
      refine RK.region ?_
      refine RL.p rfl rfl ?_
      refine RL.done ?_
      refine RK.ret_of Tryz.func31 (res1 rfl rfl) ?_ _
      exact ⟨_,rfl,by rw [listM_yes (by omega) (fun i hi=>hall i (by omega))],hg⟩
end Go.Proofs.YtbcbfjnlnmhpbaaGreat
set_option linter.unusedVariables false
set_option linter.unusedSimpArgs false
set_option maxHeartbeats 1000000
set_option maxRecDepth 100000
namespace Go.Proofs.YtbcbfjnlnmhpbaaGreat
open Go Go.X Go.Rex
structure Bd where
 all:Bool
 lo:Nat
 hi:Nat
def bdC (b:Bd):List Value:=[.bool b.all,.float .f64 b.lo,.float .f64 b.hi]
def leF (a b:Nat):Bool:=FloatKind.f64.format.order a b == some .lt || FloatKind.f64.format.order a b == some .eq
def mayB (b:Bd):Bool:=if b.all=true then decide ((bitsS b.lo:Int)=0) && decide ((bitsS b.hi:Int)=0) else leF b.lo b.hi
def inBd (b:Bd) (v:Nat):Bool:=mayB b && (b.all || (leF b.lo v && leF v b.hi))
theorem fldN {w:World} {b t:Nat} {cs:List Value} (h:Blk w b t cs) (k n:Nat):∀ j u,((cs.drop k).take n)[j]?=some u→w.cell? ⟨b,0 + k + j,none⟩=some u:=fun j u hj=>by
 have hj2:(cs.drop k)[j]?=some u:=by
  rw [List.getElem?_take] at hj
  split at hj
  ·exact hj
  ·cases hj
 rw [List.getElem?_drop] at hj2
 rw [show 0 + k + j=k + j by omega]
 exact h.cell' hj2
theorem may_ok (b:Bd) (w:World):Fx Tryz.prog 96 [.agg (bdC b).toArray] w (fun u w'=>u=.bool (mayB b)∧Grow w w'):=by
 refine enter Tryz.func96 rfl rfl rfl _ (Pick.sub (l:=[0]) (.cons rfl .nil)) ?_
 refine GG ?_
 refine OP (Does.box rfl) ?_
 rintro _ w1 ⟨b1,rfl,hn1⟩
 have hB1:Blk w1 b1 32 [.bool b.all,.float .f64 b.lo,.float .f64 b.hi]:=hn1.blk
 refine GG ?_
 refine QQ (Yld.fieldAddr fo32_0 rfl) ?_
 refine QQ (Yld.load p4 rfl (at1 (hB1.cell rfl))) ?_
 refine RL.done ?_
 refine CD (fun h4=>?_) (fun h4=>?_)
 ·refine GG ?_
  refine QQ (Yld.fieldAddr fo32_1 rfl) ?_
  refine QQ (Yld.load p30 rfl (at1 (hB1.cell rfl))) ?_
  refine OP (Does.call rfl e132 (bits_ok _ _)) ?_
  rintro _ _ ⟨rfl,rfl⟩
  refine GG ?_
  refine SP 9 (fun h8=>?_) (fun h8=>?_)
  ·refine QQ (Yld.fieldAddr fo32_2 rfl) ?_
   refine QQ (Yld.load p30 rfl (at1 (hB1.cell rfl))) ?_
   refine OP (Does.call rfl e132 (bits_ok _ _)) ?_
   rintro _ _ ⟨rfl,rfl⟩
   refine QQ (Yld.pure rfl) ?_
   refine GG ?_
   refine RK.ret_of Tryz.func96 (res1 rfl rfl) ?_ _
   exact ⟨_,rfl,by unfold mayB;rw [if_pos h4,decide_eq_true h8];rfl,hn1.grow⟩
  ·iterate 4 refine RL.no (.no rfl rfl rfl rfl) rfl rfl ?_
   refine GG ?_
   refine RK.ret_of Tryz.func96 (res1 rfl rfl) ?_ _
   exact ⟨_,rfl,by unfold mayB;rw [if_pos h4,decide_eq_false h8];rfl,hn1.grow⟩
 ·refine GG ?_
  refine QQ (Yld.fieldAddr fo32_1 rfl) ?_
  refine QQ (Yld.load p30 rfl (at1 (hB1.cell rfl))) ?_
  refine QQ (Yld.fieldAddr fo32_2 rfl) ?_
  refine QQ (Yld.load p30 rfl (at1 (hB1.cell rfl))) ?_
  refine GG ?_
  refine RK.ret_of Tryz.func96 (res1 rfl rfl) ?_ _
  exact ⟨_,rfl,by unfold mayB;rw [if_neg (by simp [h4])];rfl,hn1.grow⟩
theorem mayR_ok (b:Bd) (w:World):Fx Tryz.prog 32 [.agg (bdC b).toArray] w (fun u w'=>u=.bool (mayB b)∧Grow w w'):=by
 refine enter Tryz.func32 rfl rfl rfl _ (Pick.sub (l:=[0]) (.cons rfl .nil)) ?_
 refine GG ?_
 refine OP (Does.box rfl) ?_
 rintro _ w1 ⟨b1,rfl,hn1⟩
 have hB1:Blk w1 b1 32 [.bool b.all,.float .f64 b.lo,.float .f64 b.hi]:=hn1.blk
 refine GG ?_
 refine QQ (Yld.fieldAddr fo32_0 rfl) ?_
 refine QQ (Yld.load p4 rfl (at1 (hB1.cell rfl))) ?_
 refine RL.done ?_
 refine CD (fun h4=>?_) (fun h4=>?_)
 ·refine GG ?_
  refine QQ (Yld.fieldAddr fo32_1 rfl) ?_
  refine QQ (Yld.load p30 rfl (at1 (hB1.cell rfl))) ?_
  refine OP (Does.call rfl e79 (bits1_ok _ _)) ?_
  rintro _ _ ⟨rfl,rfl⟩
  refine GG ?_
  refine SP 9 (fun h8=>?_) (fun h8=>?_)
  ·refine QQ (Yld.fieldAddr fo32_2 rfl) ?_
   refine QQ (Yld.load p30 rfl (at1 (hB1.cell rfl))) ?_
   refine OP (Does.call rfl e79 (bits1_ok _ _)) ?_
   rintro _ _ ⟨rfl,rfl⟩
   refine QQ (Yld.pure rfl) ?_
   refine GG ?_
   refine RK.ret_of Tryz.func32 (res1 rfl rfl) ?_ _
   exact ⟨_,rfl,by unfold mayB;rw [if_pos h4,decide_eq_true h8];rfl,hn1.grow⟩
  ·iterate 4 refine RL.no (.no rfl rfl rfl rfl) rfl rfl ?_
   refine GG ?_
   refine RK.ret_of Tryz.func32 (res1 rfl rfl) ?_ _
   exact ⟨_,rfl,by unfold mayB;rw [if_pos h4,decide_eq_false h8];rfl,hn1.grow⟩
 ·refine GG ?_
  refine QQ (Yld.fieldAddr fo32_1 rfl) ?_
  refine QQ (Yld.load p30 rfl (at1 (hB1.cell rfl))) ?_
  refine QQ (Yld.fieldAddr fo32_2 rfl) ?_
  refine QQ (Yld.load p30 rfl (at1 (hB1.cell rfl))) ?_
  refine GG ?_
  refine RK.ret_of Tryz.func32 (res1 rfl rfl) ?_ _
  exact ⟨_,rfl,by unfold mayB;rw [if_neg (by simp [h4])];rfl,hn1.grow⟩
theorem in_band_ok (b:Bd) (v:Nat) (w:World):Fx Tryz.prog 53 [.agg (bdC b).toArray,.float .f64 v] w (fun u w'=>u=.bool (inBd b v)∧Grow w w'):=by
 refine enter Tryz.func53 rfl rfl rfl _ (Pick.sub (l:=[0,1]) (.cons rfl (.cons rfl .nil))) ?_
 refine GG ?_
 refine OP (Does.box rfl) ?_
 rintro _ w1 ⟨b1,rfl,hn1⟩
 refine GG ?_
 refine QQ (Yld.loadN (cs:=bdC b) a32 rfl (atN (blk0' hn1.blk))) ?_
 refine OP (Does.call rfl e96 (may_ok b _)) ?_
 rintro _ w2 ⟨rfl,hg2'⟩
 have hg2:=hn1.grow.trans hg2'
 have hB2:Blk w2 b1 32 [.bool b.all,.float .f64 b.lo,.float .f64 b.hi]:=hn1.blk.mod hg2' (fun h=>h)
 refine RL.p rfl rfl ?_
 refine SP 7 (fun h6=>?_) (fun h6=>?_)
 ·have hmay:mayB b=true:=h6
  refine QQ (Yld.fieldAddr fo32_0 rfl) ?_
  refine QQ (Yld.load p4 rfl (at1 (hB2.cell rfl))) ?_
  refine QQ (Yld.pure rfl) ?_
  refine SP 10 (fun h9=>?_) (fun h9=>?_)
  ·iterate 10 refine RL.no (.no rfl rfl rfl rfl) rfl rfl ?_
   refine QQ (Yld.pure rfl) ?_
   refine GG ?_
   refine RK.ret_of Tryz.func53 (res1 rfl rfl) ?_ _
   exact ⟨_,rfl,by unfold inBd;rw [hmay,h9];rfl,hg2⟩
  ·refine QQ (Yld.fieldAddr fo32_1 rfl) ?_
   refine QQ (Yld.load p30 rfl (at1 (hB2.cell rfl))) ?_
   iterate 3 refine QQ (Yld.pure rfl) ?_
   refine SP 15 (fun h14=>?_) (fun h14=>?_)
   ·refine QQ (Yld.pure rfl) ?_
    refine QQ (Yld.fieldAddr fo32_2 rfl) ?_
    refine QQ (Yld.load p30 rfl (at1 (hB2.cell rfl))) ?_
    iterate 3 refine QQ (Yld.pure rfl) ?_
    refine GG ?_
    refine RK.ret_of Tryz.func53 (res1 rfl rfl) ?_ _
    exact ⟨_,rfl,by unfold inBd;rw [hmay,show b.all=false by simpa using h9,show leF b.lo v=true from h14];rfl,hg2⟩
   ·iterate 4 refine RL.no (.no rfl rfl rfl rfl) rfl rfl ?_
    iterate 2 refine QQ (Yld.pure rfl) ?_
    refine GG ?_
    refine RK.ret_of Tryz.func53 (res1 rfl rfl) ?_ _
    exact ⟨_,rfl,by unfold inBd;rw [hmay,show b.all=false by simpa using h9,show leF b.lo v=false from h14];rfl,hg2⟩
 ·iterate 14 refine RL.no (.no rfl rfl rfl rfl) rfl rfl ?_
  refine GG ?_
  refine RK.ret_of Tryz.func53 (res1 rfl rfl) ?_ _
  exact ⟨_,rfl,by unfold inBd;rw [show mayB b=false by simpa using h6];rfl,hg2⟩
theorem inR_ok (b:Bd) (v:Nat) (w:World):Fx Tryz.prog 73 [.agg (bdC b).toArray,.float .f64 v] w (fun u w'=>u=.bool (inBd b v)∧Grow w w'):=by
 refine enter Tryz.func73 rfl rfl rfl _ (Pick.sub (l:=[0,1]) (.cons rfl (.cons rfl .nil))) ?_
 refine GG ?_
 refine OP (Does.box rfl) ?_
 rintro _ w1 ⟨b1,rfl,hn1⟩
 refine GG ?_
 refine QQ (Yld.loadN (cs:=bdC b) a32 rfl (atN (blk0' hn1.blk))) ?_
 refine OP (Does.call rfl e32 (mayR_ok b _)) ?_
 rintro _ w2 ⟨rfl,hg2'⟩
 have hg2:=hn1.grow.trans hg2'
 have hB2:Blk w2 b1 32 [.bool b.all,.float .f64 b.lo,.float .f64 b.hi]:=hn1.blk.mod hg2' (fun h=>h)
 refine GG ?_
 refine CD (fun h7=>?_) (fun h7=>?_)
 ·refine GG ?_
  refine RK.ret_of Tryz.func73 (res1 rfl rfl) ?_ _
  exact ⟨_,rfl,by unfold inBd;rw [show mayB b=false by simpa using h7];rfl,hg2⟩
 ·have hmay:mayB b=true:=by simpa using h7
  refine GG ?_
  refine QQ (Yld.fieldAddr fo32_0 rfl) ?_
  refine QQ (Yld.load p4 rfl (at1 (hB2.cell rfl))) ?_
  refine RL.p rfl rfl ?_
  refine SP 10 (fun h9=>?_) (fun h9=>?_)
  ·iterate 10 refine RL.no (.no rfl rfl rfl rfl) rfl rfl ?_
   refine GG ?_
   refine RK.ret_of Tryz.func73 (res1 rfl rfl) ?_ _
   exact ⟨_,rfl,by unfold inBd;rw [hmay,h9];rfl,hg2⟩
  ·refine QQ (Yld.fieldAddr fo32_1 rfl) ?_
   refine QQ (Yld.load p30 rfl (at1 (hB2.cell rfl))) ?_
   iterate 3 refine QQ (Yld.pure rfl) ?_
   refine SP 15 (fun h14=>?_) (fun h14=>?_)
   ·refine QQ (Yld.pure rfl) ?_
    refine QQ (Yld.fieldAddr fo32_2 rfl) ?_
    refine QQ (Yld.load p30 rfl (at1 (hB2.cell rfl))) ?_
    iterate 2 refine QQ (Yld.pure rfl) ?_
    refine GG ?_
    refine RK.ret_of Tryz.func73 (res1 rfl rfl) ?_ _
    exact ⟨_,rfl,by unfold inBd;rw [hmay,show b.all=false by simpa using h9,show leF b.lo v=true from h14];rfl,hg2⟩
   ·iterate 4 refine RL.no (.no rfl rfl rfl rfl) rfl rfl ?_
    refine QQ (Yld.pure rfl) ?_
    refine GG ?_
    refine RK.ret_of Tryz.func73 (res1 rfl rfl) ?_ _
    exact ⟨_,rfl,by unfold inBd;rw [hmay,show b.all=false by simpa using h9,show leF b.lo v=false from h14];rfl,hg2⟩
def stateS (now a b:Int):Int:=if b≤now then 3 else if now < a then 1 else 2
theorem state_ok (n a b:Int) (w:World):Fx Tryz.prog 51 [.int .u64 n,.int .u64 a,.int .u64 b] w (fun u w'=>u=.int .i64 (stateS n a b)∧w=w'):=by
 refine enter Tryz.func51 rfl rfl rfl _ (Pick.sub (l:=[0,1,2]) (.cons rfl (.cons rfl (.cons rfl .nil)))) ?_
 refine GG ?_
 refine CD (fun h10=>?_) (fun h10=>?_)
 ·refine GG ?_
  refine RK.ret_of Tryz.func51 (res1 rfl rfl) ?_ _
  exact ⟨_,rfl,by unfold stateS;rw [if_pos (by omega)],rfl⟩
 ·refine GG ?_
  refine CD (fun h14=>?_) (fun h14=>?_)
  ·refine GG ?_
   refine RK.ret_of Tryz.func51 (res1 rfl rfl) ?_ _
   exact ⟨_,rfl,by unfold stateS;rw [if_neg (by omega),if_pos (by omega)],rfl⟩
  ·refine GG ?_
   refine RK.ret_of Tryz.func51 (res1 rfl rfl) ?_ _
   exact ⟨_,rfl,by unfold stateS;rw [if_neg (by omega),if_neg (by omega)],rfl⟩
theorem stateR_ok (n a b:Int) (w:World):Fx Tryz.prog 63 [.int .u64 n,.int .u64 a,.int .u64 b] w (fun u w'=>u=.int .i64 (stateS n a b)∧w=w'):=by
 refine enter Tryz.func63 rfl rfl rfl _ (Pick.sub (l:=[0,1,2]) (.cons rfl (.cons rfl (.cons rfl .nil)))) ?_
 refine GG ?_
 refine CD (fun h10=>?_) (fun h10=>?_)
 ·refine GG ?_
  refine RK.ret_of Tryz.func63 (res1 rfl rfl) ?_ _
  exact ⟨_,rfl,by unfold stateS;rw [if_pos (by omega)],rfl⟩
 ·refine GG ?_
  refine CD (fun h14=>?_) (fun h14=>?_)
  ·refine GG ?_
   refine RK.ret_of Tryz.func63 (res1 rfl rfl) ?_ _
   exact ⟨_,rfl,by unfold stateS;rw [if_neg (by omega),if_pos (by omega)],rfl⟩
  ·refine GG ?_
   refine RK.ret_of Tryz.func63 (res1 rfl rfl) ?_ _
   exact ⟨_,rfl,by unfold stateS;rw [if_neg (by omega),if_neg (by omega)],rfl⟩
end Go.Proofs.YtbcbfjnlnmhpbaaGreat
set_option linter.unusedVariables false
set_option linter.unusedSimpArgs false
set_option maxHeartbeats 2000000
set_option maxRecDepth 100000
namespace Go.Proofs.YtbcbfjnlnmhpbaaGreat
open Go Go.X Go.Rex
structure Sil where
 id:Int
 ver:Int
 start:Int
 stop:Int
 mv:Value
 ms:List Mt
 bd:Bd
def silC (s:Sil):List Value:=[.int .i64 s.id,.int .i64 s.ver,.int .u64 s.start,.int .u64 s.stop,s.mv,.bool s.bd.all,.float .f64 s.bd.lo,.float .f64 s.bd.hi]
theorem silC_len (s:Sil):(silC s).length=8:=rfl
theorem silC_one {M:Nat→Prop} {w:World} {s:Sil} (h:SlM M w s.mv s.ms):((Value.agg (silC s).toArray).cells.toList.all fun x=>x.oneCell')=true:=by
 obtain ⟨ad,c,e⟩:=h.shape
 show (silC s).all _=true
 unfold silC
 rw [e];rfl
end Go.Proofs.YtbcbfjnlnmhpbaaGreat
set_option linter.unusedVariables false
set_option linter.unusedSimpArgs false
set_option maxHeartbeats 400000
namespace Go.Proofs.YtbcbfjnlnmhpbaaGreat
open Go Go.X
abbrev CRows:=List (ByteArray×List Int)
abbrev CKeys:=List (Int×ByteArray)
structure CI (c:CRows×CKeys):Prop where
 nk:(c.2.map (·.1)).Nodup
 nr:(c.1.map (·.1)).Nodup
 row:∀ t∈c.1,Ris t.2∧t.2≠[]
 mem:∀ k id,id∈(lookM c.1 k).getD []↔lookM c.2 id=some k
theorem CI.nil:CI ([],[]):=⟨by simp,by simp,by simp,by simp [lookM,placeM]⟩
def CB (c:CRows×CKeys) (B:Nat):Prop:=(∀ t∈c.1,t.2.length≤B)∧c.2.length≤B
theorem CB.nil:CB ([],[]) 0:=⟨by simp,by simp⟩
theorem CB.look {c:CRows×CKeys} {B:Nat} (h:CB c B) (k:ByteArray):((lookM c.1 k).getD []).length≤B:=by
 cases hl:lookM c.1 k with
 | none=>simp
 | some a=>exact h.1 _ (lookM_mem hl)
end Go.Proofs.YtbcbfjnlnmhpbaaGreat
set_option linter.unusedVariables false
set_option linter.unusedSimpArgs false
set_option maxHeartbeats 400000
namespace Go.Proofs.YtbcbfjnlnmhpbaaGreat
open Go Go.X
section
variable {α : Type} (idf : α → Int) (src : α → Bool) (key : α → ByteArray)
structure CR (c:CRows×CKeys) (all:List α):Prop where
 ci:CI c
 nd:(all.map idf).Nodup
 look:∀ id k,lookM c.2 id=some k↔∃ a∈all,idf a=id∧src a=true∧key a=k
end
section
variable {α : Type} {idf : α → Int} {src : α → Bool} {key : α → ByteArray} {c : CRows × CKeys} {all : List α}
theorem CR.nil:CR idf src key ([],[]) []:=⟨CI.nil,by simp,by simp [lookM,placeM]⟩
def rowC (c:CRows×CKeys) (k:ByteArray):List Int:=mkRow ((lookM c.1 k).getD [])
theorem rowC_ris (c:CRows×CKeys) (k:ByteArray):Ris (rowC c k):=mkRow_ris _
theorem CI.mem_row (h:CI c) (k:ByteArray) (j:Int):j∈rowC c k↔lookM c.2 j=some k:=by unfold rowC;rw [mem_mkRow,h.mem]
theorem CR.mem_row (h:CR idf src key c all) (k:ByteArray) (j:Int):j∈rowC c k↔∃ a∈all,idf a=j∧src a=true∧key a=k:=by rw [h.ci.mem_row,h.look]
theorem keys_nil {l:CKeys} (h:∀ j k,lookM l j≠some k):l=[]:=by
 cases l with
 | nil=>rfl
 | cons t l=>exact absurd (by rw [lookM_cons,if_pos rfl]) (h t.1 t.2)
theorem CI.empty (h:CI c) (h2:c.2=[]):c.1=[]:=by
 cases hc:c.1 with
 | nil=>rfl
 | cons t l=>
  have ht:t∈c.1:=by rw [hc];simp
  obtain ⟨_,hne⟩:=h.row t ht
  obtain ⟨j,hj⟩:=List.exists_mem_of_ne_nil _ hne
  have hl:lookM c.1 t.1=some t.2:=(lookM_iff h.nr).2 ht
  have:=(h.mem t.1 j).1 (by rw [hl];exact hj)
  rw [h2] at this
  simp [lookM,placeM] at this
theorem CR.empty (h:CR idf src key c []):c.1=[]∧c.2=[]:=by
 have h2:c.2=[]:=keys_nil fun j k e=>by
  obtain ⟨a,ha,_⟩:=(h.look j k).1 e
  cases ha
 exact ⟨h.ci.empty h2,h2⟩
end
end Go.Proofs.YtbcbfjnlnmhpbaaGreat
set_option linter.unusedVariables false
set_option linter.unusedSimpArgs false
set_option maxHeartbeats 1000000
set_option maxRecDepth 100000
namespace Go.Proofs.YtbcbfjnlnmhpbaaGreat
open Go Go.X Go.Rex
theorem cloneM_ok (M:Nat→Prop) (xs:List Mt) (v:Value) (w:World) (hv:SlM M w v xs) (hb:xs.length≤1000000) :
  Fx Tryz.prog 48 [v] w (fun u w'=>Row w' 108 3 u xs.length (xs.flatMap mtC)∧Fresh w.heap.size u∧Grow w w'):=by
 obtain ⟨ad,c,b,o,rfl,hf⟩:=hv.open
 refine enter Tryz.func48 rfl rfl rfl _ (Pick.sub (l:=[0]) (.cons rfl .nil)) ?_
 refine GG ?_
 refine QQ (Yld.eqNil u28 rfl rfl) ?_
 refine RL.done ?_
 refine CD (fun h4=>?_) (fun h4=>?_)
 ·refine GG ?_
  refine RK.ret_of Tryz.func48 (res1 rfl rfl) ?_ _
  exact ⟨_,rfl,by cases ad with | none=>(have h0:xs.length=0:=by (rcases Nat.eq_zero_or_pos xs.length with h | h;exact h;exact absurd (hf h).1 (by simp)));have:xs=[]:=List.eq_nil_of_length_eq_zero h0;subst this;exact ⟨Row.nil _ _ _,fun b hb=>by simp [Value.ownBlock] at hb,Mod.refl _ _⟩ | some a=>simp at h4⟩
 ·refine GG ?_
  refine OP (Does.slice0 u28 i108) ?_
  rintro _ w1 ⟨b1,rfl,hn1⟩
  refine RL.p rfl rfl ?_
  refine OP (Does.append u28 i108 rfl rfl rfl rfl rfl (Row.new hn1 3 0 rfl (by omega)) ((hv.mod (Mod.any' hn1.grow)).noM) (allOne_mts xs) (by omega)) ?_
  rintro u w2 ⟨hr,hm,hu⟩
  refine GG ?_
  refine RK.ret_of Tryz.func48 (res1 rfl rfl) ?_ _
  exact ⟨_,rfl,by simpa using hr,fun b hb=>by rcases hu with hu | hu <;> rw [hu] at hb <;> simp [Value.ownBlock] at hb <;> (have:=hn1.at_;have:=hn1.size;omega),hn1.grow.then hm (fun x hx e=>by simp [Value.ownBlock] at e;have:=hn1.at_;omega)⟩
end Go.Proofs.YtbcbfjnlnmhpbaaGreat
set_option linter.unusedVariables false
set_option linter.unusedSimpArgs false
set_option maxHeartbeats 1600000
set_option maxRecDepth 100000
namespace Go.Proofs.YtbcbfjnlnmhpbaaGreat
open Go Go.X
theorem findZ1_ok (a:Sil) (ad:Option Addr) (n c:Nat) (ha:a.mv=.slice ad n c) (id:Int) (w:World):Fx Tryz.prog 105 [.agg (silC a).toArray,.int .i64 id] w (fun u w'=>u=.int .i64 (Lib.compareInt a.id id)∧Grow w w'):=by
 obtain ⟨aid,ver,sta,sto,mv,ms,bd⟩:=a
 simp only at ha
 subst ha
 refine enter Tryz.func105 rfl rfl rfl _ (Pick.sub (l:=[0,1]) (.cons rfl (.cons rfl .nil))) ?_
 refine GG ?_
 refine OP (Does.box rfl) ?_
 rintro _ w1 ⟨bx,rfl,hbx⟩
 refine GG ?_
 refine QQ (Yld.fieldAddr fo41_0 rfl) ?_
 refine QQ (Yld.load p3 rfl (at1 (hbx.blk.cell rfl))) ?_
 refine RL.p rfl rfl ?_
 refine OP (Does.call rfl e106 (cmpInt_ok _ _ _)) ?_
 rintro _ _ ⟨rfl,rfl⟩
 refine GG ?_
 refine RK.ret_of Tryz.func105 (res1 rfl rfl) ?_ _
 exact ⟨_,rfl,rfl,hbx.grow⟩
theorem bsZ_ok (al:List Sil) (id:Int) (v:Value) (w:World) (hv:Sl No w v 8 al.length (al.flatMap silC)) (hsh:∀ a∈al,∃ ad n c,a.mv=.slice ad n c) (hs:Ris (al.map (·.id))) (hb:al.length≤1000000) :
  Fx Tryz.prog 104 [v,.int .i64 id,.func (.func 105) #[] #[]] w (fun u w'=>(∃ i:Nat,i≤al.length∧(∀ t a,t < i→al[t]?=some a→a.id < id)∧(∀ t a,i≤t→al[t]?=some a→id≤a.id)∧u=.tuple #[.int .i64 i,.bool ((al.map (·.id))[i]? == some id)])∧Grow w w'):=by
 obtain ⟨ad,c,rfl⟩:=hv.shape
 have hris:∀ (t t' : Nat) (a a' : Sil),t < t'→al[t]?=some a→al[t']?=some a'→a.id < a'.id:=fun t t' a a' h h1 h2=>by
  have h3:=(List.getElem?_eq_some_iff.1 h1).1
  have h4:=(List.getElem?_eq_some_iff.1 h2).1
  have:=List.pairwise_iff_getElem.1 hs t t' (by simpa using h3) (by simpa using h4) h
  simp only [List.getElem_map,(List.getElem?_eq_some_iff.1 h1).2,(List.getElem?_eq_some_iff.1 h2).2] at this
  exact this
 refine enter Tryz.func104 rfl rfl rfl _ (Pick.sub (l:=[0,1,2]) (.cons rfl (.cons rfl (.cons rfl .nil)))) ?_
 refine GG ?_
 refine QQ (Yld.lenSl u44 rfl) ?_
 refine GG ?_
 refine RK.loop (fun s:Nat×Nat=>[(0,.slice ad al.length c),(1,.int .i64 id),(2,.func (.func 105) #[] #[]),(8,.int .i64 al.length),(9,.int .i64 (s.1:Int)),(10,.int .i64 (s.2:Int))]) (fun s w'=>Grow w w'∧s.1≤s.2∧s.2≤al.length∧(∀ t a,t < s.1→al[t]?=some a→a.id < id)∧(∀ t a,s.2≤t→al[t]?=some a→id≤a.id)) (fun s=>s.2 - s.1) (0,al.length) ⟨rfl,rfl,rfl,rfl,rfl,rfl,trivial⟩ ⟨Mod.refl _ _,by simp,by simp,fun t a h=>by simp only at h;omega,fun t a h h1=>by have:=(List.getElem?_eq_some_iff.1 h1).1;simp only at h;omega⟩ (fun s w' hI ih=>?_)
 obtain ⟨i,j⟩:=s
 obtain ⟨hg,hij,hj,hlo,hhi⟩:=hI
 simp only at hij hj hlo hhi
 refine GG ?_
 refine CD (fun h17=>?_) (fun h17=>?_)
 ·obtain ⟨m,hm⟩:∃ m,m=(i + j) >>> 1:=⟨_,rfl⟩
  have hm2:m=(i + j) / 2:=by rw [hm,Nat.shiftRight_eq_div_pow]
  obtain ⟨a,ha⟩:∃ a,al[m]?=some a:=⟨al[m]'(by omega),List.getElem?_eq_getElem (by omega)⟩
  obtain ⟨ada,na,ca,hsa⟩:=hsh a (List.mem_of_getElem? ha)
  obtain ⟨b1,o1,c1',he1,_,_,hc1⟩:=hv.elem silC_len ha
  cases he1
  refine RK.skip ?_
  refine RK.block ?_
  refine RK.seq ?_
  refine RK.region ?_
  iterate 3 refine RL.p rfl rfl ?_
  refine RL.re (d:=20) rfl rfl (add_i64 (z:=((i + j:Nat):Int)) (by simp) (by omega) (by omega)) ?_
  refine QQ (Yld.convI Tryz.underlying3 Tryz.underlying198 rfl) ?_
  refine RL.re (d:=21) rfl rfl (congrArg (Value.int .u64) (wrap_u64 (x:=i + j) (by omega))) ?_
  refine QQ (Yld.shr (a:=i + j) (s:=1) rfl rfl (by decide)) ?_
  refine QQ (Yld.convI Tryz.underlying198 Tryz.underlying3 rfl) ?_
  refine RL.re (d:=23) rfl rfl ((congrArg (Value.int .i64) (wrap_i64 (x:=(((i + j) >>> 1:Nat):Int)) (by omega) (by rw [← hm];omega))).trans (by rw [← hm])) ?_
  refine GG ?_
  refine QQ (Yld.indexAddrN u44 i41 rfl rfl (by omega)) ?_
  refine QQ (Yld.loadN (cs:=silC a) a41 rfl (atN (fun q u hq=>hg.cell (hc1 q u hq) (fun h=>h)))) ?_
  refine RL.p rfl rfl ?_
  refine OP (Does.callv rfl rfl e105 (findZ1_ok a ada na ca hsa id _)) ?_
  rintro _ w2 ⟨rfl,hg2⟩
  refine GG ?_
  refine CD (fun h31=>?_) (fun h31=>?_)
  ·have hlt:=(cmp_lt _ _).1 h31
   refine RK.region ?_
   iterate 2 refine RL.p rfl rfl ?_
   refine RL.re (d:=33) rfl rfl (succ_i64 (by omega)) ?_
   refine GG ?_
   exact RK.back (ih (m + 1,j) _ ⟨hg.trans hg2,by simp only;omega,hj,fun t a' ht hta=>by simp only at ht;by_cases e:t=m;(subst e;rw [ha] at hta;cases hta;exact hlt);have:=hris t m a' a (by omega) hta ha;omega,hhi⟩ (by simp only;omega)) ⟨rfl,rfl,rfl,rfl,rfl,rfl,trivial⟩
  ·have hge:¬ a.id < id:=fun h=>h31 ((cmp_lt _ _).2 h)
   refine GG ?_
   exact RK.back (ih (i,m) _ ⟨hg.trans hg2,by simp only;omega,by simp only;omega,hlo,fun t a' ht hta=>by simp only at ht;by_cases e:t=m;(subst e;rw [ha] at hta;cases hta;omega);have:=hris m t a a' (by omega) ha hta;omega⟩ (by simp only;omega)) ⟨rfl,rfl,rfl,rfl,rfl,rfl,trivial⟩
 ·have hije:i=j:=by omega
  refine RK.exit rfl ?_
  refine GG ?_
  refine SP 39 (fun h39=>?_) (fun h39=>?_)
  ·obtain ⟨a,ha⟩:∃ a,al[i]?=some a:=⟨al[i]'(by omega),List.getElem?_eq_getElem (by omega)⟩
   obtain ⟨ada,na,ca,hsa⟩:=hsh a (List.mem_of_getElem? ha)
   obtain ⟨b1,o1,c1',he1,_,_,hc1⟩:=hv.elem silC_len ha
   cases he1
   iterate 3 refine QQ (Yld.pure rfl) ?_
   refine QQ (Yld.indexAddrN u44 i41 rfl rfl (by omega)) ?_
   refine QQ (Yld.loadN (cs:=silC a) a41 rfl (atN (fun q u hq=>hg.cell (hc1 q u hq) (fun h=>h)))) ?_
   refine QQ (Yld.pure rfl) ?_
   refine OP (Does.callv rfl rfl e105 (findZ1_ok a ada na ca hsa id _)) ?_
   rintro _ w2 ⟨rfl,hg2⟩
   refine QQ (Yld.pure rfl) ?_
   refine GG ?_
   refine RK.ret_of Tryz.func104 (res2 rfl rfl rfl) ?_ _
   exact ⟨_,rfl,⟨i,by omega,hlo,by subst hije;exact hhi,by
     have e1:((al.map (·.id))[i]? == some id)=decide (Lib.compareInt a.id id=0):=by
      rw [List.getElem?_map,ha,Bool.eq_iff_iff]
      simp [cmp_eq]
     rw [e1]⟩,hg.trans hg2⟩
  ·iterate 8 refine RL.no (.no rfl rfl rfl rfl) rfl rfl ?_
   refine GG ?_
   refine RK.ret_of Tryz.func104 (res2 rfl rfl rfl) ?_ _
   exact ⟨_,rfl,⟨i,by omega,hlo,by subst hije;exact hhi,by
     have e1:(al.map (·.id))[i]?=none:=by rw [List.getElem?_eq_none_iff];simp;omega
     rw [e1];rfl⟩,hg⟩
theorem allOne_sil {al:List Sil} (h:∀ a∈al,∃ ad n c,a.mv=.slice ad n c):(al.flatMap silC).all (·.oneCell')=true:=by
 rw [List.all_eq_true]
 intro u hu
 obtain ⟨a,ha,hu⟩:=List.mem_flatMap.1 hu
 obtain ⟨ad,n,c,e⟩:=h a ha
 simp only [silC,List.mem_cons,List.not_mem_nil,or_false] at hu
 rcases hu with rfl | rfl | rfl | rfl | rfl | rfl | rfl | rfl <;> first | rfl | (rw [e];rfl)
theorem deleteZ_ok (al : List Sil) (i : Nat) (v : Value) (w : World) (hv : Row w 41 8 v al.length (al.flatMap silC)) (hsh : ∀ a ∈ al, ∃ ad n c, a.mv = .slice ad n c) (hi : i < al.length) (hb : al.length ≤ 1000000) :
    Fx Tryz.prog 57 [v,.int .i64 (i:Int),.int .i64 ((i + 1:Nat):Int)] w (fun u w'=>Row w' 41 8 u (al.eraseIdx i).length ((al.eraseIdx i).flatMap silC)∧u.ownBlock=v.ownBlock∧Mod (fun b=>v.ownBlock=some b) w w'):=by
  obtain ⟨gb,cp,cs,rfl,hbk,hl,hkc,hcm,htk⟩:=hv.whole (by omega)
  have hmax:maxLen≤9223372036854775807:=by decide
  have hnews:(cs.drop ((i + 1) * 8)).take ((al.length - (i + 1)) * 8)=(al.drop (i + 1)).flatMap silC:=by
    rw [← flat_drop silC 8 silC_len,← htk,List.drop_take]
    congr 1
    omega
  have hpre:cs.take (i * 8)=(al.take i).flatMap silC:=by
    rw [← flat_take silC 8 silC_len,← htk,List.take_take,Nat.min_eq_left (by omega)]
  have herase:(al.take i).flatMap silC ++ (al.drop (i + 1)).flatMap silC=(al.eraseIdx i).flatMap silC:=by
    rw [List.eraseIdx_eq_take_drop_succ,List.flatMap_append]
  have hlen:(al.eraseIdx i).length=i + (al.length - (i + 1)):=by rw [List.length_eraseIdx];simp [hi];omega
  have hone:((cs.drop ((i + 1) * 8)).take ((al.length - (i + 1)) * 8)).all (·.oneCell')=true:=by
    rw [hnews]
    exact allOne_sil fun a ha=>hsh a (List.mem_of_mem_drop ha)
  have hbd:∀ w',Grow w w'→Blk w' gb 41 cs:=fun w' h=>hbk.mod h (fun h=>h)
  refine enter Tryz.func57 rfl rfl rfl _ (Pick.sub (l:=[0,1,2]) (.cons rfl (.cons rfl (.cons rfl .nil)))) ?_
  refine RK.seq ?_
  refine RK.region ?_
  refine RL.p rfl rfl ?_
  refine RL.done ?_
  refine RK.seq ?_
  refine RK.region ?_
  iterate 4 refine RL.p rfl rfl ?_
  refine RL.q (.free rfl) rfl rfl (Yld.lenSl u44 rfl) ?_
  refine RL.q (.free rfl) rfl rfl (Yld.slice3 u44 i41 (lo:=i) (hi:=i + 1) (mx:=al.length) rfl rfl rfl rfl (by omega) (by omega) hkc) ?_
  refine RL.done ?_
  iterate 2 refine RK.seq ?_
  refine RK.region ?_
  iterate 3 refine RL.p rfl rfl ?_
  refine RL.done ?_
  refine RK.condF (hcF rfl (decide_eq_false (by omega))) ?_
  refine RK.skip ?_
  refine RK.seq ?_
  refine RK.region ?_
  refine RL.p rfl rfl ?_
  refine RL.q (.free rfl) rfl rfl (Yld.lenSl u44 rfl) ?_
  refine RL.p rfl rfl ?_
  refine RL.done ?_
  refine RK.seq ?_
  refine RK.drawM (·=gb) [(0,false),(1,false),(2,false),(3,false),(4,false),(5,false),(6,true),(7,false)] [] mixed (by kernel_rfl) ?_
  iterate 2 refine DL.p rfl rfl rfl ?_
  refine DL.qf rfl (.free rfl) rfl rfl (Yld.sliceHi u44 i41 (m:=i) rfl rfl (by omega)) ?_
  iterate 2 refine DL.p rfl rfl rfl ?_
  refine DL.qf rfl (.free rfl) rfl rfl (Yld.sliceFrom u44 i41 (m:=i + 1) rfl rfl (by omega)) ?_
  refine DL.op rfl (.free rfl) rfl rfl (Does.appendIn u44 i41 (m:=al.length - (i + 1)) rfl rfl (hbd _ (Mod.drew No _)) hl (Sl.ofBlk (hbd _ (Mod.drew No _)) hl (by omega) (fun h=>h) (by omega)) hone (by omega)) ?_
  rintro _ w3 ⟨rfl,⟨cs3,hb3,hl3,ht3⟩,hm3,hs3⟩
  refine ⟨(Mod.drew _ _).trans hm3,?_⟩
  refine DL.p rfl rfl rfl ?_
  refine DL.done ?_
  refine RK.seq ?_
  refine RK.region ?_
  iterate 2 refine RL.p rfl rfl ?_
  refine RL.q (.free rfl) rfl rfl (Yld.lenSl u44 rfl) ?_
  refine RL.p rfl rfl ?_
  refine RL.q (.free rfl) rfl rfl (Yld.sliceLH u44 i41 (lo:=i + (al.length - (i + 1))) (hi:=al.length) rfl rfl rfl (by omega) (by omega)) ?_
  refine RL.op' (.free rfl) rfl (Does.clear u44 i41 (cap:=cp) (lo:=i + (al.length - (i + 1))) (m:=al.length - (i + (al.length - (i + 1)))) rfl (by simp [Value.cells,Value.oneCell']) rfl hb3 (by rw [hl3,hl]) (by omega)) ?_
  rintro _ w4 ⟨⟨cs4,hb4,hl4,ht4⟩,hm4,hs4⟩
  refine RL.done ?_
  refine RK.seq ?_
  refine RK.region ?_
  iterate 2 refine RL.p rfl rfl ?_
  refine RL.done ?_
  refine RK.ret_of Tryz.func57 (res1 rfl rfl) ?_ _
  exact ⟨_, rfl, by
      rw [ht3,hpre,hnews,herase] at ht4
      rw [← ht4,hlen]
      exact Row.shut hb4 (by rw [hl4,hl3,hl]) (by omega) hcm,rfl,(((Mod.drew _ _).trans hm3).trans hm4).mono fun b _ e=>congrArg some e.symm⟩
theorem toldZ_ok (M:Nat→Prop) (now:Int) (a:Sil) (w:World) (ha:SlM M w a.mv a.ms) (hl:a.ms.length≤1000000):Fx Tryz.prog 55 [.int .u64 now,.agg (silC a).toArray] w (fun u w'=>∃ v',u=.agg (silC { a with ver:=stateS now a.start a.stop,mv:=v' }).toArray∧Row w' 108 3 v' a.ms.length (a.ms.flatMap mtC)∧Fresh w.heap.size v'∧Grow w w'):=by
 obtain ⟨ad,c,e⟩:=ha.shape
 obtain ⟨aid,ver,sta,sto,mv,ms,bd⟩:=a
 simp only at ha hl e
 subst e
 refine enter Tryz.func55 rfl rfl rfl _ (Pick.sub (l:=[0,1]) (.cons rfl (.cons rfl .nil))) ?_
 refine GG ?_
 refine OP (Does.box rfl) ?_
 rintro _ w1 ⟨b3,rfl,hn3⟩
 refine OP (Does.alloc i41) ?_
 rintro _ w2 ⟨b4,rfl,hn4⟩
 have hB3:Blk w2 b3 41 [.int .i64 aid,.int .i64 ver,.int .u64 sta,.int .u64 sto,.slice ad ms.length c,.bool bd.all,.float .f64 bd.lo,.float .f64 bd.hi]:=hn3.blk.mod hn4.grow (fun h=>h)
 have hg2:=hn3.grow.trans hn4.grow
 refine GG ?_
 refine QQ (Yld.fieldAddr fo41_2 rfl) ?_
 refine QQ (Yld.load p22 rfl (at1 (hB3.cell rfl))) ?_
 refine QQ (Yld.fieldAddr fo41_3 rfl) ?_
 refine QQ (Yld.load p22 rfl (at1 (hB3.cell rfl))) ?_
 refine OP (Does.call rfl e51 (state_ok now sta sto _)) ?_
 rintro _ _ ⟨rfl,rfl⟩
 refine QQ (Yld.fieldAddr fo41_1 rfl) ?_
 refine OQ (Does.store i3 rfl rfl rfl hB3 (.s .z)) ?_
 rintro _ w3 ⟨hb3,hm3,hs3⟩
 have hg3:Grow w w3:=hg2.then hm3 (fun y hy e=>by have e' : y=b3:=e;have:=hn3.at_;omega)
 refine GG ?_
 refine QQ (Yld.fieldAddr fo41_4 rfl) ?_
 refine QQ (Yld.load p28 rfl (at1 (hb3.cell rfl))) ?_
 refine OP (Does.call rfl e48 (cloneM_ok M ms _ _ (ha.mod (Mod.any' hg3)) hl)) ?_
 rintro u5 w5 ⟨hr5,hf5,hg5⟩
 obtain ⟨ad5,c5,rfl⟩:=hr5.slice
 have hlt5:=fun b e=>hr5.lt (b:=b) e
 have ha3:=hn3.at_
 have ha4:=hn4.at_
 have hz3:=hn3.size
 have hz4:=hn4.size
 have hz5:=hg5.size
 refine QQ (Yld.fieldAddr fo41_4 rfl) ?_
 refine OQ (Does.store i28 rfl rfl rfl (hb3.mod hg5 (fun h=>h)) (.s (.s (.s (.s .z))))) ?_
 rintro _ w6 ⟨hb6,hm6,hs6⟩
 have hB4:=((hn4.blk.mod hm3 (fun e=>by have e' : b4=b3:=e;omega)).mod hg5 (fun h=>h)).mod hm6 (fun e=>by have e' : b4=b3:=e;omega)
 refine GG ?_
 refine QQ (Yld.loadN (cs:=silC ⟨aid,stateS now sta sto,sta,sto,.slice ad5 ms.length c5,ms,bd⟩) a41 rfl (atN (blk0' hb6))) ?_
 refine OQ (Does.storeN i41 rfl rfl rfl rfl hB4 (Nat.le_refl 8)) ?_
 rintro _ w7 ⟨hb7,hm7,hs7⟩
 refine RL.done ?_
 refine RK.ret_of Tryz.func55 (resC (cs:=silC ⟨aid,stateS now sta sto,sta,sto,.slice ad5 ms.length c5,ms,bd⟩) rfl rfl a41 hb7) ?_ _
 exact ⟨_,rfl,.slice ad5 ms.length c5,rfl,(hr5.mod hm6 (fun b e h=>by have:=hf5 b e;have h' : b=b3:=h;omega)).mod hm7 (fun b e h=>by have:=hf5 b e;have h' : b=b4:=h;omega),fun b e=>by have:=hf5 b e;omega,((hg3.trans hg5).then hm6 (fun y hy e=>by have e' : y=b3:=e;omega)).then hm7 (fun y hy e=>by have e' : y=b4:=e;omega)⟩
end Go.Proofs.YtbcbfjnlnmhpbaaGreat
set_option linter.unusedVariables false
set_option linter.unusedSimpArgs false
set_option maxHeartbeats 1600000
set_option maxRecDepth 100000
namespace Go.Proofs.YtbcbfjnlnmhpbaaGreat
open Go Go.X
def spanS (now a b:Int):Bool:=decide (a < b) && decide (now < b) && decide (b≤1099511627776)
theorem spanZ_ok (now a b:Int) (w:World):Fx Tryz.prog 98 [.int .u64 now,.int .u64 a,.int .u64 b] w (fun u w'=>u=.bool (spanS now a b)∧w=w'):=by
 refine enter Tryz.func98 rfl rfl rfl _ (Pick.sub (l:=[0,1,2]) (.cons rfl (.cons rfl (.cons rfl .nil)))) ?_
 refine GG ?_
 refine SP 10 (fun h1=>?_) (fun h1=>?_)
 ·iterate 3 refine QQ (Yld.pure rfl) ?_
  refine GG ?_
  refine SP 15 (fun h2=>?_) (fun h2=>?_)
  ·iterate 2 refine QQ (Yld.pure rfl) ?_
   refine GG ?_
   refine RK.ret_of Tryz.func98 (res1 rfl rfl) ?_ _
   exact ⟨_,rfl,by unfold spanS;simp [h1,h2],rfl⟩
  ·iterate 2 refine RL.no (.no rfl rfl rfl rfl) rfl rfl ?_
   refine GG ?_
   refine RK.ret_of Tryz.func98 (res1 rfl rfl) ?_ _
   exact ⟨_,rfl,by unfold spanS;simp [h1,h2],rfl⟩
 ·iterate 3 refine RL.no (.no rfl rfl rfl rfl) rfl rfl ?_
  refine GG ?_
  iterate 2 refine RL.no (.no rfl rfl rfl rfl) rfl rfl ?_
  refine GG ?_
  refine RK.ret_of Tryz.func98 (res1 rfl rfl) ?_ _
  exact ⟨_,rfl,by unfold spanS;simp [h1],rfl⟩
def rightS (ms:List Mt) (bd:Bd):Bool:=(decide (0 < ms.length) && listM ms) && mayB bd
theorem rightZ_ok (M:Nat→Prop) (ms:List Mt) (v:Value) (bd:Bd) (w:World) (hv:SlM M w v ms):Fx Tryz.prog 45 [v,.agg (bdC bd).toArray] w (fun u w'=>u=.bool (rightS ms bd)∧Grow w w'):=by
 obtain ⟨ad,c,rfl⟩:=hv.shape
 refine enter Tryz.func45 rfl rfl rfl _ (Pick.sub (l:=[0,1]) (.cons rfl (.cons rfl .nil))) ?_
 refine GG ?_
 refine OP (Does.box rfl) ?_
 rintro _ w1 ⟨b3,rfl,hn3⟩
 refine GG ?_
 refine QQ (Yld.lenSl u28 rfl) ?_
 refine GG ?_
 refine SP 8 (fun h1=>?_) (fun h1=>?_)
 ·refine QQ (Yld.pure rfl) ?_
  refine OP (Does.call rfl e95 (matchList_ok M ms _ _ (hv.mod (Mod.any' hn3.grow)))) ?_
  rintro _ w2 ⟨rfl,hg2⟩
  have hB3:Blk w2 b3 32 (bdC bd):=hn3.blk.mod hg2 (fun h=>h)
  refine GG ?_
  refine SP 12 (fun h2=>?_) (fun h2=>?_)
  ·refine QQ (Yld.loadN (cs:=bdC bd) a32 rfl (atN (blk0' hB3))) ?_
   refine OP (Does.call rfl e96 (may_ok bd _)) ?_
   rintro _ w3 ⟨rfl,hg3⟩
   refine GG ?_
   refine RK.ret_of Tryz.func45 (res1 rfl rfl) ?_ _
   exact ⟨_,rfl,by unfold rightS;rw [h2,decide_eq_true (by omega)];rfl,(hn3.grow.trans hg2).trans hg3⟩
  ·iterate 2 refine RL.no (.no rfl rfl rfl rfl) rfl rfl ?_
   refine GG ?_
   refine RK.ret_of Tryz.func45 (res1 rfl rfl) ?_ _
   exact ⟨_,rfl,by unfold rightS;rw [show listM ms=false by simpa using h2];simp,hn3.grow.trans hg2⟩
 ·iterate 2 refine RL.no (.no rfl rfl rfl rfl) rfl rfl ?_
  refine GG ?_
  iterate 2 refine RL.no (.no rfl rfl rfl rfl) rfl rfl ?_
  refine GG ?_
  refine RK.ret_of Tryz.func45 (res1 rfl rfl) ?_ _
  exact ⟨_,rfl,by unfold rightS;rw [decide_eq_false (by omega)];rfl,hn3.grow⟩
def fitsS (now a b:Int) (ms:List Mt):Int:=if anyL ms=true then 7 else if spanS now a b=true then 0 else 8
theorem fitsZ_ok (M:Nat→Prop) (now a b:Int) (ms:List Mt) (v:Value) (w:World) (hv:SlM M w v ms):Fx Tryz.prog 46 [.int .u64 now,.int .u64 a,.int .u64 b,v] w (fun u w'=>u=.int .i64 (fitsS now a b ms)∧Grow w w'):=by
 obtain ⟨ad,c,rfl⟩:=hv.shape
 refine enter Tryz.func46 rfl rfl rfl _ (Pick.sub (l:=[0,1,2,3]) (.cons rfl (.cons rfl (.cons rfl (.cons rfl .nil))))) ?_
 refine GG ?_
 refine OP (Does.call rfl e97 (matchAnyL_ok M ms _ _ hv)) ?_
 rintro _ w2 ⟨rfl,hg2⟩
 refine GG ?_
 refine CD (fun h9=>?_) (fun h9=>?_)
 ·refine GG ?_
  refine RK.ret_of Tryz.func46 (res1 rfl rfl) ?_ _
  exact ⟨_,rfl,by unfold fitsS;rw [if_pos h9],hg2⟩
 ·refine GG ?_
  refine OP (Does.call rfl e98 (spanZ_ok now a b _)) ?_
  rintro _ _ ⟨rfl,rfl⟩
  refine GG ?_
  refine CD (fun h12=>?_) (fun h12=>?_)
  ·refine GG ?_
   refine RK.ret_of Tryz.func46 (res1 rfl rfl) ?_ _
   exact ⟨_,rfl,by unfold fitsS;rw [h9,show spanS now a b=false by simpa using h12];rfl,hg2⟩
  ·refine GG ?_
   refine RK.ret_of Tryz.func46 (res1 rfl rfl) ?_ _
   exact ⟨_,rfl,by unfold fitsS;rw [h9,show spanS now a b=true by simpa using h12];rfl,hg2⟩
structure Slz where
 id:Int
 start:Int
 stop:Int
 ms:List Mt
 bd:Bd
def pubZ (a:Sil):Slz:=⟨a.id,a.start,a.stop,a.ms,a.bd⟩
structure SS where
 ret:Int
 most:Int
 last:Int
 sl:List Slz
def ownS (p pl qu:Nat) (vp vq vs:Value) (b:Nat):Prop:=b=p∨b=pl∨b=qu∨vp.ownBlock=some b∨vq.ownBlock=some b∨vs.ownBlock=some b
structure ZA (w:World) (p:Nat) (s:SS) (M:Nat→Prop) (pl qu:Nat) (vp vq vs:Value) (al:List Sil) (q:List En):Prop where
 blk:Blk w p 101 [pp pl,pp qu,.int .u64 s.ret,vs]
 pool:PoolAt w pl s.most s.last (al.map (·.id)) vp
 que:QAt w qu q vq
 row:Row w 41 8 vs al.length (al.flatMap silC)
 als:al.map pubZ=s.sl
 sms:∀ a∈al,SlM M w a.mv a.ms
 sort:SortE q
 perm:q.Perm (al.map fun a=>⟨a.stop + s.ret,a.id⟩)
 ownM:∀ b,ownS p pl qu vp vq vs b→M b
 ltM:∀ b,M b→b < w.heap.size
def ZStore (O M:Nat→Prop) (w:World) (p:Nat) (s:SS):Prop:=∃ pl qu vp vq vs al q,(∀ b,O b↔ownS p pl qu vp vq vs b)∧ZA w p s M pl qu vp vq vs al q
structure Gz (s:SS):Prop where
 r0:1≤s.ret
 r1:s.ret≤1048576
 m1:s.most≤12
 len:(s.sl.length:Int)≤s.most
 ris:Ris (s.sl.map (·.id))
 l0:0≤s.last
 low:∀ a∈s.sl,a.id≤s.last
 st:∀ a∈s.sl,0≤a.stop∧a.stop≤1099511627776
theorem Gz.le {s:SS} (h:Gz s):s.sl.length≤12:=by have:=h.len;have:=h.m1;omega
section
variable {w : World} {p : Nat} {s : SS} {M : Nat → Prop} {pl qu : Nat} {vp vq vs : Value} {al : List Sil} {q : List En}
theorem ZA.len (h:ZA w p s M pl qu vp vq vs al q):al.length=s.sl.length:=by rw [← h.als,List.length_map]
theorem ZA.ids (h:ZA w p s M pl qu vp vq vs al q):al.map (·.id)=s.sl.map (·.id):=by rw [← h.als,List.map_map];rfl
theorem ZA.qlen (h:ZA w p s M pl qu vp vq vs al q):q.length=al.length:=by rw [h.perm.length_eq,List.length_map]
theorem ZA.sh (h:ZA w p s M pl qu vp vq vs al q):∀ a∈al,∃ ad n c,a.mv=.slice ad n c:=fun a ha=>by obtain ⟨ad,c,e⟩:=(h.sms a ha).shape;exact ⟨ad,_,c,e⟩
theorem ZA.own_lt (h:ZA w p s M pl qu vp vq vs al q) {b:Nat} (e:ownS p pl qu vp vq vs b):b < w.heap.size:=h.ltM b (h.ownM b e)
theorem ZA.ne_ppl (h:ZA w p s M pl qu vp vq vs al q):p≠pl:=h.blk.ty.ne h.pool.blk.ty rfl
theorem ZA.ne_plqu (h:ZA w p s M pl qu vp vq vs al q):pl≠qu:=h.pool.blk.ty.ne h.que.blk.ty rfl
theorem ZA.grow {w' : World} (h:ZA w p s M pl qu vp vq vs al q) (hg:Grow w w'):ZA w' p s M pl qu vp vq vs al q:=
 ⟨h.blk.mod hg (fun h=>h),⟨h.pool.blk.mod hg (fun h=>h),h.pool.row.mod hg (fun _ _ h=>h),h.pool.ne⟩,h.que.grow hg,h.row.mod hg (fun _ _ h=>h),h.als,fun a ha=>(h.sms a ha).mod (Mod.any' hg),h.sort,h.perm,h.ownM,fun b hb=>Nat.lt_of_lt_of_le (h.ltM b hb) hg.size⟩
end
theorem ZStore.grow {O M:Nat→Prop} {w w' : World} {p:Nat} {s:SS} (h:ZStore O M w p s) (hg:Grow w w'):ZStore O M w' p s:=by
 obtain ⟨pl,qu,vp,vq,vs,al,q,hO,h⟩:=h
 exact ⟨pl,qu,vp,vq,vs,al,q,hO,h.grow hg⟩
theorem ZStore.lt {O M:Nat→Prop} {w:World} {p:Nat} {s:SS} (h:ZStore O M w p s):∀ b,O b→b < w.heap.size:=by
 obtain ⟨pl,qu,vp,vq,vs,al,q,hO,h⟩:=h
 exact fun b hb=>h.own_lt ((hO b).1 hb)
def placeI (l:List Int) (id:Int):Option Nat:=l.findIdx? fun x=>decide (x=id)
def placeZ (s:SS) (id:Int):Option Nat:=placeI (s.sl.map (·.id)) id
theorem placeI_eq (l:List Int) (id:Int) (i:Nat) (hs:Ris l) (hlo:∀ (t:Nat) (x:Int),t < i→l[t]?=some x→x < id) (hhi:∀ (t:Nat) (x:Int),i≤t→l[t]?=some x→id≤x):placeI l id=if l[i]?=some id then some i else none:=by
 unfold placeI
 split
 ·rename_i he
  obtain ⟨hil,hv⟩:=List.getElem?_eq_some_iff.1 he
  rw [List.findIdx?_eq_some_iff_getElem]
  refine ⟨hil,by simpa using hv,fun j hj=>?_⟩
  have:=hlo j _ hj (List.getElem?_eq_getElem (by omega))
  simp only [decide_eq_true_eq]
  omega
 ·rename_i he
  rw [List.findIdx?_eq_none_iff]
  intro x hx
  obtain ⟨t,ht⟩:=List.getElem?_of_mem hx
  simp only [decide_eq_false_iff_not]
  intro e
  subst e
  have htl:=(List.getElem?_eq_some_iff.1 ht).1
  rcases Nat.lt_trichotomy t i with h1 | h1 | h1
  ·have:=hlo t _ h1 ht;omega
  ·subst h1;exact he ht
  ·have h2:=hhi i _ (Nat.le_refl _) (List.getElem?_eq_getElem (by omega))
   have h3:=List.pairwise_iff_getElem.1 hs i t (by omega) htl h1
   rw [(List.getElem?_eq_some_iff.1 ht).2] at h3
   omega
theorem findZ_ok (w:World) (p:Nat) (s:SS) (M:Nat→Prop) (pl qu:Nat) (vp vq vs:Value) (al:List Sil) (q:List En) (h:ZA w p s M pl qu vp vq vs al q) (g:Gz s) (id:Int) :
  Fx Tryz.prog 54 [pp p,.int .i64 id] w (fun u w'=>(∃ i:Nat,u=.tuple #[.int .i64 i,.bool (placeZ s id).isSome]∧(∀ j,placeZ s id=some j→j=i∧i < al.length))∧Grow w w'):=by
 have hlen:=h.len
 have hle:=g.le
 have hids:=h.ids
 have hcall:=bsZ_ok al id vs w (Sl.own h.row (fun _ _ h=>h)) h.sh (by rw [hids];exact g.ris) (by omega)
 obtain ⟨ad,c,rfl⟩:=h.row.slice
 refine enter Tryz.func54 rfl rfl rfl _ (Pick.sub (l:=[0,1]) (.cons rfl (.cons rfl .nil))) ?_
 refine GG ?_
 refine QQ (Yld.fieldAddr fo101_3 rfl) ?_
 refine QQ (Yld.load p44 rfl (at1 (h.blk.cell rfl))) ?_
 refine RL.p rfl rfl ?_
 refine OP (Does.call rfl e104 (hcall)) ?_
 rintro _ w2 ⟨⟨i,hi,hlo,hhi,rfl⟩,hg2⟩
 have hp:placeZ s id=if (al.map (·.id))[i]?=some id then some i else none:=by
   unfold placeZ
   rw [← hids]
   refine placeI_eq _ id i (by rw [hids];exact g.ris) (fun t x ht hx=>?_) (fun t x ht hx=>?_)
   ·rw [List.getElem?_map] at hx
    cases ha:al[t]? with
    | none=>rw [ha] at hx;cases hx
    | some a=>rw [ha] at hx;cases hx;exact hlo t a ht ha
   ·rw [List.getElem?_map] at hx
    cases ha:al[t]? with
    | none=>rw [ha] at hx;cases hx
    | some a=>rw [ha] at hx;cases hx;exact hhi t a ht ha
 refine GG ?_
 refine RK.ret_of Tryz.func54 (res2 rfl rfl rfl) ?_ _
 exact ⟨_,rfl,⟨i,by
   rw [hp]
   by_cases he:(al.map (·.id))[i]?=some id
   ·rw [if_pos he,he];simp
   ·rw [if_neg he,beq_eq_false_iff_ne.2 he];rfl
  ,fun j hj=>by
   rw [hp] at hj
   split at hj
   ·rename_i he
    cases hj
    have:=(List.getElem?_eq_some_iff.1 he).1
    exact ⟨rfl,by simpa using this⟩
   ·cases hj
  ⟩,hg2⟩
theorem set_sil (st sp:Int):∀ (al:List Sil) (i:Nat) (a:Sil),al[i]?=some a→((al.flatMap silC).set (i * 8 + 2) (.int .u64 st)).set (i * 8 + 3) (.int .u64 sp)=(al.set i { a with start:=st,stop:=sp }).flatMap silC
 | [],i,a,h=>by simp at h
 | x :: al,0,a,h=>by
  obtain rfl:x=a:=by simpa using h
  simp only [List.flatMap_cons,silC,List.set_cons_zero]
  rfl
 | x :: al,i + 1,a,h=>by
  have ih:=set_sil st sp al i a (by simpa using h)
  rw [List.set_cons_succ,List.flatMap_cons,List.flatMap_cons,← ih]
  rw [List.set_append_right _ _ (by rw [silC_len];omega),List.set_append_right _ _ (by rw [silC_len];omega),silC_len]
  congr 2
  ·congr 1;omega
  ·omega
end Go.Proofs.YtbcbfjnlnmhpbaaGreat
set_option linter.unusedVariables false
set_option linter.unusedSimpArgs false
set_option maxHeartbeats 1600000
set_option maxRecDepth 100000
namespace Go.Proofs.YtbcbfjnlnmhpbaaGreat
open Go Go.X
theorem turnZ_ok (w : World) (p pl qu : Nat) (ret start stop : Int) (vq vs : Value) (al : List Sil) (q : List En) (i : Nat) (a : Sil) (hb : Blk w p 101 [pp pl, pp qu, .int .u64 ret, vs]) (hq : QAt w qu q vq) (hs : SortE q) (hr : Row w 41 8 vs al.length (al.flatMap silC)) (ha : al[i]? = some a) (hql : q.length ≤ 1000) (hal : al.length ≤ 1000) (h0 : 0 ≤ stop + ret) (h1 : stop + ret < 18446744073709551616) :
    Fx Tryz.prog 49 [pp p,.int .i64 (i:Int),.int .u64 start,.int .u64 stop] w (fun u w'=>u=.tuple #[]∧∃ vq',Blk w' p 101 [pp pl,pp qu,.int .u64 ret,vs]∧QAt w' qu (putE (dropE q a.id) ⟨stop + ret,a.id⟩) vq'∧Row w' 41 8 vs al.length ((al.set i { a with start:=start,stop:=stop }).flatMap silC)∧Mod (fun b=>b=qu∨vq.ownBlock=some b∨vs.ownBlock=some b) w w'∧∀ b,vq'.ownBlock=some b→vq.ownBlock=some b∨w.heap.size≤b):=by
  have hil:i < al.length:=(List.getElem?_eq_some_iff.1 ha).1
  obtain ⟨gb,cp,cs,rfl,hbk,hl,hkc,hcm,htk⟩:=hr.whole (by omega)
  have hpg:p≠gb:=hb.ty.ne hbk.ty rfl
  have hgq:gb≠qu:=hbk.ty.ne hq.blk.ty rfl
  have hpq:p≠qu:=hb.ty.ne hq.blk.ty rfl
  have hgv:∀ b,vq.ownBlock=some b→b≠gb:=fun b e=>(hq.row.ty e).ne hbk.ty rfl
  have hpv:∀ b,vq.ownBlock=some b→b≠p:=fun b e=>(hq.row.ty e).ne hb.ty rfl
  refine enter Tryz.func49 rfl rfl rfl _ (Pick.sub (l:=[0,1,2,3]) (.cons rfl (.cons rfl (.cons rfl (.cons rfl .nil))))) ?_
  refine RK.seq ?_
  refine RK.drawM (·=gb) [(0,false),(1,false),(2,false),(3,false),(4,false),(5,false),(6,false),(7,false),(8,false),(9,false),(10,false),(11,false),(12,false),(13,false),(14,true),(15,false),(16,false),(17,true)] [14,17] mixed (by kernel_rfl) ?_
  iterate 2 refine DL.p rfl rfl rfl ?_
  refine DL.qf rfl (.free rfl) rfl rfl (Yld.fieldAddr fo101_3 rfl) ?_
  refine DL.q rfl (.free rfl) rfl rfl rfl (Yld.load p44 rfl (atM (hb.cell rfl) (hpg))) (Mod.drew _ _) ?_
  iterate 3 refine DL.p rfl rfl rfl ?_
  refine DL.qf rfl (.free rfl) rfl rfl (Yld.fieldAddr fo101_3 rfl) ?_
  refine DL.q rfl (.free rfl) rfl rfl rfl (Yld.load p44 rfl (atM (hb.cell rfl) (hpg))) (Mod.drew _ _) ?_
  iterate 3 refine DL.p rfl rfl rfl ?_
  refine DL.qf rfl (.free rfl) rfl rfl (Yld.indexAddrN u44 i41 rfl rfl (by omega)) ?_
  refine DL.qf rfl (.free rfl) rfl rfl (Yld.fieldAddr fo41_2 rfl) ?_
  refine DL.opT rfl (.free rfl) rfl rfl (Does.store i22 rfl rfl rfl (hbk.mod (Mod.drew No _) (fun h=>h)) (SetAt.of (by rw [hl];omega))) ?_
  rintro _ w2 ⟨hb2,hm2,hs2⟩
  refine DL.qf rfl (.free rfl) rfl rfl (Yld.indexAddrN u44 i41 rfl rfl (by omega)) ?_
  refine DL.qf rfl (.free rfl) rfl rfl (Yld.fieldAddr fo41_3 rfl) ?_
  refine DL.opT rfl (.free rfl) rfl rfl (Does.store i22 rfl rfl rfl hb2 (SetAt.of (by rw [List.length_set,hl];omega))) ?_
  rintro _ w3 ⟨hb3,hm3,hs3⟩
  have hm03:Mod (·=gb) w w3:=((Mod.drew _ _).trans hm2).trans hm3
  have hbp3:=hb.mod hm03 hpg
  have hR : Row w3 41 8 (.slice (some ⟨gb, 0, none⟩) al.length cp) al.length ((al.set i { a with start := start, stop := stop }).flatMap silC) := by
      have hR:=Row.shut hb3 (sz:=8) (cap:=cp) (k:=al.length) (by rw [List.length_set,List.length_set];exact hl) hkc hcm
      rw [List.take_set,List.take_set,htk,Nat.zero_add,set_sil start stop al i a ha] at hR
      exact hR
  have hR2:Row w3 41 8 (.slice (some ⟨gb,0,none⟩) al.length cp) (al.set i { a with start:=start,stop:=stop }).length ((al.set i { a with start:=start,stop:=stop }).flatMap silC):=by rw [List.length_set];exact hR
  have hx:(al.set i { a with start:=start,stop:=stop })[i]?=some { a with start:=start,stop:=stop }:=by rw [List.getElem?_set_self hil]
  obtain ⟨b1,o1,c1',he1,_,_,hc1⟩:=(Sl.own (M:=No) hR2 (fun _ _ h=>h)).elem silC_len hx
  rw [List.length_set] at he1
  cases he1
  have hq3:=hq.mod hm03 hgq.symm (fun b e=>hgv b e)
  refine DL.done ?_
  refine RK.drawM (fun b=>b=qu∨vq.ownBlock=some b) [(0,false),(1,false),(2,false),(3,false),(4,false),(5,false),(6,false),(7,false),(8,false),(9,false),(10,false),(11,false),(12,false),(13,false),(14,false),(15,false),(16,false),(17,false),(18,true)] [] mixed (by kernel_rfl) ?_
  iterate 2 refine DL.p rfl rfl rfl ?_
  refine DL.qf rfl (.free rfl) rfl rfl (Yld.fieldAddr fo101_1 rfl) ?_
  refine DL.q rfl (.free rfl) rfl rfl rfl (Yld.load p98 rfl (atM (hbp3.cell rfl) ((fun e=>e.elim hpq (fun e=>hpv p e rfl))))) (Mod.drew _ _) ?_
  iterate 2 refine DL.p rfl rfl rfl ?_
  refine DL.qf rfl (.free rfl) rfl rfl (Yld.fieldAddr fo101_3 rfl) ?_
  refine DL.q rfl (.free rfl) rfl rfl rfl (Yld.load p44 rfl (atM (hbp3.cell rfl) ((fun e=>e.elim hpq (fun e=>hpv p e rfl))))) (Mod.drew _ _) ?_
  refine DL.p rfl rfl rfl ?_
  refine DL.qf rfl (.free rfl) rfl rfl (Yld.indexAddrN u44 i41 rfl rfl (by omega)) ?_
  refine DL.qf rfl (.free rfl) rfl rfl (Yld.fieldAddr fo41_0 rfl) ?_
  refine DL.q rfl (.free rfl) rfl rfl rfl (Yld.load p3 rfl (atM (hc1 0 _ rfl) ((fun e=>e.elim hgq (fun e=>hgv gb e rfl))))) (Mod.drew _ _) ?_
  iterate 3 refine DL.p rfl rfl rfl ?_
  refine DL.qf rfl (.free rfl) rfl rfl (Yld.fieldAddr fo101_2 rfl) ?_
  refine DL.q rfl (.free rfl) rfl rfl rfl (Yld.load p22 rfl (atM (hbp3.cell rfl) ((fun e=>e.elim hpq (fun e=>hpv p e rfl))))) (Mod.drew _ _) ?_
  refine DL.p rfl rfl rfl ?_
  refine DL.re (d:=41) rfl rfl (congrArg (Value.int .u64) (show _=stop + ret by rw [IntKind.wrap_u64];omega)) ?_
  refine DL.op rfl (.free rfl) rfl rfl (Does.call rfl e99 (reapPut_ok _ qu q vq (hq3.grow (Mod.drew No _)) hs a.id (stop + ret) (by omega))) ?_
  rintro _ w4 ⟨rfl,vq',hq4,hm4',hf4⟩
  have hm4:Mod (fun b=>b=qu∨vq.ownBlock=some b) w3 w4:=(Mod.drew _ _).trans hm4'
  refine ⟨hm4,?_⟩
  have hz3:=hm03.size
  refine DL.done ?_
  refine RK.end_of Tryz.func49 (res0 rfl) ?_
  exact ⟨_,rfl,rfl,vq',hbp3.mod hm4 (fun e=>e.elim hpq (fun e=>hpv p e rfl)),hq4,hR.mod hm4 (fun b e h=>by cases e;exact h.elim hgq (fun e=>hgv gb e rfl)),(hm03.mono fun b _ e=>.inr (.inr (by rw [e];rfl))).trans (hm4.mono fun b _ e=>e.elim .inl (fun e=>.inr (.inl e))),fun b e=>(hf4 b e).elim .inl (fun h=>.inr (by simp only [World.drew] at h;omega))⟩
end Go.Proofs.YtbcbfjnlnmhpbaaGreat
set_option linter.unusedVariables false
set_option linter.unusedSimpArgs false
set_option maxHeartbeats 1600000
set_option maxRecDepth 100000
namespace Go.Proofs.YtbcbfjnlnmhpbaaGreat
open Go Go.X
def entZ (ret:Int) (a:Sil):En:=⟨a.stop + ret,a.id⟩
theorem ZA.perm' {w:World} {p:Nat} {s:SS} {M:Nat→Prop} {pl qu:Nat} {vp vq vs:Value} {al:List Sil} {q:List En} (h:ZA w p s M pl qu vp vq vs al q):q.Perm (al.map (entZ s.ret)):=h.perm
theorem ids_find {ret:Int} {al:List Sil} {i:Nat} {a:Sil} (hris:Ris (al.map (·.id))) (ha:al[i]?=some a):(al.map (entZ ret)).findIdx? (fun x=>decide (x.id=a.id))=some i:=by
 obtain ⟨hil,hv⟩:=List.getElem?_eq_some_iff.1 ha
 rw [List.findIdx?_eq_some_iff_getElem]
 refine ⟨by simpa using hil,by simp [hv,entZ],fun j hj=>?_⟩
 have h:=List.pairwise_iff_getElem.1 hris j i (by simp;omega) (by simpa using hil) hj
 simp only [List.getElem_map,hv] at h
 simp only [List.getElem_map,entZ,decide_eq_true_eq]
 omega
theorem turn_perm {ret:Int} {al:List Sil} {q:List En} {i:Nat} {a a' : Sil} (hperm:q.Perm (al.map (entZ ret))) (hris:Ris (al.map (·.id))) (ha:al[i]?=some a) (hid:a'.id=a.id):(putE (dropE q a.id) (entZ ret a')).Perm ((al.set i a').map (entZ ret)):=by
 have hil:=(List.getElem?_eq_some_iff.1 ha).1
 have hd:(al.map (entZ ret)).Pairwise (fun x y=>decide (x.id=a.id)=true→decide (y.id=a.id)=true→False):=by
  have hris:=List.pairwise_map.1 hris
  rw [List.pairwise_map]
  refine hris.imp fun {x y} h h1 h2=>?_
  have e1:x.id=a.id:=of_decide_eq_true h1
  have e2:y.id=a.id:=of_decide_eq_true h2
  omega
 have h1:=(List.Perm.eraseP (fun x:En=>decide (x.id=a.id)) hd hperm.symm).symm
 rw [List.eraseP_eq_eraseIdx (xs:=al.map (entZ ret)),ids_find hris ha] at h1
 refine (putE_perm _ _).trans ?_
 rw [List.map_set,List.set_eq_take_append_cons_drop,if_pos (by simpa using hil)]
 refine (List.Perm.cons _ h1).trans ?_
 simp only [List.eraseIdx_eq_take_drop_succ]
 exact List.perm_middle.symm
theorem dropE_none {q:List En} {id:Int} (h:∀ x∈q,x.id≠id):dropE q id=q:=List.eraseP_of_forall_not fun x hx=>by simpa using h x hx
theorem dropE_no {q:List En} {id:Int} {L:List En} (hp:q.Perm L) (hd:L.Pairwise fun x y=>x.id≠y.id):∀ x∈dropE q id,x.id≠id:=by
 have hd' : q.Pairwise fun x y=>x.id≠y.id:=(hp.pairwise_iff (fun {a b} h=>fun e=>h e.symm)).2 hd
 clear hd hp
 induction q with
 | nil=>intro x hx;simp [dropE] at hx
 | cons y q ih=>
  rw [List.pairwise_cons] at hd'
  intro x hx
  unfold dropE at hx
  by_cases hy:y.id=id
  ·rw [List.eraseP_cons_of_pos (by simpa using hy)] at hx
   have:=hd'.1 x hx
   omega
  ·rw [List.eraseP_cons_of_neg (by simpa using hy)] at hx
   rcases List.mem_cons.1 hx with rfl | hx
   ·exact hy
   ·exact ih hd'.2 x hx
theorem ids_ne {ret:Int} {al:List Sil} (hris:Ris (al.map (·.id))):(al.map (entZ ret)).Pairwise fun x y=>x.id≠y.id:=by
 have hris:=List.pairwise_map.1 hris
 rw [List.pairwise_map]
 exact hris.imp fun {x y} h e=>by simp only [entZ] at e;omega
theorem turn_sort {ret:Int} {al:List Sil} {q:List En} {id due:Int} (hs:SortE q) (hperm:q.Perm (al.map (entZ ret))) (hris:Ris (al.map (·.id))):SortE (putE (dropE q id) ⟨due,id⟩):=
 putE_sort (dropE_sort hs id) fun h=>dropE_no hperm (ids_ne hris) _ h rfl
theorem ZStore.next {M:Nat→Prop} {w w' : World} {p pl qu:Nat} {s' : SS} {vp vq vs:Value} {al:List Sil} {q:List En} (hM:∀ b,M b→b < w.heap.size) (hm:Mod M w w')
  (blk:Blk w' p 101 [pp pl,pp qu,.int .u64 s'.ret,vs]) (pool:PoolAt w' pl s'.most s'.last (al.map (·.id)) vp) (que:QAt w' qu q vq) (row:Row w' 41 8 vs al.length (al.flatMap silC)) (als:al.map pubZ=s'.sl)
  (sms:∀ a∈al,SlM M w a.mv a.ms∨(Row w' 108 3 a.mv a.ms.length (a.ms.flatMap mtC)∧∀ b,a.mv.ownBlock=some b→w.heap.size≤b)) (sort:SortE q) (perm:q.Perm (al.map (entZ s'.ret))) (hO:∀ b,ownS p pl qu vp vq vs b→M b∨w.heap.size≤b) :
  ZStore (ownS p pl qu vp vq vs) (fun b=>M b∨ownS p pl qu vp vq vs b) w' p s':=by
 have hty:∀ b,ownS p pl qu vp vq vs b→∀ k,Ty w' k 108→b≠k:=fun b e k hk=>by
  rcases e with rfl | rfl | rfl | e | e | e
  ·exact blk.ty.ne hk rfl
  ·exact pool.blk.ty.ne hk rfl
  ·exact que.blk.ty.ne hk rfl
  ·exact (pool.row.ty e).ne hk rfl
  ·exact (que.row.ty e).ne hk rfl
  ·exact (row.ty e).ne hk rfl
 refine ⟨pl,qu,vp,vq,vs,al,q,fun _=>Iff.rfl,blk,pool,que,row,als,fun a ha=>?_,sort,perm,fun b e=>.inr e,fun b e=>?_⟩
 ·rcases sms a ha with h | ⟨h,hf⟩
  ·exact (h.off (by omega) (fun b hb e=>e.elim id fun e=>(hO b e).elim id fun e=>by omega)).mod (hm.mono fun b _ e=>.inl e)
  ·refine Sl.own h fun k hk e=>?_
   have h1:=hf k hk
   rcases e with e | e
   ·have:=hM k e;omega
   ·exact hty k e k (h.ty hk) rfl
 ·rcases e with e | rfl | rfl | rfl | e | e | e
  ·exact Nat.lt_of_lt_of_le (hM b e) hm.size
  ·exact blk.lt
  ·exact pool.blk.lt
  ·exact que.blk.lt
  ·exact pool.row.lt e
  ·exact que.row.lt e
  ·exact row.lt e
def clampS (x lo hi:Int):Int:=if hi < (if lo > x then lo else x) then hi else (if lo > x then lo else x)
theorem newZ_ok (m r:Int) (w:World):Fx Tryz.prog 10 [.int .i64 m,.int .u64 r] w (fun u w'=>∃ p O,u=pp p∧ZStore O O w' p ⟨clampS r 1 1048576,clampS m 1 12,0,[]⟩∧Grow w w'∧∀ b,O b→w.heap.size≤b):=by
 refine enter Tryz.func10 rfl rfl rfl _ (Pick.sub (l:=[0,1]) (.cons rfl (.cons rfl .nil))) ?_
 refine GG ?_
 refine QQ (Yld.max2 rfl rfl) ?_
 refine QQ (Yld.min2 rfl rfl) ?_
 refine OP (Does.call rfl e43 (poolNew_ok _ _)) ?_
 rintro _ w1 ⟨pl,rfl,hpa,hp1,hg1,hz1⟩
 refine OP (Does.call rfl e44 (reapNew_ok _)) ?_
 rintro _ w2 ⟨qu,rfl,hqa,hq2,hg2,hz2⟩
 refine RL.p rfl rfl ?_
 refine QQ (Yld.max2k rfl rfl) ?_
 refine QQ (Yld.min2k rfl rfl) ?_
 refine QQ (Yld.build (v:=.agg #[pp pl,pp qu,.int .u64 (clampS r 1 1048576),.slice none 0 0]) rfl (fun w=>by kernel_rfl)) ?_
 refine OP (Does.box rfl) ?_
 rintro _ w3 ⟨b14,rfl,hn14⟩
 have hmost:(if 0 > clampS m 1 12 then 0 else clampS m 1 12)=clampS m 1 12:=by unfold clampS;split <;> split <;> (try split) <;> omega
 have hp3:PoolAt w3 pl (clampS m 1 12) 0 [] (.slice none 0 0):=by
   have h1:PoolAt w1 pl (clampS m 1 12) 0 [] (.slice none 0 0):=hmost ▸ hp1
   exact ⟨h1.blk.mod (hg2.trans hn14.grow) (fun h=>h),h1.row.mod (hg2.trans hn14.grow) (fun _ _ h=>h),h1.ne⟩
 have hlt:∀ b,ownS b14 pl qu (.slice none 0 0) (.slice none 0 0) (.slice none 0 0) b→b < w3.heap.size∧w.heap.size≤b:=fun b e=>by
   have h1:=hn14.at_
   have h2:=hg1.size
   have h3:=hn14.blk.lt
   have h4:=hp3.blk.lt
   have h5:=(hq2.grow hn14.grow).blk.lt
   have h6:=hg2.size
   rcases e with e | e | e | e | e | e
   ·omega
   ·omega
   ·omega
   ·simp [Value.ownBlock] at e
   ·simp [Value.ownBlock] at e
   ·simp [Value.ownBlock] at e
 refine GG ?_
 refine RK.ret_of Tryz.func10 (res1 rfl rfl) ?_ _
 exact ⟨_,rfl,b14,ownS b14 pl qu (.slice none 0 0) (.slice none 0 0) (.slice none 0 0),rfl,⟨pl,qu,.slice none 0 0,.slice none 0 0,.slice none 0 0,[],[],fun _=>Iff.rfl,⟨hn14.blk,hp3,hq2.grow hn14.grow,Row.nil _ _ _,rfl,fun a ha=>(by cases ha),List.Pairwise.nil,List.Perm.nil,fun b e=>e,fun b e=>(hlt b e).1⟩⟩,(hg1.trans hg2).trans hn14.grow,fun b e=>(hlt b e).2⟩
theorem takeNo_ok (w:World) (p:Nat) (most last:Int) (out:List Int) (v:Value) (hp:PoolAt w p most last out v) (h1:most≤out.length) :
  Fx Tryz.prog 47 [pp p] w (fun u w'=>u=.tuple #[.int .i64 0,.bool false]∧Grow w w'):=by
 obtain ⟨ad,c,rfl⟩:=hp.row.slice
 refine enter Tryz.func47 rfl rfl rfl _ (Pick.sub (l:=[0]) (.cons rfl .nil)) ?_
 refine GG ?_
 refine RK.drawM No [(0,false),(1,false),(2,false),(3,false),(4,false),(5,false),(6,false),(7,false),(8,false),(9,false),(10,false),(11,false),(12,false),(13,false),(14,false),(15,false),(16,false)] [] mixed (by kernel_rfl) ?_
 refine GG ?_
 refine DF (Yld.fieldAddr fo152_2 rfl) ?_
 refine DQ (Yld.load p35 rfl (atM (hp.blk.cell rfl) id)) (Mod.drew _ _) ?_
 refine DQ (Yld.lenSl u35 rfl) (Mod.drew _ _) ?_
 refine GG ?_
 refine DF (Yld.fieldAddr fo152_0 rfl) ?_
 refine DQ (Yld.load p3 rfl (atM (hp.blk.cell rfl) id)) (Mod.drew _ _) ?_
 refine GG ?_
 refine DL.knownT (d:=14) rfl rfl (decide_eq_true (by omega)) ?_
 iterate 5 refine DL.no rfl (.no rfl rfl rfl rfl) rfl rfl ?_
 refine GG ?_
 refine RK.condT rfl ?_
 refine GG ?_
 refine RK.ret_of Tryz.func47 (res2 rfl rfl rfl) ?_ _
 exact ⟨_,rfl,rfl,Mod.drew _ _⟩
end Go.Proofs.YtbcbfjnlnmhpbaaGreat
set_option linter.unusedVariables false
set_option linter.unusedSimpArgs false
set_option maxHeartbeats 3200000
set_option maxRecDepth 100000
namespace Go.Proofs.YtbcbfjnlnmhpbaaGreat
open Go Go.X
theorem ZStore.self {O M:Nat→Prop} {w:World} {p:Nat} {s:SS} (h:ZStore O M w p s):ZStore O (fun b=>M b∨O b) w p s:=by
 have e:(fun b=>M b∨O b)=M:=by
  obtain ⟨pl,qu,vp,vq,vs,al,q,hO,h⟩:=h
  exact funext fun b=>propext ⟨fun e=>e.elim id fun e=>h.ownM b ((hO b).1 e),.inl⟩
 rw [e];exact h
def makeS (s:SS) (now a b:Int) (ms:List Mt) (bd:Bd):SS×Int×Int:=
 if rightS ms bd=false then (s,0,1) else if fitsS now a b ms≠0 then (s,0,fitsS now a b ms) else if s.most≤s.sl.length then (s,0,10)
 else ({ s with last:=s.last + 1,sl:=s.sl ++ [⟨s.last + 1,a,b,ms,bd⟩] },s.last + 1,0)
theorem fits_span {now a b:Int} {ms:List Mt} (h:¬ fitsS now a b ms≠0):a < b∧now < b∧b≤1099511627776:=by
 unfold fitsS at h
 split at h
 ·simp at h
 ·split at h
  ·rename_i h2
   unfold spanS at h2
   simp only [Bool.and_eq_true,decide_eq_true_eq] at h2
   omega
  ·simp at h
theorem makeZ_ok (w:World) (p:Nat) (s:SS) (O M:Nat→Prop) (h:ZStore O M w p s) (g:Gz s) (hlast:s.last < 2147483647) (now a b:Int) (hb0:0≤b) (ms:List Mt) (vm:Value) (bd:Bd) (hms:SlM M w vm ms) (hlen:ms.length≤1000000) :
  Fx Tryz.prog 11 [pp p,.int .u64 now,.int .u64 a,.int .u64 b,vm,.agg (bdC bd).toArray] w (fun u w'=>∃ O',u=.tuple #[.int .i64 (makeS s now a b ms bd).2.1,.int .i64 (makeS s now a b ms bd).2.2]∧ZStore O' (fun x=>M x∨O' x) w' p (makeS s now a b ms bd).1∧Mod O w w'∧∀ x,O' x→O x∨w.heap.size≤x):=by
 have hself:=h.self
 have hback:∀ w',Grow w w'→ZStore O (fun b=>M b∨O b) w' p s:=fun w' hg=>hself.grow hg
 obtain ⟨pl,qu,vp,vq,vs,al,q,hO,h⟩:=h
 have hle:=g.le
 have hal:=h.len
 have hids:=h.ids
 have hql:=h.qlen
 obtain ⟨adm,cm,rfl⟩:=hms.shape
 by_cases hfull:s.most≤s.sl.length
 ·skip
  refine enter Tryz.func11 rfl rfl rfl _ (Pick.sub (l:=[0,1,2,3,4,5]) (.cons rfl (.cons rfl (.cons rfl (.cons rfl (.cons rfl (.cons rfl .nil))))))) ?_
  refine GG ?_
  refine OP (Does.box rfl) ?_
  rintro _ w1 ⟨b11,rfl,hn11⟩
  have hB11:Blk w1 b11 32 (bdC bd):=hn11.blk
  refine GG ?_
  refine QQ (Yld.loadN (cs:=bdC bd) a32 rfl (atN (blk0' hB11))) ?_
  refine OP (Does.call rfl e45 (rightZ_ok M ms _ bd _ (hms.mod (Mod.any' hn11.grow)))) ?_
  rintro _ w2 ⟨rfl,hg2⟩
  refine GG ?_
  refine CD (fun h20=>?_) (fun h20=>?_)
  ·have e:makeS s now a b ms bd=(s,0,1):=by unfold makeS;rw [if_pos (by simpa using h20)]
   refine GG ?_
   refine RK.ret_of Tryz.func11 (res2 rfl rfl rfl) ?_ _
   exact ⟨_,rfl,O,by rw [e],by rw [e];exact hback _ (hn11.grow.trans hg2),Mod.any' (hn11.grow.trans hg2),fun x e=>.inl e⟩
  ·refine GG ?_
   refine OP (Does.call rfl e46 (fitsZ_ok M now a b ms _ _ ((hms.mod (Mod.any' hn11.grow)).mod (Mod.any' hg2)))) ?_
   rintro _ w3 ⟨rfl,hg3⟩
   have hg03:=(hn11.grow.trans hg2).trans hg3
   refine GG ?_
   refine CD (fun h27=>?_) (fun h27=>?_)
   ·have e:makeS s now a b ms bd=(s,0,fitsS now a b ms):=by unfold makeS;rw [if_neg (by simpa using h20),if_pos h27]
    refine GG ?_
    refine RK.ret_of Tryz.func11 (res2 rfl rfl rfl) ?_ _
    exact ⟨_,rfl,O,by rw [e],by rw [e];exact hback _ hg03,Mod.any' hg03,fun x e=>.inl e⟩
   ·have e:makeS s now a b ms bd=(s,0,10):=by unfold makeS;rw [if_neg (by simpa using h20),if_neg h27,if_pos hfull]
    have h3:=h.grow hg03
    refine GG ?_
    refine QQ (Yld.fieldAddr fo101_0 rfl) ?_
    refine QQ (Yld.load p96 rfl (at1 (h3.blk.cell rfl))) ?_
    refine OP (Does.call rfl e47 (takeNo_ok _ pl s.most s.last _ vp h3.pool (by rw [List.length_map,hal];exact hfull))) ?_
    rintro _ w4 ⟨rfl,hg4⟩
    refine GG ?_
    refine RK.condT (hcT rfl (rfl)) ?_
    refine GG ?_
    refine RK.ret_of Tryz.func11 (res2 rfl rfl rfl) ?_ _
    exact ⟨_,rfl,O,by rw [e],by rw [e];exact hback _ (hg03.trans hg4),Mod.any' (hg03.trans hg4),fun x e=>.inl e⟩
 ·skip
  refine enter Tryz.func11 rfl rfl rfl _ (Pick.sub (l:=[0,1,2,3,4,5]) (.cons rfl (.cons rfl (.cons rfl (.cons rfl (.cons rfl (.cons rfl .nil))))))) ?_
  refine GG ?_
  refine OP (Does.box rfl) ?_
  rintro _ w1 ⟨b11,rfl,hn11⟩
  have hB11:Blk w1 b11 32 (bdC bd):=hn11.blk
  refine GG ?_
  refine QQ (Yld.loadN (cs:=bdC bd) a32 rfl (atN (blk0' hB11))) ?_
  refine OP (Does.call rfl e45 (rightZ_ok M ms _ bd _ (hms.mod (Mod.any' hn11.grow)))) ?_
  rintro _ w2 ⟨rfl,hg2⟩
  refine GG ?_
  refine CD (fun h20=>?_) (fun h20=>?_)
  ·have e:makeS s now a b ms bd=(s,0,1):=by unfold makeS;rw [if_pos (by simpa using h20)]
   refine GG ?_
   refine RK.ret_of Tryz.func11 (res2 rfl rfl rfl) ?_ _
   exact ⟨_,rfl,O,by rw [e],by rw [e];exact hback _ (hn11.grow.trans hg2),Mod.any' (hn11.grow.trans hg2),fun x e=>.inl e⟩
  ·refine GG ?_
   refine OP (Does.call rfl e46 (fitsZ_ok M now a b ms _ _ ((hms.mod (Mod.any' hn11.grow)).mod (Mod.any' hg2)))) ?_
   rintro _ w3 ⟨rfl,hg3⟩
   have hg03:=(hn11.grow.trans hg2).trans hg3
   refine GG ?_
   refine CD (fun h27=>?_) (fun h27=>?_)
   ·have e:makeS s now a b ms bd=(s,0,fitsS now a b ms):=by unfold makeS;rw [if_neg (by simpa using h20),if_pos h27]
    refine GG ?_
    refine RK.ret_of Tryz.func11 (res2 rfl rfl rfl) ?_ _
    exact ⟨_,rfl,O,by rw [e],by rw [e];exact hback _ hg03,Mod.any' hg03,fun x e=>.inl e⟩
   ·have e:makeS s now a b ms bd=({ s with last:=s.last + 1,sl:=s.sl ++ [⟨s.last + 1,a,b,ms,bd⟩] },s.last + 1,0):=by unfold makeS;rw [if_neg (by simpa using h20),if_neg h27,if_neg hfull]
    have hsp:=fits_span h27
    have hl0:=g.l0
    have hr0:=g.r0
    have hr1:=g.r1
    have h3:=h.grow hg03
    have hlt3:∀ x,ownS p pl qu vp vq vs x→x < w.heap.size:=fun x e=>h.own_lt e
    have hz03:=hg03.size
    have hb11:∀ x,ownS p pl qu vp vq vs x→x≠b11:=fun x e hx=>by have:=hlt3 x e;have:=hn11.at_;omega
    refine GG ?_
    refine QQ (Yld.fieldAddr fo101_0 rfl) ?_
    refine QQ (Yld.load p96 rfl (at1 (h3.blk.cell rfl))) ?_
    refine OP (Does.call rfl e47 (take_ok _ pl s.most s.last _ vp h3.pool (by rw [List.length_map,hal];omega) (by omega) hl0 (by omega) (by rw [List.length_map];omega))) ?_
    rintro _ w4 ⟨rfl,vp',hp4,hm4,hf4⟩
    have hm04:Mod (fun x=>x=pl∨vp.ownBlock=some x) w w4:=(Mod.any' hg03).trans hm4
    have n1:¬ (p=pl∨vp.ownBlock=some p):=fun e=>e.elim h.ne_ppl fun e=>(h.pool.row.ty e).ne h.blk.ty rfl rfl
    have hb4:=h.blk.mod hm04 n1
    have hr4:=h.row.mod hm04 (fun x e1 e2=>e2.elim (fun e2=>(h.row.ty e1).ne h.pool.blk.ty rfl e2) (fun e2=>(h.row.ty e1).ne (h.pool.row.ty e2) rfl rfl))
    have hq4:=h.que.mod hm04 (fun e2=>e2.elim (fun e2=>h.ne_plqu e2.symm) (fun e2=>h.que.blk.ty.ne (h.pool.row.ty e2) rfl rfl)) (fun x e1 e2=>e2.elim (fun e2=>(h.que.row.ty e1).ne h.pool.blk.ty rfl e2) (fun e2=>(h.que.row.ty e1).ne (h.pool.row.ty e2) rfl rfl))
    have hO4:Mod M w w4:=hm04.mono fun x _ e=>h.ownM x (e.elim (fun e=>.inr (.inl e)) (fun e=>.inr (.inr (.inr (.inl e)))))
    have hB4:=(hB11.mod (hg2.trans hg3) (fun h=>h)).mod hm4 (fun e=>hb11 b11 (e.elim (fun e=>.inr (.inl e)) (fun e=>.inr (.inr (.inr (.inl e))))) rfl)
    have hz4:=hm04.size
    refine GG ?_
    refine RK.condF (hcF rfl (rfl)) ?_
    refine GG ?_
    refine RK.drawM (fun x=>vs.ownBlock=some x) [(0,false),(1,false),(2,false),(3,false),(4,false),(5,false),(6,false),(8,false),(7,true),(9,false),(10,true),(11,true),(12,false),(13,false),(14,true)] [14] mixed (by kernel_rfl) ?_
    refine GG ?_
    refine DF (Yld.fieldAddr fo101_3 rfl) ?_
    refine DQ (Yld.load p44 rfl (atM (hb4.cell rfl) (fun e=>(h.row.ty e).ne h.blk.ty rfl rfl))) (Mod.drew _ _) ?_
    refine GG ?_
    refine DQ (Yld.loadN (cs:=bdC bd) a32 rfl (atNM (blk0' hB4) (fun e=>hb11 b11 (.inr (.inr (.inr (.inr (.inr e))))) rfl))) (Mod.drew _ _) ?_
    refine OD (Does.call rfl e48 (cloneM_ok M ms _ _ ((hms.mod hO4).mod (Mod.drew _ _)) hlen)) ?_
    rintro u5 w5 ⟨hr5,hf5,hg5'⟩
    obtain ⟨ad5,c5,rfl⟩:=hr5.slice
    have hg5:=(Mod.drew No w4).trans hg5'
    refine ⟨Mod.any' hg5,?_⟩
    refine DF (Yld.build (v:=.agg (silC ⟨s.last + 1,0,0,0,.slice ad5 ms.length c5,ms,bd⟩).toArray) rfl (fun w=>by kernel_rfl)) ?_
    refine OD (Does.slice1 u44 i41 rfl rfl rfl rfl rfl) ?_
    rintro _ w6 ⟨b49,rfl,hn49⟩
    have hg46:=hg5.trans hn49.grow
    refine ⟨Mod.any' hg46,?_⟩
    refine OD (Does.append u44 i41 rfl rfl rfl rfl rfl (hr4.mod hg46 (fun _ _ h=>h)) (Sl.new hn49 8 1 rfl (by omega) (fun h=>h)) (rfl) (by omega)) ?_
    rintro u7 w7 ⟨hr7,hm7,hu7⟩
    refine ⟨(Mod.any' hg46).trans hm7,?_⟩
    obtain ⟨ad7,c7,rfl⟩:=hr7.slice
    obtain ⟨a0,ha0⟩:∃ a0:Sil,a0=⟨s.last + 1,0,0,0,.slice ad5 ms.length c5,ms,bd⟩:=⟨_,rfl⟩
    have hb7:=(hb4.mod hg46 (fun h=>h)).mod hm7 (fun e=>(h.row.ty e).ne h.blk.ty rfl rfl)
    have hq7:=(hq4.grow hg46).mod hm7 (fun e=>(h.row.ty e).ne h.que.blk.ty rfl rfl) (fun x e1 e2=>(h.que.row.ty e1).ne (h.row.ty e2) rfl rfl)
    have hp6:=hp4.mod hg46 (fun h=>h) (fun _ _ h=>h)
    have hr6:=hr4.mod hg46 (fun _ _ h=>h)
    have hp7:=hp6.mod hm7 (fun e=>(hr6.ty e).ne hp6.blk.ty rfl rfl) (fun x e1 e2=>(hp6.row.ty e1).ne (hr6.ty e2) rfl rfl)
    have hm57:=hr5.mod hn49.grow (fun _ _ h=>h)
    have hm7m:=hm57.mod hm7 (fun x e1 e2=>(hm57.ty e1).ne (hr6.ty e2) rfl rfl)
    refine DL.p rfl rfl rfl ?_
    refine DF (Yld.fieldAddr fo101_3 rfl) ?_
    refine DL.opT rfl (.free rfl) rfl rfl (Does.store i44 rfl rfl rfl hb7 (.s (.s (.s .z)))) ?_
    rintro _ w8 ⟨hb8,hm8,hs8⟩
    have hr8:=hr7.mod hm8 (fun x e1 e2=>(hr7.ty e1).ne hb7.ty rfl e2)
    have hq8:=hq7.mod hm8 (fun e=>hq7.blk.ty.ne hb7.ty rfl e) (fun x e1 e2=>(hq7.row.ty e1).ne hb7.ty rfl e2)
    have hp8:=hp7.mod hm8 (fun e=>hp7.blk.ty.ne hb7.ty rfl e) (fun x e1 e2=>(hp7.row.ty e1).ne hb7.ty rfl e2)
    have hm8m:=hm7m.mod hm8 (fun x e1 e2=>(hm7m.ty e1).ne hb7.ty rfl e2)
    have hr8' : Row w8 41 8 (.slice ad7 (al.length + 1) c7) (al ++ [a0]).length ((al ++ [a0]).flatMap silC):=by
      rw [List.length_append,List.flatMap_append,List.flatMap_singleton,ha0];exact hr8
    have hset:(al ++ [a0]).set al.length { a0 with start:=a,stop:=b }=al ++ [{ a0 with start:=a,stop:=b }]:=by simp
    refine GG ?_
    refine QQ (Yld.fieldAddr fo101_3 rfl) ?_
    refine QQ (Yld.load p44 rfl (at1 (hb8.cell rfl))) ?_
    refine QQ (Yld.lenSl u44 rfl) ?_
    refine RL.p rfl rfl ?_
    refine RL.re (d:=59) rfl rfl (sub_i64 (z:=(al.length:Int)) (by simp) (by omega) (by omega)) ?_
    refine GG ?_
    refine OP (Does.call rfl e49 (turnZ_ok _ p pl qu s.ret a b vq (.slice ad7 (al.length + 1) c7) (al ++ [a0]) q al.length a0 hb8 hq8 h.sort hr8' (by simp) (by omega) (by simp;omega) (by omega) (by omega))) ?_
    rintro _ w9 ⟨rfl,vq',hb9,hq9,hr9,hm9,hf9⟩
    have hid:a0.id=s.last + 1:=by rw [ha0]
    have hn8:∀ x,(x=qu∨vq.ownBlock=some x∨(Value.slice ad7 (al.length + 1) c7).ownBlock=some x)→Ty w8 x 155∨Ty w8 x 164∨Ty w8 x 41:=fun x e=>by
      rcases e with rfl | e | e
      ·exact .inl hq8.blk.ty
      ·exact .inr (.inl (hq8.row.ty e))
      ·exact .inr (.inr (hr8.ty e))
    have hp9:=hp8.mod hm9 (fun e=>by
      rcases hn8 _ e with e | e | e
      ·exact hp8.blk.ty.ne e rfl rfl
      ·exact hp8.blk.ty.ne e rfl rfl
      ·exact hp8.blk.ty.ne e rfl rfl) (fun x e1 e=>by
      rcases hn8 _ e with e | e | e
      ·exact (hp8.row.ty e1).ne e rfl rfl
      ·exact (hp8.row.ty e1).ne e rfl rfl
      ·exact (hp8.row.ty e1).ne e rfl rfl)
    have hm9m:=hm8m.mod hm9 (fun x e1 e=>by
      rcases hn8 _ e with e | e | e
      ·exact (hm8m.ty e1).ne e rfl rfl
      ·exact (hm8m.ty e1).ne e rfl rfl
      ·exact (hm8m.ty e1).ne e rfl rfl)
    rw [hset] at hr9
    have hz6:=hg46.size
    have hz5:=hn49.grow.size
    have hz7:=hm7.size
    have hz8:=hm8.size
    have hz55:=hg5.size
    have hown:∀ x,ownS p pl qu vp' vq' (.slice ad7 (al.length + 1) c7) x→ownS p pl qu vp vq vs x∨w.heap.size≤x:=fun x e=>by
      rcases e with e | e | e | e | e | e
      ·exact .inl (.inl e)
      ·exact .inl (.inr (.inl e))
      ·exact .inl (.inr (.inr (.inl e)))
      ·rcases hf4 x e with e | e
       ·exact .inl (.inr (.inr (.inr (.inl e))))
       ·exact .inr (by omega)
      ·rcases hf9 x e with e | e
       ·exact .inl (.inr (.inr (.inr (.inr (.inl e)))))
       ·exact .inr (by omega)
      ·rcases hu7 with h7 | h7
       ·rw [h7] at e;exact .inl (.inr (.inr (.inr (.inr (.inr e)))))
       ·rw [h7] at e;cases e;exact .inr (by omega)
    have hmod8:Mod (ownS p pl qu vp vq vs) w w8:=((hm04.mono fun x _ e=>e.elim (fun e=>.inr (.inl e)) (fun e=>.inr (.inr (.inr (.inl e))))).trans (Mod.any' hg46)).trans ((hm7.mono fun x _ e=>.inr (.inr (.inr (.inr (.inr e))))).trans (hm8.mono fun x _ e=>.inl e))
    have hmod9:Mod (ownS p pl qu vp vq vs) w w9:=hmod8.then hm9 (fun x hx e=>by
      rcases e with e | e | e
      ·exact .inr (.inr (.inl e))
      ·exact .inr (.inr (.inr (.inr (.inl e))))
      ·exact (hown x (.inr (.inr (.inr (.inr (.inr e)))))).elim id fun e=>by omega)
    have hdrop:dropE q a0.id=q:=dropE_none fun x hx e=>by
      have h1:=h.perm'.mem_iff.1 hx
      obtain ⟨y,hy,rfl⟩:=List.mem_map.1 h1
      have h2:pubZ y∈s.sl:=by rw [← h.als];exact List.mem_map.2 ⟨y,hy,rfl⟩
      have h3:=g.low _ h2
      have h4:y.id=a0.id:=e
      have h5:y.id≤s.last:=h3
      omega
    refine GG ?_
    refine RK.ret_of Tryz.func11 (res2 rfl rfl rfl) ?_ _
    exact ⟨_,rfl,ownS p pl qu vp' vq' (.slice ad7 (al.length + 1) c7),by rw [e],by
      rw [e]
      refine ZStore.next (w:=w) (al:=al ++ [{ a0 with start:=a,stop:=b }]) h.ltM (hmod9.mono fun x _ e=>h.ownM x e) hb9 ?_ hq9 (by rw [List.length_append];exact (by rw [List.length_append] at hr9;exact hr9)) ?_ (fun y hy=>?_) ?_ ?_ (fun x e=>(hown x e).elim (fun e=>.inl (h.ownM x e)) .inr)
      ·rw [List.map_append,List.map_singleton]
       show PoolAt w9 pl s.most (s.last + 1) (al.map (·.id) ++ [a0.id]) vp'
       rw [hid];exact hp9
      ·rw [List.map_append,List.map_singleton,h.als]
       subst ha0;rfl
      ·rcases List.mem_append.1 hy with hy | hy
       ·exact .inl (h.sms y hy)
       ·obtain rfl:=List.mem_singleton.1 hy
        subst ha0
        exact .inr ⟨hm9m,fun b e=>by have:=hf5 b e;simp only [World.drew] at this;omega⟩
      ·rw [hdrop]
       have:=turn_sort (id:=a0.id) (due:=b + s.ret) h.sort h.perm' (by rw [hids];exact g.ris)
       rw [hdrop] at this;exact this
      ·rw [hdrop,List.map_append,List.map_singleton]
       refine (putE_perm _ _).trans ?_
       exact (List.Perm.cons _ h.perm').trans (List.perm_append_singleton _ _).symm,hmod9.mono fun x _ e=>(hO x).2 e,fun x e=>(hown x e).elim (fun e=>.inl ((hO x).2 e)) .inr⟩
end Go.Proofs.YtbcbfjnlnmhpbaaGreat
set_option linter.unusedVariables false
set_option linter.unusedSimpArgs false
set_option maxHeartbeats 3200000
set_option maxRecDepth 100000
namespace Go.Proofs.YtbcbfjnlnmhpbaaGreat
open Go Go.X
noncomputable def holdZ (now:Int) (ls:List Lab) (v:Nat) (a:Slz):Bool:=decide (stateS now a.start a.stop=2) && (a.ms.all fun m=>holdsM m ls) && inBd a.bd v
noncomputable def holdsZ (now:Int) (ls:List Lab) (v:Nat) (l:List Slz):List Int:=(l.filter (holdZ now ls v)).map (·.id)
theorem holdsZ_len (now:Int) (ls:List Lab) (v:Nat) (l:List Slz):(holdsZ now ls v l).length≤l.length:=by
 unfold holdsZ
 rw [List.length_map]
 exact List.length_filter_le _ _
theorem holdsZ_snoc (now:Int) (ls:List Lab) (v:Nat) {al:List Sil} {k:Nat} {s:Sil} (hs:al[k]?=some s):holdsZ now ls v ((al.take (k + 1)).map pubZ)=holdsZ now ls v ((al.take k).map pubZ) ++ (if holdZ now ls v (pubZ s)=true then [s.id] else []):=by
 unfold holdsZ
 rw [List.take_add_one,hs,List.map_append,List.filter_append,List.map_append]
 congr 1
 show List.map _ (List.filter _ [pubZ s])=_
 by_cases h:holdZ now ls v (pubZ s)=true
 ·rw [if_pos h,List.filter_cons_of_pos h];rfl
 ·rw [if_neg h,List.filter_cons_of_neg h];rfl
theorem holdsStore_ok (w:World) (p:Nat) (s:SS) (O M:Nat→Prop) (h:ZStore O M w p s) (g:Gz s) (now:Int) (M' : Nat→Prop) (ls:List Lab) (vl:Value) (v:Nat) (hl:SlL M' w vl ls) (hz:∀ x∈ls,x.value.size≤100000) :
  Fx Tryz.prog 15 [pp p,.int .u64 now,vl,.float .f64 v] w (fun u w'=>Row w' 3 1 u (holdsZ now ls v s.sl).length (ints (holdsZ now ls v s.sl))∧Fresh w.heap.size u∧Grow w w'):=by
 obtain ⟨pl,qu,vp,vq,vs,al,q,hO,h⟩:=h
 have hle:=g.le
 have hal:=h.len
 have hals:=h.als
 have hsl:=Sl.own (M:=No) h.row (fun _ _ h=>h)
 have hsms:=h.sms
 have hblk:=h.blk
 obtain ⟨ads,cs,rfl⟩:=h.row.slice
 clear h
 obtain ⟨adl,cl,rfl⟩:=hl.shape
 refine enter Tryz.func15 rfl rfl rfl _ (Pick.sub (l:=[0,1,2,3]) (.cons rfl (.cons rfl (.cons rfl (.cons rfl .nil))))) ?_
 refine GG ?_
 refine QQ (Yld.fieldAddr fo101_3 rfl) ?_
 refine QQ (Yld.load p44 rfl (at1 (hblk.cell rfl))) ?_
 refine QQ (Yld.lenSl u44 rfl) ?_
 refine GG ?_
 refine RK.loop (fun s:Nat×Value=>[(1,.int .u64 now),(2,.slice adl ls.length cl),(3,.float .f64 v),(9,s.2),(15,.slice ads al.length cs),(16,.int .i64 (al.length:Int)),(17,.int .i64 (s.1:Int))]) (fun s w'=>Row w' 3 1 s.2 (holdsZ now ls v ((al.take s.1).map pubZ)).length (ints (holdsZ now ls v ((al.take s.1).map pubZ)))∧Fresh w.heap.size s.2∧Grow w w'∧s.1≤al.length) (fun s=>al.length - s.1) (0,.slice none 0 0) ⟨rfl,rfl,rfl,rfl,rfl,rfl,rfl,trivial⟩ ⟨by simpa [holdsZ] using Row.nil _ _ _,fun b e=>by simp [Value.ownBlock] at e,Mod.refl _ _,by simp⟩ (fun s w' hI ih=>?_)
 obtain ⟨k,u⟩:=s
 obtain ⟨hr,hf,hg,hk⟩:=hI
 simp only at hr hf hk
 refine GG ?_
 refine CD (fun h18=>?_) (fun h18=>?_)
 ·obtain ⟨s,hs⟩:∃ s,al[k]?=some s:=⟨al[k]'(by omega),List.getElem?_eq_getElem (by omega)⟩
  obtain ⟨b1,o1,c1',he1,_,_,hc1⟩:=hsl.elem silC_len hs
  cases he1
  have hsm0:=hsms s (List.mem_of_getElem? hs)
  have hsm:=hsm0.mod (Mod.any' hg)
  have hsn:=holdsZ_snoc now ls v hs
  have hsl1:=holdsZ_len now ls v ((al.take k).map pubZ)
  have hsl2:((al.take k).map pubZ).length≤k:=by simp;omega
  refine GG ?_
  refine QQ (Yld.indexAddrN u44 i41 rfl rfl (by omega)) ?_
  refine QQ (Yld.loadN (cs:=silC s) a41 rfl (atN (fun q z hq=>hg.cell (hc1 q z hq) (fun h=>h)))) ?_
  refine OP (Does.alloc i41) ?_
  rintro _ w1 ⟨b11,rfl,hn11⟩
  refine OQ (Does.storeN i41 rfl rfl rfl (silC_one hsm) hn11.blk (Nat.le_refl 8)) ?_
  rintro _ w2 ⟨hb2,hm2,_⟩
  have hg2' : Grow w' w2:=hn11.grow.then hm2 (fun y hy e=>by have e' : y=b11:=e;have:=hn11.at_;omega)
  have hg2:=hg.trans hg2'
  have hB2:Blk w2 b11 41 [.int .i64 s.id,.int .i64 s.ver,.int .u64 s.start,.int .u64 s.stop,s.mv,.bool s.bd.all,.float .f64 s.bd.lo,.float .f64 s.bd.hi]:=hb2
  refine GG ?_
  refine QQ (Yld.fieldAddr fo41_2 rfl) ?_
  refine QQ (Yld.load p22 rfl (at1 (hB2.cell rfl))) ?_
  refine QQ (Yld.fieldAddr fo41_3 rfl) ?_
  refine QQ (Yld.load p22 rfl (at1 (hB2.cell rfl))) ?_
  refine OP (Does.call rfl e51 (state_ok now s.start s.stop _)) ?_
  rintro _ _ ⟨rfl,rfl⟩
  refine GG ?_
  refine SP 28 (fun h28=>?_) (fun h28=>?_)
  ·refine QQ (Yld.fieldAddr fo41_4 rfl) ?_
   refine QQ (Yld.load p28 rfl (at1 (hB2.cell rfl))) ?_
   refine QQ (Yld.pure rfl) ?_
   refine OP (Does.call rfl e52 (allM_ok holdsM s.ms (fun m _=>matchHolds_ok m) M' M ls hz _ _ _ (hsm.mod (Mod.any' hg2')) (hl.mod (Mod.any' hg2)))) ?_
   rintro _ w3 ⟨rfl,hg3⟩
   have hg23:=hg2.trans hg3
   have hB3:=hB2.mod hg3 (fun h=>h)
   refine GG ?_
   refine SP 34 (fun h34=>?_) (fun h34=>?_)
   ·refine QQ (Yld.fieldAddr fo41_5 rfl) ?_
    refine QQ (Yld.loadN (cs:=bdC s.bd) a32 rfl (atN (fldN hB3 5 3))) ?_
    refine QQ (Yld.pure rfl) ?_
    refine OP (Does.call rfl e53 (in_band_ok s.bd v _)) ?_
    rintro _ w4 ⟨rfl,hg4⟩
    have hg24:=hg23.trans hg4
    have hr4:=hr.mod ((hg2'.trans hg3).trans hg4) (fun _ _ h=>h)
    refine GG ?_
    refine CD (fun h39=>?_) (fun h39=>?_)
    ·have hyes:holdZ now ls v (pubZ s)=true:=by unfold holdZ pubZ;simp only;rw [decide_eq_true h28,h34,h39];rfl
     refine GG ?_
     refine QQ (Yld.fieldAddr fo41_0 rfl) ?_
     refine QQ (Yld.load p3 rfl (at1 ((hB3.mod hg4 (fun h=>h)).cell rfl))) ?_
     refine OP (Does.slice1 u35 i3 rfl rfl rfl rfl rfl) ?_
     rintro _ w5 ⟨b7,rfl,hn7⟩
     refine OP (Does.append u35 i3 rfl rfl rfl rfl rfl (hr4.mod hn7.grow (fun _ _ h=>h)) (Sl.new hn7 1 1 rfl (by omega) (fun h=>h)) (rfl) (by omega)) ?_
     rintro z8 w8 ⟨hr8,hm8,hu8⟩
     have hs7:=hn7.grow.size
     have hs4:=hg24.size
     refine RL.p rfl rfl ?_
     refine RL.done ?_
     refine RK.inBlock ?_
     refine RK.region ?_
     refine RL.p rfl rfl ?_
     refine RL.re (d:=45) rfl rfl (succ_i64 (by omega)) ?_
     refine GG ?_
     exact RK.back (ih (k + 1,z8) _ ⟨by
       simp only
       rw [hsn,if_pos hyes]
       have e1:ints (holdsZ now ls v ((al.take k).map pubZ) ++ [s.id])=ints (holdsZ now ls v ((al.take k).map pubZ)) ++ (Value.int .i64 s.id).cells.toList:=by simp [ints,Value.cells]
       rw [e1,List.length_append];exact hr8,fun b e=>by
       rcases hu8 with h1 | h1
       ·exact hf b (h1 ▸ e)
       ·rw [h1] at e;cases e;omega,(hg24.trans hn7.grow).then hm8 (fun b hb e=>by have:=hf b e;omega),by simp only;omega⟩ (by simp only;omega)) ⟨rfl,rfl,rfl,rfl,rfl,rfl,rfl,trivial⟩
    ·have hnos:holdZ now ls v (pubZ s)=false:=by unfold holdZ pubZ;simp only;rw [decide_eq_true h28,h34,show inBd s.bd v=false by simpa using h39];rfl
     refine RK.skip ?_
     refine RK.inBlock ?_
     refine RK.region ?_
     refine RL.p rfl rfl ?_
     refine RL.re (d:=45) rfl rfl (succ_i64 (by omega)) ?_
     refine GG ?_
     exact RK.back (ih (k + 1,u) _ ⟨by simp only;rw [hsn,if_neg (by simp [hnos]),List.append_nil];exact hr4,hf,hg24,by simp only;omega⟩ (by simp only;omega)) ⟨rfl,rfl,rfl,rfl,rfl,rfl,rfl,trivial⟩
   ·have hnos:holdZ now ls v (pubZ s)=false:=by unfold holdZ pubZ;simp only;rw [show (s.ms.all fun m=>holdsM m ls)=false by simpa only [Bool.not_eq_true] using h34];simp
    iterate 4 refine RL.no (.no rfl rfl rfl rfl) rfl rfl ?_
    refine GG ?_
    refine RK.condF rfl ?_
    refine RK.skip ?_
    refine RK.inBlock ?_
    refine RK.region ?_
    refine RL.p rfl rfl ?_
    refine RL.re (d:=45) rfl rfl (succ_i64 (by omega)) ?_
    refine GG ?_
    exact RK.back (ih (k + 1,u) _ ⟨by simp only;rw [hsn,if_neg (by simp [hnos]),List.append_nil];exact hr.mod (hg2'.trans hg3) (fun _ _ h=>h),hf,hg23,by simp only;omega⟩ (by simp only;omega)) ⟨rfl,rfl,rfl,rfl,rfl,rfl,rfl,trivial⟩
  ·have hnos:holdZ now ls v (pubZ s)=false:=by unfold holdZ pubZ;simp only;rw [decide_eq_false h28];rfl
   iterate 4 refine RL.no (.no rfl rfl rfl rfl) rfl rfl ?_
   refine GG ?_
   iterate 4 refine RL.no (.no rfl rfl rfl rfl) rfl rfl ?_
   refine GG ?_
   refine RK.condF rfl ?_
   refine RK.skip ?_
   refine RK.inBlock ?_
   refine RK.region ?_
   refine RL.p rfl rfl ?_
   refine RL.re (d:=45) rfl rfl (succ_i64 (by omega)) ?_
   refine GG ?_
   exact RK.back (ih (k + 1,u) _ ⟨by simp only;rw [hsn,if_neg (by simp [hnos]),List.append_nil];exact hr.mod hg2' (fun _ _ h=>h),hf,hg2,by simp only;omega⟩ (by simp only;omega)) ⟨rfl,rfl,rfl,rfl,rfl,rfl,rfl,trivial⟩
 ·have ek:al.take k=al:=List.take_of_length_le (by omega)
  rw [ek,hals] at hr
  refine RK.exit rfl ?_
  refine GG ?_
  refine RK.ret_of Tryz.func15 (res1 rfl rfl) ?_ _
  exact ⟨_,rfl,hr,hf,hg⟩
theorem lenZ_ok (w:World) (p:Nat) (s:SS) (O M:Nat→Prop) (h:ZStore O M w p s):Fx Tryz.prog 13 [pp p] w (fun u w'=>u=.int .i64 (s.sl.length:Int)∧w=w'):=by
 obtain ⟨pl,qu,vp,vq,vs,al,q,hO,h⟩:=h
 have hal:=h.len
 have hblk:=h.blk
 obtain ⟨ads,cs,rfl⟩:=h.row.slice
 refine enter Tryz.func13 rfl rfl rfl _ (Pick.sub (l:=[0]) (.cons rfl .nil)) ?_
 refine GG ?_
 refine QQ (Yld.fieldAddr fo101_3 rfl) ?_
 refine QQ (Yld.load p44 rfl (at1 (hblk.cell rfl))) ?_
 refine QQ (Yld.lenSl u44 rfl) ?_
 refine GG ?_
 refine RK.ret_of Tryz.func13 (res1 rfl rfl) ?_ _
 exact ⟨_,rfl,by rw [hal],rfl⟩
def getZ (s:SS) (id:Int):Option Slz:=(placeZ s id).bind fun i=>s.sl[i]?
theorem getZ_ok (w:World) (p:Nat) (s:SS) (O M:Nat→Prop) (h:ZStore O M w p s) (g:Gz s) (now id:Int) (hms:∀ a∈s.sl,a.ms.length≤1000000) :
  Fx Tryz.prog 16 [pp p,.int .u64 now,.int .i64 id] w (fun u w'=>(match getZ s id with
   | none=>u=.tuple #[.agg (silC ⟨0,0,0,0,.slice none 0 0,[],⟨false,0,0⟩⟩).toArray,.bool false]
   | some a=>∃ v',u=.tuple #[.agg (silC ⟨a.id,stateS now a.start a.stop,a.start,a.stop,v',a.ms,a.bd⟩).toArray,.bool true]∧Row w' 108 3 v' a.ms.length (a.ms.flatMap mtC)∧Fresh w.heap.size v')∧Grow w w'):=by
 obtain ⟨pl,qu,vp,vq,vs,al,q,hO,h⟩:=h
 have hal:=h.len
 have hals:=h.als
 have hsms:=h.sms
 have hblk:=h.blk
 have hsl:=Sl.own (M:=No) h.row (fun _ _ h=>h)
 cases hpz:placeZ s id with
 | none=>
  have e:getZ s id=none:=by unfold getZ;rw [hpz];rfl
  rw [e]
  refine enter Tryz.func16 rfl rfl rfl _ (Pick.sub (l:=[0,1,2]) (.cons rfl (.cons rfl (.cons rfl .nil)))) ?_
  refine GG ?_
  refine OP (Does.alloc i41) ?_
  rintro _ w1 ⟨b6,rfl,hn6⟩
  refine GG ?_
  refine OP (Does.call rfl e54 (findZ_ok _ p s M pl qu vp vq vs al q (h.grow hn6.grow) g id)) ?_
  rintro _ w2 ⟨⟨i,rfl,hi⟩,hg2⟩
  rw [hpz]
  refine GG ?_
  refine RK.condT (hcT rfl (rfl)) ?_
  refine GG ?_
  refine QQ (Yld.build (v:=.agg (silC ⟨0,0,0,0,.slice none 0 0,[],⟨false,0,0⟩⟩).toArray) rfl (fun w=>by kernel_rfl)) ?_
  refine OQ (Does.storeN i41 rfl rfl rfl rfl (hn6.blk.mod hg2 (fun h=>h)) (Nat.le_refl 8)) ?_
  rintro _ w3 ⟨hb3,hm3,_⟩
  refine GG ?_
  refine RK.ret_of Tryz.func16 (resCT (cs:=silC ⟨0,0,0,0,.slice none 0 0,[],⟨false,0,0⟩⟩) rfl rfl a41 hb3 rfl) ?_ _
  exact ⟨_,rfl,rfl,(hn6.grow.trans hg2).then hm3 (fun y hy e=>by have e' : y=b6:=e;have:=hn6.at_;omega)⟩
 | some j=>
  obtain ⟨ads,cs,rfl⟩:=h.row.slice
  refine enter Tryz.func16 rfl rfl rfl _ (Pick.sub (l:=[0,1,2]) (.cons rfl (.cons rfl (.cons rfl .nil)))) ?_
  refine GG ?_
  refine OP (Does.alloc i41) ?_
  rintro _ w1 ⟨b6,rfl,hn6⟩
  refine GG ?_
  refine OP (Does.call rfl e54 (findZ_ok _ p s M pl qu vp vq _ al q (h.grow hn6.grow) g id)) ?_
  rintro _ w2 ⟨⟨i,rfl,hi⟩,hg2⟩
  obtain ⟨rfl,hil⟩:=hi j hpz
  rw [hpz]
  have hg02:=hn6.grow.trans hg2
  obtain ⟨a,ha⟩:∃ a,al[j]?=some a:=⟨al[j]'hil,List.getElem?_eq_getElem hil⟩
  have e:getZ s id=some (pubZ a):=by unfold getZ;rw [hpz,← hals];simp [ha]
  rw [e]
  have ham:pubZ a∈s.sl:=by rw [← hals];exact List.mem_map.2 ⟨a,List.mem_of_getElem? ha,rfl⟩
  obtain ⟨b1,o1,c1',he1,_,_,hc1⟩:=hsl.elem silC_len ha
  cases he1
  refine GG ?_
  refine RK.condF (hcF rfl (rfl)) ?_
  refine GG ?_
  refine QQ (Yld.fieldAddr fo101_3 rfl) ?_
  refine QQ (Yld.load p44 rfl (at1 ((hblk.mod hg02 (fun h=>h)).cell rfl))) ?_
  refine RL.p rfl rfl ?_
  refine QQ (Yld.indexAddrN u44 i41 rfl rfl (by omega)) ?_
  refine QQ (Yld.loadN (cs:=silC a) a41 rfl (atN (fun q z hq=>hg02.cell (hc1 q z hq) (fun h=>h)))) ?_
  refine OP (Does.call rfl e55 (toldZ_ok M now a _ ((hsms a (List.mem_of_getElem? ha)).mod (Mod.any' hg02)) (hms _ ham))) ?_
  rintro _ w3 ⟨v',rfl,hr3,hf3,hg3⟩
  have hlt3:=fun b e=>hr3.lt (b:=b) e
  obtain ⟨ad3,c3,rfl⟩:=hr3.slice
  refine OQ (Does.storeN i41 rfl rfl rfl rfl ((hn6.blk.mod hg2 (fun h=>h)).mod hg3 (fun h=>h)) (Nat.le_refl 8)) ?_
  rintro _ w4 ⟨hb4,hm4,_⟩
  have hz2:=hg2.size
  have hz6:=hn6.size
  have ha6:=hn6.at_
  refine GG ?_
  refine RK.ret_of Tryz.func16 (resCT (cs:=silC { a with ver:=stateS now a.start a.stop,mv:=.slice ad3 a.ms.length c3 }) rfl rfl a41 hb4 rfl) ?_ _
  exact ⟨_,rfl,⟨.slice ad3 a.ms.length c3,rfl,hr3.mod hm4 (fun b e h=>by have:=hf3 b e;have h' : b=b6:=h;omega),fun b e=>by have:=hf3 b e;omega⟩,(hg02.trans hg3).then hm4 (fun y hy e=>by have e' : y=b6:=e;omega)⟩
end Go.Proofs.YtbcbfjnlnmhpbaaGreat
set_option linter.unusedVariables false
set_option linter.unusedSimpArgs false
set_option maxHeartbeats 3200000
set_option maxRecDepth 100000
namespace Go.Proofs.YtbcbfjnlnmhpbaaGreat
open Go Go.X
def minS (a b:Int):Int:=if b < a then b else a
def turnS (s:SS) (i:Nat) (a:Slz):SS:={ s with sl:=s.sl.set i a }
def expireS (s:SS) (now id:Int):SS×Int:=
 match placeZ s id with
 | none=>(s,5)
 | some i=>match s.sl[i]? with
  | none=>(s,5)
  | some a=>if stateS now a.start a.stop=3 then (s,6) else (turnS s i { a with start:=minS a.start now,stop:=now },0)
theorem turned (w w' : World) (p:Nat) (s s' : SS) (O M:Nat→Prop) (pl qu:Nat) (vp vq vs vq' : Value) (al al' : List Sil) (q q' : List En) (hO:∀ b,O b↔ownS p pl qu vp vq vs b) (h:ZA w p s M pl qu vp vq vs al q)
  (hr:s'.ret=s.ret) (hmo:s'.most=s.most) (hla:s'.last=s.last)
  (blk:Blk w' p 101 [pp pl,pp qu,.int .u64 s.ret,vs]) (que:QAt w' qu q' vq') (row:Row w' 41 8 vs al'.length (al'.flatMap silC)) (als:al'.map pubZ=s'.sl) (ids:al'.map (·.id)=al.map (·.id))
  (sms:∀ a∈al',SlM M w a.mv a.ms∨(Row w' 108 3 a.mv a.ms.length (a.ms.flatMap mtC)∧∀ b,a.mv.ownBlock=some b→w.heap.size≤b)) (sort:SortE q') (perm:q'.Perm (al'.map (entZ s.ret)))
  (hm:Mod (fun b=>b=qu∨vq.ownBlock=some b∨vs.ownBlock=some b) w w') (hf:∀ b,vq'.ownBlock=some b→vq.ownBlock=some b∨w.heap.size≤b) :
  ∃ O',ZStore O' (fun b=>M b∨O' b) w' p s'∧Mod O w w'∧∀ b,O' b→O b∨w.heap.size≤b:=by
 have hown:∀ x,ownS p pl qu vp vq' vs x→ownS p pl qu vp vq vs x∨w.heap.size≤x:=fun x e=>by
  rcases e with e | e | e | e | e | e
  ·exact .inl (.inl e)
  ·exact .inl (.inr (.inl e))
  ·exact .inl (.inr (.inr (.inl e)))
  ·exact .inl (.inr (.inr (.inr (.inl e))))
  ·rcases hf x e with e | e
   ·exact .inl (.inr (.inr (.inr (.inr (.inl e)))))
   ·exact .inr e
  ·exact .inl (.inr (.inr (.inr (.inr (.inr e)))))
 have hmP:Mod (ownS p pl qu vp vq vs) w w':=hm.mono fun x _ e=>by
  rcases e with e | e | e
  ·exact .inr (.inr (.inl e))
  ·exact .inr (.inr (.inr (.inr (.inl e))))
  ·exact .inr (.inr (.inr (.inr (.inr e))))
 have hpool:PoolAt w' pl s.most s.last (al.map (·.id)) vp:=h.pool.mod hm (fun e=>by
  rcases e with e | e | e
  ·exact h.ne_plqu e
  ·exact h.pool.blk.ty.ne (h.que.row.ty e) rfl rfl
  ·exact h.pool.blk.ty.ne (h.row.ty e) rfl rfl) (fun x e1 e=>by
  rcases e with e | e | e
  ·exact (h.pool.row.ty e1).ne h.que.blk.ty rfl e
  ·exact (h.pool.row.ty e1).ne (h.que.row.ty e) rfl rfl
  ·exact (h.pool.row.ty e1).ne (h.row.ty e) rfl rfl)
 refine ⟨ownS p pl qu vp vq' vs,ZStore.next (w:=w) (al:=al') (q:=q') h.ltM (hmP.mono fun x _ e=>h.ownM x e) (by rw [hr];exact blk) (by rw [hmo,hla,ids];exact hpool) que row als sms sort (by rw [hr];exact perm) (fun x e=>(hown x e).elim (fun e=>.inl (h.ownM x e)) .inr),hmP.mono fun x _ e=>(hO x).2 e,fun x e=>(hown x e).elim (fun e=>.inl ((hO x).2 e)) .inr⟩
theorem set_ids {al:List Sil} {i:Nat} {a a' : Sil} (ha:al[i]?=some a) (hid:a'.id=a.id):(al.set i a').map (·.id)=al.map (·.id):=by
 rw [List.map_set]
 apply List.ext_getElem?
 intro j
 rw [List.getElem?_set]
 split
 ·rename_i e
  subst e
  split
  ·rw [List.getElem?_map,ha];simp [hid]
  ·rename_i e2
   rw [eq_comm,List.getElem?_eq_none_iff];omega
 ·rfl
theorem expireZ_ok (w:World) (p:Nat) (s:SS) (O M:Nat→Prop) (h:ZStore O M w p s) (g:Gz s) (now id:Int) (hn:0≤now) :
  Fx Tryz.prog 20 [pp p,.int .u64 now,.int .i64 id] w (fun u w'=>∃ O',u=.int .i64 (expireS s now id).2∧ZStore O' (fun x=>M x∨O' x) w' p (expireS s now id).1∧Mod O w w'∧∀ x,O' x→O x∨w.heap.size≤x):=by
 have hself:=h.self
 have hback:∀ w',Grow w w'→ZStore O (fun b=>M b∨O b) w' p s:=fun w' hg=>hself.grow hg
 obtain ⟨pl,qu,vp,vq,vs,al,q,hO,h⟩:=h
 have hle:=g.le
 have hal:=h.len
 have hids:=h.ids
 have hals:=h.als
 have hql:=h.qlen
 have hcall:=findZ_ok w p s M pl qu vp vq vs al q h g id
 obtain ⟨ads,cs,rfl⟩:=h.row.slice
 cases hpz:placeZ s id with
 | none=>
  have e:expireS s now id=(s,5):=by unfold expireS;rw [hpz]
  rw [hpz] at hcall
  rw [e]
  refine enter Tryz.func20 rfl rfl rfl _ (Pick.sub (l:=[0,1,2]) (.cons rfl (.cons rfl (.cons rfl .nil)))) ?_
  refine GG ?_
  refine OP (Does.call rfl e54 (hcall)) ?_
  rintro _ w2 ⟨⟨i,rfl,hi⟩,hg2⟩
  refine GG ?_
  refine RK.condT (hcT rfl (rfl)) ?_
  refine GG ?_
  refine RK.ret_of Tryz.func20 (res1 rfl rfl) ?_ _
  exact ⟨_,rfl,O,rfl,hback _ hg2,Mod.any' hg2,fun x e=>.inl e⟩
 | some j=>
  rw [hpz] at hcall
  refine enter Tryz.func20 rfl rfl rfl _ (Pick.sub (l:=[0,1,2]) (.cons rfl (.cons rfl (.cons rfl .nil)))) ?_
  refine GG ?_
  refine OP (Does.call rfl e54 (hcall)) ?_
  rintro _ w2 ⟨⟨i,rfl,hi⟩,hg2⟩
  obtain ⟨rfl,hil⟩:=hi j rfl
  obtain ⟨a,ha⟩:∃ a,al[j]?=some a:=⟨al[j]'hil,List.getElem?_eq_getElem hil⟩
  have hsj:s.sl[j]?=some (pubZ a):=by rw [← hals];simp [ha]
  have h2:=h.grow hg2
  obtain ⟨b1,o1,c1',he1,_,_,hc1⟩:=(Sl.own (M:=No) h2.row (fun _ _ h=>h)).elem silC_len ha
  cases he1
  have hsm:=h2.sms a (List.mem_of_getElem? ha)
  have hst:=g.st _ (List.mem_of_getElem? hsj)
  have hr0:=g.r0
  have hr1:=g.r1
  refine GG ?_
  refine RK.condF (hcF rfl (rfl)) ?_
  refine GG ?_
  refine QQ (Yld.fieldAddr fo101_3 rfl) ?_
  refine QQ (Yld.load p44 rfl (at1 (h2.blk.cell rfl))) ?_
  refine RL.p rfl rfl ?_
  refine QQ (Yld.indexAddrN u44 i41 rfl rfl (by omega)) ?_
  refine QQ (Yld.loadN (cs:=silC a) a41 rfl (atN (hc1))) ?_
  refine OP (Does.alloc i41) ?_
  rintro _ w3 ⟨b9,rfl,hn9⟩
  refine OQ (Does.storeN i41 rfl rfl rfl (silC_one hsm) hn9.blk (Nat.le_refl 8)) ?_
  rintro _ w4 ⟨hb4,hm4,_⟩
  have hg24:Grow w2 w4:=hn9.grow.then hm4 (fun y hy e=>by have e' : y=b9:=e;have:=hn9.at_;omega)
  have hg04:=hg2.trans hg24
  have hB4:Blk w4 b9 41 [.int .i64 a.id,.int .i64 a.ver,.int .u64 a.start,.int .u64 a.stop,a.mv,.bool a.bd.all,.float .f64 a.bd.lo,.float .f64 a.bd.hi]:=hb4
  refine GG ?_
  refine QQ (Yld.fieldAddr fo41_2 rfl) ?_
  refine QQ (Yld.load p22 rfl (at1 (hB4.cell rfl))) ?_
  refine QQ (Yld.fieldAddr fo41_3 rfl) ?_
  refine QQ (Yld.load p22 rfl (at1 (hB4.cell rfl))) ?_
  refine OP (Does.call rfl e51 (state_ok now a.start a.stop _)) ?_
  rintro _ _ ⟨rfl,rfl⟩
  refine GG ?_
  refine CD (fun h31=>?_) (fun h31=>?_)
  ·have e:expireS s now id=(s,6):=by unfold expireS;rw [hpz];simp only;rw [hsj];simp only;exact if_pos h31
   rw [e]
   refine GG ?_
   refine RK.ret_of Tryz.func20 (res1 rfl rfl) ?_ _
   exact ⟨_,rfl,O,rfl,hback _ hg04,Mod.any' hg04,fun x e=>.inl e⟩
  ·have e:expireS s now id=(turnS s j { pubZ a with start:=minS a.start now,stop:=now },0):=by unfold expireS;rw [hpz];simp only;rw [hsj];simp only;exact if_neg h31
   rw [e]
   have hlt:now < a.stop:=by unfold stateS at h31;split at h31 <;> omega
   have hst2:a.stop≤1099511627776:=hst.2
   have h4:=h.grow hg04
   refine GG ?_
   refine QQ (Yld.fieldAddr fo41_2 rfl) ?_
   refine QQ (Yld.load p22 rfl (at1 (hB4.cell rfl))) ?_
   refine RL.p rfl rfl ?_
   refine QQ (Yld.min2k rfl rfl) ?_
   refine RL.p rfl rfl ?_
   refine OP (Does.call rfl e49 (turnZ_ok _ p pl qu s.ret (minS a.start now) now vq _ al q j a h4.blk h4.que h4.sort h4.row ha (by omega) (by omega) (by omega) (by omega))) ?_
   rintro _ w5 ⟨rfl,vq',hb5,hq5,hr5,hm5,hf5⟩
   obtain ⟨O',hz,hmO,hO'⟩:=turned _ w5 p s (turnS s j { pubZ a with start:=minS a.start now,stop:=now }) O M pl qu vp vq _ vq' al (al.set j { a with start:=minS a.start now,stop:=now }) q _ hO h4 rfl rfl rfl hb5 hq5 (by rw [List.length_set];exact hr5) (by rw [List.map_set,hals];rfl) (set_ids ha rfl) (fun y hy=>by
     rcases List.mem_or_eq_of_mem_set hy with hy | rfl
     ·exact .inl (h4.sms y hy)
     ·exact .inl (h4.sms a (List.mem_of_getElem? ha))) (turn_sort h4.sort h4.perm' (by rw [hids];exact g.ris)) (turn_perm (a':={ a with start:=minS a.start now,stop:=now }) h4.perm' (by rw [hids];exact g.ris) ha rfl) hm5 hf5
   have hz4:=hg04.size
   refine GG ?_
   refine RK.ret_of Tryz.func20 (res1 rfl rfl) ?_ _
   exact ⟨_,rfl,O',rfl,hz,(Mod.any' hg04).trans hmO,fun x e=>(hO' x e).elim .inl (fun e=>.inr (by omega))⟩
end Go.Proofs.YtbcbfjnlnmhpbaaGreat
