/- What the claim stands on, part 4. Of own lemmas only those that it reaches. -/
import Derived.Test.YtbcbfjnlnmhpbaaGreatKv3
set_option linter.unusedVariables false
set_option linter.unusedSimpArgs false
set_option maxHeartbeats 1000000
set_option maxRecDepth 100000
namespace Go.Proofs.YtbcbfjnlnmhpbaaGreat
open Go Go.X Go.Rex
theorem rfactor_ok (s : ByteArray) (hs : s.size ≤ 40) (p d : Nat) (hd : d ≤ 8) (g : Nat → Option (Rx × Nat)) (hg8 : d = 8 → ∀ i, g i = none) (hgw : GrpOk2 p s d g)
    (w:World) (i:Nat) (h:PB w p s i (d:Int) false) (hi:i < s.size) (h124:b8 s i≠124) (h41:b8 s i≠41) :
    Fx Tryz.prog 211 [pp p] w (fun u w'=>RT2 w w' p s d (factorS s g i) u∧Mod (·=p) w w'):=by
  have hplt:=h.lt
  refine enter Tryz.func211 rfl rfl rfl _ (Pick.sub (l:=[0]) (.cons rfl .nil)) ?_
  refine RK.seq ?_
  refine RK.region ?_
  refine RL.op (.free rfl) rfl rfl (Does.alloc i180) ?_
  rintro _ w1 ⟨b2,rfl,hn2⟩
  have hb2:=hn2.at_
  have hs1:=hn2.size
  have hb2p:¬ b2=p:=by omega
  refine RL.done ?_
  refine RK.seq ?_
  refine RK.region ?_
  refine RL.p rfl rfl ?_
  refine RL.op (.free rfl) rfl rfl (Does.call rfl e231 (ratom_ok s hs p d hd g hg8 hgw _ i (h.mod hn2.grow (fun h=>h)) hi h124 h41)) ?_
  rintro _ w2 ⟨⟨c,j,bad,d',rfl,hj,hP2,hno,hyes⟩,hm12⟩
  have hs12:=hm12.size
  refine RL.op (.free rfl) rfl rfl (Does.alloc i180) ?_
  rintro _ w3 ⟨b3,rfl,hn3⟩
  have hb3:=hn3.at_
  refine RL.op' (.free rfl) rfl (Does.storeN i180 rfl rfl rfl rfl hn3.blk (Nat.le_refl 6)) ?_
  rintro _ w4 ⟨hb4,hm4,_⟩
  have hB4:Blk w4 b3 180 (celC c):=hb4
  have hs3:=hn3.size
  have hm24:Mod (·=b3) w2 w4:=(Mod.any' hn3.grow).trans hm4
  have hm14:Mod (·=p) w1 w4:=(hm12.trans (Mod.any' hn3.grow)).then hm4 (fun b hb e=>by have e' : b=b3:=e;omega)
  have hP4:=hP2.mod hm24 (by omega)
  refine RL.done ?_
  iterate 2 refine RK.seq ?_
  refine RK.region ?_
  refine RL.p rfl rfl ?_
  refine RL.op (.free rfl) rfl rfl (Does.call rfl e182 (more_ok _ p s j d' bad hP4)) ?_
  rintro _ w5 ⟨rfl,hg5⟩
  have hP5:=hP4.mod hg5 (fun h=>h)
  have hB5:=hB4.mod hg5 (fun h=>h)
  have hm15:=hm14.trans (Mod.any' hg5)
  have hl01:∀ b,Old w b→Old w1 b:=fun b e=>by unfold Old at *;omega
  have hrxw:∀ x w',RxV (Old w1) w2 x [c]→Grow w5 w'→RxV (Old w1) w' x [c]:=fun x w' hrx hg=>RxV.off (fun b hb e=>.inl e) x (RxV.grow hg x (RxV.grow hg5 x (RxV.mod hm24 (fun b _ e=>.inr e) x (RxV.off (M':=fun b=>Old w1 b∨b=b3) (fun b hb e=>e.elim (fun e=>e) (fun e=>by omega)) x hrx))))
  refine RL.p rfl rfl ?_
  refine RL.done ?_
  first | refine RK.condD rfl (fun h9=>?_) (fun h9=>?_) | refine RK.condN rfl (fun h9=>?_) (fun h9=>?_) | refine RK.cond rfl (fun h9=>?_) (fun h9=>?_)
  · have h9' : ¬ (bad = false ∧ j < s.size) := by
        have h:=h9
        simp [moreS] at h
        rintro ⟨h1,h2⟩
        rcases h with h | h
        · rw [h1] at h;cases h
        · omega
    refine RK.seq ?_
    refine RK.region ?_
    refine RL.q (.free rfl) rfl rfl (Yld.loadN (cs:=celC c) a180 rfl (atN (blk0' hB5))) ?_
    refine RL.op' (.free rfl) rfl (Does.storeN i180 rfl rfl rfl rfl (hn2.blk.mod hm15 hb2p) (Nat.le_refl 6)) ?_
    rintro _ w19 ⟨hb19,hm19,_⟩
    refine RL.done ?_
    refine RK.ret_of Tryz.func211 (resC (cs:=celC c) rfl rfl a180 hb19) ?_ _
    exact ⟨_, rfl, ⟨c, j, bad, d', rfl, hj, hP5.mod hm19 (by omega), fun e => by unfold factorS; rw [hno e]; rfl, fun e => by
        obtain ⟨hdd,x,hx,hrx⟩:=hyes e
        refine ⟨hdd,x,?_,RxV.off (fun b _ e=>hl01 b e) x (RxV.mod hm19 (fun b _ e=>by have e' : b=b2:=e;unfold Old;omega) x (hrxw x _ hrx (Mod.refl _ _)))⟩
        unfold factorS
        rw [hx]
        show some (oftS s x j)=_
        unfold oftS
        rw [if_neg (fun h=>h9' ⟨e,h⟩)]⟩,((Mod.any' hn2.grow:Mod (·=p) w w1).trans hm15).then hm19 (fun b hb e=>by have e' : b=b2:=e;omega)⟩
  · have h9' : bad = false ∧ j < s.size := by
        have h:=h9
        simpa [moreS] using h
    obtain ⟨hbad,hjs⟩:=h9'
    subst hbad
    obtain ⟨hdd,x,hx,hrx⟩:=hyes rfl
    subst hdd
    refine RK.skip ?_
    refine RK.seq ?_
    refine RK.region ?_
    refine RL.p rfl rfl ?_
    refine RL.done ?_
    iterate 2 refine RK.seq ?_
    refine RK.drawM No [(0,false),(1,false),(2,false),(3,false),(4,false),(5,false),(6,false),(7,false),(8,false)] [] mixed (by kernel_rfl) ?_
    iterate 2 refine DL.p rfl rfl rfl ?_
    refine DL.qf rfl (.free rfl) rfl rfl (Yld.fieldAddr fo206_0 rfl) ?_
    refine DL.q rfl (.free rfl) rfl rfl rfl (Yld.load p9 rfl (atM (hP5.cell rfl) (fun h=>h))) (Mod.drew _ _) ?_
    iterate 2 refine DL.p rfl rfl rfl ?_
    refine DL.qf rfl (.free rfl) rfl rfl (Yld.fieldAddr fo206_1 rfl) ?_
    refine DL.q rfl (.free rfl) rfl rfl rfl (Yld.load p3 rfl (atM (hP5.cell rfl) (fun h=>h))) (Mod.drew _ _) ?_
    refine DL.qf rfl (.free rfl) rfl rfl (Yld.idxStrN u9 rfl rfl (hjs)) ?_
    have hP6:PB w5.drew p s j (d:Int) false:=hP5.mod (Mod.drew No _) (fun h=>h)
    have hB6:=hB5.mod (Mod.drew No _) (fun h=>h)
    have hm16:Mod (·=p) w1 w5.drew:=hm15.trans (Mod.drew _ _)
    have hb8:b8 s j=(bt s j).toNat:=rfl
    have hfs:factorS s g i=some (oftS s x j):=by unfold factorS;rw [hx];rfl
    unfold oftS at hfs
    rw [if_pos hjs] at hfs
    refine DL.done ?_
    refine RK.cutS (fun op:Nat=>[(0,pp p),(2,pp b2),(3,pp b3),(4,.int .i64 (op:Int))]) (fun op w'=>factorS s g i=some (onlyS op x,j + 1)∧w'=w5.drew) (fun op w6 hQ6=>?_) (fun hj6=>?_)
    · obtain ⟨hres,rfl⟩:=hQ6
      refine RK.seq ?_
      refine RK.region ?_
      iterate 2 refine RL.p rfl rfl ?_
      refine RL.q (.free rfl) rfl rfl (Yld.fieldAddr fo206_1 rfl) ?_
      refine RL.q (.free rfl) rfl rfl (Yld.load p3 rfl (at1 (Blk.cell hP6 rfl))) ?_
      refine RL.p rfl rfl ?_
      refine RL.re (d:=31) rfl rfl (succ_i64 (by omega)) ?_
      refine RL.p rfl rfl ?_
      refine RL.q (.free rfl) rfl rfl (Yld.fieldAddr fo206_1 rfl) ?_
      refine RL.op' (.free rfl) rfl (Does.store i3 rfl rfl rfl hP6 (.s .z)) ?_
      rintro _ w7 ⟨hP7',hm7,_⟩
      have hP7:PB w7 p s (j + 1) (d:Int) false:=hP7'
      have hB7:=hB6.mod hm7 (by omega)
      have hm17:=hm16.trans hm7
      refine RL.done ?_
      refine RK.seq ?_
      refine RK.region ?_
      refine RL.p rfl rfl ?_
      refine RL.q (.free rfl) rfl rfl (Yld.loadN (cs:=celC c) a180 rfl (atN (blk0' hB7))) ?_
      refine RL.op (.free rfl) rfl rfl (Does.slice1 u178 i180 rfl rfl rfl rfl rfl) ?_
      rintro _ w8 ⟨b8,rfl,hn8⟩
      have hb8':=hn8.at_
      have hs17:=hm17.size
      refine RL.q (.free rfl) rfl rfl (Yld.build (v:=.agg #[.int .i64 (op:Int),.int .u64 0,.int .u64 0,.int .u64 0,.int .u64 0,.slice (some ⟨b8,0,none⟩) 1 1]) rfl (fun w=>by kernel_rfl)) ?_
      refine RL.op' (.free rfl) rfl (Does.storeN i180 rfl rfl rfl rfl ((hn2.blk.mod hm17 hb2p).mod hn8.grow (fun h=>h)) (Nat.le_refl 6)) ?_
      rintro _ w19 ⟨hb19,hm19,_⟩
      have hP8:=hP7.mod hn8.grow (fun h=>h)
      have hrx9:RxV (Old w) w19 x [c]:=RxV.off (fun b _ e=>hl01 b e) x (RxV.mod hm19 (fun b _ e=>by have e' : b=b2:=e;unfold Old;omega) x (RxV.grow hn8.grow x (RxV.mod hm7 (fun b _ e=>by have e' : b=p:=e;unfold Old;omega) x (hrxw x _ hrx (Mod.drew _ _)))))
      have hsl9:Sl (Old w) w19 (.slice (some ⟨b8,0,none⟩) 1 1) 6 [c].length ([c].flatMap celC):=((Sl.new (M:=Old w1) hn8 6 1 rfl (by omega) (by unfold Old;omega)).mod (hm19.mono fun b _ e=>by have e' : b=b2:=e;unfold Old;omega)).off (by omega) (fun b _ e=>hl01 b e)
      refine RL.done ?_
      refine RK.ret_of Tryz.func211 (resC (cs:=[.int .i64 (op:Int),.int .u64 0,.int .u64 0,.int .u64 0,.int .u64 0,.slice (some ⟨b8,0,none⟩) 1 1]) rfl rfl a180 hb19) ?_ _
      exact ⟨_,rfl,⟨⟨(op:Int),0,0,0,0,some ⟨b8,0,none⟩,1,1⟩,j + 1,false,(d:Int),rfl,by omega,hP8.mod hm19 (by omega),fun e=>(by cases e),fun _=>⟨rfl,_,hres,_,_,_,[c],⟨rfl,Nat.le_refl _⟩,hsl9,⟨c,[],rfl,hrx9,rfl⟩⟩⟩,(((Mod.any' hn2.grow:Mod (·=p) w w1).trans hm17).trans (Mod.any' hn8.grow)).then hm19 (fun b hb e=>by have e' : b=b2:=e;omega)⟩
    · refine RK.block ?_
      refine RK.seq ?_
      refine RK.region ?_
      iterate 2 refine RL.p rfl rfl ?_
      refine RL.done ?_
      first | refine RK.condD rfl (fun h21=>?_) (fun h21=>?_) | refine RK.condN rfl (fun h21=>?_) (fun h21=>?_) | refine RK.cond rfl (fun h21=>?_) (fun h21=>?_)
      · refine RK.region ?_
        refine RL.p rfl rfl ?_
        refine RL.done ?_
        refine RK.inBlock ?_
        exact RK.back (hj6 4 _ ⟨by rw [hfs,if_pos (by omega)],rfl⟩) ⟨rfl,rfl,rfl,rfl,trivial⟩
      · refine RK.seq ?_
        refine RK.region ?_
        iterate 2 refine RL.p rfl rfl ?_
        refine RL.done ?_
        first | refine RK.condD rfl (fun h23=>?_) (fun h23=>?_) | refine RK.condN rfl (fun h23=>?_) (fun h23=>?_) | refine RK.cond rfl (fun h23=>?_) (fun h23=>?_)
        · refine RK.region ?_
          refine RL.p rfl rfl ?_
          refine RL.done ?_
          refine RK.inBlock ?_
          exact RK.back (hj6 5 _ ⟨by rw [hfs,if_neg (by omega),if_pos (by omega)],rfl⟩) ⟨rfl,rfl,rfl,rfl,trivial⟩
        · refine RK.seq ?_
          refine RK.region ?_
          iterate 2 refine RL.p rfl rfl ?_
          refine RL.done ?_
          first | refine RK.condD rfl (fun h25=>?_) (fun h25=>?_) | refine RK.condN rfl (fun h25=>?_) (fun h25=>?_) | refine RK.cond rfl (fun h25=>?_) (fun h25=>?_)
          · refine RK.region ?_
            refine RL.p rfl rfl ?_
            refine RL.done ?_
            refine RK.inBlock ?_
            exact RK.back (hj6 6 _ ⟨by rw [hfs,if_neg (by omega),if_neg (by omega),if_pos (by omega)],rfl⟩) ⟨rfl,rfl,rfl,rfl,trivial⟩
          · refine RK.seq ?_
            refine RK.region ?_
            refine RL.q (.free rfl) rfl rfl (Yld.loadN (cs:=celC c) a180 rfl (atN (blk0' hB6))) ?_
            refine RL.op' (.free rfl) rfl (Does.storeN i180 rfl rfl rfl rfl (hn2.blk.mod hm16 hb2p) (Nat.le_refl 6)) ?_
            rintro _ w19 ⟨hb19,hm19,_⟩
            refine RL.done ?_
            refine RK.ret_of Tryz.func211 (resC (cs:=celC c) rfl rfl a180 hb19) ?_ _
            exact ⟨_,rfl,⟨c,j,false,(d:Int),rfl,hj,hP6.mod hm19 (by omega),fun e=>(by cases e),fun _=>⟨rfl,x,by rw [hfs,if_neg (by omega),if_neg (by omega),if_neg (by omega)],RxV.off (fun b _ e=>hl01 b e) x (RxV.mod hm19 (fun b _ e=>by have e' : b=b2:=e;unfold Old;omega) x (hrxw x _ hrx (Mod.drew _ _)))⟩⟩,((Mod.any' hn2.grow:Mod (·=p) w w1).trans hm16).then hm19 (fun b hb e=>by have e' : b=b2:=e;omega)⟩
structure WayR (w0:World) (p:Nat) (s:ByteArray) (d:Nat) (w:World) (u:Value) (ks:List Cel) (i:Nat) (bad:Bool) (e:Nat) (d' : Int):Prop where
 row:Row w 180 6 u ks.length (ks.flatMap celC)
 fresh:Fresh w0.heap.size u
 pa:PB w p s i d' bad
 le:i≤s.size
 mod:Mod (·=p) w0 w
 cnt:ks.length≤41 + e∧(bad=false→ks.length≤i + e∧d'=d)
theorem rway_ok (s:ByteArray) (hs:s.size≤40) (p d:Nat) (hd:d≤8) (g:Nat→Option (Rx×Nat)) (hg:∀ i x j,i≤s.size→g i=some (x,j)→i≤j∧j≤s.size) (hg8:d=8→∀ i,g i=none) (hgw:GrpOk2 p s d g)
  (w:World) (i0:Nat) (h:PB w p s i0 (d:Int) false) (hi0:i0≤s.size) :
  Fx Tryz.prog 181 [pp p] w (fun u w'=>RT2 w w' p s d (wayS s g i0) u∧Mod (·=p) w w'):=by
 have hplt:=h.lt
 obtain ⟨R,hR⟩:∃ R,R=wayL s g (s.size + 1) i0 []:=⟨_,rfl⟩
 refine enter Tryz.func181 rfl rfl rfl _ (Pick.sub (l:=[0]) (.cons rfl .nil)) ?_
 refine GG ?_
 refine OP (Does.alloc i180) ?_
 rintro _ w1 ⟨b2,rfl,hn2⟩
 have hb2:=hn2.at_
 have hg2:=hn2.grow
 have hs1:=hn2.size
 have hb2p:¬ b2=p:=by omega
 have hl01:∀ b,Old w b→Old w1 b:=fun b e=>by unfold Old at *;omega
 have hpo:Old w1 p:=by unfold Old;omega
 refine GG ?_
 refine RK.loop (fun t:Value×List Cel×List Rx×Nat×Nat×Bool×Int=>[(0,pp p),(2,pp b2),(3,t.1)]) (fun t w'=>WayR w1 p s d w' t.1 t.2.1 t.2.2.2.1 t.2.2.2.2.2.1 0 t.2.2.2.2.2.2∧(t.2.2.2.2.2.1=true→R=none)∧(t.2.2.2.2.2.1=false→RxV (KOf w1 t.1) w' (lstS t.2.2.1) t.2.1∧wayL s g t.2.2.2.2.1 t.2.2.2.1 t.2.2.1=R∧s.size + 1≤t.2.2.2.2.1 + t.2.2.2.1)) (fun t=>if t.2.2.2.2.2.1 then 0 else s.size + 1 - t.2.2.2.1) (.slice none 0 0,[],[],i0,s.size + 1,false,(d:Int)) ⟨rfl,rfl,rfl,trivial⟩ ⟨⟨Row.nil _ _ _,fun b hb=>by simp [Value.ownBlock] at hb,h.mod hg2 (fun h=>h),hi0,Mod.refl _ _,by simp⟩,by simp,fun _=>⟨rfl,hR.symm,by simp only;omega⟩⟩ (fun t w3 hI0 ih=>?_)
 obtain ⟨u,ks,xs,i,n,bad,d'⟩:=t
 obtain ⟨hI,hno,hgo⟩:=hI0
 simp only at hI hno hgo
 have hile:=hI.le
 iterate 2 refine RK.seq ?_
 refine RK.cut [(0,pp p),(2,pp b2),(3,u),(29,.bool (!bad && goesS s i))] (fun w'=>Grow w3 w') (fun w4 hg34=>?_) (fun hj=>?_)
 ·have hI4:WayR w1 p s d w4 u ks i bad 0 d':=⟨hI.row.mod hg34 (fun _ _ h=>h),hI.fresh,hI.pa.mod hg34 (fun h=>h),hI.le,hI.mod.trans (Mod.any' hg34),hI.cnt⟩
  have hgo4:bad=false→RxV (KOf w1 u) w4 (lstS xs) ks∧wayL s g n i xs=R∧s.size + 1≤n + i:=fun hb=>⟨RxV.grow hg34 _ (hgo hb).1,(hgo hb).2⟩
  have hs1x:=hI4.mod.size
  refine CD (fun h29=>?_) (fun h29=>?_)
  ·obtain ⟨hbad,hgoes⟩:bad=false∧goesS s i=true:=by simpa using h29
   subst hbad
   obtain ⟨his,h124,h41⟩:i < s.size∧b8 s i≠124∧b8 s i≠41:=by unfold goesS at hgoes;simpa using hgoes
   have hdd:=(hI4.cnt.2 rfl).2
   subst hdd
   obtain ⟨hk,hl,hn⟩:=hgo4 rfl
   obtain ⟨m,rfl⟩:∃ m,n=m + 1:=⟨n - 1,by omega⟩
   rw [wayL,if_pos hgoes] at hl
   refine GG ?_
   refine OP (Does.call rfl e211 (rfactor_ok s hs p d hd g hg8 hgw _ i hI4.pa his h124 h41)) ?_
   rintro _ w7 ⟨⟨c,j,bad,d',rfl,hj7,hP7,hno7,hyes7⟩,hm7⟩
   refine OP (Does.slice1 u178 i180 rfl rfl rfl rfl rfl) ?_
   rintro _ w8 ⟨b8,rfl,hn8⟩
   have hru:∀ b,u.ownBlock=some b→b < w4.heap.size:=fun b e=>hI4.row.lt e
   have hup:∀ b,u.ownBlock=some b→¬ b=p:=fun b e e2=>by have h1:=hI.fresh b e;unfold Old at hpo;omega
   have hcnt:=(hI4.cnt.2 rfl).1
   refine OP (Does.append u178 i180 rfl rfl rfl rfl rfl ((hI4.row.mod hm7 hup).mod hn8.grow (fun _ _ h=>h)) (Sl.new hn8 6 1 rfl (by omega) (fun h=>h)) (rfl) (by omega)) ?_
   rintro u9 w9 ⟨hr9,hm9,hu9⟩
   have hs67:=hm7.size
   have hs78:=hn8.grow.size
   have hI9:WayR w1 p s d w9 u9 (ks ++ [c]) j bad 0 d':=⟨by rw [List.length_append,List.flatMap_append];exact hr9,fun b e=>by
     rcases hu9 with h1 | h1
     ·exact hI.fresh b (h1 ▸ e)
     ·rw [h1] at e;cases e;omega
    ,(hP7.mod hn8.grow (fun h=>h)).mod hm9 (fun e=>hup p e rfl),hj7,((hI4.mod.trans hm7).trans (Mod.any' hn8.grow)).then hm9 (fun b hb e=>by have h1:=hI.fresh b e;omega),by simp;omega,fun hb=>by obtain ⟨hd9,x,hx,_⟩:=hyes7 hb;have h8:=factorS_adv hg his hx;exact ⟨by simp;omega,hd9⟩⟩
   refine GG ?_
   exact RK.back (ih (u9,ks ++ [c],xs ++ (match factorS s g i with | some q=>[q.1] | none=>[]),j,m,bad,d') _ ⟨hI9,fun hb=>by simp only at hb;rw [← hl,hno7 hb],fun hb=>by
     simp only at hb ⊢
     obtain ⟨_,x,hx,hrx⟩:=hyes7 hb
     rw [hx] at hl ⊢
     have h8:=factorS_adv hg his hx
     exact ⟨kids_more hpo (by omega) hru hk hm7 hrx hn8 hm9 hu9,hl,by omega⟩⟩ (by
     simp only [Bool.false_eq_true,if_false]
     split
     ·omega
     ·rename_i hb9
      obtain ⟨_,x,hx,_⟩:=hyes7 (by simpa using hb9)
      have h8:=factorS_adv hg his hx
      omega)) ⟨rfl,rfl,rfl,trivial⟩
  ·have hend:bad=false→wayS s g i0=some (mkN 2 xs,i):=fun hb=>by
     obtain ⟨hk,hl,hn⟩:=hgo4 hb
     obtain ⟨m,rfl⟩:∃ m,n=m + 1:=⟨n - 1,by omega⟩
     unfold wayS
     rw [← hR,← hl,wayL,if_neg (fun h=>by simp [hb,h] at h29)];rfl
   have hnone:bad=true→wayS s g i0=none:=fun hb=>by unfold wayS;rw [← hR,hno hb];rfl
   obtain ⟨adu,cu,rfl,hcu9⟩:=hI4.row.cap
   have hb2o:Old w1 b2:=by unfold Old;omega
   refine RK.exit rfl ?_
   refine GG ?_
   refine QQ (Yld.lenSl u178 rfl) ?_
   refine GG ?_
   refine CD (fun h37=>?_) (fun h37=>?_)
   ·obtain ⟨c,rfl⟩:∃ c,ks=[c]:=by
      match ks,h37 with
      | [c],_=>exact ⟨c,rfl⟩
    have hsu:Sl No w4 (.slice adu [c].length cu) 6 [c].length ([c].flatMap celC):=Sl.own hI4.row (fun _ _ h=>h)
    obtain ⟨bu,ou,cu',heu,_,_,hcu⟩:=hsu.elem (k:=0) celC_len rfl
    cases heu
    refine GG ?_
    refine QQ (Yld.indexAddr u178 i180 rfl rfl (by omega) (by simp)) ?_
    refine QQ (Yld.loadN (cs:=celC c) a180 rfl (atN (hcu))) ?_
    refine OQ (Does.storeN i180 rfl rfl rfl rfl (hn2.blk.mod hI4.mod hb2p) (Nat.le_refl 6)) ?_
    rintro _ w19 ⟨hb19,hm19,_⟩
    refine RL.done ?_
    refine RK.ret_of Tryz.func181 (resC (cs:=celC c) rfl rfl a180 hb19) ?_ _
    exact ⟨_,rfl,⟨c,i,bad,d',rfl,hI4.le,hI4.pa.mod hm19 (by omega),hnone,fun hb=>by
      obtain ⟨hk,hl,hn⟩:=hgo4 hb
      obtain ⟨x,rfl⟩:∃ x,xs=[x]:=by
       have h9:=rx_len xs hk
       match xs,h9 with
       | [x],_=>exact ⟨x,rfl⟩
      obtain ⟨c',ks',e1,hx,_⟩:=hk
      cases e1
      exact ⟨(hI4.cnt.2 hb).2,x,hend hb,RxV.off (fun b _ e=>.inl (hl01 b e)) x (RxV.mod hm19 (fun b _ e=>by have e' : b=b2:=e;rw [e'];exact .inl hb2o) x hx)⟩⟩,((Mod.any' hg2:Mod (·=p) w w1).trans hI4.mod).then hm19 (fun b hb e=>by have e' : b=b2:=e;omega)⟩
   ·refine GG ?_
    refine QQ (Yld.build (v:=.agg #[.int .i64 2,.int .u64 0,.int .u64 0,.int .u64 0,.int .u64 0,.slice adu ks.length cu]) rfl (fun w=>by kernel_rfl)) ?_
    refine OQ (Does.storeN i180 rfl rfl rfl rfl (hn2.blk.mod hI4.mod hb2p) (Nat.le_refl 6)) ?_
    rintro _ w19 ⟨hb19,hm19,_⟩
    refine RL.done ?_
    refine RK.ret_of Tryz.func181 (resC (cs:=[.int .i64 2,.int .u64 0,.int .u64 0,.int .u64 0,.int .u64 0,.slice adu ks.length cu]) rfl rfl a180 hb19) ?_ _
    exact ⟨_,rfl,⟨⟨2,0,0,0,0,adu,ks.length,cu⟩,i,bad,d',rfl,hI4.le,hI4.pa.mod hm19 (by omega),hnone,fun hb=>by
      obtain ⟨hk,hl,hn⟩:=hgo4 hb
      have h9:=rx_len xs hk
      have hmk:=mkN_ne (op:=2) (l:=xs) (by rw [← h9];omega)
      refine ⟨(hI4.cnt.2 hb).2,_,hend hb,?_⟩
      rw [hmk]
      refine ⟨adu,ks.length,cu,ks,⟨rfl,hcu9⟩,?_,?_⟩
      ·exact ((Sl.own (M:=Old w1) hI4.row (fun b e e2=>by have h8:=hI4.fresh b e;unfold Old at e2;omega)).mod (hm19.mono fun b _ e=>by have e' : b=b2:=e;rw [e'];exact hb2o)).off (by omega) (fun b _ e=>hl01 b e)
      ·exact RxV.off (fun b _ e=>.inl (hl01 b e)) _ (RxV.mod hm19 (fun b _ e=>by have e' : b=b2:=e;rw [e'];exact .inl hb2o) _ hk)⟩,((Mod.any' hg2:Mod (·=p) w w1).trans hI4.mod).then hm19 (fun b hb e=>by have e' : b=b2:=e;omega)⟩
 ·have hP3:=hI.pa
  refine RK.drawM No [(0,false),(1,true),(2,false),(3,false),(4,false),(5,false),(6,false),(7,false),(8,false),(9,false),(10,false),(11,false),(12,false),(13,false),(14,false),(15,false),(16,false),(17,false),(18,false),(19,false),(20,false),(21,false),(22,false),(23,false),(24,false),(25,false)] [] mixed (by kernel_rfl) ?_
  refine DL.p rfl rfl rfl ?_
  refine OD (Does.call rfl e182 (more_ok _ p s i d' bad (hP3.mod (Mod.drew No _) (fun h=>h)))) ?_
  rintro _ w4 ⟨rfl,hg4⟩
  have hgd:Grow w3 w4:=(Mod.drew _ _).trans hg4
  refine ⟨hgd,?_⟩
  have hb8:b8 s i=(bt s i).toNat:=rfl
  refine DL.p rfl rfl rfl ?_
  refine SD 6 (fun h6=>?_) (fun h6=>?_)
  ·have hmo:bad=false∧i < s.size:=by simpa [moreS] using h6
   iterate 2 refine DF (Yld.pure rfl) ?_
   refine DF (Yld.fieldAddr fo206_0 rfl) ?_
   refine DQ (Yld.load p9 rfl (atM (hP3.cell rfl) (fun h=>h))) (hgd) ?_
   iterate 2 refine DF (Yld.pure rfl) ?_
   refine DF (Yld.fieldAddr fo206_1 rfl) ?_
   refine DQ (Yld.load p3 rfl (atM (hP3.cell rfl) (fun h=>h))) (hgd) ?_
   refine DF (Yld.idxStrN u9 rfl rfl (hmo.2)) ?_
   refine DF (Yld.pure rfl) ?_
   refine GG ?_
   refine SD 18 (fun h18=>?_) (fun h18=>?_)
   ·iterate 2 refine DF (Yld.pure rfl) ?_
    refine DF (Yld.fieldAddr fo206_0 rfl) ?_
    refine DQ (Yld.load p9 rfl (atM (hP3.cell rfl) (fun h=>h))) (hgd) ?_
    iterate 2 refine DF (Yld.pure rfl) ?_
    refine DF (Yld.fieldAddr fo206_1 rfl) ?_
    refine DQ (Yld.load p3 rfl (atM (hP3.cell rfl) (fun h=>h))) (hgd) ?_
    refine DF (Yld.idxStrN u9 rfl rfl (hmo.2)) ?_
    refine DF (Yld.pure rfl) ?_
    refine DL.p rfl rfl rfl ?_
    refine DL.re (d:=29) rfl rfl (congrArg Value.bool (show _=(!bad && goesS s i) by unfold goesS;rw [Bool.eq_iff_iff];simp [hmo];omega)) ?_
    refine DL.done ?_
    exact RK.back (hj _ hgd) ⟨rfl,rfl,rfl,rfl,trivial⟩
   ·iterate 10 refine DL.no rfl (.no rfl rfl rfl rfl) rfl rfl ?_
    refine DL.p rfl rfl rfl ?_
    refine DL.re (d:=29) rfl rfl (congrArg Value.bool (show _=(!bad && goesS s i) by unfold goesS;rw [Bool.eq_iff_iff];simp [hmo];omega)) ?_
    refine DL.done ?_
    exact RK.back (hj _ hgd) ⟨rfl,rfl,rfl,rfl,trivial⟩
  ·have hmo:¬ (bad=false∧i < s.size):=by simpa [moreS] using h6
   have e29:(!bad && goesS s i)=false:=by unfold goesS;cases hb:bad with | true=>rfl | false=>(simp [hb] at hmo ⊢;intro h;omega)
   iterate 10 refine DL.no rfl (.no rfl rfl rfl rfl) rfl rfl ?_
   refine GG ?_
   iterate 10 refine DL.no rfl (.no rfl rfl rfl rfl) rfl rfl ?_
   refine DL.p rfl rfl rfl ?_
   refine DL.re (d:=29) rfl rfl (congrArg Value.bool (show _=(!bad && goesS s i) by rw [e29])) ?_
   refine DL.done ?_
   exact RK.back (hj _ hgd) ⟨rfl,rfl,rfl,rfl,trivial⟩
theorem rways_ok (s:ByteArray) (hs:s.size≤40) (p d:Nat) (hd:d≤8) (g:Nat→Option (Rx×Nat)) (hg:∀ i x j,i≤s.size→g i=some (x,j)→i≤j∧j≤s.size) (hg8:d=8→∀ i,g i=none) (hgw:GrpOk2 p s d g)
  (w:World) (i0:Nat) (h:PB w p s i0 (d:Int) false) (hi0:i0≤s.size) :
  Fx Tryz.prog 150 [pp p] w (fun u w'=>RT2 w w' p s d (waysS s g i0) u∧Mod (·=p) w w'):=by
 have hplt:=h.lt
 obtain ⟨T,hT⟩:∃ T,T=waysS s g i0:=⟨_,rfl⟩
 refine enter Tryz.func150 rfl rfl rfl _ (Pick.sub (l:=[0]) (.cons rfl .nil)) ?_
 refine GG ?_
 refine OP (Does.alloc i180) ?_
 rintro _ w1 ⟨b2,rfl,hn2⟩
 have hb2:=hn2.at_
 have hg2:=hn2.grow
 have hs1:=hn2.size
 have hb2p:¬ b2=p:=by omega
 have hl01:∀ b,Old w b→Old w1 b:=fun b e=>by unfold Old at *;omega
 have hpo:Old w1 p:=by unfold Old;omega
 refine GG ?_
 refine OP (Does.call rfl e181 (rway_ok s hs p d hd g hg hg8 hgw _ i0 (h.mod hg2 (fun h=>h)) hi0)) ?_
 rintro _ w2 ⟨⟨c0,j0,bad0,d0,rfl,hj0,hP2,hno2,hyes2⟩,hm2⟩
 have hs12:=hm2.size
 refine OP (Does.slice1 u178 i180 rfl rfl rfl rfl rfl) ?_
 rintro _ w20 ⟨b5,rfl,hn5⟩
 have hb5:=hn5.at_
 have hxs0:∃ xs0,(bad0=false→d0=d∧RxV (KOf w1 (.slice (some ⟨b5,0,none⟩) 1 1)) w20 (lstS xs0) [c0]∧(waysL s g (s.size + 1) j0 xs0).map (fun p=>(mkN 3 p.1,p.2))=T)∧(bad0=true→T=none):=by
   cases hb:bad0 with
   | true=>exact ⟨[],fun h=>by simp at h,fun _=>by rw [hT];unfold waysS;rw [hno2 hb]⟩
   | false=>
    obtain ⟨hd0,x,hx,hrx⟩:=hyes2 hb
    refine ⟨[x],fun _=>⟨hd0,⟨c0,[],rfl,RxV.grow hn5.grow x (RxV.off (fun b hb e=>?_) x hrx),rfl⟩,by rw [hT];unfold waysS;rw [hx]⟩,fun h=>by simp at h⟩
    rcases e with e | e
    ·exact e
    ·simp [Value.ownBlock] at e;omega
 obtain ⟨xs0,hgo0,hno0⟩:=hxs0
 have hI0:WayR w1 p s d w20 (.slice (some ⟨b5,0,none⟩) 1 1) [c0] j0 bad0 1 d0:=⟨Row.new hn5 6 1 rfl (by omega),fun b e=>by simp [Value.ownBlock] at e;omega,hP2.mod hn5.grow (fun h=>h),hj0,hm2.trans (Mod.any' hn5.grow),by simp,fun hb=>⟨by simp,(hgo0 hb).1⟩⟩
 refine GG ?_
 refine RK.loop (fun t:Value×List Cel×List Rx×Nat×Nat×Bool×Int=>[(0,pp p),(2,pp b2),(3,t.1)]) (fun t w'=>WayR w1 p s d w' t.1 t.2.1 t.2.2.2.1 t.2.2.2.2.2.1 1 t.2.2.2.2.2.2∧(t.2.2.2.2.2.1=true→T=none)∧(t.2.2.2.2.2.1=false→RxV (KOf w1 t.1) w' (lstS t.2.2.1) t.2.1∧(waysL s g t.2.2.2.2.1 t.2.2.2.1 t.2.2.1).map (fun p=>(mkN 3 p.1,p.2))=T∧s.size + 1≤t.2.2.2.2.1 + t.2.2.2.1)) (fun t=>if t.2.2.2.2.2.1 then 0 else s.size + 1 - t.2.2.2.1) (.slice (some ⟨b5,0,none⟩) 1 1,[c0],xs0,j0,s.size + 1,bad0,d0) ⟨rfl,rfl,rfl,trivial⟩ ⟨hI0,hno0,fun hb=>⟨(hgo0 hb).2.1,(hgo0 hb).2.2,by simp only;omega⟩⟩ (fun t w3 hI0' ih=>?_)
 obtain ⟨u,ks,xs,i,n,bad,d'⟩:=t
 obtain ⟨hI,hno,hgo⟩:=hI0'
 simp only at hI hno hgo
 have hile:=hI.le
 iterate 2 refine RK.seq ?_
 refine RK.cut [(0,pp p),(2,pp b2),(3,u),(20,.bool (!bad && barS s i))] (fun w'=>Grow w3 w') (fun w4 hg34=>?_) (fun hj=>?_)
 ·have hI4:WayR w1 p s d w4 u ks i bad 1 d':=⟨hI.row.mod hg34 (fun _ _ h=>h),hI.fresh,hI.pa.mod hg34 (fun h=>h),hI.le,hI.mod.trans (Mod.any' hg34),hI.cnt⟩
  have hgo4:bad=false→RxV (KOf w1 u) w4 (lstS xs) ks∧(waysL s g n i xs).map (fun p=>(mkN 3 p.1,p.2))=T∧s.size + 1≤n + i:=fun hb=>⟨RxV.grow hg34 _ (hgo hb).1,(hgo hb).2⟩
  have hs1x:=hI4.mod.size
  refine CD (fun h20=>?_) (fun h20=>?_)
  ·obtain ⟨hbad,hbar⟩:bad=false∧barS s i=true:=by simpa using h20
   subst hbad
   obtain ⟨his,h124⟩:i < s.size∧b8 s i=124:=by unfold barS at hbar;simpa using hbar
   have hdd:=(hI4.cnt.2 rfl).2
   subst hdd
   obtain ⟨hk,hl,hn⟩:=hgo4 rfl
   obtain ⟨m,rfl⟩:∃ m,n=m + 1:=⟨n - 1,by omega⟩
   rw [waysL,if_pos hbar] at hl
   have hP4:=hI4.pa
   refine GG ?_
   refine QQ (Yld.fieldAddr fo206_1 rfl) ?_
   refine QQ (Yld.load p3 rfl (at1 (Blk.cell hP4 rfl))) ?_
   refine RL.p rfl rfl ?_
   refine RL.re (d:=25) rfl rfl (succ_i64 (by omega)) ?_
   refine RL.p rfl rfl ?_
   refine QQ (Yld.fieldAddr fo206_1 rfl) ?_
   refine OQ (Does.store i3 rfl rfl rfl hP4 (.s .z)) ?_
   rintro _ w5 ⟨hP5',hm5,_⟩
   have hP5:PB w5 p s (i + 1) (d:Int) false:=hP5'
   have hup:∀ b,u.ownBlock=some b→¬ b=p:=fun b e e2=>by have h1:=hI.fresh b e;unfold Old at hpo;omega
   have hk5:=RxV.mod hm5 (fun b _ e=>by have e' : b=p:=e;rw [e'];exact .inl hpo) _ hk
   refine GG ?_
   refine OP (Does.call rfl e181 (rway_ok s hs p d hd g hg hg8 hgw _ (i + 1) hP5 (by omega))) ?_
   rintro _ w7 ⟨⟨c,j,bad,d',rfl,hj7,hP7,hno7,hyes7⟩,hm7⟩
   refine OP (Does.slice1 u178 i180 rfl rfl rfl rfl rfl) ?_
   rintro _ w8 ⟨b8,rfl,hn8⟩
   have hs45:=hm5.size
   have hru:∀ b,u.ownBlock=some b→b < w5.heap.size:=fun b e=>by have:=hI4.row.lt e;omega
   have hcnt:=(hI4.cnt.2 rfl).1
   refine OP (Does.append u178 i180 rfl rfl rfl rfl rfl (((hI4.row.mod hm5 hup).mod hm7 hup).mod hn8.grow (fun _ _ h=>h)) (Sl.new hn8 6 1 rfl (by omega) (fun h=>h)) (rfl) (by omega)) ?_
   rintro u9 w9 ⟨hr9,hm9,hu9⟩
   have hs67:=hm7.size
   have hs78:=hn8.grow.size
   have hI9:WayR w1 p s d w9 u9 (ks ++ [c]) j bad 1 d':=⟨by rw [List.length_append,List.flatMap_append];exact hr9,fun b e=>by
     rcases hu9 with h1 | h1
     ·exact hI.fresh b (h1 ▸ e)
     ·rw [h1] at e;cases e;omega
    ,(hP7.mod hn8.grow (fun h=>h)).mod hm9 (fun e=>hup p e rfl),hj7,(((hI4.mod.trans hm5).trans hm7).trans (Mod.any' hn8.grow)).then hm9 (fun b hb e=>by have h1:=hI.fresh b e;omega),by simp;omega,fun hb=>by obtain ⟨hd9,x,hx,_⟩:=hyes7 hb;have h8:=wayS_adv hg (by omega) hx;exact ⟨by simp;omega,hd9⟩⟩
   refine GG ?_
   exact RK.back (ih (u9,ks ++ [c],xs ++ (match wayS s g (i + 1) with | some q=>[q.1] | none=>[]),j,m,bad,d') _ ⟨hI9,fun hb=>by simp only at hb;rw [← hl,hno7 hb];rfl,fun hb=>by
     simp only at hb ⊢
     obtain ⟨_,x,hx,hrx⟩:=hyes7 hb
     rw [hx] at hl ⊢
     have h8:=wayS_adv hg (by omega) hx
     exact ⟨kids_more hpo (by omega) hru hk5 hm7 hrx hn8 hm9 hu9,hl,by omega⟩⟩ (by
     simp only [Bool.false_eq_true,if_false]
     split
     ·omega
     ·rename_i hb9
      obtain ⟨_,x,hx,_⟩:=hyes7 (by simpa using hb9)
      have h8:=wayS_adv hg (by omega) hx
      omega)) ⟨rfl,rfl,rfl,trivial⟩
  ·have hend:bad=false→waysS s g i0=some (mkN 3 xs,i):=fun hb=>by
     obtain ⟨hk,hl,hn⟩:=hgo4 hb
     obtain ⟨m,rfl⟩:∃ m,n=m + 1:=⟨n - 1,by omega⟩
     rw [← hT,← hl,waysL,if_neg (fun h=>by simp [hb,h] at h20)];rfl
   have hnone:bad=true→waysS s g i0=none:=fun hb=>by rw [← hT,hno hb]
   obtain ⟨adu,cu,rfl,hcu9⟩:=hI4.row.cap
   have hb2o:Old w1 b2:=by unfold Old;omega
   refine RK.exit rfl ?_
   refine GG ?_
   refine QQ (Yld.lenSl u178 rfl) ?_
   refine GG ?_
   refine CD (fun h35=>?_) (fun h35=>?_)
   ·obtain ⟨c,rfl⟩:∃ c,ks=[c]:=by
      match ks,h35 with
      | [c],_=>exact ⟨c,rfl⟩
    have hsu:Sl No w4 (.slice adu [c].length cu) 6 [c].length ([c].flatMap celC):=Sl.own hI4.row (fun _ _ h=>h)
    obtain ⟨bu,ou,cu',heu,_,_,hcu⟩:=hsu.elem (k:=0) celC_len rfl
    cases heu
    refine GG ?_
    refine QQ (Yld.indexAddr u178 i180 rfl rfl (by omega) (by simp)) ?_
    refine QQ (Yld.loadN (cs:=celC c) a180 rfl (atN (hcu))) ?_
    refine OQ (Does.storeN i180 rfl rfl rfl rfl (hn2.blk.mod hI4.mod hb2p) (Nat.le_refl 6)) ?_
    rintro _ w19 ⟨hb19,hm19,_⟩
    refine RL.done ?_
    refine RK.ret_of Tryz.func150 (resC (cs:=celC c) rfl rfl a180 hb19) ?_ _
    exact ⟨_,rfl,⟨c,i,bad,d',rfl,hI4.le,hI4.pa.mod hm19 (by omega),hnone,fun hb=>by
      obtain ⟨hk,hl,hn⟩:=hgo4 hb
      obtain ⟨x,rfl⟩:∃ x,xs=[x]:=by
       have h9:=rx_len xs hk
       match xs,h9 with
       | [x],_=>exact ⟨x,rfl⟩
      obtain ⟨c',ks',e1,hx,_⟩:=hk
      cases e1
      exact ⟨(hI4.cnt.2 hb).2,x,hend hb,RxV.off (fun b _ e=>.inl (hl01 b e)) x (RxV.mod hm19 (fun b _ e=>by have e' : b=b2:=e;rw [e'];exact .inl hb2o) x hx)⟩⟩,((Mod.any' hg2:Mod (·=p) w w1).trans hI4.mod).then hm19 (fun b hb e=>by have e' : b=b2:=e;omega)⟩
   ·refine GG ?_
    refine QQ (Yld.build (v:=.agg #[.int .i64 3,.int .u64 0,.int .u64 0,.int .u64 0,.int .u64 0,.slice adu ks.length cu]) rfl (fun w=>by kernel_rfl)) ?_
    refine OQ (Does.storeN i180 rfl rfl rfl rfl (hn2.blk.mod hI4.mod hb2p) (Nat.le_refl 6)) ?_
    rintro _ w19 ⟨hb19,hm19,_⟩
    refine RL.done ?_
    refine RK.ret_of Tryz.func150 (resC (cs:=[.int .i64 3,.int .u64 0,.int .u64 0,.int .u64 0,.int .u64 0,.slice adu ks.length cu]) rfl rfl a180 hb19) ?_ _
    exact ⟨_,rfl,⟨⟨3,0,0,0,0,adu,ks.length,cu⟩,i,bad,d',rfl,hI4.le,hI4.pa.mod hm19 (by omega),hnone,fun hb=>by
      obtain ⟨hk,hl,hn⟩:=hgo4 hb
      have h9:=rx_len xs hk
      have hmk:=mkN_ne (op:=3) (l:=xs) (by rw [← h9];omega)
      refine ⟨(hI4.cnt.2 hb).2,_,hend hb,?_⟩
      rw [hmk]
      refine ⟨adu,ks.length,cu,ks,⟨rfl,hcu9⟩,?_,?_⟩
      ·exact ((Sl.own (M:=Old w1) hI4.row (fun b e e2=>by have h8:=hI4.fresh b e;unfold Old at e2;omega)).mod (hm19.mono fun b _ e=>by have e' : b=b2:=e;rw [e'];exact hb2o)).off (by omega) (fun b _ e=>hl01 b e)
      ·exact RxV.off (fun b _ e=>.inl (hl01 b e)) _ (RxV.mod hm19 (fun b _ e=>by have e' : b=b2:=e;rw [e'];exact .inl hb2o) _ hk)⟩,((Mod.any' hg2:Mod (·=p) w w1).trans hI4.mod).then hm19 (fun b hb e=>by have e' : b=b2:=e;omega)⟩
 ·have hP3:=hI.pa
  refine RK.drawM No [(0,false),(1,true),(2,false),(3,false),(4,false),(5,false),(6,false),(7,false),(8,false),(9,false),(10,false),(11,false),(12,false),(13,false)] [] mixed (by kernel_rfl) ?_
  refine DL.p rfl rfl rfl ?_
  refine OD (Does.call rfl e182 (more_ok _ p s i d' bad (hP3.mod (Mod.drew No _) (fun h=>h)))) ?_
  rintro _ w4 ⟨rfl,hg4⟩
  have hgd:Grow w3 w4:=(Mod.drew _ _).trans hg4
  refine ⟨hgd,?_⟩
  have hb8:b8 s i=(bt s i).toNat:=rfl
  refine DL.p rfl rfl rfl ?_
  refine SD 9 (fun h9=>?_) (fun h9=>?_)
  ·have hmo:bad=false∧i < s.size:=by simpa [moreS] using h9
   iterate 2 refine DF (Yld.pure rfl) ?_
   refine DF (Yld.fieldAddr fo206_0 rfl) ?_
   refine DQ (Yld.load p9 rfl (atM (hP3.cell rfl) (fun h=>h))) (hgd) ?_
   iterate 2 refine DF (Yld.pure rfl) ?_
   refine DF (Yld.fieldAddr fo206_1 rfl) ?_
   refine DQ (Yld.load p3 rfl (atM (hP3.cell rfl) (fun h=>h))) (hgd) ?_
   refine DF (Yld.idxStrN u9 rfl rfl (hmo.2)) ?_
   refine DF (Yld.pure rfl) ?_
   refine DL.p rfl rfl rfl ?_
   refine DL.re (d:=20) rfl rfl (congrArg Value.bool (show _=(!bad && barS s i) by unfold barS;rw [Bool.eq_iff_iff];simp [hmo];omega)) ?_
   refine DL.done ?_
   exact RK.back (hj _ hgd) ⟨rfl,rfl,rfl,rfl,trivial⟩
  ·have hmo:¬ (bad=false∧i < s.size):=by simpa [moreS] using h9
   have e20:(!bad && barS s i)=false:=by unfold barS;cases hb:bad with | true=>rfl | false=>(simp [hb] at hmo ⊢;intro h;omega)
   iterate 10 refine DL.no rfl (.no rfl rfl rfl rfl) rfl rfl ?_
   refine DL.p rfl rfl rfl ?_
   refine DL.re (d:=20) rfl rfl (congrArg Value.bool (show _=(!bad && barS s i) by rw [e20])) ?_
   refine DL.done ?_
   exact RK.back (hj _ hgd) ⟨rfl,rfl,rfl,rfl,trivial⟩
theorem rpar_ok (s:ByteArray) (hs:s.size≤40) (p:Nat):∀ (r d:Nat),d + r=8→∀ w i,PB w p s i (d:Int) false→i≤s.size→Fx Tryz.prog 150 [pp p] w (fun u w'=>RT2 w w' p s d (par s r i) u∧Mod (·=p) w w')
 | 0,d,hd,w,i,h,hi=>rways_ok s hs p d (by omega) (fun _=>none) (fun _ _ _ _ h=>by cases h) (fun _ _=>rfl) (fun h8=>by omega) w i h hi
 | r + 1,d,hd,w,i,h,hi=>rways_ok s hs p d (by omega) (par s r) (par_adv s r) (fun h8=>by omega) (fun h8 w i h hi=>rpar_ok s hs p r (d + 1) (by omega) w i h hi) w i h hi
theorem rparse_ok (s:ByteArray) (w:World) :
  Fx Tryz.prog 121 [.string s] w (fun u w'=>∃ c:Cel,u=.tuple #[.agg (celC c).toArray,.bool (parseS s).isSome]∧Grow w w'∧∀ x,parseS s=some x→RxV (Old w) w' x [c]):=by
 refine enter Tryz.func121 rfl rfl rfl _ (Pick.sub (l:=[0]) (.cons rfl .nil)) ?_
 refine GG ?_
 refine OP (Does.alloc i180) ?_
 rintro _ w1 ⟨b2,rfl,hn2⟩
 have hb2:=hn2.at_
 have hs1:=hn2.size
 refine GG ?_
 refine QQ (Yld.lenStr u9 rfl) ?_
 refine GG ?_
 refine CD (fun h8=>?_) (fun h8=>?_)
 ·have hnone:parseS s=none:=by unfold parseS;rw [if_pos (by omega)]
  have hB2:=hn2.blk
  have hG2:=hn2.grow
  refine GG ?_
  refine QQ (Yld.build (v:=.agg #[.int .i64 0,.int .u64 0,.int .u64 0,.int .u64 0,.int .u64 0,.slice none 0 0]) rfl (fun w=>by kernel_rfl)) ?_
  refine OQ (Does.storeN i180 rfl rfl rfl rfl hB2 (Nat.le_refl 6)) ?_
  rintro _ w19 ⟨hb19,hm19,_⟩
  refine GG ?_
  refine RK.ret_of Tryz.func121 (resCT (cs:=celC ⟨0,0,0,0,0,none,0,0⟩) rfl rfl a180 hb19 rfl) ?_ _
  exact ⟨_,rfl,⟨0,0,0,0,0,none,0,0⟩,by rw [hnone];rfl,Mod.then hG2 hm19 (fun b hb e=>by have e' : b=b2:=e;omega),fun x hx=>by rw [hnone] at hx;cases hx⟩
 ·have hs:s.size≤40:=by omega
  have hps0:parseS s=match par s 8 0 with | some (x,j)=>if j < s.size then none else some x | none=>none:=by unfold parseS;rw [if_neg (by omega)];rfl
  refine GG ?_
  refine QQ (Yld.build (v:=.agg #[.string s,.int .i64 0,.int .i64 0,.bool false]) rfl (fun w=>by kernel_rfl)) ?_
  refine OP (Does.box rfl) ?_
  rintro _ w2 ⟨p,rfl,hn4⟩
  have hP:PB w2 p s 0 ((0:Nat):Int) false:=hn4.blk
  have hp:=hn4.at_
  have hps:=hn4.size
  refine GG ?_
  refine OP (Does.call rfl e150 (rpar_ok s hs p 8 0 rfl _ 0 hP (by omega))) ?_
  rintro _ w3 ⟨⟨c,j,bad,d',rfl,hj,hP3,hno,hyes⟩,hm3⟩
  have hs3:=hm3.size
  have hb2p:¬ b2=p:=by omega
  refine OP (Does.alloc i180) ?_
  rintro _ w5 ⟨b5,rfl,hn5⟩
  refine OQ (Does.storeN i180 rfl rfl rfl rfl hn5.blk (Nat.le_refl 6)) ?_
  rintro _ w6 ⟨hb6,hm6,_⟩
  have hb5:=hn5.at_
  have hb25:¬ b2=b5:=by omega
  have hB6:Blk w6 b5 180 (celC c):=hb6
  have hg03:Grow w w3:=(hn2.grow.trans hn4.grow).then hm3 (fun b hb e=>by have e' : b=p:=e;omega)
  have hg06:Grow w w6:=(hg03.trans hn5.grow).then hm6 (fun b hb e=>by have e' : b=b5:=e;omega)
  have hP6:PB w6 p s j d' bad:=(hP3.mod hn5.grow (fun h=>h)).mod hm6 (by omega)
  have hR6:=(((hn2.blk.mod hn4.grow (fun h=>h)).mod hm3 hb2p).mod hn5.grow (fun h=>h)).mod hm6 hb25
  refine GG ?_
  refine QQ (Yld.fieldAddr fo206_3 rfl) ?_
  refine QQ (Yld.load p4 rfl (at1 (hP6.cell rfl))) ?_
  refine RL.p rfl rfl ?_
  refine SP 19 (fun h19=>?_) (fun h19=>?_)
  ·have hnone:parseS s=none:=by rw [hps0,hno h19]
   iterate 7 refine RL.no (.no rfl rfl rfl rfl) rfl rfl ?_
   refine GG ?_
   refine RK.condT (hcT rfl (rfl)) ?_
   refine GG ?_
   refine QQ (Yld.build (v:=.agg #[.int .i64 0,.int .u64 0,.int .u64 0,.int .u64 0,.int .u64 0,.slice none 0 0]) rfl (fun w=>by kernel_rfl)) ?_
   refine OQ (Does.storeN i180 rfl rfl rfl rfl hR6 (Nat.le_refl 6)) ?_
   rintro _ w19 ⟨hb19,hm19,_⟩
   refine GG ?_
   refine RK.ret_of Tryz.func121 (resCT (cs:=celC ⟨0,0,0,0,0,none,0,0⟩) rfl rfl a180 hb19 rfl) ?_ _
   exact ⟨_,rfl,⟨0,0,0,0,0,none,0,0⟩,by rw [hnone];rfl,Mod.then hg06 hm19 (fun b hb e=>by have e' : b=b2:=e;omega),fun x hx=>by rw [hnone] at hx;cases hx⟩
  ·obtain ⟨_,x,hx,hrx⟩:=hyes h19
   iterate 2 refine QQ (Yld.pure rfl) ?_
   refine QQ (Yld.fieldAddr fo206_1 rfl) ?_
   refine QQ (Yld.load p3 rfl (at1 (hP6.cell rfl))) ?_
   refine QQ (Yld.pure rfl) ?_
   refine QQ (Yld.lenStr u9 rfl) ?_
   refine QQ (Yld.pure rfl) ?_
   refine GG ?_
   refine CD (fun h27=>?_) (fun h27=>?_)
   ·have hnone:parseS s=none:=by rw [hps0,hx];show (if j < s.size then none else some x)=none;rw [if_pos (by omega)]
    refine GG ?_
    refine QQ (Yld.build (v:=.agg #[.int .i64 0,.int .u64 0,.int .u64 0,.int .u64 0,.int .u64 0,.slice none 0 0]) rfl (fun w=>by kernel_rfl)) ?_
    refine OQ (Does.storeN i180 rfl rfl rfl rfl hR6 (Nat.le_refl 6)) ?_
    rintro _ w19 ⟨hb19,hm19,_⟩
    refine GG ?_
    refine RK.ret_of Tryz.func121 (resCT (cs:=celC ⟨0,0,0,0,0,none,0,0⟩) rfl rfl a180 hb19 rfl) ?_ _
    exact ⟨_,rfl,⟨0,0,0,0,0,none,0,0⟩,by rw [hnone];rfl,Mod.then hg06 hm19 (fun b hb e=>by have e' : b=b2:=e;omega),fun x hx=>by rw [hnone] at hx;cases hx⟩
   ·have hsome:parseS s=some x:=by rw [hps0,hx];show (if j < s.size then none else some x)=some x;rw [if_neg (by omega)]
    refine GG ?_
    refine QQ (Yld.loadN (cs:=celC c) a180 rfl (atN (blk0' hB6))) ?_
    refine OQ (Does.storeN i180 rfl rfl rfl rfl hR6 (Nat.le_refl 6)) ?_
    rintro _ w19 ⟨hb19,hm19,_⟩
    have hrx3:RxV (fun b=>Old w2 b∨b=b5) w3 x [c]:=RxV.off (fun b hb e=>e.elim (fun e=>e) (fun e=>by omega)) x hrx
    have hrx9:RxV (Old w) w19 x [c]:=RxV.off (fun b _ e=>.inl (by unfold Old at *;omega)) x (RxV.mod hm19 (fun b _ e=>by have e' : b=b2:=e;unfold Old;omega) x (RxV.mod hm6 (fun b hb e=>.inr e) x (RxV.grow hn5.grow x hrx3)))
    refine GG ?_
    refine RK.ret_of Tryz.func121 (resCT (cs:=celC c) rfl rfl a180 hb19 rfl) ?_ _
    exact ⟨_,rfl,c,by rw [hsome];rfl,hg06.then hm19 (fun b hb e=>by have e' : b=b2:=e;omega),fun y hy=>by rw [hsome] at hy;cases hy;exact hrx9⟩
end Go.Proofs.YtbcbfjnlnmhpbaaGreat
set_option linter.unusedVariables false
set_option linter.unusedSimpArgs false
set_option maxHeartbeats 1000000
set_option maxRecDepth 100000
namespace Go.Proofs.YtbcbfjnlnmhpbaaGreat
open Go Go.X Go.Rex
theorem RxV.len {M:Nat→Prop} {w:World}:∀ {l:Rx} {kss:List Cel},Tr true l→RxV M w l kss→kss.length=cnt l
 | .nil,kss,_,h=>by have h' : kss=[]:=h;subst h';rfl
 | .cons x l,kss,ht,⟨c,ks',h1,h2,h3⟩=>by subst h1;simp [cnt,RxV.len ht.2 h3]
 | .set _,_,ht,_=>ht.elim
 | .node _ _,_,ht,_=>ht.elim
theorem RxV.kid {M:Nat→Prop} {w:World}:∀ {l:Rx} {kss:List Cel},Tr true l→RxV M w l kss→∀ {k:Nat} {c:Cel},kss[k]?=some c→∃ x,(kidsR l)[k]?=some x∧RxV M w x [c]
 | .nil,kss,_,h,k,c,hk=>by have h' : kss=[]:=h;subst h';simp at hk
 | .cons x l,kss,ht,⟨c0,ks',h1,h2,h3⟩,k,c,hk=>by
  subst h1
  cases k with
  | zero=>simp at hk;subst hk;exact ⟨x,rfl,h2⟩
  | succ k=>obtain ⟨y,hy,hv⟩:=RxV.kid ht.2 h3 (k:=k) (by simpa using hk);exact ⟨y,by simpa [kidsR] using hy,hv⟩
 | .set _,_,ht,_,_,_,_=>ht.elim
 | .node _ _,_,ht,_,_,_,_=>ht.elim
structure RxO (M:Nat→Prop) (w:World) (x:Rx) (op:Int) (a b c d:Nat) (ad:Option Addr) (n cap:Nat) (l:Rx) (kss:List Cel):Prop where
 tr:Tr true l
 sl:Sl M w (.slice ad n cap) 6 kss.length (kss.flatMap celC)
 cp:n≤cap
 n:n=kss.length
 ks:RxV M w l kss
 len:kss.length=cnt l
 kind:(x=.set [a,b,c,d]∧l=.nil∧op=1∧W4 [a,b,c,d])∨(∃ o:Nat,x=.node o l∧op=o∧a=0∧b=0∧c=0∧d=0∧(o=2∨o=3∧cnt l≠0∨(o=4∨o=5∨o=6)∧cnt l=1))
theorem RxV.open {M:Nat→Prop} {w:World} {x:Rx} {k:Cel} (ht:Tr false x) (h:RxV M w x [k]):∃ op a b c d ad n cap l kss,k=⟨op,a,b,c,d,ad,n,cap⟩∧RxO M w x op a b c d ad n cap l kss:=by
 cases x with
 | nil=>exact ht.elim
 | cons=>exact ht.elim
 | set t=>
  obtain ⟨a,b,c,d,h1,h2⟩:=h
  cases h2
  exact ⟨_,_,_,_,_,_,_,_,.nil,[],rfl,trivial,Sl.nil _ _ _ _ _,Nat.le_refl _,rfl,rfl,rfl,.inl ⟨by rw [h1],rfl,rfl,by rw [← h1];exact ht⟩⟩
 | node op l=>
  obtain ⟨ad,n,cap,kss,⟨h1,hcap⟩,h2,h3⟩:=h
  cases h1
  obtain ⟨ad',c',e⟩:=h2.shape
  cases e
  exact ⟨_,_,_,_,_,_,_,_,l,kss,rfl,ht.2,h2,hcap,rfl,h3,RxV.len ht.2 h3,.inr ⟨op,rfl,rfl,rfl,rfl,rfl,rfl,ht.1⟩⟩
theorem RxO.mod {M M0:Nat→Prop} {w w' : World} {x:Rx} {op:Int} {a b c d:Nat} {ad:Option Addr} {n cap:Nat} {l:Rx} {kss:List Cel} (h:RxO M w x op a b c d ad n cap l kss) (hm:Mod M0 w w') (h0:∀ b,b < w.heap.size→M0 b→M b):RxO M w' x op a b c d ad n cap l kss:=⟨h.tr,h.sl.mod (hm.mono h0),h.cp,h.n,h.ks.mod hm h0,h.len,h.kind⟩
theorem RxO.grow {M:Nat→Prop} {w w' : World} {x:Rx} {op:Int} {a b c d:Nat} {ad:Option Addr} {n cap:Nat} {l:Rx} {kss:List Cel} (h:RxO M w x op a b c d ad n cap l kss) (hm:Grow w w'):RxO M w' x op a b c d ad n cap l kss:=h.mod hm fun _ _ h=>h.elim
theorem RxO.kid {M:Nat→Prop} {w:World} {x:Rx} {op:Int} {a b c d:Nat} {ad:Option Addr} {n cap:Nat} {l:Rx} {kss:List Cel} (h:RxO M w x op a b c d ad n cap l kss) {k:Nat} (hk:k < n):∃ (c:Cel) (y:Rx) (b o:Nat),ad=some ⟨b,o,none⟩∧(kidsR l)[k]?=some y∧y∈kidsR l∧Tr false y∧RxV M w y [c]∧¬ M b∧∀ (w' : World),Grow w w'→∀ j u,(celC c)[j]?=some u→w'.cell? ⟨b,o + k * 6 + j,none⟩=some u:=by
 have hn:=h.n
 obtain ⟨c,hc⟩:∃ c,kss[k]?=some c:=⟨kss[k]'(by omega),List.getElem?_eq_getElem (by omega)⟩
 obtain ⟨y,hy,hv⟩:=RxV.kid h.tr h.ks hc
 obtain ⟨b1,o1,c1,he,hb,_,hcl⟩:=(hn ▸ h.sl).elem celC_len hc
 cases he
 exact ⟨c,y,b1,o1,rfl,hy,List.mem_of_getElem? hy,kids_tr h.tr y (List.mem_of_getElem? hy),hv,hb,fun w' hg j u hj=>hg.cell (hcl j u hj) (fun h=>h)⟩
theorem blk_set4 {w:World} {b1 t:Nat} {op:Int} {a b c d:Nat} {v:Value} (h:Blk w b1 t [.int .i64 op,.int .u64 (a:Int),.int .u64 (b:Int),.int .u64 (c:Int),.int .u64 (d:Int),v]):∀ (j:Nat) (u:Value),(wds [a,b,c,d])[j]?=some u→w.cell? ⟨b1,0 + 1 + j,none⟩=some u:=blk_mid (rest:=[v]) (ws:=wds [a,b,c,d]) h
def IsC (x:Rx):Prop:=∀ (M:Nat→Prop) (c:Cel) (w:World),RxV M w x [c]→Fx Tryz.prog 221 [.agg (celC c).toArray] w (fun u w'=>u=.bool true∧Grow w w')
theorem is1_ok {x:Rx} (h:IsC x) (M:Nat→Prop) (c:Cel) (w:World) (hv:RxV M w x [c]):Fx Tryz.prog 237 [.agg (celC c).toArray] w (fun u w'=>u=.bool false∧Grow w w'):=by
 refine enter Tryz.func237 rfl rfl rfl _ (Pick.sub (l:=[0]) (.cons rfl .nil)) ?_
 refine GG ?_
 refine OP (Does.box rfl) ?_
 rintro _ w1 ⟨b1,rfl,hn1⟩
 refine GG ?_
 refine QQ (Yld.loadN (cs:=celC c) a180 rfl (atN (blk0' hn1.blk))) ?_
 refine OP (Does.call rfl e221 (h M c _ (RxV.grow hn1.grow x hv))) ?_
 rintro _ w2 ⟨rfl,hg2⟩
 refine GG ?_
 refine RK.ret_of Tryz.func237 (res1 rfl rfl) ?_ _
 exact ⟨_,rfl,rfl,hn1.grow.trans hg2⟩
theorem isIdx_ok {M:Nat→Prop} {w:World} {x:Rx} {op:Int} {a b c d:Nat} {ad:Option Addr} {n cap:Nat} {l:Rx} {kss:List Cel} (h:RxO M w x op a b c d ad n cap l kss) (hk:∀ y∈kidsR l,IsC y) :
  Fx Tryz.prog 244 [.slice ad n cap,.func (.func 237) #[] #[]] w (fun u w'=>u=.int .i64 (-1)∧Grow w w'):=by
 have hbig:=h.sl.big
 have hn:=h.n
 refine enter Tryz.func244 rfl rfl rfl _ (Pick.sub (l:=[0,1]) (.cons rfl (.cons rfl .nil))) ?_
 refine GG ?_
 refine QQ (Yld.lenSl u178 rfl) ?_
 refine GG ?_
 refine RK.loop (fun k:Nat=>[(0,.slice ad n cap),(1,.func (.func 237) #[] #[]),(7,.int .i64 n),(8,.int .i64 k)]) (fun k w'=>Grow w w'∧k≤n) (fun k=>n - k) 0 ⟨rfl,rfl,rfl,rfl,trivial⟩ ⟨Mod.refl _ _,by omega⟩ (fun k w' hI ih=>?_)
 obtain ⟨hg,hkn⟩:=hI
 refine GG ?_
 refine CD (fun h9=>?_) (fun h9=>?_)
 ·obtain ⟨ck,y,b1,o1,rfl,_,hy,_,hv,_,hcl⟩:=h.kid (k:=k) (by omega)
  refine GG ?_
  refine QQ (Yld.indexAddrN u178 i180 rfl rfl (by omega)) ?_
  refine QQ (Yld.loadN (cs:=celC ck) a180 rfl (atN (hcl _ hg))) ?_
  refine OP (Does.callv rfl rfl e237 (is1_ok (hk y hy) M ck _ (RxV.grow hg y hv))) ?_
  rintro _ w2 ⟨rfl,hg2⟩
  refine RL.done ?_
  refine RK.condF (hcF rfl (rfl)) ?_
  refine RK.skip ?_
  refine RK.inBlock ?_
  refine RK.region ?_
  refine RL.p rfl rfl ?_
  refine RL.re (d:=18) rfl rfl (succ_i64 (by omega)) ?_
  refine GG ?_
  exact RK.back (ih (k + 1) _ ⟨hg.trans hg2,by omega⟩ (by omega)) ⟨rfl,rfl,rfl,rfl,trivial⟩
 ·refine RK.exit rfl ?_
  refine GG ?_
  refine RK.ret_of Tryz.func244 (res1 rfl rfl) ?_ _
  exact ⟨_,rfl,rfl,hg⟩
theorem isAny_ok {M:Nat→Prop} {w:World} {x:Rx} {op:Int} {a b c d:Nat} {ad:Option Addr} {n cap:Nat} {l:Rx} {kss:List Cel} (h:RxO M w x op a b c d ad n cap l kss) (hk:∀ y∈kidsR l,IsC y) :
  Fx Tryz.prog 236 [.slice ad n cap,.func (.func 237) #[] #[]] w (fun u w'=>u=.bool false∧Grow w w'):=by
 refine enter Tryz.func236 rfl rfl rfl _ (Pick.sub (l:=[0,1]) (.cons rfl (.cons rfl .nil))) ?_
 refine GG ?_
 refine OP (Does.call rfl e244 (isIdx_ok h hk)) ?_
 rintro _ w2 ⟨rfl,hg2⟩
 refine GG ?_
 refine RK.ret_of Tryz.func236 (res1 rfl rfl) ?_ _
 exact ⟨_,rfl,rfl,hg2⟩
theorem rexIs_ok:∀ (n:Nat) (x:Rx),hiR x≤n→Tr false x→IsC x
  | 0,.set _,h,_=>by simp [hiR] at h
  | 0,.node _ _,h,_=>by simp [hiR] at h
  | 0,.nil,_,ht=>ht.elim
  | 0,.cons _ _,_,ht=>ht.elim
  | m + 1,x,hx,ht=>by
    intro M k w hv
    obtain ⟨op,a,b,c,d,ad,n,cap,l,kss,rfl,h⟩:=hv.open ht
    have hkind:=h.kind
    have hn:=h.n
    have hlen:=h.len
    refine enter Tryz.func221 rfl rfl rfl _ (Pick.sub (l:=[0]) (.cons rfl .nil)) ?_
    refine RK.seq ?_
    refine RK.region ?_
    refine RL.op (.free rfl) rfl rfl (Does.box rfl) ?_
    rintro _ w1 ⟨b1,rfl,hn1⟩
    have hB1:Blk w1 b1 180 [.int .i64 op,.int .u64 (a:Int),.int .u64 (b:Int),.int .u64 (c:Int),.int .u64 (d:Int),.slice ad n cap]:=hn1.blk
    refine RL.p rfl rfl ?_
    refine RL.done ?_
    refine RK.seq ?_
    refine RK.region ?_
    refine RL.q (.free rfl) rfl rfl (Yld.fieldAddr fo180_2 rfl) ?_
    refine RL.q (.free rfl) rfl rfl (Yld.load p178 rfl (at1 (hB1.cell rfl))) ?_
    refine RL.q (.free rfl) rfl rfl (Yld.lenSl u178 rfl) ?_
    refine RL.p rfl rfl ?_
    refine RL.done ?_
    iterate 2 refine RK.seq ?_
    refine RK.region ?_
    refine RL.q (.free rfl) rfl rfl (Yld.fieldAddr fo180_0 rfl) ?_
    refine RL.q (.free rfl) rfl rfl (Yld.load p3 rfl (at1 (hB1.cell rfl))) ?_
    refine RL.done ?_
    refine RK.cut [(1,pp b1),(3,.int .i64 (n:Int))] (fun w'=>w'=w1∧∃ o:Nat,x=.node o l∧a=0∧b=0∧c=0∧d=0) (fun w2 hQ=>?_) (fun hj=>?_)
    · obtain ⟨rfl,o,rfl,rfl,rfl,rfl,rfl⟩:=hQ
      refine RK.seq ?_
      refine RK.region ?_
      refine RL.q (.free rfl) rfl rfl (Yld.fieldAddr fo180_1 rfl) ?_
      refine RL.q (.free rfl) rfl rfl (Yld.loadN (cs:=wds [0,0,0,0]) a177 rfl (atN (blk_set4 hB1))) ?_
      refine RL.q (.free rfl) rfl rfl (Yld.build (v:=.agg (wds [0,0,0,0]).toArray) rfl (fun w=>by kernel_rfl)) ?_
      refine RL.q (.free rfl) rfl rfl (Yld.eqArr arr177 (ps:=[0,0,0,0]) (qs:=[0,0,0,0]) rfl rfl rfl rfl rfl rfl) ?_
      refine RL.p rfl rfl ?_
      refine RL.knownT (d:=29) rfl rfl (rfl) ?_
      refine RL.q (.yes rfl rfl rfl) rfl rfl (Yld.fieldAddr fo180_2 rfl) ?_
      refine RL.q (.yes rfl rfl rfl) rfl rfl (Yld.load p178 rfl (at1 (hB1.cell rfl))) ?_
      refine RL.op (.yes rfl rfl rfl) rfl rfl (Does.call rfl e236 (isAny_ok (h.grow hn1.grow) (fun y hy=>rexIs_ok m y (by have:=hiR_kid hy;simp only [hiR] at hx;omega) (kids_tr h.tr y hy)))) ?_
      rintro _ w3 ⟨rfl,hg3⟩
      refine RL.q (.yes rfl rfl rfl) rfl rfl (Yld.pure rfl) ?_
      iterate 2 refine RL.p rfl rfl ?_
      refine RL.done ?_
      refine RK.ret_of Tryz.func221 (res1 rfl rfl) ?_ _
      exact ⟨_,rfl,rfl,hn1.grow.trans hg3⟩
    · refine RK.block ?_
      refine RK.seq ?_
      refine RK.region ?_
      iterate 2 refine RL.p rfl rfl ?_
      refine RL.done ?_
      first | refine RK.condD rfl (fun h9=>?_) (fun h9=>?_) | refine RK.condN rfl (fun h9=>?_) (fun h9=>?_) | refine RK.cond rfl (fun h9=>?_) (fun h9=>?_)
      · refine RK.seq ?_
        refine RK.region ?_
        iterate 3 refine RL.p rfl rfl ?_
        refine RL.done ?_
        refine RK.ret_of Tryz.func221 (res1 rfl rfl) ?_ _
        exact ⟨_, rfl, by
            rcases hkind with ⟨_,rfl,_⟩ | ⟨o,_,rfl,_,_,_,_,h3⟩
            · simp only [cnt] at hlen;rw [decide_eq_true (by omega)]
            · omega
          ,hn1.grow⟩
      · obtain ⟨o, rfl, rfl, rfl, rfl, rfl, rfl, h3⟩ : ∃ o : Nat, x = .node o l ∧ op = o ∧ a = 0 ∧ b = 0 ∧ c = 0 ∧ d = 0 ∧ (o = 2 ∨ o = 3 ∧ cnt l ≠ 0 ∨ (o = 4 ∨ o = 5 ∨ o = 6) ∧ cnt l = 1) := by
            rcases hkind with ⟨_,_,h2,_⟩ | h2
            · omega
            · exact h2
        clear hkind
        refine RK.seq ?_
        refine RK.region ?_
        iterate 2 refine RL.p rfl rfl ?_
        refine RL.done ?_
        first | refine RK.condD rfl (fun h13=>?_) (fun h13=>?_) | refine RK.condN rfl (fun h13=>?_) (fun h13=>?_) | refine RK.cond rfl (fun h13=>?_) (fun h13=>?_)
        · refine RK.skip ?_
          refine RK.inBlock ?_
          exact RK.back (hj _ ⟨rfl,o,rfl,rfl,rfl,rfl,rfl⟩) ⟨rfl,rfl,trivial⟩
        · refine RK.seq ?_
          refine RK.region ?_
          iterate 2 refine RL.p rfl rfl ?_
          refine RL.done ?_
          first | refine RK.condD rfl (fun h15=>?_) (fun h15=>?_) | refine RK.condN rfl (fun h15=>?_) (fun h15=>?_) | refine RK.cond rfl (fun h15=>?_) (fun h15=>?_)
          · refine RK.seq ?_
            refine RK.region ?_
            iterate 2 refine RL.p rfl rfl ?_
            refine RL.done ?_
            refine RK.condF (hcF rfl (decide_eq_false (by omega))) ?_
            refine RK.skip ?_
            refine RK.inBlock ?_
            exact RK.back (hj _ ⟨rfl,o,rfl,rfl,rfl,rfl,rfl⟩) ⟨rfl,rfl,trivial⟩
          · iterate 2 refine RK.seq ?_
            refine RK.region ?_
            iterate 2 refine RL.p rfl rfl ?_
            refine RL.done ?_
            first | refine RK.condD rfl (fun h19=>?_) (fun h19=>?_) | refine RK.condN rfl (fun h19=>?_) (fun h19=>?_) | refine RK.cond rfl (fun h19=>?_) (fun h19=>?_)
            · refine RK.skip ?_
              refine RK.condT (hcT rfl (decide_eq_true h19)) ?_
              refine RK.seq ?_
              refine RK.region ?_
              iterate 2 refine RL.p rfl rfl ?_
              refine RL.done ?_
              refine RK.condF (hcF rfl (by rw [hn,hlen];simp;omega)) ?_
              refine RK.skip ?_
              refine RK.inBlock ?_
              exact RK.back (hj _ ⟨rfl,o,rfl,rfl,rfl,rfl,rfl⟩) ⟨rfl,rfl,trivial⟩
            · refine RK.seq ?_
              refine RK.region ?_
              iterate 2 refine RL.p rfl rfl ?_
              refine RL.done ?_
              first | refine RK.condD rfl (fun h19=>?_) (fun h19=>?_) | refine RK.condN rfl (fun h19=>?_) (fun h19=>?_) | refine RK.cond rfl (fun h19=>?_) (fun h19=>?_)
              · refine RK.skip ?_
                refine RK.condT (hcT rfl (decide_eq_true h19)) ?_
                refine RK.seq ?_
                refine RK.region ?_
                iterate 2 refine RL.p rfl rfl ?_
                refine RL.done ?_
                refine RK.condF (hcF rfl (by rw [hn,hlen];simp;omega)) ?_
                refine RK.skip ?_
                refine RK.inBlock ?_
                exact RK.back (hj _ ⟨rfl,o,rfl,rfl,rfl,rfl,rfl⟩) ⟨rfl,rfl,trivial⟩
              · refine RK.region ?_
                iterate 2 refine RL.p rfl rfl ?_
                refine RL.done ?_
                refine RK.condT (hcT rfl (decide_eq_true (by omega))) ?_
                refine RK.seq ?_
                refine RK.region ?_
                iterate 2 refine RL.p rfl rfl ?_
                refine RL.done ?_
                refine RK.condF (hcF rfl (by rw [hn,hlen];simp;omega)) ?_
                refine RK.skip ?_
                refine RK.inBlock ?_
                exact RK.back (hj _ ⟨rfl,o,rfl,rfl,rfl,rfl,rfl⟩) ⟨rfl,rfl,trivial⟩
theorem isRex_ok:∀ (n:Nat) (x:Rx),hiR x≤n→Tr false x→∀ (M:Nat→Prop) (k:Cel) (w:World),RxV M w x [k]→Fx Tryz.prog 179 [.agg (celC k).toArray] w (fun u w'=>u=.bool true∧Grow w w')
  | 0,.set _,h,_=>by simp [hiR] at h
  | 0,.node _ _,h,_=>by simp [hiR] at h
  | 0,.nil,_,ht=>ht.elim
  | 0,.cons _ _,_,ht=>ht.elim
  | m + 1,x,hx,ht=>by
    intro M k w hv
    obtain ⟨op,a,b,c,d,ad,n,cap,l,kss,rfl,h⟩:=hv.open ht
    have hkind:=h.kind
    have hn:=h.n
    have hlen:=h.len
    have hbig:=h.sl.big
    refine enter Tryz.func179 rfl rfl rfl _ (Pick.sub (l:=[0]) (.cons rfl .nil)) ?_
    refine RK.seq ?_
    refine RK.region ?_
    refine RL.op (.free rfl) rfl rfl (Does.box rfl) ?_
    rintro _ w1 ⟨b1,rfl,hn1⟩
    have hB1:Blk w1 b1 180 [.int .i64 op,.int .u64 (a:Int),.int .u64 (b:Int),.int .u64 (c:Int),.int .u64 (d:Int),.slice ad n cap]:=hn1.blk
    refine RL.p rfl rfl ?_
    refine RL.done ?_
    refine RK.seq ?_
    refine RK.region ?_
    refine RL.q (.free rfl) rfl rfl (Yld.fieldAddr fo180_2 rfl) ?_
    refine RL.q (.free rfl) rfl rfl (Yld.load p178 rfl (at1 (hB1.cell rfl))) ?_
    refine RL.q (.free rfl) rfl rfl (Yld.lenSl u178 rfl) ?_
    refine RL.p rfl rfl ?_
    refine RL.done ?_
    iterate 2 refine RK.seq ?_
    refine RK.region ?_
    refine RL.q (.free rfl) rfl rfl (Yld.fieldAddr fo180_0 rfl) ?_
    refine RL.q (.free rfl) rfl rfl (Yld.load p3 rfl (at1 (hB1.cell rfl))) ?_
    refine RL.done ?_
    refine RK.cut [(1,pp b1),(3,.int .i64 (n:Int))] (fun w'=>w'=w1∧∃ o:Nat,x=.node o l∧a=0∧b=0∧c=0∧d=0) (fun w2 hQ=>?_) (fun hj=>?_)
    · obtain ⟨rfl,o,rfl,rfl,rfl,rfl,rfl⟩:=hQ
      iterate 2 refine RK.seq ?_
      refine RK.region ?_
      refine RL.p rfl rfl ?_
      refine RL.done ?_
      refine RK.block ?_
      refine RK.loop (fun k:Nat=>[(1,pp b1),(3,.int .i64 (n:Int)),(4,.int .i64 (k:Int))]) (fun k w'=>Grow w2 w'∧k≤n) (fun k=>n - k) 0 ⟨rfl,rfl,rfl,trivial⟩ ⟨Mod.refl _ _,by omega⟩ (fun k w3 hI ih=>?_)
      obtain ⟨hg,hkn⟩:=hI
      have hB3:=hB1.mod hg (fun h=>h)
      iterate 2 refine RK.seq ?_
      refine RK.region ?_
      iterate 3 refine RL.p rfl rfl ?_
      refine RL.done ?_
      first | refine RK.condD rfl (fun h28=>?_) (fun h28=>?_) | refine RK.condN rfl (fun h28=>?_) (fun h28=>?_) | refine RK.cond rfl (fun h28=>?_) (fun h28=>?_)
      · obtain ⟨ck,y,b5,o5,rfl,_,hy,hyt,hv5,_,hcl⟩:=h.kid (k:=k) (by omega)
        refine RK.skip ?_
        refine RK.seq ?_
        refine RK.block ?_
        refine RK.seq ?_
        refine RK.region ?_
        refine RL.q (.free rfl) rfl rfl (Yld.fieldAddr fo180_2 rfl) ?_
        refine RL.q (.free rfl) rfl rfl (Yld.load p178 rfl (at1 (hB3.cell rfl))) ?_
        refine RL.p rfl rfl ?_
        refine RL.q (.free rfl) rfl rfl (Yld.indexAddrN u178 i180 rfl rfl (by omega)) ?_
        refine RL.q (.free rfl) rfl rfl (Yld.loadN (cs:=celC ck) a180 rfl (atN (hcl _ (hn1.grow.trans hg)))) ?_
        refine RL.op (.free rfl) rfl rfl (Does.call rfl e179 (isRex_ok m y (by have:=hiR_kid hy;simp only [hiR] at hx;omega) hyt M ck _ (RxV.grow (hn1.grow.trans hg) y hv5))) ?_
        rintro _ w4 ⟨rfl,hg4⟩
        refine RL.p rfl rfl ?_
        refine RL.done ?_
        refine RK.condF (hcF rfl (rfl)) ?_
        refine RK.skip ?_
        refine RK.inBlock ?_
        refine RK.region ?_
        iterate 2 refine RL.p rfl rfl ?_
        refine RL.re (d:=30) rfl rfl (succ_i64 (by omega)) ?_
        refine RL.p rfl rfl ?_
        refine RL.done ?_
        exact RK.back (ih (k + 1) _ ⟨hg.trans hg4,by omega⟩ (by omega)) ⟨rfl,rfl,rfl,trivial⟩
      · refine RK.exit rfl ?_
        refine RK.seq ?_
        refine RK.region ?_
        refine RL.q (.free rfl) rfl rfl (Yld.fieldAddr fo180_1 rfl) ?_
        refine RL.q (.free rfl) rfl rfl (Yld.loadN (cs:=wds [0,0,0,0]) a177 rfl (atN (blk_set4 hB3))) ?_
        refine RL.q (.free rfl) rfl rfl (Yld.build (v:=.agg (wds [0,0,0,0]).toArray) rfl (fun w=>by kernel_rfl)) ?_
        refine RL.q (.free rfl) rfl rfl (Yld.eqArr arr177 (ps:=[0,0,0,0]) (qs:=[0,0,0,0]) rfl rfl rfl rfl rfl rfl) ?_
        refine RL.p rfl rfl ?_
        refine RL.done ?_
        refine RK.ret_of Tryz.func179 (res1 rfl rfl) ?_ _
        exact ⟨_,rfl,rfl,hn1.grow.trans hg⟩
    · refine RK.block ?_
      refine RK.seq ?_
      refine RK.region ?_
      iterate 2 refine RL.p rfl rfl ?_
      refine RL.done ?_
      first | refine RK.condD rfl (fun h10=>?_) (fun h10=>?_) | refine RK.condN rfl (fun h10=>?_) (fun h10=>?_) | refine RK.cond rfl (fun h10=>?_) (fun h10=>?_)
      · refine RK.seq ?_
        refine RK.region ?_
        iterate 3 refine RL.p rfl rfl ?_
        refine RL.done ?_
        refine RK.ret_of Tryz.func179 (res1 rfl rfl) ?_ _
        exact ⟨_, rfl, by
            rcases hkind with ⟨_,rfl,_⟩ | ⟨o,_,rfl,_,_,_,_,h3⟩
            · simp only [cnt] at hlen;rw [decide_eq_true (by omega)]
            · omega
          ,hn1.grow⟩
      · obtain ⟨o, rfl, rfl, rfl, rfl, rfl, rfl, h3⟩ : ∃ o : Nat, x = .node o l ∧ op = o ∧ a = 0 ∧ b = 0 ∧ c = 0 ∧ d = 0 ∧ (o = 2 ∨ o = 3 ∧ cnt l ≠ 0 ∨ (o = 4 ∨ o = 5 ∨ o = 6) ∧ cnt l = 1) := by
            rcases hkind with ⟨_,_,h2,_⟩ | h2
            · omega
            · exact h2
        clear hkind
        refine RK.seq ?_
        refine RK.region ?_
        iterate 2 refine RL.p rfl rfl ?_
        refine RL.done ?_
        first | refine RK.condD rfl (fun h14=>?_) (fun h14=>?_) | refine RK.condN rfl (fun h14=>?_) (fun h14=>?_) | refine RK.cond rfl (fun h14=>?_) (fun h14=>?_)
        · refine RK.skip ?_
          refine RK.inBlock ?_
          exact RK.back (hj _ ⟨rfl,o,rfl,rfl,rfl,rfl,rfl⟩) ⟨rfl,rfl,trivial⟩
        · refine RK.seq ?_
          refine RK.region ?_
          iterate 2 refine RL.p rfl rfl ?_
          refine RL.done ?_
          first | refine RK.condD rfl (fun h16=>?_) (fun h16=>?_) | refine RK.condN rfl (fun h16=>?_) (fun h16=>?_) | refine RK.cond rfl (fun h16=>?_) (fun h16=>?_)
          · refine RK.seq ?_
            refine RK.region ?_
            iterate 2 refine RL.p rfl rfl ?_
            refine RL.done ?_
            refine RK.condF (hcF rfl (decide_eq_false (by omega))) ?_
            refine RK.skip ?_
            refine RK.inBlock ?_
            exact RK.back (hj _ ⟨rfl,o,rfl,rfl,rfl,rfl,rfl⟩) ⟨rfl,rfl,trivial⟩
          · iterate 2 refine RK.seq ?_
            refine RK.region ?_
            iterate 2 refine RL.p rfl rfl ?_
            refine RL.done ?_
            first | refine RK.condD rfl (fun h20=>?_) (fun h20=>?_) | refine RK.condN rfl (fun h20=>?_) (fun h20=>?_) | refine RK.cond rfl (fun h20=>?_) (fun h20=>?_)
            · refine RK.skip ?_
              refine RK.condT (hcT rfl (decide_eq_true h20)) ?_
              refine RK.seq ?_
              refine RK.region ?_
              iterate 2 refine RL.p rfl rfl ?_
              refine RL.done ?_
              refine RK.condF (hcF rfl (by rw [hn,hlen];simp;omega)) ?_
              refine RK.skip ?_
              refine RK.inBlock ?_
              exact RK.back (hj _ ⟨rfl,o,rfl,rfl,rfl,rfl,rfl⟩) ⟨rfl,rfl,trivial⟩
            · refine RK.seq ?_
              refine RK.region ?_
              iterate 2 refine RL.p rfl rfl ?_
              refine RL.done ?_
              first | refine RK.condD rfl (fun h20=>?_) (fun h20=>?_) | refine RK.condN rfl (fun h20=>?_) (fun h20=>?_) | refine RK.cond rfl (fun h20=>?_) (fun h20=>?_)
              · refine RK.skip ?_
                refine RK.condT (hcT rfl (decide_eq_true h20)) ?_
                refine RK.seq ?_
                refine RK.region ?_
                iterate 2 refine RL.p rfl rfl ?_
                refine RL.done ?_
                refine RK.condF (hcF rfl (by rw [hn,hlen];simp;omega)) ?_
                refine RK.skip ?_
                refine RK.inBlock ?_
                exact RK.back (hj _ ⟨rfl,o,rfl,rfl,rfl,rfl,rfl⟩) ⟨rfl,rfl,trivial⟩
              · refine RK.region ?_
                iterate 2 refine RL.p rfl rfl ?_
                refine RL.done ?_
                refine RK.condT (hcT rfl (decide_eq_true (by omega))) ?_
                refine RK.seq ?_
                refine RK.region ?_
                iterate 2 refine RL.p rfl rfl ?_
                refine RL.done ?_
                refine RK.condF (hcF rfl (by rw [hn,hlen];simp;omega)) ?_
                refine RK.skip ?_
                refine RK.inBlock ?_
                exact RK.back (hj _ ⟨rfl,o,rfl,rfl,rfl,rfl,rfl⟩) ⟨rfl,rfl,trivial⟩
theorem node_sz {o:Nat} {l:Rx}:sz (.node o l)=if o=2 then sz l else if o=3 then sz l + 2 * (cnt l - 1) else if o=4 then sz l + 2 else sz l + 1:=rfl
theorem size_ok:∀ (n:Nat) (x:Rx),hiR x≤n→Tr false x→sz x≤1000→∀ (M:Nat→Prop) (k:Cel) (w:World),RxV M w x [k]→Fx Tryz.prog 222 [.agg (celC k).toArray] w (fun u w'=>u=.int .i64 (sz x:Int)∧Grow w w')
 | 0,.set _,h,_,_=>by simp [hiR] at h
 | 0,.node _ _,h,_,_=>by simp [hiR] at h
 | 0,.nil,_,ht,_=>ht.elim
 | 0,.cons _ _,_,ht,_=>ht.elim
 | m + 1,x,hx,ht,hs=>by
  intro M k w hv
  obtain ⟨op,a,b,c,d,ad,n,cap,l,kss,rfl,h⟩:=hv.open ht
  have hkind:=h.kind
  have hn:=h.n
  have hlen:=h.len
  have hbig:=h.sl.big
  have hszl:=sz_cons l h.tr
  have hlx:sz l≤sz x:=by
   rcases hkind with ⟨_,rfl,_⟩ | ⟨o,rfl,_⟩
   ·simp [sz]
   ·rw [node_sz];split <;> (try split) <;> (try split) <;> omega
  have hkl:(kidsR l).length=n:=by rw [kids_len];omega
  refine enter Tryz.func222 rfl rfl rfl _ (Pick.sub (l:=[0]) (.cons rfl .nil)) ?_
  refine GG ?_
  refine OP (Does.box rfl) ?_
  rintro _ w1 ⟨b1,rfl,hn1⟩
  have hB1:Blk w1 b1 180 [.int .i64 op,.int .u64 (a:Int),.int .u64 (b:Int),.int .u64 (c:Int),.int .u64 (d:Int),.slice ad n cap]:=hn1.blk
  refine GG ?_
  refine QQ (Yld.fieldAddr fo180_2 rfl) ?_
  refine QQ (Yld.load p178 rfl (at1 (hB1.cell rfl))) ?_
  refine QQ (Yld.lenSl u178 rfl) ?_
  refine GG ?_
  refine RK.loop (fun k:Nat=>[(1,pp b1),(3,.int .i64 ((((kidsR l).take k).map sz).sum:Nat)),(7,.slice ad n cap),(8,.int .i64 (n:Int)),(9,.int .i64 (k:Int))]) (fun k w'=>Grow w1 w'∧k≤n) (fun k=>n - k) 0 ⟨rfl,rfl,rfl,rfl,rfl,trivial⟩ ⟨Mod.refl _ _,by omega⟩ (fun k w3 hI ih=>?_)
  obtain ⟨hg,hkn⟩:=hI
  have hB3:=hB1.mod hg (fun h=>h)
  have hgw:=hn1.grow.trans hg
  have hle:=sum_take_le (kidsR l) k
  refine GG ?_
  refine CD (fun h10=>?_) (fun h10=>?_)
  ·obtain ⟨ck,y,b5,o5,rfl,hyk,hy,hyt,hv5,_,hcl⟩:=h.kid (k:=k) (by omega)
   have hsum:=sum_take hyk
   have hle1:=sum_take_le (kidsR l) (k + 1)
   have hysz:=kid_sz h.tr hy
   refine GG ?_
   refine QQ (Yld.indexAddrN u178 i180 rfl rfl (by omega)) ?_
   refine QQ (Yld.loadN (cs:=celC ck) a180 rfl (atN (hcl _ (hn1.grow.trans hg)))) ?_
   refine OP (Does.alloc i180) ?_
   rintro _ w4 ⟨b6,rfl,hn6⟩
   refine OQ (Does.storeN i180 rfl rfl rfl rfl hn6.blk (Nat.le_refl 6)) ?_
   rintro _ w5 ⟨hb5,hm5,_⟩
   have hB5:Blk w5 b6 180 (celC ck):=hb5
   have hg5:Grow w3 w5:=hn6.grow.then hm5 (fun y hy e=>by have e' : y=b6:=e;have:=hn6.at_;omega)
   refine GG ?_
   refine QQ (Yld.loadN (cs:=celC ck) a180 rfl (atN (blk0' hB5))) ?_
   refine OP (Does.call rfl e222 (size_ok m y (by rcases hkind with ⟨rfl,rfl,_⟩ | ⟨o,rfl,_⟩;(simp [kidsR] at hy);(have:=hiR_kid hy;simp only [hiR] at hx;omega)) hyt (by omega) M ck _ (RxV.grow (hgw.trans hg5) y hv5))) ?_
   rintro _ w6 ⟨rfl,hg6⟩
   refine RL.p rfl rfl ?_
   refine RL.re (d:=16) rfl rfl (add_i64 (z:=(((((kidsR l).take (k + 1)).map sz).sum:Nat):Int)) (by omega) (by omega) (by omega)) ?_
   refine RL.p rfl rfl ?_
   refine RL.done ?_
   refine RK.inBlock ?_
   refine RK.region ?_
   refine RL.p rfl rfl ?_
   refine RL.re (d:=17) rfl rfl (succ_i64 (by omega)) ?_
   refine GG ?_
   exact RK.back (ih (k + 1) _ ⟨(hg.trans hg5).trans hg6,by omega⟩ (by omega)) ⟨rfl,rfl,rfl,rfl,rfl,trivial⟩
  ·have ek:(kidsR l).take k=kidsR l:=List.take_of_length_le (by omega)
   rw [ek,← hszl]
   refine RK.exit rfl ?_
   refine GG ?_
   refine QQ (Yld.fieldAddr fo180_0 rfl) ?_
   refine QQ (Yld.load p3 rfl (at1 (hB3.cell rfl))) ?_
   refine GG ?_
   refine CD (fun h20=>?_) (fun h20=>?_)
   ·refine GG ?_
    refine RK.ret_of Tryz.func222 (res1 rfl rfl) ?_ _
    exact ⟨_,rfl,by
      rcases hkind with ⟨h1,_,_⟩ | ⟨o,_,rfl,_,_,_,_,h3⟩
      ·rw [h1];rfl
      ·omega
     ,hgw⟩
   ·obtain ⟨o,rfl,rfl,h3⟩:∃ o:Nat,x=.node o l∧op=o∧(o=2∨o=3∧cnt l≠0∨(o=4∨o=5∨o=6)∧cnt l=1):=by
      rcases hkind with ⟨_,_,h2,_⟩ | ⟨o,h4,h5,_,_,_,_,h6⟩
      ·omega
      ·exact ⟨o,h4,h5,h6⟩
    clear hkind
    rw [node_sz] at hs ⊢
    refine GG ?_
    refine CD (fun h22=>?_) (fun h22=>?_)
    ·have ho:o=3:=by omega
     rw [if_neg (by omega),if_pos ho] at hs ⊢
     refine GG ?_
     refine QQ (Yld.fieldAddr fo180_2 rfl) ?_
     refine QQ (Yld.load p178 rfl (at1 (hB3.cell rfl))) ?_
     refine QQ (Yld.lenSl u178 rfl) ?_
     refine RL.p rfl rfl ?_
     refine RL.re (d:=28) rfl rfl (sub_i64 (z:=((n - 1:Nat):Int)) (by omega) (by omega) (by omega)) ?_
     refine RL.p rfl rfl ?_
     refine RL.re (d:=29) rfl rfl (congrArg (Value.int .i64) (show _=((2 * (n - 1):Nat):Int) by rw [wrap_i64 (by omega) (by omega)];omega)) ?_
     refine RL.p rfl rfl ?_
     refine RL.re (d:=30) rfl rfl (add_i64 (z:=((sz l + 2 * (cnt l - 1):Nat):Int)) (by omega) (by omega) (by omega)) ?_
     refine GG ?_
     refine RK.ret_of Tryz.func222 (res1 rfl rfl) ?_ _
     exact ⟨_,rfl,rfl,hgw⟩
    ·refine GG ?_
     refine CD (fun h31=>?_) (fun h31=>?_)
     ·have ho:o=4:=by omega
      rw [if_neg (by omega),if_neg (by omega),if_pos ho] at hs ⊢
      refine RK.seq ?_
      refine RK.region ?_
      iterate 2 refine RL.p rfl rfl ?_
      refine RL.re (d:=34) rfl rfl (add_i64 (z:=((sz l + 2:Nat):Int)) (by omega) (by omega) (by omega)) ?_
      refine GG ?_
      refine RK.ret_of Tryz.func222 (res1 rfl rfl) ?_ _
      exact ⟨_,rfl,rfl,hgw⟩
     ·refine GG ?_
      refine CD (fun h35=>?_) (fun h35=>?_)
      ·have ho:o=5:=by omega
       rw [if_neg (by omega),if_neg (by omega),if_neg (by omega)] at hs ⊢
       refine RK.skip ?_
       refine RK.condT (hcT rfl (by first | exact h35 | exact decide_eq_true h35 | simpa using h35)) ?_
       refine RK.seq ?_
       refine RK.region ?_
       iterate 2 refine RL.p rfl rfl ?_
       refine RL.re (d:=39) rfl rfl (add_i64 (z:=((sz l + 1:Nat):Int)) (by omega) (by omega) (by omega)) ?_
       refine GG ?_
       refine RK.ret_of Tryz.func222 (res1 rfl rfl) ?_ _
       exact ⟨_,rfl,rfl,hgw⟩
      ·refine GG ?_
       refine CD (fun h35=>?_) (fun h35=>?_)
       ·have ho:o=6:=by omega
        rw [if_neg (by omega),if_neg (by omega),if_neg (by omega)] at hs ⊢
        refine RK.seq ?_
        refine RK.region ?_
        iterate 2 refine RL.p rfl rfl ?_
        refine RL.re (d:=39) rfl rfl (add_i64 (z:=((sz l + 1:Nat):Int)) (by omega) (by omega) (by omega)) ?_
        refine GG ?_
        refine RK.ret_of Tryz.func222 (res1 rfl rfl) ?_ _
        exact ⟨_,rfl,rfl,hgw⟩
       ·have ho:o=2:=by omega
        rw [if_pos ho] at hs ⊢
        refine GG ?_
        refine RK.ret_of Tryz.func222 (res1 rfl rfl) ?_ _
        exact ⟨_,rfl,rfl,hgw⟩
theorem rsize_ok:∀ (n:Nat) (x:Rx),hiR x≤n→Tr false x→sz x≤1000→∀ (M:Nat→Prop) (k:Cel) (w:World),RxV M w x [k]→Fx Tryz.prog 180 [.agg (celC k).toArray] w (fun u w'=>u=.int .i64 (sz x:Int)∧Grow w w')
 | 0,.set _,h,_,_=>by simp [hiR] at h
 | 0,.node _ _,h,_,_=>by simp [hiR] at h
 | 0,.nil,_,ht,_=>ht.elim
 | 0,.cons _ _,_,ht,_=>ht.elim
 | m + 1,x,hx,ht,hs=>by
  intro M k w hv
  obtain ⟨op,a,b,c,d,ad,n,cap,l,kss,rfl,h⟩:=hv.open ht
  have hkind:=h.kind
  have hn:=h.n
  have hlen:=h.len
  have hbig:=h.sl.big
  have hszl:=sz_cons l h.tr
  have hlx:sz l≤sz x:=by
   rcases hkind with ⟨_,rfl,_⟩ | ⟨o,rfl,_⟩
   ·simp [sz]
   ·rw [node_sz];split <;> (try split) <;> (try split) <;> omega
  have hkl:(kidsR l).length=n:=by rw [kids_len];omega
  refine enter Tryz.func180 rfl rfl rfl _ (Pick.sub (l:=[0]) (.cons rfl .nil)) ?_
  refine GG ?_
  refine OP (Does.box rfl) ?_
  rintro _ w1 ⟨b1,rfl,hn1⟩
  have hB1:Blk w1 b1 180 [.int .i64 op,.int .u64 (a:Int),.int .u64 (b:Int),.int .u64 (c:Int),.int .u64 (d:Int),.slice ad n cap]:=hn1.blk
  refine GG ?_
  refine RK.loop (fun k:Nat=>[(1,pp b1),(3,.int .i64 ((((kidsR l).take k).map sz).sum:Nat)),(4,.int .i64 (k:Int))]) (fun k w'=>Grow w1 w'∧k≤n) (fun k=>n - k) 0 ⟨rfl,rfl,rfl,trivial⟩ ⟨Mod.refl _ _,by omega⟩ (fun k w3 hI ih=>?_)
  obtain ⟨hg,hkn⟩:=hI
  have hB3:=hB1.mod hg (fun h=>h)
  have hgw:=hn1.grow.trans hg
  have hle:=sum_take_le (kidsR l) k
  refine GG ?_
  refine QQ (Yld.fieldAddr fo180_2 rfl) ?_
  refine QQ (Yld.load p178 rfl (at1 (hB3.cell rfl))) ?_
  refine QQ (Yld.lenSl u178 rfl) ?_
  refine GG ?_
  refine CD (fun h9=>?_) (fun h9=>?_)
  ·obtain ⟨ck,y,b5,o5,rfl,hyk,hy,hyt,hv5,_,hcl⟩:=h.kid (k:=k) (by omega)
   have hsum:=sum_take hyk
   have hle1:=sum_take_le (kidsR l) (k + 1)
   have hysz:=kid_sz h.tr hy
   refine GG ?_
   refine QQ (Yld.fieldAddr fo180_2 rfl) ?_
   refine QQ (Yld.load p178 rfl (at1 (hB3.cell rfl))) ?_
   refine RL.p rfl rfl ?_
   refine QQ (Yld.indexAddrN u178 i180 rfl rfl (by omega)) ?_
   refine QQ (Yld.loadN (cs:=celC ck) a180 rfl (atN (hcl _ (hn1.grow.trans hg)))) ?_
   refine OP (Does.call rfl e180 (rsize_ok m y (by rcases hkind with ⟨rfl,rfl,_⟩ | ⟨o,rfl,_⟩;(simp [kidsR] at hy);(have:=hiR_kid hy;simp only [hiR] at hx;omega)) hyt (by omega) M ck _ (RxV.grow hgw y hv5))) ?_
   rintro _ w6 ⟨rfl,hg6⟩
   refine RL.p rfl rfl ?_
   refine RL.re (d:=19) rfl rfl (add_i64 (z:=(((((kidsR l).take (k + 1)).map sz).sum:Nat):Int)) (by omega) (by omega) (by omega)) ?_
   refine RL.p rfl rfl ?_
   refine RL.done ?_
   refine RK.inBlock ?_
   refine RK.region ?_
   iterate 2 refine RL.p rfl rfl ?_
   refine RL.re (d:=11) rfl rfl (succ_i64 (by omega)) ?_
   refine GG ?_
   exact RK.back (ih (k + 1) _ ⟨hg.trans hg6,by omega⟩ (by omega)) ⟨rfl,rfl,rfl,trivial⟩
  ·have ek:(kidsR l).take k=kidsR l:=List.take_of_length_le (by omega)
   rw [ek,← hszl]
   refine RK.exit rfl ?_
   refine GG ?_
   refine QQ (Yld.fieldAddr fo180_0 rfl) ?_
   refine QQ (Yld.load p3 rfl (at1 (hB3.cell rfl))) ?_
   refine GG ?_
   refine CD (fun h22=>?_) (fun h22=>?_)
   ·refine GG ?_
    refine RK.ret_of Tryz.func180 (res1 rfl rfl) ?_ _
    exact ⟨_,rfl,by
      rcases hkind with ⟨h1,_,_⟩ | ⟨o,_,rfl,_,_,_,_,h3⟩
      ·rw [h1];rfl
      ·omega
     ,hgw⟩
   ·obtain ⟨o,rfl,rfl,h3⟩:∃ o:Nat,x=.node o l∧op=o∧(o=2∨o=3∧cnt l≠0∨(o=4∨o=5∨o=6)∧cnt l=1):=by
      rcases hkind with ⟨_,_,h2,_⟩ | ⟨o,h4,h5,_,_,_,_,h6⟩
      ·omega
      ·exact ⟨o,h4,h5,h6⟩
    clear hkind
    rw [node_sz] at hs ⊢
    refine GG ?_
    refine CD (fun h24=>?_) (fun h24=>?_)
    ·have ho:o=3:=by omega
     rw [if_neg (by omega),if_pos ho] at hs ⊢
     refine GG ?_
     refine QQ (Yld.fieldAddr fo180_2 rfl) ?_
     refine QQ (Yld.load p178 rfl (at1 (hB3.cell rfl))) ?_
     refine QQ (Yld.lenSl u178 rfl) ?_
     refine RL.p rfl rfl ?_
     refine RL.re (d:=30) rfl rfl (sub_i64 (z:=((n - 1:Nat):Int)) (by omega) (by omega) (by omega)) ?_
     refine RL.p rfl rfl ?_
     refine RL.re (d:=31) rfl rfl (congrArg (Value.int .i64) (show _=((2 * (n - 1):Nat):Int) by rw [wrap_i64 (by omega) (by omega)];omega)) ?_
     refine RL.p rfl rfl ?_
     refine RL.re (d:=32) rfl rfl (add_i64 (z:=((sz l + 2 * (cnt l - 1):Nat):Int)) (by omega) (by omega) (by omega)) ?_
     refine GG ?_
     refine RK.ret_of Tryz.func180 (res1 rfl rfl) ?_ _
     exact ⟨_,rfl,rfl,hgw⟩
    ·refine GG ?_
     refine CD (fun h33=>?_) (fun h33=>?_)
     ·have ho:o=4:=by omega
      rw [if_neg (by omega),if_neg (by omega),if_pos ho] at hs ⊢
      refine RK.seq ?_
      refine RK.region ?_
      iterate 2 refine RL.p rfl rfl ?_
      refine RL.re (d:=36) rfl rfl (add_i64 (z:=((sz l + 2:Nat):Int)) (by omega) (by omega) (by omega)) ?_
      refine GG ?_
      refine RK.ret_of Tryz.func180 (res1 rfl rfl) ?_ _
      exact ⟨_,rfl,rfl,hgw⟩
     ·refine GG ?_
      refine CD (fun h37=>?_) (fun h37=>?_)
      ·have ho:o=5:=by omega
       rw [if_neg (by omega),if_neg (by omega),if_neg (by omega)] at hs ⊢
       refine RK.skip ?_
       refine RK.condT (hcT rfl (by first | exact h37 | exact decide_eq_true h37 | simpa using h37)) ?_
       refine RK.seq ?_
       refine RK.region ?_
       iterate 2 refine RL.p rfl rfl ?_
       refine RL.re (d:=41) rfl rfl (add_i64 (z:=((sz l + 1:Nat):Int)) (by omega) (by omega) (by omega)) ?_
       refine GG ?_
       refine RK.ret_of Tryz.func180 (res1 rfl rfl) ?_ _
       exact ⟨_,rfl,rfl,hgw⟩
      ·refine GG ?_
       refine CD (fun h37=>?_) (fun h37=>?_)
       ·have ho:o=6:=by omega
        rw [if_neg (by omega),if_neg (by omega),if_neg (by omega)] at hs ⊢
        refine RK.seq ?_
        refine RK.region ?_
        iterate 2 refine RL.p rfl rfl ?_
        refine RL.re (d:=41) rfl rfl (add_i64 (z:=((sz l + 1:Nat):Int)) (by omega) (by omega) (by omega)) ?_
        refine GG ?_
        refine RK.ret_of Tryz.func180 (res1 rfl rfl) ?_ _
        exact ⟨_,rfl,rfl,hgw⟩
       ·have ho:o=2:=by omega
        rw [if_pos ho] at hs ⊢
        refine GG ?_
        refine RK.ret_of Tryz.func180 (res1 rfl rfl) ?_ _
        exact ⟨_,rfl,rfl,hgw⟩
theorem sizeM_ok (x:Rx) (ht:Tr false x) (hs:sz x≤1000) (M:Nat→Prop) (k:Cel) (w:World) (hv:RxV M w x [k]):Fx Tryz.prog 201 [.agg (celC k).toArray] w (fun u w'=>u=.int .i64 ((sz x + 1:Nat):Int)∧Grow w w'):=by
 refine enter Tryz.func201 rfl rfl rfl _ (Pick.sub (l:=[0]) (.cons rfl .nil)) ?_
 refine GG ?_
 refine OP (Does.box rfl) ?_
 rintro _ w1 ⟨b1,rfl,hn1⟩
 refine GG ?_
 refine QQ (Yld.loadN (cs:=celC k) a180 rfl (atN (blk0' hn1.blk))) ?_
 refine OP (Does.call rfl e221 (rexIs_ok _ x (Nat.le_refl _) ht M k _ (RxV.grow hn1.grow x hv))) ?_
 rintro _ w2 ⟨rfl,hg2⟩
 refine GG ?_
 refine RK.condF (hcF rfl (rfl)) ?_
 refine GG ?_
 refine QQ (Yld.loadN (cs:=celC k) a180 rfl (atN (blk0' (hn1.blk.mod hg2 (fun h=>h))))) ?_
 refine OP (Does.call rfl e222 (size_ok _ x (Nat.le_refl _) ht hs M k _ (RxV.grow (hn1.grow.trans hg2) x hv))) ?_
 rintro _ w3 ⟨rfl,hg3⟩
 refine RL.p rfl rfl ?_
 refine RL.re (d:=8) rfl rfl (succ_i64 (by omega)) ?_
 refine GG ?_
 refine RK.ret_of Tryz.func201 (res1 rfl rfl) ?_ _
 exact ⟨_,rfl,rfl,(hn1.grow.trans hg2).trans hg3⟩
theorem rsizeM_ok (x:Rx) (ht:Tr false x) (hs:sz x≤1000) (M:Nat→Prop) (k:Cel) (w:World) (hv:RxV M w x [k]):Fx Tryz.prog 149 [.agg (celC k).toArray] w (fun u w'=>u=.int .i64 ((sz x + 1:Nat):Int)∧Grow w w'):=by
 refine enter Tryz.func149 rfl rfl rfl _ (Pick.sub (l:=[0]) (.cons rfl .nil)) ?_
 refine GG ?_
 refine OP (Does.box rfl) ?_
 rintro _ w1 ⟨b1,rfl,hn1⟩
 refine GG ?_
 refine QQ (Yld.loadN (cs:=celC k) a180 rfl (atN (blk0' hn1.blk))) ?_
 refine OP (Does.call rfl e179 (isRex_ok _ x (Nat.le_refl _) ht M k _ (RxV.grow hn1.grow x hv))) ?_
 rintro _ w2 ⟨rfl,hg2⟩
 refine GG ?_
 refine RK.condF (hcF rfl (rfl)) ?_
 refine GG ?_
 refine QQ (Yld.loadN (cs:=celC k) a180 rfl (atN (blk0' (hn1.blk.mod hg2 (fun h=>h))))) ?_
 refine OP (Does.call rfl e180 (rsize_ok _ x (Nat.le_refl _) ht hs M k _ (RxV.grow (hn1.grow.trans hg2) x hv))) ?_
 rintro _ w3 ⟨rfl,hg3⟩
 refine RL.p rfl rfl ?_
 refine RL.re (d:=8) rfl rfl (succ_i64 (by omega)) ?_
 refine GG ?_
 refine RK.ret_of Tryz.func149 (res1 rfl rfl) ?_ _
 exact ⟨_,rfl,rfl,(hn1.grow.trans hg2).trans hg3⟩
end Go.Proofs.YtbcbfjnlnmhpbaaGreat
set_option linter.unusedVariables false
set_option linter.unusedSimpArgs false
set_option maxHeartbeats 400000
namespace Go.Rex
open Go Go.X
def stC (s:Stp):List Value:=[.int .i64 (s.op:Int),.int .u64 ((s.set.getD 0 0:Nat):Int),.int .u64 ((s.set.getD 1 0:Nat):Int),.int .u64 ((s.set.getD 2 0:Nat):Int),.int .u64 ((s.set.getD 3 0:Nat):Int),.int .i64 (s.a:Int),.int .i64 (s.b:Int)]
theorem stC_len (s:Stp):(stC s).length=7:=rfl
theorem flat_set {α:Type} (f:α→List Value) (sz:Nat) (hf:∀ x,(f x).length=sz):∀ (xs:List α) (j q:Nat) (x y:α) (v:Value),xs[j]?=some x→q < sz→(f x).set q v=f y→(xs.flatMap f).set (j * sz + q) v=(xs.set j y).flatMap f
 | [],j,q,x,y,v,h,_,_=>by simp at h
 | z :: xs,0,q,x,y,v,h,hq,he=>by
  simp at h;subst h
  simp only [List.flatMap_cons,Nat.zero_mul,Nat.zero_add,List.set_cons_zero]
  rw [List.set_append_left _ _ (by rw [hf];exact hq),he]
 | z :: xs,j + 1,q,x,y,v,h,hq,he=>by
  simp only [List.flatMap_cons,List.set_cons_succ]
  have e:(j + 1) * sz + q=(f z).length + (j * sz + q):=by rw [hf,Nat.add_mul];omega
  rw [e,List.set_append_right _ _ (by omega),Nat.add_sub_cancel_left,flat_set f sz hf xs j q x y v (by simpa using h) hq he]
theorem set_mid {α:Type} (A:List α) (x y:α) (R:List α):(A ++ x :: R).set A.length y=A ++ y :: R:=by simp
def wayC:List Rx→Nat→Nat→List Stp
 | [],_,_=>[]
 | x :: l,e,p=>splitS (p + 1) (p + 2 + sz x) :: (code x none (p + 1) ++ jumpS e :: wayC l e (p + 2 + sz x))
def wlen (l:List Rx):Nat:=(l.map fun x=>sz x + 2).sum
def wayJ:List Rx→Nat→List Int
 | [],_=>[]
 | x :: l,p=>((p + 1 + sz x:Nat):Int) :: wayJ l (p + 2 + sz x)
def GoodL (l:List Rx):Prop:=∀ x∈l,Tr false x
theorem codeN_len {x:Rx} (h:Tr false x) (p:Nat):(code x none p).length=sz x:=by
 obtain ⟨a,b,_⟩:=tr_wf x false h
 exact (code_len x a b p).1
theorem codeL_len {l:Rx} (h:Tr true l) (p:Nat):(code l none p).length=sz l:=by
 obtain ⟨a,b,_⟩:=tr_wf l true h
 exact (code_len l a b p).1
theorem wayC_len:∀ (l:List Rx) (e p:Nat),GoodL l→(wayC l e p).length=wlen l
 | [],_,_,_=>rfl
 | x :: l,e,p,h=>by
  have h1:=wayC_len l e (p + 2 + sz x) fun y hy=>h y (by simp [hy])
  simp only [wayC,List.length_cons,List.length_append,codeN_len (h x (by simp)),h1,wlen,List.map_cons,List.sum_cons]
  omega
theorem wayC_app:∀ (l m:List Rx) (e p:Nat),wayC (l ++ m) e p=wayC l e p ++ wayC m e (p + wlen l)
 | [],m,e,p=>by simp [wayC,wlen]
 | x :: l,m,e,p=>by
  simp only [List.cons_append,wayC,wayC_app l m e,wlen,List.map_cons,List.sum_cons,List.append_assoc]
  rw [show p + 2 + sz x + (List.map (fun x=>sz x + 2) l).sum=p + (sz x + 2 + (List.map (fun x=>sz x + 2) l).sum) by omega]
theorem wayJ_app:∀ (l m:List Rx) (p:Nat),wayJ (l ++ m) p=wayJ l p ++ wayJ m (p + wlen l)
 | [],m,p=>by simp [wayJ,wlen]
 | x :: l,m,p=>by
  simp only [List.cons_append,wayJ,wayJ_app l m,wlen,List.map_cons,List.sum_cons]
  rw [show p + 2 + sz x + (List.map (fun x=>sz x + 2) l).sum=p + (sz x + 2 + (List.map (fun x=>sz x + 2) l).sum) by omega]
theorem wayJ_len:∀ (l:List Rx) (p:Nat),(wayJ l p).length=l.length
 | [],_=>rfl
 | x :: l,p=>by simp [wayJ,wayJ_len l]
theorem wlen_app (l m:List Rx):wlen (l ++ m)=wlen l + wlen m:=by simp [wlen]
theorem take_snoc {l:List Rx} {k:Nat} {x:Rx} (h:l[k]?=some x):l.take (k + 1)=l.take k ++ [x]:=by
 have hk:=(List.getElem?_eq_some_iff.1 h).1
 rw [List.take_succ_eq_append_getElem hk,(List.getElem?_eq_some_iff.1 h).2]
theorem drop_get {l:List Rx} {k:Nat} {x:Rx} (h:l[k]?=some x):l.drop k=x :: l.drop (k + 1):=by
 have hk:=(List.getElem?_eq_some_iff.1 h).1
 rw [List.drop_eq_getElem_cons hk,(List.getElem?_eq_some_iff.1 h).2]
theorem GoodL.take {l:List Rx} (h:GoodL l) (k:Nat):GoodL (l.take k):=fun x hx=>h x (List.mem_of_mem_take hx)
def wayP (l:List Rx) (m e p:Nat):List Stp:=wayC (l.take m) e p ++ wayC (l.drop m) 0 (p + wlen (l.take m))
theorem wayP_zero (l:List Rx) (e p:Nat):wayP l 0 e p=wayC l 0 p:=by simp [wayP,wayC,wlen]
theorem wayP_all (l:List Rx) (e p:Nat) {m:Nat} (hm:l.length≤m):wayP l m e p=wayC l e p:=by simp [wayP,List.take_of_length_le hm,List.drop_eq_nil_of_le hm,wayC]
theorem wayP_split {l:List Rx} {m:Nat} {x:Rx} (h:l[m]?=some x) (e p:Nat):wayP l m e p=(wayC (l.take m) e p ++ splitS (p + wlen (l.take m) + 1) (p + wlen (l.take m) + 2 + sz x) :: code x none (p + wlen (l.take m) + 1)) ++ jumpS 0 :: wayC (l.drop (m + 1)) 0 (p + wlen (l.take m) + 2 + sz x):=by
 unfold wayP
 rw [drop_get h]
 simp [wayC]
theorem wayP_next {l:List Rx} {m:Nat} {x:Rx} (h:l[m]?=some x) (e p:Nat):wayP l (m + 1) e p=(wayC (l.take m) e p ++ splitS (p + wlen (l.take m) + 1) (p + wlen (l.take m) + 2 + sz x) :: code x none (p + wlen (l.take m) + 1)) ++ jumpS e :: wayC (l.drop (m + 1)) 0 (p + wlen (l.take m) + 2 + sz x):=by
 unfold wayP
 rw [take_snoc h,wayC_app,wlen_app]
 simp [wayC,wlen,Nat.add_assoc,Nat.add_comm,Nat.add_left_comm]
theorem wayJ_get {l:List Rx} {m:Nat} {x:Rx} (h:l[m]?=some x) (p:Nat):(wayJ l p)[m]?=some ((p + wlen (l.take m) + 1 + sz x:Nat):Int):=by
 have hm:=(List.getElem?_eq_some_iff.1 h).1
 have e:l=l.take m ++ x :: l.drop (m + 1):=by rw [← drop_get h,List.take_append_drop]
 have hl:(wayJ (l.take m) p).length=m:=by rw [wayJ_len];simp;omega
 rw [show wayJ l p=wayJ (l.take m) p ++ wayJ (x :: l.drop (m + 1)) (p + wlen (l.take m)) by rw [← wayJ_app,← e]]
 rw [List.getElem?_append_right (by omega),hl,Nat.sub_self]
 rfl
theorem wayP_head_len {l:List Rx} (hg:GoodL l) {m:Nat} {x:Rx} (h:l[m]?=some x) (e p:Nat):(wayC (l.take m) e p ++ splitS (p + wlen (l.take m) + 1) (p + wlen (l.take m) + 2 + sz x) :: code x none (p + wlen (l.take m) + 1)).length=wlen (l.take m) + 1 + sz x:=by
 simp only [List.length_append,List.length_cons,wayC_len _ _ _ (hg.take m),codeN_len (hg x (List.mem_of_getElem? h))]
 omega
theorem wayP_len {l:List Rx} (hg:GoodL l) (m e p:Nat):(wayP l m e p).length=wlen l:=by
 unfold wayP
 have h2:GoodL (l.drop m):=fun x hx=>hg x (List.mem_of_mem_drop hx)
 rw [List.length_append,wayC_len _ _ _ (hg.take m),wayC_len _ _ _ h2,← wlen_app,List.take_append_drop]
theorem wlen_take (l:List Rx):∀ k,wlen (l.take k)≤wlen l:=by
 unfold wlen
 induction l with
 | nil=>intro k;simp
 | cons y l ih=>
  intro k
  cases k with
  | zero=>simp
  | succ k=>simp only [List.take_succ_cons,List.map_cons,List.sum_cons];have:=ih k;omega
theorem wlen_sz:∀ (l:List Rx),wlen l=(l.map sz).sum + 2 * l.length
 | []=>rfl
 | x :: l=>by have:=wlen_sz l;unfold wlen at *;simp only [List.map_cons,List.sum_cons,List.length_cons,this];omega
theorem code_alt:∀ (l:Rx),Tr true l→∀ (xs:List Rx) (y:Rx),kidsR l=xs ++ [y]→∀ e p,code l (some e) p=wayC xs e p ++ code y none (p + wlen xs)
 | .nil,_,xs,y,h,_,_=>by simp [kidsR] at h
 | .set _,h,_,_,_,_,_=>h.elim
 | .node _ _,h,_,_,_,_,_=>h.elim
 | .cons x l,ht,xs,y,h,e,p=>by
  simp only [kidsR] at h
  simp only [code]
  cases xs with
  | nil=>
   simp at h
   obtain ⟨rfl,h2⟩:=h
   have hn:l=.nil:=by
    cases l with
    | nil=>rfl
    | cons=>simp [kidsR] at h2
    | set=>exact ht.2.elim
    | node=>exact ht.2.elim
   rw [if_pos hn]
   simp [wayC,wlen]
  | cons z xs=>
   simp only [List.cons_append,List.cons.injEq] at h
   obtain ⟨rfl,h2⟩:=h
   have hn:¬ l=.nil:=by rintro rfl;simp [kidsR] at h2
   rw [if_neg hn,code_alt l ht.2 xs y h2 e]
   simp only [wayC,List.cons_append,List.append_assoc,wlen,List.map_cons,List.sum_cons]
   rw [show p + 2 + sz x + (List.map (fun x=>sz x + 2) xs).sum=p + (sz x + 2 + (List.map (fun x=>sz x + 2) xs).sum) by omega]
theorem codeS_snoc:∀ (l:List Rx) (x:Rx) (p:Nat),code (lstS (l ++ [x])) none p=code (lstS l) none p ++ code x none (p + sz (lstS l))
 | [],x,p=>by simp [lstS,code,sz]
 | y :: l,x,p=>by
  simp only [List.cons_append,lstS,code,codeS_snoc l x,sz,List.append_assoc]
  rw [show p + sz y + sz (lstS l)=p + (sz y + sz (lstS l)) by omega]
theorem szS (l:List Rx):sz (lstS l)=(l.map sz).sum:=by
 induction l with
 | nil=>rfl
 | cons x l ih=>simp [lstS,sz,ih]
end Go.Rex
namespace Go.X
open Go Go.RowKit
theorem Row.turn {w:World} {t sz k:Nat} {v:Value} {xs:List Value} (h:Row w t sz v k xs) (hk:0 < k):∃ g cap cs,v=.slice (some ⟨g,0,none⟩) k cap∧Blk w g t cs∧k * sz≤cs.length∧∀ (w' : World) (i:Nat) (u:Value),i < k * sz→Blk w' g t (cs.set i u)→Row w' t sz v k (xs.set i u):=by
 obtain ⟨g,cap,cs,rfl,hb,hl,hkc,hm,htk⟩:=h.whole hk
 have hle:k * sz≤cs.length:=by rw [hl];exact Nat.mul_le_mul_right _ hkc
 refine ⟨g,cap,cs,rfl,hb,hle,fun w' i u hi hb'=>?_⟩
 have:=Row.shut (w:=w') (t:=t) (g:=g) (sz:=sz) (cap:=cap) (k:=k) hb' (by simpa using hl) hkc hm
 rw [List.take_set,htk] at this
 exact this
end Go.X
set_option linter.unusedVariables false
set_option linter.unusedSimpArgs false
set_option maxHeartbeats 2000000
set_option maxRecDepth 100000
namespace Go.Proofs.YtbcbfjnlnmhpbaaGreat
open Go Go.X Go.Rex
def OB (v:Value):Nat→Prop:=fun b=>v.ownBlock=some b
abbrev RowS (w:World) (v:Value) (P:List Stp):Prop:=Row w 226 7 v P.length (P.flatMap stC)
structure LayR (w w' : World) (v u:Value) (P:List Stp):Prop where
 row:RowS w' u P
 own:∀ b,u.ownBlock=some b→v.ownBlock=some b∨w.heap.size≤b
 mod:Mod (OB v) w w'
theorem LayR.refl {w:World} {v:Value} {P:List Stp} (h:RowS w v P):LayR w w v v P:=⟨h,fun b e=>.inl e,Mod.refl _ _⟩
theorem LayR.grow {w w' w2:World} {v u:Value} {P:List Stp} (h:LayR w w' v u P) (hg:Grow w' w2):LayR w w2 v u P:=⟨h.row.mod hg (fun _ _ h=>h),h.own,h.mod.trans (Mod.any' hg)⟩
theorem LayR.trans {w w' w2:World} {v u u2:Value} {P Q:List Stp} (h:LayR w w' v u P) (h2:LayR w' w2 u u2 Q):LayR w w2 v u2 Q:=⟨h2.row,fun b e=>by
 rcases h2.own b e with h3 | h3
 ·exact h.own b h3
 ·have:=h.mod.size;exact .inr (by omega),h.mod.then h2.mod (fun x hx e=>by rcases h.own x e with h3 | h3;exact h3;omega)⟩
theorem LayR.grow0 {w0 w w' : World} {v u:Value} {P:List Stp} (hg:Grow w0 w) (h:LayR w w' v u P):LayR w0 w' v u P:=⟨h.row,fun b e=>by
 rcases h.own b e with h3 | h3
 ·exact .inl h3
 ·have:=hg.size;exact .inr (by omega),(Mod.any' hg).trans h.mod⟩
def Far (w:World) (v:Value):Nat→Prop:=fun b=>v.ownBlock=some b∨w.heap.size≤b
def layC (x:Rx):Prop:=∀ (P:List Stp) (c:Cel) (v:Value) (w:World),RxV (OB v) w x [c]→RowS w v P→P.length + sz x≤1000→Fx Tryz.prog 202 [v,.agg (celC c).toArray] w (fun u w'=>LayR w w' v u (P ++ code x none P.length))
theorem app_one {w w1 w2:World} {v u:Value} {b:Nat} {P:List Stp} {s:Stp} {T:Nat} (hn:New w w1 b T (stC s)) (hr:Row w2 226 7 u (P.length + 1) (P.flatMap stC ++ stC s)) (hm:Mod (OB v) w1 w2) (hu:u.ownBlock=v.ownBlock∨u.ownBlock=some w1.heap.size):LayR w w2 v u (P ++ [s]):=⟨by
  show Row _ _ _ _ _ _
  rw [List.length_append,List.flatMap_append]
  simpa using hr,fun b e=>by
  rcases hu with h1 | h1
  ·exact .inl (h1 ▸ e)
  ·rw [h1] at e;cases e;have:=hn.size;exact .inr (by omega),(Mod.any' hn.grow).trans hm⟩
theorem lay_set {w w' w2:World} {v u:Value} {A:List Stp} {s s' : Stp} {R:List Stp} (h:LayR w w' v u (A ++ s :: R)) {g cap:Nat} {i:Nat} {z:Value} (hu:u=.slice (some ⟨g,0,none⟩) (A ++ s :: R).length cap) (hrow:Row w2 226 7 u (A ++ s :: R).length (((A ++ s :: R).flatMap stC).set (A.length * 7 + i) z)) (hi:i < 7) (hs:(stC s).set i z=stC s') (hm:Mod (·=g) w' w2):LayR w w2 v u (A ++ s' :: R):=by
 rw [flat_set stC 7 stC_len _ A.length i s s' z (by simp) hi hs,set_mid] at hrow
 refine ⟨by show Row _ _ _ _ _ _;simpa using hrow,h.own,h.mod.then hm fun x hx e=>?_⟩
 have e' : x=g:=e
 rcases h.own x (by rw [hu,e'];rfl) with h3 | h3
 ·exact h3
 ·omega
theorem kid_far {w:World} {v:Value} {l:Rx} {kss:List Cel} {ad:Option Addr} {n cap:Nat} (ht:Tr true l) (hn:n=kss.length) (hsl:Sl (OB v) w (.slice ad n cap) 6 kss.length (kss.flatMap celC)) (hks:RxV (OB v) w l kss) {k:Nat} (hkn:k < n) {w' : World} (hm:Mod (OB v) w w'):∃ (c:Cel) (y:Rx) (b o:Nat),ad=some ⟨b,o,none⟩∧(kidsR l)[k]?=some y∧y∈kidsR l∧RxV (Far w v) w' y [c]∧¬ OB v b∧b < w.heap.size∧∀ j u,(celC c)[j]?=some u→w'.cell? ⟨b,o + k * 6 + j,none⟩=some u:=by
 obtain ⟨c,hc⟩:∃ c,kss[k]?=some c:=⟨kss[k]'(by omega),List.getElem?_eq_getElem (by omega)⟩
 obtain ⟨y,hy,hv⟩:=RxV.kid ht hks hc
 obtain ⟨b1,o1,c1,heq,hb1,_,hcl⟩:=(hn ▸ hsl).elem celC_len hc
 cases heq
 have hf:RxV (Far w v) w y [c]:=RxV.off (fun b hb e=>e.elim (fun e=>e) (fun e=>by omega)) y hv
 exact ⟨c,y,b1,o1,rfl,hy,List.mem_of_getElem? hy,RxV.mod hm (fun b _ e=>.inl e) y hf,hb1,World.block_lt_of_cell? w _ (hcl 0 _ rfl),fun j u hj=>hm.cell (hcl j u hj) hb1⟩
theorem ways_lay {w:World} {l:Rx} {kss:List Cel} {ad:Option Addr} {n cap:Nat} (ht:Tr true l) (hn:n=kss.length) (hcap:n≤cap) (hlen:kss.length=cnt l) (h1:1≤n) (hk:∀ y∈kidsR l,layC y) (P:List Stp) (v:Value) (hsl:Sl (OB v) w (.slice ad n cap) 6 kss.length (kss.flatMap celC)) (hks:RxV (OB v) w l kss) (hv:RowS w v P) (hb:P.length + (sz l + 2 * (cnt l - 1))≤1000) :
  Fx Tryz.prog 223 [v,.slice ad n cap] w (fun u w'=>LayR w w' v u (P ++ code l (some (P.length + (sz l + 2 * (cnt l - 1)))) P.length)):=by
 have hbig:=hsl.big
 have hkl:(kidsR l).length=n:=by rw [kids_len];omega
 obtain ⟨xs,y0,hxs⟩:∃ xs y0,kidsR l=xs ++ [y0]:=⟨(kidsR l).dropLast,(kidsR l).getLast (by intro h;rw [h] at hkl;simp at hkl;omega),(List.dropLast_concat_getLast _).symm⟩
 have hxl:xs.length=n - 1:=by have:=congrArg List.length hxs;simp at this;omega
 have hgood:GoodL (kidsR l):=kids_tr ht
 have hgx:GoodL xs:=fun x hx=>hgood x (by rw [hxs];simp [hx])
 have hty:Tr false y0:=hgood y0 (by rw [hxs];simp)
 have hszl:sz l=(xs.map sz).sum + sz y0:=by rw [sz_cons l ht,hxs];simp
 have hcnt:cnt l=xs.length + 1:=by omega
 have hwl:=wlen_sz xs
 have hcode:=code_alt l ht xs y0 hxs (P.length + (sz l + 2 * (cnt l - 1))) P.length
 rw [hcode]
 have he:P.length + (sz l + 2 * (cnt l - 1))=P.length + wlen xs + sz y0:=by omega
 rw [he] at hb ⊢
 clear hcode he
 obtain ⟨e,hee⟩:∃ e,P.length + wlen xs + sz y0=e:=⟨_,rfl⟩
 rw [hee] at hb ⊢
 have hly:=codeN_len hty (P.length + wlen xs)
 refine enter Tryz.func223 rfl rfl rfl _ (Pick.sub (l:=[0,1]) (.cons rfl (.cons rfl .nil))) ?_
 refine GG ?_
 refine QQ (Yld.lenSl u178 rfl) ?_
 refine RL.p rfl rfl ?_
 refine RL.re (d:=14) rfl rfl (sub_i64 (z:=((n - 1:Nat):Int)) (by omega) (by omega) (by omega)) ?_
 refine GG ?_
 refine QQ (Yld.sliceHi u178 i180 (m:=n - 1) rfl rfl (by omega)) ?_
 refine QQ (Yld.lenSl u178 rfl) ?_
 refine GG ?_
 refine RK.loop (fun s:Nat×Value×Value=>[(0,s.2.1),(1,.slice ad n cap),(5,s.2.2),(6,.int .i64 ((n - 1:Nat):Int)),(17,.slice ad (n - 1) cap),(18,.int .i64 ((n - 1:Nat):Int)),(19,.int .i64 (s.1:Int))]) (fun s w'=>s.1≤n - 1∧LayR w w' v s.2.1 (P ++ wayC (xs.take s.1) 0 P.length)∧Row w' 3 1 s.2.2 s.1 (ints (wayJ (xs.take s.1) P.length))∧Fresh w.heap.size s.2.2∧(∀ b,s.2.2.ownBlock=some b→¬ s.2.1.ownBlock=some b)) (fun s=>n - 1 - s.1) (0,v,.slice none 0 0) ⟨rfl,rfl,rfl,rfl,rfl,rfl,rfl,trivial⟩ ⟨by simp,by simpa [wayC] using LayR.refl hv,by simpa [wayJ] using Row.nil _ _ _,fun b hb=>by simp [Value.ownBlock] at hb,fun b hb=>by simp [Value.ownBlock] at hb⟩ (fun s w1 hI ih=>?_)
 obtain ⟨k,u,jv⟩:=s
 obtain ⟨hkn,hL,hJ,hJf,hJu⟩:=hI
 simp only at hkn hL hJ hJf hJu
 have hwk:=wlen_take xs k
 have hlenk:=wayC_len (xs.take k) 0 P.length (hgx.take k)
 have hs1:=hL.mod.size
 have hpk:(P ++ wayC (xs.take k) 0 P.length).length=P.length + wlen (xs.take k):=by rw [List.length_append,hlenk]
 refine GG ?_
 refine CD (fun h20=>?_) (fun h20=>?_)
 ·obtain ⟨ck,x,b1,o1,rfl,hx,hxm,hxv,hb1,hb1l,hcl⟩:=kid_far ht hn hsl hks (k:=k) (by omega) hL.mod
  have hxk:xs[k]?=some x:=by rw [hxs,List.getElem?_append_left (by omega)] at hx;exact hx
  have hwk1:=wlen_take xs (k + 1)
  have htk:=take_snoc hxk
  have hwsn:wlen (xs.take (k + 1))=wlen (xs.take k) + (sz x + 2):=by rw [htk,wlen_app];simp [wlen]
  have hxt:=hgood x hxm
  refine GG ?_
  refine QQ (Yld.indexAddrN u178 i180 rfl rfl (by omega)) ?_
  refine QQ (Yld.loadN (cs:=celC ck) a180 rfl (atN (hcl))) ?_
  refine OP (Does.alloc i180) ?_
  rintro _ w2 ⟨b2,rfl,hn2⟩
  refine OQ (Does.storeN i180 rfl rfl rfl rfl hn2.blk (Nat.le_refl 6)) ?_
  rintro _ w3 ⟨hb3,hm3,_⟩
  have hB3:Blk w3 b2 180 (celC ck):=hb3
  have hg3:Grow w1 w3:=hn2.grow.then hm3 (fun y hy e=>by have e' : y=b2:=e;have:=hn2.at_;omega)
  have hL3:=hL.grow hg3
  have hb2:=hn2.at_
  have hs3:=hg3.size
  have huf:∀ b,u.ownBlock=some b→b < w1.heap.size:=fun b e=>hL.row.lt e
  have hjf:∀ b,jv.ownBlock=some b→b < w1.heap.size:=fun b e=>hJ.lt e
  obtain ⟨adu,cu,hue⟩:=hL.row.slice
  refine GG ?_
  refine QQ (Yld.lenSl u194 (congrArg some hue)) ?_
  refine RL.re (d:=24) rfl rfl (congrArg (Value.int .i64) (show _=((P.length + wlen (xs.take k):Nat):Int) by rw [hpk])) ?_
  refine GG ?_
  refine RK.drawM (OB u) [(0,false),(1,false),(2,false),(3,false),(6,false),(4,true),(5,true),(7,true),(8,false)] [] mixed (by kernel_rfl) ?_
  iterate 3 refine DL.p rfl rfl rfl ?_
  refine DL.re (d:=27) rfl rfl (succ_i64 (by omega)) ?_
  refine DF (Yld.build (v:=.agg #[.int .i64 2,.int .u64 0,.int .u64 0,.int .u64 0,.int .u64 0,.int .i64 ((P.length + wlen (xs.take k) + 1:Nat):Int),.int .i64 0]) rfl (fun w=>by kernel_rfl)) ?_
  have hnb2:¬ OB u b2:=fun e=>by have:=huf b2 e;omega
  refine DQ (Yld.loadN (cs:=celC ck) a180 rfl (atNM (blk0' hB3) (hnb2))) (Mod.drew _ _) ?_
  refine OD (Does.slice1 u194 i226 rfl rfl rfl rfl rfl) ?_
  rintro _ w4 ⟨b4,rfl,hn4⟩
  refine ⟨(Mod.drew _ _).trans (Mod.any' hn4.grow),?_⟩
  have hr3:RowS w3.drew u _:=hL3.row.mod (Mod.drew No _) (fun _ _ h=>h)
  refine OD (Does.append u194 i226 rfl rfl rfl rfl rfl (hr3.mod hn4.grow (fun _ _ h=>h)) (Sl.new hn4 7 1 rfl (by omega) (fun h=>h)) (rfl) (by omega)) ?_
  rintro u5 w5 ⟨hr5,hm5,hu5⟩
  have hL5:LayR w3.drew w5 u u5 ((P ++ wayC (xs.take k) 0 P.length) ++ [splitS (P.length + wlen (xs.take k) + 1) 0]):=app_one (s:=splitS (P.length + wlen (xs.take k) + 1) 0) hn4 hr5 hm5 hu5
  refine ⟨(Mod.drew _ _).trans hL5.mod,?_⟩
  have hxv5:RxV (OB u5) w5 x [ck]:=RxV.off (M:=fun b=>Far w v b) (fun b hb e=>by
    rcases hL5.own b e with h3 | h3
    ·exact hL.own b h3
    ·exact .inr (by have:w3.drew.heap.size=w3.heap.size:=rfl;omega)) x (RxV.mod hL5.mod (fun b _ e=>hL.own b e) x (RxV.grow (hg3.trans (Mod.drew _ _)) x hxv))
  have hp5:((P ++ wayC (xs.take k) 0 P.length) ++ [splitS (P.length + wlen (xs.take k) + 1) 0]).length=P.length + wlen (xs.take k) + 1:=by rw [List.length_append,hpk];rfl
  refine OD (Does.call rfl e202 (hk x hxm _ ck u5 w5 hxv5 hL5.row (by rw [hp5];omega))) ?_
  rintro u6 w6 hL6
  rw [hp5] at hL6
  have hL56:=hL5.trans hL6
  refine ⟨(Mod.drew _ _).trans hL56.mod,?_⟩
  have hL36:LayR w3 w6 u u6 _:=LayR.grow0 (Mod.drew No _) hL56
  have hs6:=hL36.mod.size
  have hL06:=(hL.grow (hg3.trans (Mod.drew No _))).trans hL56
  obtain ⟨ad6,c6,hue6⟩:=hL6.row.slice
  have hp6:((P ++ wayC (xs.take k) 0 P.length ++ [splitS (P.length + wlen (xs.take k) + 1) 0]) ++ code x none (P.length + wlen (xs.take k) + 1)).length=P.length + wlen (xs.take k) + 1 + sz x:=by rw [List.length_append,hp5,codeN_len hxt]
  have hJ6:=(hJ.mod hg3 (fun _ _ h=>h)).mod hL36.mod (fun b e=>hJu b e)
  refine GG ?_
  refine QQ (Yld.lenSl u194 (congrArg some hue6)) ?_
  refine RL.re (d:=35) rfl rfl (congrArg (Value.int .i64) (show _=((P.length + wlen (xs.take k) + 1 + sz x:Nat):Int) by rw [hp6])) ?_
  refine OP (Does.slice1 u35 i3 rfl rfl rfl rfl rfl) ?_
  rintro _ w7 ⟨b7,rfl,hn7⟩
  refine OP (Does.append u35 i3 rfl rfl rfl rfl rfl (hJ6.mod hn7.grow (fun _ _ h=>h)) (Sl.new hn7 1 1 rfl (by omega) (fun h=>h)) (rfl) (by omega)) ?_
  rintro jv8 w8 ⟨hr8,hm8,hu8⟩
  have hJ8:Row w8 3 1 jv8 (k + 1) (ints (wayJ (xs.take (k + 1)) P.length)):=by
    have e9:ints (wayJ (xs.take (k + 1)) P.length)=ints (wayJ (xs.take k) P.length) ++ [.int .i64 ((P.length + wlen (xs.take k) + 1 + sz x:Nat):Int)]:=by rw [htk,wayJ_app];simp [ints,wayJ]
    rw [e9];exact hr8
  have hb7:=hn7.at_
  have hs7:=hn7.size
  have hu6f:∀ b,u6.ownBlock=some b→b < w6.heap.size:=fun b e=>hL6.row.lt e
  have hJ8u:∀ b,jv8.ownBlock=some b→¬ u6.ownBlock=some b:=fun b e e2=>by
    have h3:=hu6f b e2
    rcases hu8 with h4 | h4
    ·have h5:=hjf b (h4 ▸ e)
     rcases hL36.own b e2 with h6 | h6
     ·exact hJu b (h4 ▸ e) h6
     ·omega
    ·rw [h4] at e;cases e;omega
  have hr6:=(hL6.row.mod hn7.grow (fun _ _ h=>h)).mod hm8 (fun b e e2=>by
    have h5:=hjf b e2
    rcases hL36.own b e with h6 | h6
    ·exact hJu b e2 h6
    ·omega)
  have hL08:LayR w w8 v u6 _:=⟨hr6,hL06.own,(hL06.mod.trans (Mod.any' hn7.grow)).then hm8 (fun b hb e=>by have:=hJf b e;omega)⟩
  refine GG ?_
  refine QQ (Yld.build (v:=.agg #[.int .i64 3,.int .u64 0,.int .u64 0,.int .u64 0,.int .u64 0,.int .i64 0,.int .i64 0]) rfl (fun w=>by kernel_rfl)) ?_
  refine OP (Does.slice1 u194 i226 rfl rfl rfl rfl rfl) ?_
  rintro _ w9 ⟨b9,rfl,hn9⟩
  refine OP (Does.append u194 i226 rfl rfl rfl rfl rfl (hr6.mod hn9.grow (fun _ _ h=>h)) (Sl.new hn9 7 1 rfl (by omega) (fun h=>h)) (rfl) (by omega)) ?_
  rintro u10 w10 ⟨hr10,hm10,hu10⟩
  have hL810:=app_one (s:=jumpS 0) hn9 hr10 hm10 hu10
  have hL10:=hL08.trans hL810
  have hp10:(((P ++ wayC (xs.take k) 0 P.length ++ [splitS (P.length + wlen (xs.take k) + 1) 0]) ++ code x none (P.length + wlen (xs.take k) + 1)) ++ [jumpS 0]).length=P.length + wlen (xs.take k) + 2 + sz x:=by rw [List.length_append,hp6];show _ + 1=_;omega
  have hJ10:Row w10 3 1 jv8 (k + 1) (ints (wayJ (xs.take (k + 1)) P.length)):=(hJ8.mod hn9.grow (fun _ _ h=>h)).mod hm10 (fun b e e2=>hJ8u b e e2)
  have hs8:=hm8.size
  have hs810:=hL810.mod.size
  have hJ8l:∀ b,jv8.ownBlock=some b→b < w8.heap.size:=fun b e=>hJ8.lt e
  have hL10':=hL10
  have hre:(((P ++ wayC (xs.take k) 0 P.length ++ [splitS (P.length + wlen (xs.take k) + 1) 0]) ++ code x none (P.length + wlen (xs.take k) + 1)) ++ [jumpS 0])=(P ++ wayC (xs.take k) 0 P.length) ++ splitS (P.length + wlen (xs.take k) + 1) 0 :: (code x none (P.length + wlen (xs.take k) + 1) ++ [jumpS 0]):=by simp
  rw [hre] at hL10 hp10
  obtain ⟨g,cap9,cs9,hue,hB9,hcs9,hturn⟩:=Row.turn hL10.row (by omega)
  subst hue
  rw [hp10] at hcs9
  refine GG ?_
  refine QQ (Yld.lenSl u194 rfl) ?_
  refine RL.re (d:=45) rfl rfl (congrArg (Value.int .i64) (show _=((P.length + wlen (xs.take k) + 2 + sz x:Nat):Int) by rw [hp10])) ?_
  refine QQ (Yld.indexAddrN u194 i226 rfl rfl (by omega)) ?_
  refine QQ (Yld.fieldAddr fo226_3 rfl) ?_
  refine OQ (Does.store i3 rfl rfl rfl hB9 (setAt_of (by omega))) ?_
  rintro _ w11 ⟨hb11,hm11,_⟩
  have hL11:=lay_set (s':=splitS (P.length + wlen (xs.take k) + 1) (P.length + wlen (xs.take k) + 2 + sz x)) (i:=6) hL10 rfl (hturn w11 _ _ (by rw [hp10,hpk];omega) (by have h9:=hb11;rw [Nat.zero_add] at h9;rw [hpk];exact h9)) (by omega) rfl hm11
  have hfin:(P ++ wayC (xs.take k) 0 P.length) ++ splitS (P.length + wlen (xs.take k) + 1) (P.length + wlen (xs.take k) + 2 + sz x) :: (code x none (P.length + wlen (xs.take k) + 1) ++ [jumpS 0])=P ++ wayC (xs.take (k + 1)) 0 P.length:=by rw [htk,wayC_app];simp [wayC]
  rw [hfin] at hL11
  have hgu:∀ b,jv8.ownBlock=some b→¬ b=g:=fun b e e2=>by
    subst e2
    have h4:=hJ8l _ e
    rcases hu10 with h5 | h5
    ·exact hJ8u _ e (h5 ▸ rfl)
    ·have h6:some b=some w9.heap.size:=h5
     cases h6
     have:=hn9.size;omega
  have hJ11:=hJ10.mod hm11 (fun b e e2=>hgu b e e2)
  have hfp:=congrArg List.length hfin
  have hfp2:(P ++ wayC (xs.take k) 0 P.length ++ splitS (P.length + wlen (xs.take k) + 1) 0 :: (code x none (P.length + wlen (xs.take k) + 1) ++ [jumpS 0])).length=(P ++ wayC (xs.take (k + 1)) 0 P.length).length:=by rw [← hfin];simp
  refine RL.done ?_
  refine RK.inBlock ?_
  refine RK.region ?_
  refine RL.p rfl rfl ?_
  refine RL.re (d:=48) rfl rfl (succ_i64 (by omega)) ?_
  refine GG ?_
  exact RK.back (ih (k + 1,.slice (some ⟨g,0,none⟩) _ cap9,jv8) _ ⟨by simp only;omega,hL11,hJ11,fun b e=>by
    rcases hu8 with h4 | h4
    ·exact hJf b (h4 ▸ e)
    ·simp only at e;rw [h4] at e;cases e;omega,fun b e e2=>hgu b e (by simp [Value.ownBlock] at e2;exact e2.symm)⟩ (by simp only;omega)) ⟨rfl,rfl,rfl,rfl,rfl,rfl,rfl,trivial⟩
 ·have hkx:k=xs.length:=by simp only at h20;omega
  have ek:xs.take k=xs:=List.take_of_length_le (by omega)
  rw [ek] at hL hJ hpk
  obtain ⟨ck,x,b1,o1,rfl,hx,hxm,hxv,hb1,hb1l,hcl⟩:=kid_far ht hn hsl hks (k:=n - 1) (by omega) hL.mod
  have hxy:x=y0:=by rw [hxs,List.getElem?_append_right (by omega)] at hx;rw [show n - 1 - xs.length=0 by omega] at hx;simpa using hx.symm
  subst hxy
  refine RK.exit rfl ?_
  refine GG ?_
  refine QQ (Yld.indexAddrN u178 i180 rfl rfl (by omega)) ?_
  refine QQ (Yld.loadN (cs:=celC ck) a180 rfl (atN (hcl))) ?_
  have hxv5:RxV (OB u) w1 x [ck]:=RxV.off (M:=fun b=>Far w v b) (fun b hb e=>hL.own b e) x hxv
  refine OP (Does.call rfl e202 (hk x hxm _ ck u w1 hxv5 hL.row (by rw [hpk];omega))) ?_
  rintro u6 w6 hL6
  rw [hpk] at hL6
  have hL06:=hL.trans hL6
  have hJ6:=hJ.mod hL6.mod (fun b e e2=>hJu b e e2)
  have hu6f:∀ b,jv.ownBlock=some b→¬ u6.ownBlock=some b:=fun b e e2=>by
    rcases hL6.own b e2 with h3 | h3
    ·exact hJu b e h3
    ·have:=hJ.lt e;omega
  obtain ⟨adj,cj,hje⟩:=hJ6.slice
  have hlJ:=wayJ_len xs P.length
  have hz0:=wayP_zero xs e P.length
  refine GG ?_
  refine QQ (Yld.lenSl u35 (congrArg some hje)) ?_
  refine GG ?_
  refine RK.loop (fun m:Nat=>[(0,u6),(55,.slice adj k cj),(56,.int .i64 (k:Int)),(57,.int .i64 (m:Int))]) (fun m w'=>m≤k∧LayR w w' v u6 (P ++ wayP xs m e P.length ++ code x none (P.length + wlen xs))∧Row w' 3 1 jv k (ints (wayJ xs P.length))) (fun m=>k - m) 0 ⟨rfl,by rw [← hje];rfl,rfl,rfl,trivial⟩ ⟨by omega,by rw [hz0];exact hL06,hJ6⟩ (fun m w7 hI2 ih2=>?_)
  obtain ⟨hmk,hLm,hJm⟩:=hI2
  refine GG ?_
  refine CD (fun h58=>?_) (fun h58=>?_)
  ·obtain ⟨z,hz⟩:∃ z,xs[m]?=some z:=⟨xs[m]'(by omega),List.getElem?_eq_getElem (by omega)⟩
   have hjz:=wayJ_get hz P.length
   have hhead:=wayP_head_len hgx hz e P.length
   have hsp:=wayP_split hz e P.length
   have hnx:=wayP_next hz e P.length
   have hwz:=wlen_take xs (m + 1)
   have hwsn:wlen (xs.take (m + 1))=wlen (xs.take m) + (sz z + 2):=by rw [take_snoc hz,wlen_app];simp [wlen]
   have hsJ:Sl No w7 (.slice adj k cj) 1 k (ints (wayJ xs P.length)):=by rw [← hje];exact Sl.own hJm (fun _ _ h=>h)
   obtain ⟨bj,oj,cj',hej,_,_,hcj⟩:=hsJ.elem1 (k:=m) (u:=.int .i64 ((P.length + wlen (xs.take m) + 1 + sz z:Nat):Int)) (by simp [ints,hjz])
   cases hej
   refine GG ?_
   refine QQ (Yld.indexAddrN u35 i3 rfl rfl (by omega)) ?_
   refine QQ (Yld.load p3 rfl (at1 (hcj m (.int .i64 ((P.length + wlen (xs.take m) + 1 + sz z:Nat):Int)) (by simp [ints,hjz])))) ?_
   rw [hsp] at hLm
   generalize hA:(wayC (xs.take m) e P.length ++ splitS (P.length + wlen (xs.take m) + 1) (P.length + wlen (xs.take m) + 2 + sz z) :: code z none (P.length + wlen (xs.take m) + 1))=A at *
   generalize hR:wayC (xs.drop (m + 1)) 0 (P.length + wlen (xs.take m) + 2 + sz z)=R at *
   have hre:P ++ (A ++ jumpS 0 :: R) ++ code x none (P.length + wlen xs)=(P ++ A) ++ jumpS 0 :: (R ++ code x none (P.length + wlen xs)):=by simp
   rw [hre] at hLm
   have hlen9:((P ++ A) ++ jumpS 0 :: (R ++ code x none (P.length + wlen xs))).length=e:=by
     have h9:=congrArg List.length hsp
     have h8:=wayP_len hgx m e P.length
     rw [h8] at h9
     simp only [List.length_append,List.length_cons] at h9 ⊢
     omega
   obtain ⟨g,cap9,cs9,hue,hB9,hcs9,hturn⟩:=Row.turn hLm.row (by omega)
   subst hue
   have hcs9':=hcs9
   rw [hlen9] at hcs9'
   refine GG ?_
   refine QQ (Yld.lenSl u194 rfl) ?_
   refine RL.re (d:=64) rfl rfl (congrArg (Value.int .i64) (show _=((e:Nat):Int) by rw [hlen9])) ?_
   refine QQ (Yld.indexAddrN u194 i226 rfl rfl (by rw [hlen9];omega)) ?_
   refine QQ (Yld.fieldAddr fo226_2 rfl) ?_
   refine OQ (Does.store i3 rfl rfl rfl hB9 (setAt_of (by omega))) ?_
   rintro _ w11 ⟨hb11,hm11,_⟩
   have hPA:(P ++ A).length=P.length + wlen (xs.take m) + 1 + sz z:=by rw [List.length_append,hhead];omega
   have hL11:=lay_set (s':=jumpS e) (i:=5) hLm rfl (hturn w11 _ _ (by rw [hlen9,hPA];omega) (by have h9:=hb11;rw [Nat.zero_add] at h9;rw [hPA];exact h9)) (by omega) rfl hm11
   have hfin:(P ++ A) ++ jumpS e :: (R ++ code x none (P.length + wlen xs))=P ++ wayP xs (m + 1) e P.length ++ code x none (P.length + wlen xs):=by rw [hnx];simp
   rw [hfin] at hL11
   refine RL.done ?_
   refine RK.inBlock ?_
   refine RK.region ?_
   refine RL.p rfl rfl ?_
   refine RL.re (d:=67) rfl rfl (succ_i64 (by omega)) ?_
   refine GG ?_
   exact RK.back (ih2 (m + 1) _ ⟨by omega,hL11,hJm.mod hm11 (fun b e1 e2=>hu6f b e1 (by have e3:b=g:=e2;rw [e3];rfl))⟩ (by omega)) ⟨rfl,rfl,rfl,rfl,trivial⟩
  ·have hm9:xs.length≤m:=by omega
   rw [wayP_all xs e P.length hm9] at hLm
   refine RK.exit rfl ?_
   refine GG ?_
   refine RK.ret_of Tryz.func223 (res1 rfl rfl) ?_ _
   exact ⟨_,rfl,by rw [← List.append_assoc];exact hLm⟩
theorem only_kid {l:Rx} (ht:Tr true l) (hc:cnt l=1):∃ y,l=.cons y .nil:=by
 cases l with
 | nil=>simp [cnt] at hc
 | set=>exact ht.elim
 | node=>exact ht.elim
 | cons y l=>
  refine ⟨y,?_⟩
  cases l with
  | nil=>rfl
  | set=>exact ht.2.elim
  | node=>exact ht.2.elim
  | cons=>simp [cnt] at hc
theorem lay_ok:∀ (m:Nat) (x:Rx),hiR x≤m→Tr false x→layC x
  | 0,.set _,h,_=>by simp [hiR] at h
  | 0,.node _ _,h,_=>by simp [hiR] at h
  | 0,.nil,_,ht=>ht.elim
  | 0,.cons _ _,_,ht=>ht.elim
  | m + 1,x,hx,ht=>by
    intro P k v w hxv hv hb
    obtain ⟨op,a,b,c,d,ad,n,cap,l,kss,rfl,h⟩:=hxv.open ht
    have hkind:=h.kind
    have hn:=h.n
    have hlen:=h.len
    have hbig:=h.sl.big
    have hvl:∀ b,v.ownBlock=some b→b < w.heap.size:=fun b e=>hv.lt e
    obtain ⟨adv,cv,rfl⟩:=hv.slice
    refine enter Tryz.func202 rfl rfl rfl _ (Pick.sub (l:=[0,1]) (.cons rfl (.cons rfl .nil))) ?_
    refine RK.seq ?_
    refine RK.region ?_
    refine RL.op (.free rfl) rfl rfl (Does.box rfl) ?_
    rintro _ w1 ⟨b3,rfl,hn1⟩
    have hb3:=hn1.at_
    have hB1:Blk w1 b3 180 [.int .i64 op,.int .u64 (a:Int),.int .u64 (b:Int),.int .u64 (c:Int),.int .u64 (d:Int),.slice ad n cap]:=hn1.blk
    have hnb3:¬ OB (.slice adv P.length cv) b3:=fun e=>by have:=hvl _ e;omega
    have hv1:RowS w1 (.slice adv P.length cv) P:=hv.mod hn1.grow (fun _ _ h=>h)
    have hs1:=hn1.size
    refine RL.p rfl rfl ?_
    refine RL.done ?_
    refine RK.seq ?_
    refine RK.region ?_
    refine RL.p rfl rfl ?_
    refine RL.q (.free rfl) rfl rfl (Yld.lenSl u194 rfl) ?_
    refine RL.p rfl rfl ?_
    refine RL.done ?_
    iterate 2 refine RK.seq ?_
    refine RK.region ?_
    refine RL.q (.free rfl) rfl rfl (Yld.fieldAddr fo180_0 rfl) ?_
    refine RL.q (.free rfl) rfl rfl (Yld.load p3 rfl (at1 (hB1.cell rfl))) ?_
    refine RL.done ?_
    refine RK.block ?_
    refine RK.seq ?_
    refine RK.region ?_
    iterate 2 refine RL.p rfl rfl ?_
    refine RL.done ?_
    first | refine RK.condD rfl (fun h12=>?_) (fun h12=>?_) | refine RK.condN rfl (fun h12=>?_) (fun h12=>?_) | refine RK.cond rfl (fun h12=>?_) (fun h12=>?_)
    · obtain ⟨hxe, hW⟩ : x = .set [a, b, c, d] ∧ W4 [a, b, c, d] := by
          rcases hkind with ⟨h1,_,_,h2⟩ | ⟨o,_,h5,_,_,_,_,h6⟩
          · exact ⟨h1,h2⟩
          · omega
      subst hxe
      refine RK.seq ?_
      refine RK.region ?_
      refine RL.p rfl rfl ?_
      refine RL.q (.free rfl) rfl rfl (Yld.fieldAddr fo180_1 rfl) ?_
      refine RL.q (.free rfl) rfl rfl (Yld.loadN (cs:=wds [a,b,c,d]) a177 rfl (atN (blk_set4 hB1))) ?_
      refine RL.q (.free rfl) rfl rfl (Yld.build (v:=.agg #[.int .i64 1,.int .u64 (a:Int),.int .u64 (b:Int),.int .u64 (c:Int),.int .u64 (d:Int),.int .i64 0,.int .i64 0]) rfl (fun w=>by kernel_rfl)) ?_
      refine RL.op (.free rfl) rfl rfl (Does.slice1 u194 i226 rfl rfl rfl rfl rfl) ?_
      rintro _ w4 ⟨b4,rfl,hn4⟩
      simp only [sz] at hb
      refine RL.op (.free rfl) rfl rfl (Does.append u194 i226 rfl rfl rfl rfl rfl (hv1.mod hn4.grow (fun _ _ h=>h)) (Sl.new hn4 7 1 rfl (by omega) (fun h=>h)) (rfl) (by omega)) ?_
      rintro u5 w5 ⟨hr5,hm5,hu5⟩
      refine RL.p rfl rfl ?_
      refine RL.done ?_
      refine RK.ret_of Tryz.func202 (res1 rfl rfl) ?_ _
      exact ⟨_,rfl,LayR.grow0 hn1.grow (app_one (s:=byteS [a,b,c,d]) hn4 hr5 hm5 hu5)⟩
    · obtain ⟨o, rfl, rfl, h3⟩ : ∃ o : Nat, x = .node o l ∧ op = o ∧ (o = 2 ∨ o = 3 ∧ cnt l ≠ 0 ∨ (o = 4 ∨ o = 5 ∨ o = 6) ∧ cnt l = 1) := by
          rcases hkind with ⟨_,_,h2,_⟩ | ⟨o,h4,h5,_,_,_,_,h6⟩
          · omega
          · exact ⟨o,h4,h5,h6⟩
      clear hkind
      have hk:∀ y∈kidsR l,layC y:=fun y hy=>lay_ok m y (by have:=hiR_kid hy;simp only [hiR] at hx;omega) (kids_tr h.tr y hy)
      refine RK.seq ?_
      refine RK.region ?_
      iterate 2 refine RL.p rfl rfl ?_
      refine RL.done ?_
      first | refine RK.condD rfl (fun h20=>?_) (fun h20=>?_) | refine RK.condN rfl (fun h20=>?_) (fun h20=>?_) | refine RK.cond rfl (fun h20=>?_) (fun h20=>?_)
      · have ho:o=2:=by omega
        subst ho
        rw [node_sz,if_pos rfl] at hb
        have hkl:(kidsR l).length=n:=by rw [kids_len];omega
        have hszl:=sz_cons l h.tr
        have hgood:GoodL (kidsR l):=kids_tr h.tr
        refine RK.seq ?_
        refine RK.region ?_
        refine RL.q (.free rfl) rfl rfl (Yld.fieldAddr fo180_2 rfl) ?_
        refine RL.q (.free rfl) rfl rfl (Yld.load p178 rfl (at1 (hB1.cell rfl))) ?_
        refine RL.q (.free rfl) rfl rfl (Yld.lenSl u178 rfl) ?_
        refine RL.p rfl rfl ?_
        refine RL.done ?_
        refine RK.block ?_
        refine RK.loop (fun s:Nat×Value=>[(0,s.2),(23,.slice ad n cap),(24,.int .i64 (n:Int)),(25,.int .i64 (s.1:Int))]) (fun s w'=>s.1≤n∧LayR w w' (.slice adv P.length cv) s.2 (P ++ code (lstS ((kidsR l).take s.1)) none P.length)) (fun s=>n - s.1) (0,.slice adv P.length cv) ⟨rfl,rfl,rfl,rfl,trivial⟩ ⟨by simp,by simpa [code,lstS] using (LayR.refl hv).grow hn1.grow⟩ (fun s w2 hI ih=>?_)
        obtain ⟨k,u⟩:=s
        obtain ⟨hkn,hL⟩:=hI
        simp only at hkn hL
        refine RK.seq ?_
        refine RK.region ?_
        refine RL.p rfl rfl ?_
        refine RL.done ?_
        refine RK.seq ?_
        first | refine RK.condD rfl (fun h26=>?_) (fun h26=>?_) | refine RK.condN rfl (fun h26=>?_) (fun h26=>?_) | refine RK.cond rfl (fun h26=>?_) (fun h26=>?_)
        · obtain ⟨ck,y,b1,o1,rfl,hy,hym,hyv,hb1,hb1l,hcl⟩:=kid_far h.tr hn h.sl h.ks (k:=k) (by simp only at h26;omega) hL.mod
          refine RK.skip ?_
          refine RK.seq ?_
          refine RK.block ?_
          refine RK.seq ?_
          refine RK.region ?_
          refine RL.q (.free rfl) rfl rfl (Yld.indexAddrN u178 i180 rfl rfl (by simp only at h26;omega)) ?_
          refine RL.q (.free rfl) rfl rfl (Yld.loadN (cs:=celC ck) a180 rfl (atN (hcl))) ?_
          refine RL.op (.free rfl) rfl rfl (Does.alloc i180) ?_
          rintro _ w5 ⟨b5,rfl,hn5⟩
          refine RL.op' (.free rfl) rfl (Does.storeN i180 rfl rfl rfl rfl hn5.blk (Nat.le_refl 6)) ?_
          rintro _ w6 ⟨hb6,hm6,_⟩
          have hB6:Blk w6 b5 180 (celC ck):=hb6
          have hg6:Grow w2 w6:=hn5.grow.then hm6 (fun y hy e=>by have e' : y=b5:=e;have:=hn5.at_;omega)
          refine RL.done ?_
          refine RK.region ?_
          refine RL.p rfl rfl ?_
          refine RL.q (.free rfl) rfl rfl (Yld.loadN (cs:=celC ck) a180 rfl (atN (blk0' hB6))) ?_
          have hyv6:RxV (OB u) w6 y [ck]:=RxV.off (M:=fun b=>Far w (.slice adv P.length cv) b) (fun b hb e=>hL.own b e) y (RxV.grow hg6 y hyv)
          have hL6:=hL.grow hg6
          have hlen1:(P ++ code (lstS ((kidsR l).take k)) none P.length).length=P.length + sz (lstS ((kidsR l).take k)):=by rw [List.length_append,codeL_len (tr_lst _ (hgood.take k))]
          have hsum:=sum_take hy
          have hle1:=sum_take_le (kidsR l) (k + 1)
          have hszt:=szS ((kidsR l).take k)
          refine RL.op (.free rfl) rfl rfl (Does.call rfl e202 (hk y hym _ ck u w6 hyv6 hL6.row (by rw [hlen1,hszt];omega))) ?_
          rintro u7 w7 hL7
          have hL8:=hL6.trans hL7
          rw [hlen1,List.append_assoc,← codeS_snoc,← take_snoc hy] at hL8
          refine RL.p rfl rfl ?_
          refine RL.done ?_
          refine RK.inBlock ?_
          refine RK.region ?_
          refine RL.p rfl rfl ?_
          refine RL.re (d:=32) rfl rfl (succ_i64 (by omega)) ?_
          refine RL.p rfl rfl ?_
          refine RL.done ?_
          exact RK.back (ih (k + 1,u7) _ ⟨by simp only at h26 ⊢;omega,hL8⟩ (by simp only at h26 ⊢;omega)) ⟨rfl,rfl,rfl,rfl,trivial⟩
        · have ek:(kidsR l).take k=kidsR l:=List.take_of_length_le (by simp only at h26;omega)
          rw [ek,lst_kids h.tr] at hL
          refine RK.exit rfl ?_
          refine RK.inBlock ?_
          refine RK.seq ?_
          refine RK.region ?_
          iterate 2 refine RL.p rfl rfl ?_
          refine RL.done ?_
          refine RK.ret_of Tryz.func202 (res1 rfl rfl) ?_ _
          exact ⟨_,rfl,hL⟩
      · refine RK.seq ?_
        refine RK.region ?_
        iterate 2 refine RL.p rfl rfl ?_
        refine RL.done ?_
        first | refine RK.condD rfl (fun h33=>?_) (fun h33=>?_) | refine RK.condN rfl (fun h33=>?_) (fun h33=>?_) | refine RK.cond rfl (fun h33=>?_) (fun h33=>?_)
        · have ho:o=3:=by omega
          subst ho
          rw [node_sz,if_neg (by omega),if_pos rfl] at hb
          refine RK.seq ?_
          refine RK.region ?_
          refine RL.p rfl rfl ?_
          refine RL.q (.free rfl) rfl rfl (Yld.fieldAddr fo180_2 rfl) ?_
          refine RL.q (.free rfl) rfl rfl (Yld.load p178 rfl (at1 (hB1.cell rfl))) ?_
          refine RL.op (.free rfl) rfl rfl (Does.call rfl e223 (ways_lay h.tr hn h.cp hlen (by omega) hk P _ ((h.sl.mod (Mod.any' hn1.grow))) (RxV.grow hn1.grow _ h.ks) hv1 (by omega))) ?_
          rintro u5 w5 hL5
          refine RL.p rfl rfl ?_
          refine RL.done ?_
          refine RK.ret_of Tryz.func202 (res1 rfl rfl) ?_ _
          exact ⟨_,rfl,LayR.grow0 hn1.grow hL5⟩
        · refine RK.seq ?_
          refine RK.region ?_
          iterate 2 refine RL.p rfl rfl ?_
          refine RL.done ?_
          first | refine RK.condD rfl (fun h39=>?_) (fun h39=>?_) | refine RK.condN rfl (fun h39=>?_) (fun h39=>?_) | refine RK.cond rfl (fun h39=>?_) (fun h39=>?_)
          · have ho:o=4:=by omega
            subst ho
            obtain ⟨ck,y,b1,o1,rfl,hy,hym,hyv,hb1,hb1l,hcl⟩:=kid_far h.tr hn h.sl h.ks (k:=0) (by omega) (Mod.any' hn1.grow)
            obtain ⟨y',rfl⟩:=only_kid h.tr (by omega)
            have hyy:y=y':=by simpa [kidsR] using hy.symm
            subst hyy
            have hyt:Tr false y:=h.tr.1
            have hszy:sz (.cons y .nil)=sz y:=by simp [sz]
            rw [node_sz] at hb
            rw [if_neg (by omega),if_neg (by omega),if_pos rfl,hszy] at hb
            refine RK.seq ?_
            refine RK.drawM (OB (.slice adv P.length cv)) [(0,false),(1,false),(2,false),(3,false),(6,false),(7,false),(8,false),(9,false),(4,true),(5,true),(10,true),(11,false)] [] mixed (by kernel_rfl) ?_
            iterate 3 refine DL.p rfl rfl rfl ?_
            refine DL.re (d:=43) rfl rfl (succ_i64 (by omega)) ?_
            refine DL.qf rfl (.free rfl) rfl rfl (Yld.build (v:=.agg #[.int .i64 2,.int .u64 0,.int .u64 0,.int .u64 0,.int .u64 0,.int .i64 ((P.length + 1:Nat):Int),.int .i64 0]) rfl (fun w=>by kernel_rfl)) ?_
            refine DL.qf rfl (.free rfl) rfl rfl (Yld.fieldAddr fo180_2 rfl) ?_
            refine DL.q rfl (.free rfl) rfl rfl rfl (Yld.load p178 rfl (atM (hB1.cell rfl) (hnb3))) (Mod.drew _ _) ?_
            refine DL.qf rfl (.free rfl) rfl rfl (Yld.indexAddr u178 i180 rfl rfl (by omega) (by omega)) ?_
            refine DL.q rfl (.free rfl) rfl rfl rfl (Yld.loadN (cs:=celC ck) a180 rfl (atNM (hcl) (hb1))) (Mod.drew _ _) ?_
            refine DL.op rfl (.free rfl) rfl rfl (Does.slice1 u194 i226 rfl rfl rfl rfl rfl) ?_
            rintro _ w4 ⟨b4,rfl,hn4⟩
            refine ⟨(Mod.drew _ _).trans (Mod.any' hn4.grow),?_⟩
            refine DL.op rfl (.free rfl) rfl rfl (Does.append u194 i226 rfl rfl rfl rfl rfl ((hv1.mod (Mod.drew No _) (fun _ _ h=>h)).mod hn4.grow (fun _ _ h=>h)) (Sl.new hn4 7 1 rfl (by omega) (fun h=>h)) (rfl) (by omega)) ?_
            rintro u5 w5 ⟨hr5,hm5,hu5⟩
            have hL5:LayR w1.drew w5 (.slice adv P.length cv) u5 (P ++ [splitS (P.length + 1) 0]):=app_one (s:=splitS (P.length + 1) 0) hn4 hr5 hm5 hu5
            refine ⟨(Mod.drew _ _).trans hL5.mod,?_⟩
            have hyv5 : RxV (OB u5) w5 y [ck] := RxV.off (M := fun b => Far w (.slice adv P.length cv) b) (fun b hb e => by
                rcases hL5.own b e with h3 | h3
                · exact .inl h3
                · exact .inr (by have:w1.drew.heap.size=w1.heap.size:=rfl;omega)) y (RxV.mod hL5.mod (fun b _ e=>.inl e) y (RxV.grow (Mod.drew _ _) y hyv))
            have hp5:(P ++ [splitS (P.length + 1) 0]).length=P.length + 1:=by simp
            refine DL.op rfl (.free rfl) rfl rfl (Does.call rfl e202 (hk y (by simp [kidsR]) _ ck u5 w5 hyv5 hL5.row (by rw [hp5];omega))) ?_
            rintro u6 w6 hL6
            rw [hp5] at hL6
            have hL56:=hL5.trans hL6
            refine ⟨(Mod.drew _ _).trans hL56.mod,?_⟩
            have hL06:LayR w w6 (.slice adv P.length cv) u6 _:=LayR.grow0 (hn1.grow.trans (Mod.drew _ _)) hL56
            have hp6:((P ++ [splitS (P.length + 1) 0]) ++ code y none (P.length + 1)).length=P.length + 1 + sz y:=by rw [List.length_append,hp5,codeN_len hyt]
            refine DL.p rfl rfl rfl ?_
            refine DL.done ?_
            refine RK.seq ?_
            refine RK.region ?_
            iterate 2 refine RL.p rfl rfl ?_
            refine RL.q (.free rfl) rfl rfl (Yld.build (v:=.agg #[.int .i64 3,.int .u64 0,.int .u64 0,.int .u64 0,.int .u64 0,.int .i64 ((P.length:Nat):Int),.int .i64 0]) rfl (fun w=>by kernel_rfl)) ?_
            refine RL.op (.free rfl) rfl rfl (Does.slice1 u194 i226 rfl rfl rfl rfl rfl) ?_
            rintro _ w7 ⟨b7,rfl,hn7⟩
            refine RL.op (.free rfl) rfl rfl (Does.append u194 i226 rfl rfl rfl rfl rfl (hL06.row.mod hn7.grow (fun _ _ h=>h)) (Sl.new hn7 7 1 rfl (by omega) (fun h=>h)) (rfl) (by omega)) ?_
            rintro u8 w8 ⟨hr8,hm8,hu8⟩
            have hL9:=hL06.trans (app_one (s:=jumpS P.length) hn7 hr8 hm8 hu8)
            have hre:(((P ++ [splitS (P.length + 1) 0]) ++ code y none (P.length + 1)) ++ [jumpS P.length])=P ++ splitS (P.length + 1) 0 :: (code y none (P.length + 1) ++ [jumpS P.length]):=by simp
            have hp9:(P ++ splitS (P.length + 1) 0 :: (code y none (P.length + 1) ++ [jumpS P.length])).length=P.length + 2 + sz y:=by rw [← hre,List.length_append,hp6];show _ + 1=_;omega
            rw [hre] at hL9
            obtain ⟨g,cap9,cs9,hue,hB9,hcs9,hturn⟩:=Row.turn hL9.row (by omega)
            subst hue
            rw [hp9] at hcs9
            refine RL.p rfl rfl ?_
            refine RL.done ?_
            refine RK.region ?_
            iterate 3 refine RL.p rfl rfl ?_
            refine RL.q (.free rfl) rfl rfl (Yld.lenSl u194 rfl) ?_
            refine RL.re (d:=60) rfl rfl (congrArg (Value.int .i64) (show _=((P.length + 2 + sz y:Nat):Int) by rw [hp9])) ?_
            refine RL.q (.free rfl) rfl rfl (Yld.indexAddrN u194 i226 rfl rfl (by omega)) ?_
            refine RL.q (.free rfl) rfl rfl (Yld.fieldAddr fo226_3 rfl) ?_
            refine RL.op' (.free rfl) rfl (Does.store i3 rfl rfl rfl hB9 (setAt_of (by omega))) ?_
            rintro _ w11 ⟨hb11,hm11,_⟩
            have hL11:=lay_set (s':=splitS (P.length + 1) (P.length + 2 + sz y)) (i:=6) hL9 rfl (hturn w11 _ _ (by rw [hp9];omega) (by have h9:=hb11;rw [Nat.zero_add] at h9;exact h9)) (by omega) rfl hm11
            refine RL.done ?_
            refine RK.inBlock ?_
            refine RK.seq ?_
            refine RK.region ?_
            iterate 2 refine RL.p rfl rfl ?_
            refine RL.done ?_
            refine RK.ret_of Tryz.func202 (res1 rfl rfl) ?_ _
            exact ⟨_,rfl,by simpa [code,sz] using hL11⟩
          · refine RK.seq ?_
            refine RK.region ?_
            iterate 2 refine RL.p rfl rfl ?_
            refine RL.done ?_
            first | refine RK.condD rfl (fun h63=>?_) (fun h63=>?_) | refine RK.condN rfl (fun h63=>?_) (fun h63=>?_) | refine RK.cond rfl (fun h63=>?_) (fun h63=>?_)
            · have ho:o=5:=by omega
              subst ho
              obtain ⟨ck,y,b1,o1,rfl,hy,hym,hyv,hb1,hb1l,hcl⟩:=kid_far h.tr hn h.sl h.ks (k:=0) (by omega) (Mod.any' hn1.grow)
              obtain ⟨y',rfl⟩:=only_kid h.tr (by omega)
              have hyy:y=y':=by simpa [kidsR] using hy.symm
              subst hyy
              have hyt:Tr false y:=h.tr.1
              have hszy:sz (.cons y .nil)=sz y:=by simp [sz]
              rw [node_sz] at hb
              rw [if_neg (by omega),if_neg (by omega),if_neg (by omega),hszy] at hb
              refine RK.seq ?_
              refine RK.region ?_
              refine RL.p rfl rfl ?_
              refine RL.q (.free rfl) rfl rfl (Yld.fieldAddr fo180_2 rfl) ?_
              refine RL.q (.free rfl) rfl rfl (Yld.load p178 rfl (at1 (hB1.cell rfl))) ?_
              refine RL.q (.free rfl) rfl rfl (Yld.indexAddr u178 i180 rfl rfl (by omega) (by omega)) ?_
              refine RL.q (.free rfl) rfl rfl (Yld.loadN (cs:=celC ck) a180 rfl (atN (hcl))) ?_
              have hyv5:RxV (OB (.slice adv P.length cv)) w1 y [ck]:=RxV.off (M:=fun b=>Far w (.slice adv P.length cv) b) (fun b hb e=>.inl e) y hyv
              refine RL.op (.free rfl) rfl rfl (Does.call rfl e202 (hk y (by simp [kidsR]) _ ck _ w1 hyv5 hv1 (by omega))) ?_
              rintro u6 w6 hL6
              have hL06:=LayR.grow0 hn1.grow hL6
              have hp6:(P ++ code y none P.length).length=P.length + sz y:=by rw [List.length_append,codeN_len hyt]
              obtain ⟨ad6,c6,hue6⟩:=hL6.row.slice
              refine RL.p rfl rfl ?_
              refine RL.done ?_
              refine RK.region ?_
              iterate 3 refine RL.p rfl rfl ?_
              refine RL.q (.free rfl) rfl rfl (Yld.lenSl u194 (congrArg some hue6)) ?_
              refine RL.re (d:=74) rfl rfl (congrArg (Value.int .i64) (show _=((P.length + sz y:Nat):Int) by rw [hp6])) ?_
              refine RL.p rfl rfl ?_
              refine RL.re (d:=75) rfl rfl (succ_i64 (by omega)) ?_
              refine RL.q (.free rfl) rfl rfl (Yld.build (v:=.agg #[.int .i64 2,.int .u64 0,.int .u64 0,.int .u64 0,.int .u64 0,.int .i64 ((P.length:Nat):Int),.int .i64 ((P.length + sz y + 1:Nat):Int)]) rfl (fun w=>by kernel_rfl)) ?_
              refine RL.op (.free rfl) rfl rfl (Does.slice1 u194 i226 rfl rfl rfl rfl rfl) ?_
              rintro _ w7 ⟨b7,rfl,hn7⟩
              refine RL.op (.free rfl) rfl rfl (Does.append u194 i226 rfl rfl rfl rfl rfl (hL06.row.mod hn7.grow (fun _ _ h=>h)) (Sl.new hn7 7 1 rfl (by omega) (fun h=>h)) (rfl) (by omega)) ?_
              rintro u8 w8 ⟨hr8,hm8,hu8⟩
              have hL9:=hL06.trans (app_one (s:=splitS P.length (P.length + sz y + 1)) hn7 hr8 hm8 hu8)
              refine RL.p rfl rfl ?_
              refine RL.done ?_
              refine RK.inBlock ?_
              refine RK.seq ?_
              refine RK.region ?_
              iterate 2 refine RL.p rfl rfl ?_
              refine RL.done ?_
              refine RK.ret_of Tryz.func202 (res1 rfl rfl) ?_ _
              exact ⟨_,rfl,by simpa [code,sz] using hL9⟩
            · have ho:o=6:=by omega
              subst ho
              refine RK.seq ?_
              refine RK.region ?_
              iterate 2 refine RL.p rfl rfl ?_
              refine RL.done ?_
              refine RK.condT (hcT rfl (decide_eq_true (by omega))) ?_
              obtain ⟨ck,y,b1,o1,rfl,hy,hym,hyv,hb1,hb1l,hcl⟩:=kid_far h.tr hn h.sl h.ks (k:=0) (by omega) (Mod.any' hn1.grow)
              obtain ⟨y',rfl⟩:=only_kid h.tr (by omega)
              have hyy:y=y':=by simpa [kidsR] using hy.symm
              subst hyy
              have hyt:Tr false y:=h.tr.1
              have hszy:sz (.cons y .nil)=sz y:=by simp [sz]
              rw [node_sz] at hb
              rw [if_neg (by omega),if_neg (by omega),if_neg (by omega),hszy] at hb
              refine RK.seq ?_
              refine RK.drawM (OB (.slice adv P.length cv)) [(0,false),(1,false),(2,false),(3,false),(6,false),(7,false),(8,false),(9,false),(4,true),(5,true),(10,true),(11,false)] [] mixed (by kernel_rfl) ?_
              iterate 3 refine DL.p rfl rfl rfl ?_
              refine DL.re (d:=83) rfl rfl (succ_i64 (by omega)) ?_
              refine DL.qf rfl (.free rfl) rfl rfl (Yld.build (v:=.agg #[.int .i64 2,.int .u64 0,.int .u64 0,.int .u64 0,.int .u64 0,.int .i64 ((P.length + 1:Nat):Int),.int .i64 0]) rfl (fun w=>by kernel_rfl)) ?_
              refine DL.qf rfl (.free rfl) rfl rfl (Yld.fieldAddr fo180_2 rfl) ?_
              refine DL.q rfl (.free rfl) rfl rfl rfl (Yld.load p178 rfl (atM (hB1.cell rfl) (hnb3))) (Mod.drew _ _) ?_
              refine DL.qf rfl (.free rfl) rfl rfl (Yld.indexAddr u178 i180 rfl rfl (by omega) (by omega)) ?_
              refine DL.q rfl (.free rfl) rfl rfl rfl (Yld.loadN (cs:=celC ck) a180 rfl (atNM (hcl) (hb1))) (Mod.drew _ _) ?_
              refine DL.op rfl (.free rfl) rfl rfl (Does.slice1 u194 i226 rfl rfl rfl rfl rfl) ?_
              rintro _ w4 ⟨b4,rfl,hn4⟩
              refine ⟨(Mod.drew _ _).trans (Mod.any' hn4.grow),?_⟩
              refine DL.op rfl (.free rfl) rfl rfl (Does.append u194 i226 rfl rfl rfl rfl rfl ((hv1.mod (Mod.drew No _) (fun _ _ h=>h)).mod hn4.grow (fun _ _ h=>h)) (Sl.new hn4 7 1 rfl (by omega) (fun h=>h)) (rfl) (by omega)) ?_
              rintro u5 w5 ⟨hr5,hm5,hu5⟩
              have hL5:LayR w1.drew w5 (.slice adv P.length cv) u5 (P ++ [splitS (P.length + 1) 0]):=app_one (s:=splitS (P.length + 1) 0) hn4 hr5 hm5 hu5
              refine ⟨(Mod.drew _ _).trans hL5.mod,?_⟩
              have hyv5 : RxV (OB u5) w5 y [ck] := RxV.off (M := fun b => Far w (.slice adv P.length cv) b) (fun b hb e => by
                  rcases hL5.own b e with h3 | h3
                  · exact .inl h3
                  · exact .inr (by have:w1.drew.heap.size=w1.heap.size:=rfl;omega)) y (RxV.mod hL5.mod (fun b _ e=>.inl e) y (RxV.grow (Mod.drew _ _) y hyv))
              have hp5:(P ++ [splitS (P.length + 1) 0]).length=P.length + 1:=by simp
              refine DL.op rfl (.free rfl) rfl rfl (Does.call rfl e202 (hk y (by simp [kidsR]) _ ck u5 w5 hyv5 hL5.row (by rw [hp5];omega))) ?_
              rintro u6 w6 hL6
              rw [hp5] at hL6
              have hL56:=hL5.trans hL6
              refine ⟨(Mod.drew _ _).trans hL56.mod,?_⟩
              have hL06:LayR w w6 (.slice adv P.length cv) u6 _:=LayR.grow0 (hn1.grow.trans (Mod.drew _ _)) hL56
              have hp6:((P ++ [splitS (P.length + 1) 0]) ++ code y none (P.length + 1)).length=P.length + 1 + sz y:=by rw [List.length_append,hp5,codeN_len hyt]
              have hre:((P ++ [splitS (P.length + 1) 0]) ++ code y none (P.length + 1))=P ++ splitS (P.length + 1) 0 :: code y none (P.length + 1):=by simp
              have hp9:(P ++ splitS (P.length + 1) 0 :: code y none (P.length + 1)).length=P.length + 1 + sz y:=by rw [← hre,hp6]
              have hL9:=hL06
              rw [hre] at hL9
              obtain ⟨g,cap9,cs9,hue,hB9,hcs9,hturn⟩:=Row.turn hL9.row (by omega)
              subst hue
              rw [hp9] at hcs9
              refine DL.p rfl rfl rfl ?_
              refine DL.done ?_
              refine RK.region ?_
              iterate 3 refine RL.p rfl rfl ?_
              refine RL.q (.free rfl) rfl rfl (Yld.lenSl u194 rfl) ?_
              refine RL.re (d:=95) rfl rfl (congrArg (Value.int .i64) (show _=((P.length + 1 + sz y:Nat):Int) by rw [hp9])) ?_
              refine RL.q (.free rfl) rfl rfl (Yld.indexAddrN u194 i226 rfl rfl (by omega)) ?_
              refine RL.q (.free rfl) rfl rfl (Yld.fieldAddr fo226_3 rfl) ?_
              refine RL.op' (.free rfl) rfl (Does.store i3 rfl rfl rfl hB9 (setAt_of (by omega))) ?_
              rintro _ w11 ⟨hb11,hm11,_⟩
              have hL11:=lay_set (s':=splitS (P.length + 1) (P.length + 1 + sz y)) (i:=6) hL9 rfl (hturn w11 _ _ (by rw [hp9];omega) (by have h9:=hb11;rw [Nat.zero_add] at h9;exact h9)) (by omega) rfl hm11
              refine RL.done ?_
              refine RK.inBlock ?_
              refine RK.seq ?_
              refine RK.region ?_
              iterate 2 refine RL.p rfl rfl ?_
              refine RL.done ?_
              refine RK.ret_of Tryz.func202 (res1 rfl rfl) ?_ _
              exact ⟨_,rfl,by simpa [code,sz] using hL11⟩
theorem progMake_ok (x:Rx) (ht:Tr false x) (hs:sz x≤1000) (M:Nat→Prop) (k:Cel) (w:World) (hv:RxV M w x [k]):Fx Tryz.prog 169 [.agg (celC k).toArray] w (fun u w'=>(∃ v,u=.tuple #[v,.bool (decide (sz x + 1≤40))]∧(sz x + 1≤40→RowS w' v (whole x)))∧Grow w w'):=by
 refine enter Tryz.func169 rfl rfl rfl _ (Pick.sub (l:=[0]) (.cons rfl .nil)) ?_
 refine GG ?_
 refine OP (Does.box rfl) ?_
 rintro _ w1 ⟨b1,rfl,hn1⟩
 refine GG ?_
 refine QQ (Yld.loadN (cs:=celC k) a180 rfl (atN (blk0' hn1.blk))) ?_
 refine OP (Does.call rfl e201 (sizeM_ok x ht hs M k _ (RxV.grow hn1.grow x hv))) ?_
 rintro _ w2 ⟨rfl,hg2⟩
 refine GG ?_
 refine RL.knownF (d:=9) rfl rfl (decide_eq_false (by omega)) ?_
 iterate 2 refine QQ (Yld.pure rfl) ?_
 refine GG ?_
 refine CD (fun h12=>?_) (fun h12=>?_)
 ·refine GG ?_
  refine RK.ret_of Tryz.func169 (res2 rfl rfl rfl) ?_ _
  exact ⟨_,rfl,⟨_,by rw [decide_eq_false (by omega)],fun h=>by omega⟩,hn1.grow.trans hg2⟩
 ·refine GG ?_
  refine QQ (Yld.loadN (cs:=celC k) a180 rfl (atN (blk0' (hn1.blk.mod hg2 (fun h=>h))))) ?_
  refine OP (Does.call rfl e202 (lay_ok _ x (Nat.le_refl _) ht [] k (.slice none 0 0) w2 (RxV.off (M:=fun _=>False) (fun b _ e=>by simp [OB,Value.ownBlock] at e) x (RxV.off (fun b _ e=>e.elim) x (RxV.grow (hn1.grow.trans hg2) x hv))) (Row.nil _ _ _) (by simp;omega))) ?_
  rintro u3 w3 hL3
  refine QQ (Yld.build (v:=.agg #[.int .i64 4,.int .u64 0,.int .u64 0,.int .u64 0,.int .u64 0,.int .i64 0,.int .i64 0]) rfl (fun w=>by kernel_rfl)) ?_
  refine OP (Does.slice1 u194 i226 rfl rfl rfl rfl rfl) ?_
  rintro _ w4 ⟨b4,rfl,hn4⟩
  have hp3:([] ++ code x none ([]:List Stp).length).length=sz x:=by simp [codeN_len ht]
  refine OP (Does.append u194 i226 rfl rfl rfl rfl rfl (hL3.row.mod hn4.grow (fun _ _ h=>h)) (Sl.new hn4 7 1 rfl (by omega) (fun h=>h)) (rfl) (by rw [hp3];omega)) ?_
  rintro u5 w5 ⟨hr5,hm5,hu5⟩
  have hL5:=hL3.trans (app_one (s:=matchS) hn4 hr5 hm5 hu5)
  refine GG ?_
  refine RK.ret_of Tryz.func169 (res2 rfl rfl rfl) ?_ _
  exact ⟨_,rfl,⟨_,by rw [decide_eq_true (by omega)],fun _=>by simpa [whole] using hL5.row⟩,(hn1.grow.trans hg2).trans (hL5.mod.mono fun b _ e=>by simp [OB,Value.ownBlock] at e)⟩
end Go.Proofs.YtbcbfjnlnmhpbaaGreat
set_option linter.unusedVariables false
set_option linter.unusedSimpArgs false
set_option maxHeartbeats 1000000
set_option maxRecDepth 100000
namespace Go.Rex
open Go Go.X
theorem bit1 (a c:Nat):a >>> c &&& 1=1↔a.testBit c=true:=by
 rw [Nat.testBit,Nat.and_comm]
 have:1 &&& a >>> c=(a >>> c) % 2:=by rw [Nat.and_comm];exact Nat.and_one_is_mod _
 rw [this]
 simp
theorem bit1I (a c:Nat):((a >>> c &&& 1:Nat):Int)=1↔a.testBit c=true:=by
 rw [← bit1]
 exact ⟨fun h=>by exact_mod_cast h,fun h=>by exact_mod_cast h⟩
def inB (t:List Nat) (c:Nat):Bool:=((t[c / 64]?).getD 0).testBit (c % 64)
def HS (s:ByteArray) (t:List Nat) (i:Nat):Prop:=i < s.size∧inB t (b8 s i)=true
open Classical in
noncomputable def takes (x:Rx) (s:ByteArray):Bool:=decide (Lg (HS s) x true 0 s.size)
theorem takes_iff (x:Rx) (s:ByteArray):takes x s=true↔Lg (HS s) x true 0 s.size:=by unfold takes;simp
structure OkP (P:List Stp):Prop where
 one:1≤P.length
 le:P.length≤40
 at_:∀ i st,P[i]?=some st→W4 st.set∧(i + 1 < P.length∧okS P.length st∨i + 1=P.length∧st=matchS)
theorem code_w4:∀ (x:Rx) (b:Bool),Tr b x→∀ p,(∀ s∈code x none p,W4 s.set)∧∀ e,∀ s∈code x (some e) p,W4 s.set:=by
 intro x
 induction x with
 | set t=>
  intro b h p
  cases b with
  | true=>exact h.elim
  | false=>exact ⟨fun s hs=>by simp [code] at hs;subst hs;exact h,fun e s hs=>by simp [code] at hs;subst hs;exact h⟩
 | nil=>intro b h p;exact ⟨fun s hs=>by simp [code] at hs,fun e s hs=>by simp [code] at hs⟩
 | node op l ih=>
  intro b h p
  cases b with
  | true=>exact h.elim
  | false=>
   have h1:=ih true h.2
   have key:∀ e,∀ s∈code (.node op l) e p,W4 s.set:=by
    intro e s hs
    simp only [code] at hs
    split at hs
    ·exact (h1 _).1 s hs
    ·split at hs
     ·exact (h1 _).2 _ s hs
     ·split at hs
      ·rcases List.mem_cons.1 hs with rfl | hs
       ·exact W4.zero
       ·rcases List.mem_append.1 hs with hs | hs
        ·exact (h1 _).1 s hs
        ·simp at hs;subst hs;exact W4.zero
      ·split at hs
       ·rcases List.mem_append.1 hs with hs | hs
        ·exact (h1 _).1 s hs
        ·simp at hs;subst hs;exact W4.zero
       ·rcases List.mem_cons.1 hs with rfl | hs
        ·exact W4.zero
        ·exact (h1 _).1 s hs
   exact ⟨key none,fun e=>key (some e)⟩
 | cons x l ihx ihl=>
  intro b h p
  cases b with
  | false=>exact h.elim
  | true=>
   have hx:=ihx false h.1
   have hl:=ihl true h.2
   refine ⟨fun s hs=>?_,fun e s hs=>?_⟩
   ·simp only [code] at hs
    rcases List.mem_append.1 hs with hs | hs
    ·exact (hx _).1 s hs
    ·exact (hl _).1 s hs
   ·simp only [code] at hs
    split at hs
    ·exact (hx _).1 s hs
    ·rcases List.mem_cons.1 hs with rfl | hs
     ·exact W4.zero
     ·rcases List.mem_append.1 hs with hs | hs
      ·exact (hx _).1 s hs
      ·rcases List.mem_cons.1 hs with rfl | hs
       ·exact W4.zero
       ·exact (hl _).2 _ s hs
theorem whole_ok {x:Rx} (ht:Tr false x) (hs:sz x + 1≤40):OkP (whole x):=by
 obtain ⟨hw,hl,_⟩:=tr_wf x false ht
 have hlen:=whole_len hw hl
 refine ⟨by omega,by omega,fun i st h=>⟨?_,?_⟩⟩
 ·have hm:st∈code x none 0 ++ [matchS]:=List.mem_of_getElem? h
  rcases List.mem_append.1 hm with h1 | h1
  ·exact (code_w4 x false ht 0).1 st h1
  ·simp at h1;subst h1;exact W4.zero
 ·rcases whole_at hw hl h with ⟨h1,h2⟩ | ⟨h1,h2⟩
  ·exact .inl ⟨by omega,by rw [hlen];exact h2⟩
  ·exact .inr ⟨by omega,h2⟩
end Go.Rex
namespace Go.Proofs.YtbcbfjnlnmhpbaaGreat
open Go Go.X Go.Rex
def stV (s:Stp):Value:=.agg (stC s).toArray
theorem stepIn_ok (n at_ b:Nat) (w:World) (hb:Blk w b 3 [.int .i64 (n:Int)]):Fx Tryz.prog 225 [.int .i64 (at_:Int),pp b] w (fun u w'=>u=.bool (decide (at_ < n))∧w=w'):=by
 refine enter Tryz.func225 rfl rfl rfl _ (Pick.sub (l:=[0,1]) (.cons rfl (.cons rfl .nil))) ?_
 refine GG ?_
 refine RL.knownT (d:=6) rfl rfl (decide_eq_true (Int.natCast_nonneg at_)) ?_
 refine QQ (Yld.pure rfl) ?_
 refine QQ (Yld.load p3 rfl (at1 (hb.cell rfl))) ?_
 refine QQ (Yld.pure rfl) ?_
 refine GG ?_
 refine RK.ret_of Tryz.func225 (res1 rfl rfl) ?_ _
 exact ⟨_,rfl,congrArg _ (by simp),rfl⟩
theorem blk_set4s {w:World} {b1 t:Nat} {op:Int} {a b c d:Nat} {v u:Value} (h:Blk w b1 t [.int .i64 op,.int .u64 (a:Int),.int .u64 (b:Int),.int .u64 (c:Int),.int .u64 (d:Int),v,u]):∀ (j:Nat) (z:Value),(wds [a,b,c,d])[j]?=some z→w.cell? ⟨b1,0 + 1 + j,none⟩=some z:=blk_mid (rest:=[v,u]) (ws:=wds [a,b,c,d]) h
theorem right_ok (n:Nat) (s:Stp) (last:Bool) (hw:W4 s.set) (h:last=false∧okS n s∨last=true∧s=matchS) (w:World):Fx Tryz.prog 205 [stV s,.int .i64 (n:Int),.bool last] w (fun u w'=>u=.bool true∧Grow w w'):=by
 obtain ⟨op,t,a,b⟩:=s
 obtain ⟨x0,x1,x2,x3,rfl⟩:=W4.four hw
 have hkind:op=1∧a=0∧b=0∧last=false∨(op=2∧a < n∧b < n∨op=3∧a < n∧b=0∨op=4∧a=0∧b=0)∧x0=0∧x1=0∧x2=0∧x3=0:=by
  rcases h with ⟨h1,h2⟩ | ⟨h1,h2⟩
  ·rcases h2 with ⟨h3,h4,h5⟩ | ⟨h3,h4,h5,h6⟩ | ⟨h3,h4,h5,h6⟩
   ·exact .inl ⟨h3,h4,h5,h1⟩
   ·simp only [zero4,List.cons.injEq] at h6;exact .inr ⟨.inl ⟨h3,h4,h5⟩,by omega⟩
   ·simp only [zero4,List.cons.injEq] at h6;exact .inr ⟨.inr (.inl ⟨h3,h4,h5⟩),by omega⟩
  ·simp only [matchS,zero4,Stp.mk.injEq,List.cons.injEq] at h2
   exact .inr ⟨.inr (.inr ⟨h2.1,h2.2.2.1,h2.2.2.2⟩),by omega⟩
 clear h
 refine enter Tryz.func205 rfl rfl rfl _ (Pick.sub (l:=[0,1,2]) (.cons rfl (.cons rfl (.cons rfl .nil)))) ?_
 refine GG ?_
 refine OP (Does.box rfl) ?_
 rintro _ w1 ⟨b1,rfl,hn1⟩
 have hB1' : Blk w1 b1 226 [.int .i64 (op:Int),.int .u64 (x0:Int),.int .u64 (x1:Int),.int .u64 (x2:Int),.int .u64 (x3:Int),.int .i64 (a:Int),.int .i64 (b:Int)]:=hn1.blk
 refine OP (Does.box rfl) ?_
 rintro _ w2 ⟨b2,rfl,hn2⟩
 have hB1:=hB1'.mod hn2.grow (fun h=>h)
 have hg2:=hn1.grow.trans hn2.grow
 refine RL.p rfl rfl ?_
 refine RL.done ?_
 refine RK.seq ?_
 refine RK.region ?_
 iterate 2 refine RL.p rfl rfl ?_
 refine RL.done ?_
 refine RK.seq ?_
 refine RK.cut [(2,.bool last),(3,pp b1),(4,pp b2),(7,.func (.func 225) #[] #[pp b2])] (fun w'=>w'=w2) (fun w3 hQ=>?_) (fun hj=>?_)
 ·subst hQ
  refine GG ?_
  refine QQ (Yld.fieldAddr fo226_0 rfl) ?_
  refine QQ (Yld.load p3 rfl (at1 (hB1.cell rfl))) ?_
  refine GG ?_
  refine CD (fun h20=>?_) (fun h20=>?_)
  ·have ho:a=0∧b=0∧last=false:=by rcases hkind with h9 | ⟨h9,_⟩;exact h9.2;(exfalso;omega)
   obtain ⟨rfl,rfl,rfl⟩:=ho
   refine GG ?_
   refine QQ (Yld.fieldAddr fo226_2 rfl) ?_
   refine QQ (Yld.load p3 rfl (at1 (hB1.cell rfl))) ?_
   refine GG ?_
   refine RL.knownT (d:=25) rfl rfl (rfl) ?_
   refine QQ (Yld.fieldAddr fo226_3 rfl) ?_
   refine QQ (Yld.load p3 rfl (at1 (hB1.cell rfl))) ?_
   refine QQ (Yld.pure rfl) ?_
   refine GG ?_
   refine RL.knownT (d:=30) rfl rfl (rfl) ?_
   iterate 2 refine QQ (Yld.pure rfl) ?_
   refine GG ?_
   refine RK.ret_of Tryz.func205 (res1 rfl rfl) ?_ _
   exact ⟨_,rfl,rfl,hg2⟩
  ·refine GG ?_
   refine CD (fun h34=>?_) (fun h34=>?_)
   ·have ho:a < n∧b < n:=by omega
    refine GG ?_
    refine QQ (Yld.fieldAddr fo226_2 rfl) ?_
    refine QQ (Yld.load p3 rfl (at1 (hB1.cell rfl))) ?_
    refine OP (Does.callv rfl rfl e225 (stepIn_ok n a b2 _ hn2.blk)) ?_
    rintro _ _ ⟨rfl,rfl⟩
    refine RL.p rfl rfl ?_
    refine RL.knownT (d:=40) rfl rfl (decide_eq_true ho.1) ?_
    refine QQ (Yld.pure rfl) ?_
    refine QQ (Yld.fieldAddr fo226_3 rfl) ?_
    refine QQ (Yld.load p3 rfl (at1 (hB1.cell rfl))) ?_
    refine OP (Does.callv rfl rfl e225 (stepIn_ok n b b2 _ hn2.blk)) ?_
    rintro _ _ ⟨rfl,rfl⟩
    refine GG ?_
    refine RK.ret_of Tryz.func205 (res1 rfl rfl) ?_ _
    exact ⟨_,rfl,by simp [ho],hg2⟩
   ·refine GG ?_
    refine CD (fun h46=>?_) (fun h46=>?_)
    ·have ho:a < n∧b=0:=by omega
     refine GG ?_
     refine QQ (Yld.fieldAddr fo226_2 rfl) ?_
     refine QQ (Yld.load p3 rfl (at1 (hB1.cell rfl))) ?_
     refine OP (Does.callv rfl rfl e225 (stepIn_ok n a b2 _ hn2.blk)) ?_
     rintro _ _ ⟨rfl,rfl⟩
     refine RL.p rfl rfl ?_
     refine RL.knownT (d:=52) rfl rfl (decide_eq_true ho.1) ?_
     refine QQ (Yld.fieldAddr fo226_3 rfl) ?_
     refine QQ (Yld.load p3 rfl (at1 (hB1.cell rfl))) ?_
     refine QQ (Yld.pure rfl) ?_
     refine GG ?_
     refine RK.ret_of Tryz.func205 (res1 rfl rfl) ?_ _
     exact ⟨_,rfl,by simp [ho],hg2⟩
    ·have ho:op=4∧a=0∧b=0:=by omega
     refine GG ?_
     refine QQ (Yld.fieldAddr fo226_0 rfl) ?_
     refine QQ (Yld.load p3 rfl (at1 (hB1.cell rfl))) ?_
     refine GG ?_
     refine RL.knownT (d:=60) rfl rfl (decide_eq_true (by omega)) ?_
     refine QQ (Yld.fieldAddr fo226_2 rfl) ?_
     refine QQ (Yld.load p3 rfl (at1 (hB1.cell rfl))) ?_
     refine QQ (Yld.pure rfl) ?_
     refine GG ?_
     refine RL.knownT (d:=65) rfl rfl (decide_eq_true (by omega)) ?_
     refine QQ (Yld.fieldAddr fo226_3 rfl) ?_
     refine QQ (Yld.load p3 rfl (at1 (hB1.cell rfl))) ?_
     refine QQ (Yld.pure rfl) ?_
     refine GG ?_
     refine RK.ret_of Tryz.func205 (res1 rfl rfl) ?_ _
     exact ⟨_,rfl,by simp [ho],hg2⟩
 ·refine GG ?_
  refine QQ (Yld.fieldAddr fo226_0 rfl) ?_
  refine QQ (Yld.load p3 rfl (at1 (hB1.cell rfl))) ?_
  refine GG ?_
  refine SP 12 (fun h12=>?_) (fun h12=>?_)
  ·obtain ⟨rfl,rfl,rfl,rfl⟩:x0=0∧x1=0∧x2=0∧x3=0:=by omega
   refine QQ (Yld.fieldAddr fo226_1 rfl) ?_
   refine QQ (Yld.loadN (cs:=wds [0,0,0,0]) a177 rfl (atN (blk_set4s hB1))) ?_
   refine QQ (Yld.build (v:=.agg (wds [0,0,0,0]).toArray) rfl (fun w=>by kernel_rfl)) ?_
   refine QQ (Yld.neqArr arr177 (ps:=[0,0,0,0]) (qs:=[0,0,0,0]) rfl rfl rfl rfl rfl rfl) ?_
   refine GG ?_
   refine RK.condF (hcF rfl (rfl)) ?_
   refine RK.skip ?_
   exact RK.back (hj _ rfl) ⟨rfl,rfl,rfl,rfl,trivial⟩
  ·iterate 4 refine RL.no (.no rfl rfl rfl rfl) rfl rfl ?_
   refine GG ?_
   refine RK.condF rfl ?_
   refine RK.skip ?_
   exact RK.back (hj _ rfl) ⟨rfl,rfl,rfl,rfl,trivial⟩
end Go.Proofs.YtbcbfjnlnmhpbaaGreat
