/- What the claim stands on, part 3. Of own lemmas only those that it reaches. -/
import Derived.Test.YtbcbfjnlnmhpbaaGreatKv2
set_option linter.unusedVariables false
set_option linter.unusedSimpArgs false
set_option maxHeartbeats 1000000
set_option maxRecDepth 100000
namespace Go.Proofs.YtbcbfjnlnmhpbaaGreat
open Go Go.X Go.Rex
theorem rx_snoc {M:Nat→Prop} {w:World} {x:Rx} {c:Cel} (hx:RxV M w x [c]):∀ (xs:List Rx) {ks:List Cel},RxV M w (lstS xs) ks→RxV M w (lstS (xs ++ [x])) (ks ++ [c])
 | [],ks,h=>by
  have h' : ks=[]:=h
  subst h'
  exact ⟨c,[],rfl,hx,rfl⟩
 | y :: xs,ks,⟨k,ks',h1,h2,h3⟩=>by
  subst h1
  exact ⟨k,ks' ++ [c],rfl,h2,rx_snoc hx xs h3⟩
theorem rx_len {M:Nat→Prop} {w:World}:∀ (xs:List Rx) {ks:List Cel},RxV M w (lstS xs) ks→ks.length=xs.length
 | [],ks,h=>by have h' : ks=[]:=h;subst h';rfl
 | y :: xs,ks,⟨k,ks',h1,h2,h3⟩=>by subst h1;simp [rx_len xs h3]
theorem mkN_ne {op:Nat} {l:List Rx} (h:l.length≠1):mkN op l=.node op (lstS l):=by
 match l,h with
 | [],_=>rfl
 | [x],h=>exact absurd rfl h
 | x :: y :: l,_=>rfl
theorem factorS_adv {s:ByteArray} {g:Nat→Option (Rx×Nat)} (hg:∀ i x j,i≤s.size→g i=some (x,j)→i≤j∧j≤s.size) {i:Nat} (hi:i < s.size) {x:Rx} {j:Nat} (h:factorS s g i=some (x,j)):i < j∧j≤s.size:=by
 have ha:∀ x j,atomS s g i=some (x,j)→i < j∧j≤s.size:=by
  intro x j h
  unfold atomS at h
  split at h
  ·cases hgi:g (i + 1) with
   | none=>rw [hgi] at h;cases h
   | some q=>
    obtain ⟨y,k⟩:=q
    rw [hgi] at h
    have h' : (if k < s.size∧b8 s k=41 then some (y,k + 1) else none)=some (x,j):=h
    split at h'
    ·simp at h';have:=hg _ _ _ (by omega) hgi;omega
    ·cases h'
  ·split at h
   ·cases hc:clsS s (i + 1) with
    | none=>rw [hc] at h;cases h
    | some q=>rw [hc] at h;simp at h;have:=clsS_adv (t:=q.1) (j:=q.2) hc;omega
   ·split at h
    ·simp at h;omega
    ·split at h
     ·cases hc:signS s (i + 1) with
      | none=>rw [hc] at h;cases h
      | some q=>rw [hc] at h;simp at h;have:=signS_adv (b:=q.1) (j:=q.2) hc;omega
     ·split at h
      ·cases h
      ·simp at h;omega
 unfold factorS at h
 cases hat:atomS s g i with
 | none=>rw [hat] at h;cases h
 | some q=>
  obtain ⟨y,k⟩:=q
  have h1:=ha y k hat
  rw [hat] at h
  simp only [Option.map_some,Option.some.injEq] at h
  unfold oftS at h
  split at h
  ·split at h
   ·simp at h;omega
   ·split at h
    ·simp at h;omega
    ·split at h <;> (simp at h;omega)
  ·simp at h;omega
theorem factor_ok (s:ByteArray) (hs:s.size≤40) (p d:Nat) (hd:d≤8) (g:Nat→Option (Rx×Nat)) (hg8:d=8→∀ i,g i=none) (hgw:GrpOk p s d g)
  (w:World) (i:Nat) (h:PA w p s i false) (hi:i < s.size) (h124:b8 s i≠124) (h41:b8 s i≠41) :
  Fx Tryz.prog 235 [pp p,.int .i64 (d:Int)] w (fun u w'=>RT w w' p s (factorS s g i) u∧Mod (·=p) w w'):=by
 have hplt:=h.lt
 refine enter Tryz.func235 rfl rfl rfl _ (Pick.sub (l:=[0,1]) (.cons rfl (.cons rfl .nil))) ?_
 refine GG ?_
 refine OP (Does.alloc i180) ?_
 rintro _ w1 ⟨b4,rfl,hn4⟩
 have hb4:=hn4.at_
 have hg4:=hn4.grow
 have hb4s:=hn4.size
 refine GG ?_
 refine OP (Does.call rfl e243 (atom_ok s hs p d hd g hg8 hgw _ i (h.mod hg4 (fun h=>h)) hi h124 h41)) ?_
 rintro _ w2 ⟨⟨c,j,bad,rfl,hj,hP2,hno,hyes⟩,hm2⟩
 have hs12:=hm2.size
 refine OP (Does.alloc i180) ?_
 rintro _ w3 ⟨b5,rfl,hn5⟩
 have hb5:=hn5.at_
 refine OQ (Does.storeN i180 rfl rfl rfl rfl hn5.blk (Nat.le_refl 6)) ?_
 rintro _ w4 ⟨hb5',hm4,_⟩
 have hB4:Blk w4 b5 180 (celC c):=hb5'
 have hb4p:¬ (b4=p∨b4=b5):=by omega
 have hb5p:b5≠p:=by omega
 have hP4:PA w4 p s j bad:=(hP2.mod hn5.grow (fun h=>h)).mod hm4 (by omega)
 have hm24:Mod (fun b=>b=p∨b=b5) w2 w4:=(Mod.any' hn5.grow).trans (hm4.mono fun b _ e=>.inr e)
 have hm14:Mod (fun b=>b=p∨b=b5) w1 w4:=(hm2.mono fun b _ e=>.inl e).trans hm24
 have hl01:∀ b,Old w b→Old w1 b:=fun b e=>by unfold Old at *;omega
 have hMp:∀ x,x < w.heap.size→(x=p∨x=b5)→x=p:=fun x hx e=>by omega
 have hpo:∀ b,b < w2.heap.size→(b=p∨b=b5)→Old w1 b:=fun b hb e=>by unfold Old;omega
 refine GG ?_
 refine OP (Does.call rfl e218 (next_ok _ p s j bad hP4 (by omega) 42)) ?_
 rintro _ w5 ⟨rfl,hP5,hm5⟩
 have hB5:=hB4.mod hm5 hb5p
 have hm15:=hm14.trans (hm5.mono fun b _ e=>.inl e)
 have hm25:=hm24.trans (hm5.mono fun b _ e=>.inl e)
 refine GG ?_
 refine CD (fun h9=>?_) (fun h9=>?_)
 ·obtain ⟨hb,hjs,hjc⟩:bad=false∧j < s.size∧b8 s j=42:=by simpa [seesS] using h9
  subst hb
  have hsee:seesS s j false 42=true:=by simp [seesS,hjs,hjc]
  rw [hsee] at hP5
  refine GG ?_
  refine QQ (Yld.loadN (cs:=celC c) a180 rfl (atN (blk0' hB5))) ?_
  refine OP (Does.slice1 u178 i180 rfl rfl rfl rfl rfl) ?_
  rintro _ w16 ⟨b6,rfl,hn6⟩
  refine QQ (Yld.build (v:=.agg #[.int .i64 4,.int .u64 0,.int .u64 0,.int .u64 0,.int .u64 0,.slice (some ⟨b6,0,none⟩) 1 1]) rfl (fun w=>by kernel_rfl)) ?_
  refine OQ (Does.storeN i180 rfl rfl rfl rfl ((hn4.blk.mod hm15 hb4p).mod hn6.grow (fun h=>h)) (Nat.le_refl 6)) ?_
  rintro _ w19 ⟨hb19,hm19,_⟩
  obtain ⟨x,hx,hrx⟩:=hyes rfl
  have hres:factorS s g i=some (onlyS 4 x,j + 1):=by unfold factorS;rw [hx];show some (oftS s x j)=_;unfold oftS;rw [if_pos hjs,if_pos hjc]
  have hP16:PA w16 p s (j + 1) false:=(hP5).mod hn6.grow (fun h=>h)
  have hs5x:=(hm15).size
  have hb6:=hn6.at_
  have hrx9:RxV (Old w) w19 x [c]:=RxV.off (fun b _ e=>hl01 b e) x (RxV.mod hm19 (fun b _ e=>by have e' : b=b4:=e;unfold Old;omega) x (RxV.grow hn6.grow x (RxV.mod hm25 (fun b hb e=>hpo b hb e) x hrx)))
  have hsl9:Sl (Old w) w19 (.slice (some ⟨b6,0,none⟩) 1 1) 6 [c].length ([c].flatMap celC):=((Sl.new (M:=Old w1) hn6 6 1 rfl (by omega) (by unfold Old;omega)).mod (hm19.mono fun b _ e=>by have e' : b=b4:=e;unfold Old;omega)).off (by omega) (fun b _ e=>hl01 b e)
  refine RL.done ?_
  refine RK.ret_of Tryz.func235 (resC (cs:=[.int .i64 4,.int .u64 0,.int .u64 0,.int .u64 0,.int .u64 0,.slice (some ⟨b6,0,none⟩) 1 1]) rfl rfl a180 hb19) ?_ _
  exact ⟨_,rfl,⟨⟨4,0,0,0,0,some ⟨b6,0,none⟩,1,1⟩,j + 1,false,rfl,by omega,hP16.mod hm19 (by omega),fun e=>(by cases e),fun _=>⟨_,hres,_,_,_,[c],⟨rfl,Nat.le_refl _⟩,hsl9,⟨c,[],rfl,hrx9,rfl⟩⟩⟩,(((Mod.any' hg4:Mod (·=p) w w1).then hm15 hMp).trans (Mod.any' hn6.grow)).then hm19 (fun b hb e=>by have e' : b=b4:=e;omega)⟩
 ·have h9' : seesS s j bad 42=false:=by simpa using h9
  rw [h9'] at hP5
  have hP5' : PA w5 p s j bad:=hP5
  refine GG ?_
  refine OP (Does.call rfl e218 (next_ok _ p s j bad hP5' (by omega) 43)) ?_
  rintro _ w6 ⟨rfl,hP6,hm6⟩
  have hB6:=hB5.mod hm6 hb5p
  have hm16:=hm15.trans (hm6.mono fun b _ e=>.inl e)
  have hm26:=hm25.trans (hm6.mono fun b _ e=>.inl e)
  refine GG ?_
  refine CD (fun h15=>?_) (fun h15=>?_)
  ·obtain ⟨hb,hjs,hjc⟩:bad=false∧j < s.size∧b8 s j=43:=by simpa [seesS] using h15
   subst hb
   have hsee:seesS s j false 43=true:=by simp [seesS,hjs,hjc]
   rw [hsee] at hP6
   refine GG ?_
   refine QQ (Yld.loadN (cs:=celC c) a180 rfl (atN (blk0' hB6))) ?_
   refine OP (Does.slice1 u178 i180 rfl rfl rfl rfl rfl) ?_
   rintro _ w16 ⟨b6,rfl,hn6⟩
   refine QQ (Yld.build (v:=.agg #[.int .i64 5,.int .u64 0,.int .u64 0,.int .u64 0,.int .u64 0,.slice (some ⟨b6,0,none⟩) 1 1]) rfl (fun w=>by kernel_rfl)) ?_
   refine OQ (Does.storeN i180 rfl rfl rfl rfl ((hn4.blk.mod hm16 hb4p).mod hn6.grow (fun h=>h)) (Nat.le_refl 6)) ?_
   rintro _ w19 ⟨hb19,hm19,_⟩
   obtain ⟨x,hx,hrx⟩:=hyes rfl
   have hres:factorS s g i=some (onlyS 5 x,j + 1):=by unfold factorS;rw [hx];show some (oftS s x j)=_;unfold oftS;rw [if_pos hjs,if_neg (by omega),if_pos hjc]
   have hP16:PA w16 p s (j + 1) false:=(hP6).mod hn6.grow (fun h=>h)
   have hs5x:=(hm16).size
   have hb6:=hn6.at_
   have hrx9:RxV (Old w) w19 x [c]:=RxV.off (fun b _ e=>hl01 b e) x (RxV.mod hm19 (fun b _ e=>by have e' : b=b4:=e;unfold Old;omega) x (RxV.grow hn6.grow x (RxV.mod hm26 (fun b hb e=>hpo b hb e) x hrx)))
   have hsl9:Sl (Old w) w19 (.slice (some ⟨b6,0,none⟩) 1 1) 6 [c].length ([c].flatMap celC):=((Sl.new (M:=Old w1) hn6 6 1 rfl (by omega) (by unfold Old;omega)).mod (hm19.mono fun b _ e=>by have e' : b=b4:=e;unfold Old;omega)).off (by omega) (fun b _ e=>hl01 b e)
   refine RL.done ?_
   refine RK.ret_of Tryz.func235 (resC (cs:=[.int .i64 5,.int .u64 0,.int .u64 0,.int .u64 0,.int .u64 0,.slice (some ⟨b6,0,none⟩) 1 1]) rfl rfl a180 hb19) ?_ _
   exact ⟨_,rfl,⟨⟨5,0,0,0,0,some ⟨b6,0,none⟩,1,1⟩,j + 1,false,rfl,by omega,hP16.mod hm19 (by omega),fun e=>(by cases e),fun _=>⟨_,hres,_,_,_,[c],⟨rfl,Nat.le_refl _⟩,hsl9,⟨c,[],rfl,hrx9,rfl⟩⟩⟩,(((Mod.any' hg4:Mod (·=p) w w1).then hm16 hMp).trans (Mod.any' hn6.grow)).then hm19 (fun b hb e=>by have e' : b=b4:=e;omega)⟩
  ·have h15' : seesS s j bad 43=false:=by simpa using h15
   rw [h15'] at hP6
   have hP6' : PA w6 p s j bad:=hP6
   refine GG ?_
   refine OP (Does.call rfl e218 (next_ok _ p s j bad hP6' (by omega) 63)) ?_
   rintro _ w7 ⟨rfl,hP7,hm7⟩
   have hB7:=hB6.mod hm7 hb5p
   have hm17:=hm16.trans (hm7.mono fun b _ e=>.inl e)
   have hm27:=hm26.trans (hm7.mono fun b _ e=>.inl e)
   refine GG ?_
   refine CD (fun h21=>?_) (fun h21=>?_)
   ·obtain ⟨hb,hjs,hjc⟩:bad=false∧j < s.size∧b8 s j=63:=by simpa [seesS] using h21
    subst hb
    have hsee:seesS s j false 63=true:=by simp [seesS,hjs,hjc]
    rw [hsee] at hP7
    refine GG ?_
    refine QQ (Yld.loadN (cs:=celC c) a180 rfl (atN (blk0' hB7))) ?_
    refine OP (Does.slice1 u178 i180 rfl rfl rfl rfl rfl) ?_
    rintro _ w16 ⟨b6,rfl,hn6⟩
    refine QQ (Yld.build (v:=.agg #[.int .i64 6,.int .u64 0,.int .u64 0,.int .u64 0,.int .u64 0,.slice (some ⟨b6,0,none⟩) 1 1]) rfl (fun w=>by kernel_rfl)) ?_
    refine OQ (Does.storeN i180 rfl rfl rfl rfl ((hn4.blk.mod hm17 hb4p).mod hn6.grow (fun h=>h)) (Nat.le_refl 6)) ?_
    rintro _ w19 ⟨hb19,hm19,_⟩
    obtain ⟨x,hx,hrx⟩:=hyes rfl
    have hres:factorS s g i=some (onlyS 6 x,j + 1):=by unfold factorS;rw [hx];show some (oftS s x j)=_;unfold oftS;rw [if_pos hjs,if_neg (by omega),if_neg (by omega),if_pos hjc]
    have hP16:PA w16 p s (j + 1) false:=(hP7).mod hn6.grow (fun h=>h)
    have hs5x:=(hm17).size
    have hb6:=hn6.at_
    have hrx9:RxV (Old w) w19 x [c]:=RxV.off (fun b _ e=>hl01 b e) x (RxV.mod hm19 (fun b _ e=>by have e' : b=b4:=e;unfold Old;omega) x (RxV.grow hn6.grow x (RxV.mod hm27 (fun b hb e=>hpo b hb e) x hrx)))
    have hsl9:Sl (Old w) w19 (.slice (some ⟨b6,0,none⟩) 1 1) 6 [c].length ([c].flatMap celC):=((Sl.new (M:=Old w1) hn6 6 1 rfl (by omega) (by unfold Old;omega)).mod (hm19.mono fun b _ e=>by have e' : b=b4:=e;unfold Old;omega)).off (by omega) (fun b _ e=>hl01 b e)
    refine RL.done ?_
    refine RK.ret_of Tryz.func235 (resC (cs:=[.int .i64 6,.int .u64 0,.int .u64 0,.int .u64 0,.int .u64 0,.slice (some ⟨b6,0,none⟩) 1 1]) rfl rfl a180 hb19) ?_ _
    exact ⟨_,rfl,⟨⟨6,0,0,0,0,some ⟨b6,0,none⟩,1,1⟩,j + 1,false,rfl,by omega,hP16.mod hm19 (by omega),fun e=>(by cases e),fun _=>⟨_,hres,_,_,_,[c],⟨rfl,Nat.le_refl _⟩,hsl9,⟨c,[],rfl,hrx9,rfl⟩⟩⟩,(((Mod.any' hg4:Mod (·=p) w w1).then hm17 hMp).trans (Mod.any' hn6.grow)).then hm19 (fun b hb e=>by have e' : b=b4:=e;omega)⟩
   ·have h21' : seesS s j bad 63=false:=by simpa using h21
    rw [h21'] at hP7
    have hP7' : PA w7 p s j bad:=hP7
    refine GG ?_
    refine QQ (Yld.loadN (cs:=celC c) a180 rfl (atN (blk0' hB7))) ?_
    refine OQ (Does.storeN i180 rfl rfl rfl rfl (hn4.blk.mod hm17 hb4p) (Nat.le_refl 6)) ?_
    rintro _ w19 ⟨hb19,hm19,_⟩
    refine RL.done ?_
    refine RK.ret_of Tryz.func235 (resC (cs:=celC c) rfl rfl a180 hb19) ?_ _
    exact ⟨_,rfl,⟨c,j,bad,rfl,hj,hP7'.mod hm19 (by omega),fun e=>by unfold factorS;rw [hno e];rfl,fun e=>by
      obtain ⟨x,hx,hrx⟩:=hyes e
      have h1:¬ (j < s.size∧b8 s j=42):=fun h=>by simp [seesS,e,h] at h9'
      have h2:¬ (j < s.size∧b8 s j=43):=fun h=>by simp [seesS,e,h] at h15'
      have h3:¬ (j < s.size∧b8 s j=63):=fun h=>by simp [seesS,e,h] at h21'
      refine ⟨x,?_,RxV.off (fun b _ e=>hl01 b e) x (RxV.mod hm19 (fun b _ e=>by have e' : b=b4:=e;unfold Old;omega) x (RxV.mod hm27 (fun b hb e=>hpo b hb e) x hrx))⟩
      unfold factorS
      rw [hx]
      show some (oftS s x j)=_
      unfold oftS
      by_cases hjs:j < s.size
      ·rw [if_pos hjs,if_neg (fun h=>h1 ⟨hjs,h⟩),if_neg (fun h=>h2 ⟨hjs,h⟩),if_neg (fun h=>h3 ⟨hjs,h⟩)]
      ·rw [if_neg hjs]⟩,((Mod.any' hg4:Mod (·=p) w w1).then hm17 hMp).then hm19 (fun b hb e=>by have e' : b=b4:=e;omega)⟩
end Go.Proofs.YtbcbfjnlnmhpbaaGreat
set_option linter.unusedVariables false
set_option linter.unusedSimpArgs false
set_option maxHeartbeats 1000000
set_option maxRecDepth 100000
namespace Go.Proofs.YtbcbfjnlnmhpbaaGreat
open Go Go.X Go.Rex
theorem wayL_adv {s:ByteArray} {g:Nat→Option (Rx×Nat)} (hg:∀ i x j,i≤s.size→g i=some (x,j)→i≤j∧j≤s.size):∀ {n i:Nat} {acc xs:List Rx} {j:Nat},wayL s g n i acc=some (xs,j)→i≤s.size→i≤j∧j≤s.size
 | 0,_,_,_,_,h,_=>by simp [wayL] at h
 | n + 1,i,acc,xs,j,h,hi=>by
  unfold wayL at h
  split at h
  ·rename_i hgo
   have hi' : i < s.size:=by unfold goesS at hgo;simp at hgo;exact hgo.1
   cases hf:factorS s g i with
   | none=>rw [hf] at h;cases h
   | some q=>
    obtain ⟨x,k⟩:=q
    rw [hf] at h
    have h1:=factorS_adv hg hi' hf
    have h2:=wayL_adv hg (n:=n) (i:=k) h h1.2
    omega
  ·simp at h;omega
theorem wayS_adv {s:ByteArray} {g:Nat→Option (Rx×Nat)} (hg:∀ i x j,i≤s.size→g i=some (x,j)→i≤j∧j≤s.size) {i:Nat} (hi:i≤s.size) {x:Rx} {j:Nat} (h:wayS s g i=some (x,j)):i≤j∧j≤s.size:=by
 unfold wayS at h
 cases hw:wayL s g (s.size + 1) i [] with
 | none=>rw [hw] at h;cases h
 | some q=>
  rw [hw] at h
  simp at h
  have:=wayL_adv hg (xs:=q.1) (j:=q.2) hw hi
  omega
structure WayI (w0:World) (p:Nat) (s:ByteArray) (w:World) (u:Value) (ks:List Cel) (i:Nat) (bad:Bool) (e:Nat):Prop where
 row:Row w 180 6 u ks.length (ks.flatMap celC)
 fresh:Fresh w0.heap.size u
 pa:PA w p s i bad
 le:i≤s.size
 mod:Mod (·=p) w0 w
 cnt:ks.length≤41 + e∧(bad=false→ks.length≤i + e)
def KOf (w0:World) (u:Value):Nat→Prop:=fun b=>Old w0 b∨u.ownBlock=some b
theorem kids_more {w0 wk wx w7 w8:World} {u u8:Value} {xs:List Rx} {ks:List Cel} {x:Rx} {c:Cel} {p b7:Nat} {t:TypeId} {cs:List Value} (hp:Old w0 p) (h0:w0.heap.size≤wk.heap.size) (hr:∀ b,u.ownBlock=some b→b < wk.heap.size) (hk:RxV (KOf w0 u) wk (lstS xs) ks) (hm:Mod (·=p) wk wx) (hx:RxV (Old wk) wx x [c]) (hn:New wx w7 b7 t cs) (hm8:Mod (fun b=>u.ownBlock=some b) w7 w8) (hu8:u8.ownBlock=u.ownBlock∨u8.ownBlock=some w7.heap.size):RxV (KOf w0 u8) w8 (lstS (xs ++ [x])) (ks ++ [c]):=by
 have hs1:=hm.size
 have hs2:=hn.grow.size
 have e7:∀ b,u8.ownBlock=some b→u.ownBlock=some b∨b=w7.heap.size:=fun b e=>by
  rcases hu8 with h | h
  ·exact .inl (h ▸ e)
  ·rw [h] at e;cases e;exact .inr rfl
 have k0:RxV (fun b=>KOf w0 u b∨u8.ownBlock=some b) wk (lstS xs) ks:=RxV.off (fun b hb e=>by
  rcases e with e | e
  ·exact e
  ·rcases e7 b e with h | h
   ·exact .inr h
   ·omega) _ hk
 have x0:RxV (fun b=>KOf w0 u b∨u8.ownBlock=some b) wx x [c]:=RxV.off (fun b hb e=>by
  rcases e with (e | e) | e
  ·unfold Old at *;omega
  ·exact hr b e
  ·rcases e7 b e with h | h
   ·exact hr b h
   ·omega) _ hx
 have k1:RxV (fun b=>KOf w0 u b∨u8.ownBlock=some b) w8 (lstS xs) ks:=RxV.mod hm8 (fun b _ e=>.inl (.inr e)) _ (RxV.grow hn.grow _ (RxV.mod hm (fun b _ e=>by have e' : b=p:=e;rw [e'];exact .inl (.inl hp)) _ k0))
 have x1:RxV (fun b=>KOf w0 u b∨u8.ownBlock=some b) w8 x [c]:=RxV.mod hm8 (fun b _ e=>.inl (.inr e)) _ (RxV.grow hn.grow _ x0)
 exact RxV.off (fun b _ e=>e.elim (fun e=>.inl (.inl e)) .inr) _ (rx_snoc x1 xs k1)
theorem way_ok (s:ByteArray) (hs:s.size≤40) (p d:Nat) (hd:d≤8) (g:Nat→Option (Rx×Nat)) (hg:∀ i x j,i≤s.size→g i=some (x,j)→i≤j∧j≤s.size) (hg8:d=8→∀ i,g i=none) (hgw:GrpOk p s d g)
  (w:World) (i0:Nat) (h:PA w p s i0 false) (hi0:i0≤s.size) :
  Fx Tryz.prog 217 [pp p,.int .i64 (d:Int)] w (fun u w'=>RT w w' p s (wayS s g i0) u∧Mod (·=p) w w'):=by
 have hplt:=h.lt
 obtain ⟨R,hR⟩:∃ R,R=wayL s g (s.size + 1) i0 []:=⟨_,rfl⟩
 refine enter Tryz.func217 rfl rfl rfl _ (Pick.sub (l:=[0,1]) (.cons rfl (.cons rfl .nil))) ?_
 refine GG ?_
 refine OP (Does.alloc i180) ?_
 rintro _ w1 ⟨b4,rfl,hn4⟩
 have hb4:=hn4.at_
 have hg4:=hn4.grow
 have hb4s:=hn4.size
 have hb4p:¬ b4=p:=by omega
 have hl01:∀ b,Old w b→Old w1 b:=fun b e=>by unfold Old at *;omega
 have hb4o:Old w1 b4:=by unfold Old;omega
 have hpo:Old w1 p:=by unfold Old;omega
 refine GG ?_
 refine RK.loop (fun t:Value×List Cel×List Rx×Nat×Nat×Bool=>[(0,pp p),(1,.int .i64 (d:Int)),(4,pp b4),(5,t.1)]) (fun t w'=>WayI w1 p s w' t.1 t.2.1 t.2.2.2.1 t.2.2.2.2.2 0∧(t.2.2.2.2.2=true→R=none)∧(t.2.2.2.2.2=false→RxV (KOf w1 t.1) w' (lstS t.2.2.1) t.2.1∧wayL s g t.2.2.2.2.1 t.2.2.2.1 t.2.2.1=R∧s.size + 1≤t.2.2.2.2.1 + t.2.2.2.1)) (fun t=>if t.2.2.2.2.2 then 0 else s.size + 1 - t.2.2.2.1) (.slice none 0 0,[],[],i0,s.size + 1,false) ⟨rfl,rfl,rfl,rfl,trivial⟩ ⟨⟨Row.nil _ _ _,fun b hb=>by simp [Value.ownBlock] at hb,h.mod hg4 (fun h=>h),hi0,Mod.refl _ _,by simp⟩,by simp,fun _=>⟨rfl,hR.symm,by simp only;omega⟩⟩ (fun t w3 hI0 ih=>?_)
 obtain ⟨u,ks,xs,i,n,bad⟩:=t
 obtain ⟨hI,hno,hgo⟩:=hI0
 simp only at hI hno hgo
 have hile:=hI.le
 refine GG ?_
 refine OP (Does.call rfl e233 (over_ok _ p s i bad hI.pa)) ?_
 rintro _ w4 ⟨rfl,hg34⟩
 refine GG ?_
 refine SP 9 (fun h9=>?_) (fun h9=>?_)
 ·have h9' : bad=false∧i < s.size:=by simpa using h9
  obtain ⟨hb,his⟩:=h9'
  subst hb
  refine QQ (Yld.pure rfl) ?_
  refine OP (Does.call rfl e234 (sees_ok _ p s i false (hI.pa.mod hg34 (fun h=>h)) 124)) ?_
  rintro _ w5 ⟨rfl,hg45⟩
  have hg35:=hg34.trans hg45
  refine QQ (Yld.pure rfl) ?_
  refine GG ?_
  refine SP 14 (fun h14=>?_) (fun h14=>?_)
  ·have h124:b8 s i≠124:=by simpa [seesS,his] using h14
   refine QQ (Yld.pure rfl) ?_
   refine OP (Does.call rfl e234 (sees_ok _ p s i false (hI.pa.mod hg35 (fun h=>h)) 41)) ?_
   rintro _ w6 ⟨rfl,hg56⟩
   have hg36:=hg35.trans hg56
   refine QQ (Yld.pure rfl) ?_
   refine GG ?_
   refine CD (fun h18=>?_) (fun h18=>?_)
   ·have h41:b8 s i≠41:=by simpa [seesS,his] using h18
    obtain ⟨hk,hl,hn⟩:=hgo rfl
    obtain ⟨m,rfl⟩:∃ m,n=m + 1:=⟨n - 1,by omega⟩
    have hgoes:goesS s i=true:=by unfold goesS;exact decide_eq_true ⟨his,h124,h41⟩
    rw [wayL,if_pos hgoes] at hl
    have hI6:=hI.pa.mod hg36 (fun h=>h)
    refine GG ?_
    refine OP (Does.call rfl e235 (factor_ok s hs p d hd g hg8 hgw _ i hI6 his h124 h41)) ?_
    rintro _ w7 ⟨⟨c,j,bad,rfl,hj,hP7,hno7,hyes7⟩,hm7⟩
    refine OP (Does.slice1 u178 i180 rfl rfl rfl rfl rfl) ?_
    rintro _ w8 ⟨b8,rfl,hn8⟩
    have hru:∀ b,u.ownBlock=some b→b < w6.heap.size:=fun b e=>by have h1:=hI.row.lt e;have h2:=hg36.size;omega
    have hup:∀ b,u.ownBlock=some b→¬ b=p:=fun b e e2=>by have h1:=hI.fresh b e;unfold Old at hpo;omega
    have hcnt:=hI.cnt
    refine OP (Does.append u178 i180 rfl rfl rfl rfl rfl (((hI.row.mod hg36 (fun _ _ h=>h)).mod hm7 hup).mod hn8.grow (fun _ _ h=>h)) (Sl.new hn8 6 1 rfl (by omega) (fun h=>h)) (rfl) (by omega)) ?_
    rintro u9 w9 ⟨hr9,hm9,hu9⟩
    have hs16:=hI.mod.size
    have hs36:=hg36.size
    have hs67:=hm7.size
    have hs78:=hn8.grow.size
    have hI9:WayI w1 p s w9 u9 (ks ++ [c]) j bad 0:=⟨by rw [List.length_append,List.flatMap_append];exact hr9,fun b e=>by
      rcases hu9 with h1 | h1
      ·exact hI.fresh b (h1 ▸ e)
      ·rw [h1] at e;cases e;omega
     ,(hP7.mod hn8.grow (fun h=>h)).mod hm9 (fun e=>hup p e rfl),hj,(((hI.mod.trans (Mod.any' hg36)).trans hm7).trans (Mod.any' hn8.grow)).then hm9 (fun b hb e=>by have h1:=hI.fresh b e;omega),by have h1:=hcnt.2 rfl;simp;omega,fun hb=>by have h1:=hcnt.2 rfl;obtain ⟨x,hx,_⟩:=hyes7 hb;have h8:=factorS_adv hg his hx;simp;omega⟩
    refine GG ?_
    exact RK.back (ih (u9,ks ++ [c],xs ++ (match factorS s g i with | some q=>[q.1] | none=>[]),j,m,bad) _ ⟨hI9,fun hb=>by simp only at hb;rw [← hl,hno7 hb],fun hb=>by
      simp only at hb ⊢
      obtain ⟨x,hx,hrx⟩:=hyes7 hb
      rw [hx] at hl ⊢
      have h8:=factorS_adv hg his hx
      exact ⟨kids_more hpo (by omega) hru (RxV.grow hg36 _ hk) hm7 hrx hn8 hm9 hu9,hl,by omega⟩⟩ (by
      simp only [Bool.false_eq_true,if_false]
      split
      ·omega
      ·rename_i hb9
       obtain ⟨x,hx,_⟩:=hyes7 (by simpa using hb9)
       have h8:=factorS_adv hg his hx
       omega)) ⟨rfl,rfl,rfl,rfl,trivial⟩
   ·have h41:b8 s i=41:=by simpa [seesS,his] using h18
    have hend:false=false→wayS s g i0=some (mkN 2 xs,i):=fun hb=>by
      obtain ⟨hk,hl,hn⟩:=hgo hb
      obtain ⟨m,rfl⟩:∃ m,n=m + 1:=⟨n - 1,by omega⟩
      unfold wayS
      rw [← hR,← hl,wayL,if_neg (fun h=>by unfold goesS at h;simp [h41] at h)];rfl
    have hnone:false=true→wayS s g i0=none:=fun hb=>by unfold wayS;rw [← hR,hno hb];rfl
    have hs1x:=hI.mod.size
    obtain ⟨adu,cu,rfl,hcu9⟩:=hI.row.cap
    refine RK.exit rfl ?_
    refine GG ?_
    refine QQ (Yld.lenSl u178 rfl) ?_
    refine GG ?_
    refine CD (fun h27=>?_) (fun h27=>?_)
    ·obtain ⟨c,rfl⟩:∃ c,ks=[c]:=by
       match ks,h27 with
       | [c],_=>exact ⟨c,rfl⟩
     have hsu:Sl No w3 (.slice adu [c].length cu) 6 [c].length ([c].flatMap celC):=Sl.own hI.row (fun _ _ h=>h)
     obtain ⟨bu,ou,cu',heu,_,_,hcu⟩:=hsu.elem (k:=0) celC_len rfl
     cases heu
     refine GG ?_
     refine QQ (Yld.indexAddr u178 i180 rfl rfl (by omega) (by simp)) ?_
     refine QQ (Yld.loadN (cs:=celC c) a180 rfl (atN (fun j u hj=>hg36.cell (hcu j u hj) (fun h=>h)))) ?_
     refine OQ (Does.storeN i180 rfl rfl rfl rfl ((hn4.blk.mod hI.mod hb4p).mod hg36 (fun h=>h)) (Nat.le_refl 6)) ?_
     rintro _ w19 ⟨hb19,hm19,_⟩
     refine RL.done ?_
     refine RK.ret_of Tryz.func217 (resC (cs:=celC c) rfl rfl a180 hb19) ?_ _
     exact ⟨_,rfl,⟨c,i,false,rfl,hI.le,(hI.pa.mod hg36 (fun h=>h)).mod hm19 (by omega),hnone,fun hb=>by
       obtain ⟨hk,hl,hn⟩:=hgo hb
       obtain ⟨x,rfl⟩:∃ x,xs=[x]:=by
        have h9:=rx_len xs hk
        match xs,h9 with
        | [x],_=>exact ⟨x,rfl⟩
       obtain ⟨c',ks',e1,hx,_⟩:=hk
       cases e1
       exact ⟨x,hend hb,RxV.off (fun b _ e=>.inl (hl01 b e)) x (RxV.mod hm19 (fun b _ e=>by have e' : b=b4:=e;rw [e'];exact .inl hb4o) x (RxV.grow hg36 x hx))⟩⟩,((((Mod.any' hg4:Mod (·=p) w w1).trans hI.mod).trans (Mod.any' hg36))).then hm19 (fun b hb e=>by have e' : b=b4:=e;omega)⟩
    ·refine GG ?_
     refine QQ (Yld.build (v:=.agg #[.int .i64 2,.int .u64 0,.int .u64 0,.int .u64 0,.int .u64 0,.slice adu ks.length cu]) rfl (fun w=>by kernel_rfl)) ?_
     refine OQ (Does.storeN i180 rfl rfl rfl rfl ((hn4.blk.mod hI.mod hb4p).mod hg36 (fun h=>h)) (Nat.le_refl 6)) ?_
     rintro _ w19 ⟨hb19,hm19,_⟩
     refine RL.done ?_
     refine RK.ret_of Tryz.func217 (resC (cs:=[.int .i64 2,.int .u64 0,.int .u64 0,.int .u64 0,.int .u64 0,.slice adu ks.length cu]) rfl rfl a180 hb19) ?_ _
     exact ⟨_,rfl,⟨⟨2,0,0,0,0,adu,ks.length,cu⟩,i,false,rfl,hI.le,(hI.pa.mod hg36 (fun h=>h)).mod hm19 (by omega),hnone,fun hb=>by
       obtain ⟨hk,hl,hn⟩:=hgo hb
       have h9:=rx_len xs hk
       have hmk:=mkN_ne (op:=2) (l:=xs) (by rw [← h9];omega)
       refine ⟨_,hend hb,?_⟩
       rw [hmk]
       refine ⟨adu,ks.length,cu,ks,⟨rfl,hcu9⟩,?_,?_⟩
       ·exact ((Sl.own (M:=Old w1) (hI.row.mod hg36 (fun _ _ h=>h)) (fun b e e2=>by have h8:=hI.fresh b e;unfold Old at e2;omega)).mod (hm19.mono fun b _ e=>by have e' : b=b4:=e;rw [e'];exact hb4o)).off (by omega) (fun b _ e=>hl01 b e)
       ·exact RxV.off (fun b _ e=>.inl (hl01 b e)) _ (RxV.mod hm19 (fun b _ e=>by have e' : b=b4:=e;rw [e'];exact .inl hb4o) _ (RxV.grow hg36 _ hk))⟩,((((Mod.any' hg4:Mod (·=p) w w1).trans hI.mod).trans (Mod.any' hg36))).then hm19 (fun b hb e=>by have e' : b=b4:=e;omega)⟩
  ·have h124:b8 s i=124:=by simpa [seesS,his] using h14
   iterate 3 refine RL.no (.no rfl rfl rfl rfl) rfl rfl ?_
   refine GG ?_
   refine RK.condF rfl ?_
   have hend:false=false→wayS s g i0=some (mkN 2 xs,i):=fun hb=>by
     obtain ⟨hk,hl,hn⟩:=hgo hb
     obtain ⟨m,rfl⟩:∃ m,n=m + 1:=⟨n - 1,by omega⟩
     unfold wayS
     rw [← hR,← hl,wayL,if_neg (fun h=>by unfold goesS at h;simp [h124] at h)];rfl
   have hnone:false=true→wayS s g i0=none:=fun hb=>by unfold wayS;rw [← hR,hno hb];rfl
   have hs1x:=hI.mod.size
   obtain ⟨adu,cu,rfl,hcu9⟩:=hI.row.cap
   refine RK.exit rfl ?_
   refine GG ?_
   refine QQ (Yld.lenSl u178 rfl) ?_
   refine GG ?_
   refine CD (fun h27=>?_) (fun h27=>?_)
   ·obtain ⟨c,rfl⟩:∃ c,ks=[c]:=by
      match ks,h27 with
      | [c],_=>exact ⟨c,rfl⟩
    have hsu:Sl No w3 (.slice adu [c].length cu) 6 [c].length ([c].flatMap celC):=Sl.own hI.row (fun _ _ h=>h)
    obtain ⟨bu,ou,cu',heu,_,_,hcu⟩:=hsu.elem (k:=0) celC_len rfl
    cases heu
    refine GG ?_
    refine QQ (Yld.indexAddr u178 i180 rfl rfl (by omega) (by simp)) ?_
    refine QQ (Yld.loadN (cs:=celC c) a180 rfl (atN (fun j u hj=>hg35.cell (hcu j u hj) (fun h=>h)))) ?_
    refine OQ (Does.storeN i180 rfl rfl rfl rfl ((hn4.blk.mod hI.mod hb4p).mod hg35 (fun h=>h)) (Nat.le_refl 6)) ?_
    rintro _ w19 ⟨hb19,hm19,_⟩
    refine RL.done ?_
    refine RK.ret_of Tryz.func217 (resC (cs:=celC c) rfl rfl a180 hb19) ?_ _
    exact ⟨_,rfl,⟨c,i,false,rfl,hI.le,(hI.pa.mod hg35 (fun h=>h)).mod hm19 (by omega),hnone,fun hb=>by
      obtain ⟨hk,hl,hn⟩:=hgo hb
      obtain ⟨x,rfl⟩:∃ x,xs=[x]:=by
       have h9:=rx_len xs hk
       match xs,h9 with
       | [x],_=>exact ⟨x,rfl⟩
      obtain ⟨c',ks',e1,hx,_⟩:=hk
      cases e1
      exact ⟨x,hend hb,RxV.off (fun b _ e=>.inl (hl01 b e)) x (RxV.mod hm19 (fun b _ e=>by have e' : b=b4:=e;rw [e'];exact .inl hb4o) x (RxV.grow hg35 x hx))⟩⟩,((((Mod.any' hg4:Mod (·=p) w w1).trans hI.mod).trans (Mod.any' hg35))).then hm19 (fun b hb e=>by have e' : b=b4:=e;omega)⟩
   ·refine GG ?_
    refine QQ (Yld.build (v:=.agg #[.int .i64 2,.int .u64 0,.int .u64 0,.int .u64 0,.int .u64 0,.slice adu ks.length cu]) rfl (fun w=>by kernel_rfl)) ?_
    refine OQ (Does.storeN i180 rfl rfl rfl rfl ((hn4.blk.mod hI.mod hb4p).mod hg35 (fun h=>h)) (Nat.le_refl 6)) ?_
    rintro _ w19 ⟨hb19,hm19,_⟩
    refine RL.done ?_
    refine RK.ret_of Tryz.func217 (resC (cs:=[.int .i64 2,.int .u64 0,.int .u64 0,.int .u64 0,.int .u64 0,.slice adu ks.length cu]) rfl rfl a180 hb19) ?_ _
    exact ⟨_,rfl,⟨⟨2,0,0,0,0,adu,ks.length,cu⟩,i,false,rfl,hI.le,(hI.pa.mod hg35 (fun h=>h)).mod hm19 (by omega),hnone,fun hb=>by
      obtain ⟨hk,hl,hn⟩:=hgo hb
      have h9:=rx_len xs hk
      have hmk:=mkN_ne (op:=2) (l:=xs) (by rw [← h9];omega)
      refine ⟨_,hend hb,?_⟩
      rw [hmk]
      refine ⟨adu,ks.length,cu,ks,⟨rfl,hcu9⟩,?_,?_⟩
      ·exact ((Sl.own (M:=Old w1) (hI.row.mod hg35 (fun _ _ h=>h)) (fun b e e2=>by have h8:=hI.fresh b e;unfold Old at e2;omega)).mod (hm19.mono fun b _ e=>by have e' : b=b4:=e;rw [e'];exact hb4o)).off (by omega) (fun b _ e=>hl01 b e)
      ·exact RxV.off (fun b _ e=>.inl (hl01 b e)) _ (RxV.mod hm19 (fun b _ e=>by have e' : b=b4:=e;rw [e'];exact .inl hb4o) _ (RxV.grow hg35 _ hk))⟩,((((Mod.any' hg4:Mod (·=p) w w1).trans hI.mod).trans (Mod.any' hg35))).then hm19 (fun b hb e=>by have e' : b=b4:=e;omega)⟩
 ·have h9' : bad=true∨¬ i < s.size:=by cases bad <;> simp at h9 ⊢;omega
  iterate 3 refine RL.no (.no rfl rfl rfl rfl) rfl rfl ?_
  refine GG ?_
  iterate 3 refine RL.no (.no rfl rfl rfl rfl) rfl rfl ?_
  refine GG ?_
  refine RK.condF rfl ?_
  have hend:bad=false→wayS s g i0=some (mkN 2 xs,i):=fun hb=>by
    obtain ⟨hk,hl,hn⟩:=hgo hb
    obtain ⟨m,rfl⟩:∃ m,n=m + 1:=⟨n - 1,by omega⟩
    unfold wayS
    rw [← hR,← hl,wayL,if_neg (fun h=>by unfold goesS at h;simp at h;rcases h9' with h8 | h8;(rw [hb] at h8;cases h8);exact h8 h.1)];rfl
  have hnone:bad=true→wayS s g i0=none:=fun hb=>by unfold wayS;rw [← hR,hno hb];rfl
  have hs1x:=hI.mod.size
  obtain ⟨adu,cu,rfl,hcu9⟩:=hI.row.cap
  refine RK.exit rfl ?_
  refine GG ?_
  refine QQ (Yld.lenSl u178 rfl) ?_
  refine GG ?_
  refine CD (fun h27=>?_) (fun h27=>?_)
  ·obtain ⟨c,rfl⟩:∃ c,ks=[c]:=by
     match ks,h27 with
     | [c],_=>exact ⟨c,rfl⟩
   have hsu:Sl No w3 (.slice adu [c].length cu) 6 [c].length ([c].flatMap celC):=Sl.own hI.row (fun _ _ h=>h)
   obtain ⟨bu,ou,cu',heu,_,_,hcu⟩:=hsu.elem (k:=0) celC_len rfl
   cases heu
   refine GG ?_
   refine QQ (Yld.indexAddr u178 i180 rfl rfl (by omega) (by simp)) ?_
   refine QQ (Yld.loadN (cs:=celC c) a180 rfl (atN (fun j u hj=>hg34.cell (hcu j u hj) (fun h=>h)))) ?_
   refine OQ (Does.storeN i180 rfl rfl rfl rfl ((hn4.blk.mod hI.mod hb4p).mod hg34 (fun h=>h)) (Nat.le_refl 6)) ?_
   rintro _ w19 ⟨hb19,hm19,_⟩
   refine RL.done ?_
   refine RK.ret_of Tryz.func217 (resC (cs:=celC c) rfl rfl a180 hb19) ?_ _
   exact ⟨_,rfl,⟨c,i,bad,rfl,hI.le,(hI.pa.mod hg34 (fun h=>h)).mod hm19 (by omega),hnone,fun hb=>by
     obtain ⟨hk,hl,hn⟩:=hgo hb
     obtain ⟨x,rfl⟩:∃ x,xs=[x]:=by
      have h9:=rx_len xs hk
      match xs,h9 with
      | [x],_=>exact ⟨x,rfl⟩
     obtain ⟨c',ks',e1,hx,_⟩:=hk
     cases e1
     exact ⟨x,hend hb,RxV.off (fun b _ e=>.inl (hl01 b e)) x (RxV.mod hm19 (fun b _ e=>by have e' : b=b4:=e;rw [e'];exact .inl hb4o) x (RxV.grow hg34 x hx))⟩⟩,((((Mod.any' hg4:Mod (·=p) w w1).trans hI.mod).trans (Mod.any' hg34))).then hm19 (fun b hb e=>by have e' : b=b4:=e;omega)⟩
  ·refine GG ?_
   refine QQ (Yld.build (v:=.agg #[.int .i64 2,.int .u64 0,.int .u64 0,.int .u64 0,.int .u64 0,.slice adu ks.length cu]) rfl (fun w=>by kernel_rfl)) ?_
   refine OQ (Does.storeN i180 rfl rfl rfl rfl ((hn4.blk.mod hI.mod hb4p).mod hg34 (fun h=>h)) (Nat.le_refl 6)) ?_
   rintro _ w19 ⟨hb19,hm19,_⟩
   refine RL.done ?_
   refine RK.ret_of Tryz.func217 (resC (cs:=[.int .i64 2,.int .u64 0,.int .u64 0,.int .u64 0,.int .u64 0,.slice adu ks.length cu]) rfl rfl a180 hb19) ?_ _
   exact ⟨_,rfl,⟨⟨2,0,0,0,0,adu,ks.length,cu⟩,i,bad,rfl,hI.le,(hI.pa.mod hg34 (fun h=>h)).mod hm19 (by omega),hnone,fun hb=>by
     obtain ⟨hk,hl,hn⟩:=hgo hb
     have h9:=rx_len xs hk
     have hmk:=mkN_ne (op:=2) (l:=xs) (by rw [← h9];omega)
     refine ⟨_,hend hb,?_⟩
     rw [hmk]
     refine ⟨adu,ks.length,cu,ks,⟨rfl,hcu9⟩,?_,?_⟩
     ·exact ((Sl.own (M:=Old w1) (hI.row.mod hg34 (fun _ _ h=>h)) (fun b e e2=>by have h8:=hI.fresh b e;unfold Old at e2;omega)).mod (hm19.mono fun b _ e=>by have e' : b=b4:=e;rw [e'];exact hb4o)).off (by omega) (fun b _ e=>hl01 b e)
     ·exact RxV.off (fun b _ e=>.inl (hl01 b e)) _ (RxV.mod hm19 (fun b _ e=>by have e' : b=b4:=e;rw [e'];exact .inl hb4o) _ (RxV.grow hg34 _ hk))⟩,((((Mod.any' hg4:Mod (·=p) w w1).trans hI.mod).trans (Mod.any' hg34))).then hm19 (fun b hb e=>by have e' : b=b4:=e;omega)⟩
end Go.Proofs.YtbcbfjnlnmhpbaaGreat
set_option linter.unusedVariables false
set_option linter.unusedSimpArgs false
set_option maxHeartbeats 1000000
set_option maxRecDepth 100000
namespace Go.Proofs.YtbcbfjnlnmhpbaaGreat
open Go Go.X Go.Rex
theorem waysL_adv {s:ByteArray} {g:Nat→Option (Rx×Nat)} (hg:∀ i x j,i≤s.size→g i=some (x,j)→i≤j∧j≤s.size):∀ {n i:Nat} {acc xs:List Rx} {j:Nat},waysL s g n i acc=some (xs,j)→i≤s.size→i≤j∧j≤s.size
 | 0,_,_,_,_,h,_=>by simp [waysL] at h
 | n + 1,i,acc,xs,j,h,hi=>by
  unfold waysL at h
  split at h
  ·rename_i hgo
   have hi' : i < s.size:=by unfold barS at hgo;simp at hgo;exact hgo.1
   cases hf:wayS s g (i + 1) with
   | none=>rw [hf] at h;cases h
   | some q=>
    obtain ⟨x,k⟩:=q
    rw [hf] at h
    have h1:=wayS_adv hg (by omega) hf
    have h2:=waysL_adv hg (n:=n) (i:=k) h h1.2
    omega
  ·simp at h;omega
theorem waysS_adv {s:ByteArray} {g:Nat→Option (Rx×Nat)} (hg:∀ i x j,i≤s.size→g i=some (x,j)→i≤j∧j≤s.size) {i:Nat} (hi:i≤s.size) {x:Rx} {j:Nat} (h:waysS s g i=some (x,j)):i≤j∧j≤s.size:=by
 unfold waysS at h
 cases hw:wayS s g i with
 | none=>rw [hw] at h;cases h
 | some q=>
  obtain ⟨y,k⟩:=q
  rw [hw] at h
  have h1:=wayS_adv hg hi hw
  simp only at h
  cases hl:waysL s g (s.size + 1) k [y] with
  | none=>rw [hl] at h;cases h
  | some q2=>
   rw [hl] at h
   simp at h
   have:=waysL_adv hg (xs:=q2.1) (j:=q2.2) hl h1.2
   omega
theorem ways_ok (s:ByteArray) (hs:s.size≤40) (p d:Nat) (hd:d≤8) (g:Nat→Option (Rx×Nat)) (hg:∀ i x j,i≤s.size→g i=some (x,j)→i≤j∧j≤s.size) (hg8:d=8→∀ i,g i=none) (hgw:GrpOk p s d g)
  (w:World) (i0:Nat) (h:PA w p s i0 false) (hi0:i0≤s.size) :
  Fx Tryz.prog 195 [pp p,.int .i64 (d:Int)] w (fun u w'=>RT w w' p s (waysS s g i0) u∧Mod (·=p) w w'):=by
 have hplt:=h.lt
 obtain ⟨T,hT⟩:∃ T,T=waysS s g i0:=⟨_,rfl⟩
 refine enter Tryz.func195 rfl rfl rfl _ (Pick.sub (l:=[0,1]) (.cons rfl (.cons rfl .nil))) ?_
 refine GG ?_
 refine OP (Does.alloc i180) ?_
 rintro _ w1 ⟨b4,rfl,hn4⟩
 have hb4:=hn4.at_
 have hg4:=hn4.grow
 have hb4s:=hn4.size
 have hb4p:¬ b4=p:=by omega
 have hl01:∀ b,Old w b→Old w1 b:=fun b e=>by unfold Old at *;omega
 have hb4o:Old w1 b4:=by unfold Old;omega
 have hpo:Old w1 p:=by unfold Old;omega
 refine GG ?_
 refine OP (Does.call rfl e217 (way_ok s hs p d hd g hg hg8 hgw _ i0 (h.mod hg4 (fun h=>h)) hi0)) ?_
 rintro _ w2 ⟨⟨c0,j0,bad0,rfl,hj0,hP2,hno2,hyes2⟩,hm2⟩
 have hs12:=hm2.size
 refine OP (Does.slice1 u178 i180 rfl rfl rfl rfl rfl) ?_
 rintro _ w20 ⟨b5,rfl,hn5⟩
 have hb5:=hn5.at_
 have hxs0:∃ xs0,(bad0=false→RxV (KOf w1 (.slice (some ⟨b5,0,none⟩) 1 1)) w20 (lstS xs0) [c0]∧(waysL s g (s.size + 1) j0 xs0).map (fun p=>(mkN 3 p.1,p.2))=T)∧(bad0=true→T=none):=by
   cases hb:bad0 with
   | true=>exact ⟨[],fun h=>by simp at h,fun _=>by rw [hT];unfold waysS;rw [hno2 hb]⟩
   | false=>
    obtain ⟨x,hx,hrx⟩:=hyes2 hb
    refine ⟨[x],fun _=>⟨⟨c0,[],rfl,RxV.grow hn5.grow x (RxV.off (fun b hb e=>?_) x hrx),rfl⟩,by rw [hT];unfold waysS;rw [hx]⟩,fun h=>by simp at h⟩
    rcases e with e | e
    ·exact e
    ·simp [Value.ownBlock] at e;omega
 obtain ⟨xs0,hgo0,hno0⟩:=hxs0
 have hI0:WayI w1 p s w20 (.slice (some ⟨b5,0,none⟩) 1 1) [c0] j0 bad0 1:=⟨Row.new hn5 6 1 rfl (by omega),fun b e=>by simp [Value.ownBlock] at e;omega,hP2.mod hn5.grow (fun h=>h),hj0,hm2.trans (Mod.any' hn5.grow),by simp⟩
 refine GG ?_
 refine RK.loop (fun t:Value×List Cel×List Rx×Nat×Nat×Bool=>[(0,pp p),(1,.int .i64 (d:Int)),(4,pp b4),(5,t.1)]) (fun t w'=>WayI w1 p s w' t.1 t.2.1 t.2.2.2.1 t.2.2.2.2.2 1∧(t.2.2.2.2.2=true→T=none)∧(t.2.2.2.2.2=false→RxV (KOf w1 t.1) w' (lstS t.2.2.1) t.2.1∧(waysL s g t.2.2.2.2.1 t.2.2.2.1 t.2.2.1).map (fun p=>(mkN 3 p.1,p.2))=T∧s.size + 1≤t.2.2.2.2.1 + t.2.2.2.1)) (fun t=>if t.2.2.2.2.2 then 0 else s.size + 1 - t.2.2.2.1) (.slice (some ⟨b5,0,none⟩) 1 1,[c0],xs0,j0,s.size + 1,bad0) ⟨rfl,rfl,rfl,rfl,trivial⟩ ⟨hI0,hno0,fun hb=>⟨(hgo0 hb).1,(hgo0 hb).2,by simp only;omega⟩⟩ (fun t w3 hI0' ih=>?_)
 obtain ⟨u,ks,xs,i,n,bad⟩:=t
 obtain ⟨hI,hno,hgo⟩:=hI0'
 simp only at hI hno hgo
 have hile:=hI.le
 have hup:∀ b,u.ownBlock=some b→¬ b=p:=fun b e e2=>by have h1:=hI.fresh b e;unfold Old at hpo;omega
 refine GG ?_
 refine OP (Does.call rfl e218 (next_ok _ p s i bad hI.pa (by omega) 124)) ?_
 rintro _ w4 ⟨rfl,hP4,hm4⟩
 refine RL.done ?_
 refine CD (fun h11=>?_) (fun h11=>?_)
 ·obtain ⟨hb,his,h124⟩:bad=false∧i < s.size∧b8 s i=124:=by simpa [seesS] using h11
  subst hb
  rw [h11] at hP4
  have hP4' : PA w4 p s (i + 1) false:=hP4
  obtain ⟨hk,hl,hn⟩:=hgo rfl
  obtain ⟨m,rfl⟩:∃ m,n=m + 1:=⟨n - 1,by omega⟩
  have hbar:barS s i=true:=by unfold barS;exact decide_eq_true ⟨his,h124⟩
  rw [waysL,if_pos hbar] at hl
  refine GG ?_
  refine OP (Does.call rfl e217 (way_ok s hs p d hd g hg hg8 hgw _ (i + 1) hP4' (by omega))) ?_
  rintro _ w7 ⟨⟨c,j,bad,rfl,hj,hP7,hno7,hyes7⟩,hm7⟩
  refine OP (Does.slice1 u178 i180 rfl rfl rfl rfl rfl) ?_
  rintro _ w8 ⟨b8,rfl,hn8⟩
  have hru:∀ b,u.ownBlock=some b→b < w4.heap.size:=fun b e=>by have h1:=hI.row.lt e;have h2:=hm4.size;omega
  have hcnt:=hI.cnt
  refine OP (Does.append u178 i180 rfl rfl rfl rfl rfl (((hI.row.mod hm4 hup).mod hm7 hup).mod hn8.grow (fun _ _ h=>h)) (Sl.new hn8 6 1 rfl (by omega) (fun h=>h)) (rfl) (by omega)) ?_
  rintro u9 w9 ⟨hr9,hm9,hu9⟩
  have hs16:=hI.mod.size
  have hs36:=hm4.size
  have hs67:=hm7.size
  have hs78:=hn8.grow.size
  have hI9:WayI w1 p s w9 u9 (ks ++ [c]) j bad 1:=⟨by rw [List.length_append,List.flatMap_append];exact hr9,fun b e=>by
    rcases hu9 with h1 | h1
    ·exact hI.fresh b (h1 ▸ e)
    ·rw [h1] at e;cases e;omega
   ,(hP7.mod hn8.grow (fun h=>h)).mod hm9 (fun e=>hup p e rfl),hj,(((hI.mod.trans hm4).trans hm7).trans (Mod.any' hn8.grow)).then hm9 (fun b hb e=>by have h1:=hI.fresh b e;omega),by have h1:=hcnt.2 rfl;simp;omega,fun hb=>by have h1:=hcnt.2 rfl;obtain ⟨x,hx,_⟩:=hyes7 hb;have h8:=wayS_adv hg (by omega) hx;simp;omega⟩
  refine GG ?_
  exact RK.back (ih (u9,ks ++ [c],xs ++ (match wayS s g (i + 1) with | some q=>[q.1] | none=>[]),j,m,bad) _ ⟨hI9,fun hb=>by simp only at hb;rw [← hl,hno7 hb];rfl,fun hb=>by
    simp only at hb ⊢
    obtain ⟨x,hx,hrx⟩:=hyes7 hb
    rw [hx] at hl ⊢
    have h8:=wayS_adv hg (by omega) hx
    exact ⟨kids_more hpo (by omega) hru (RxV.mod hm4 (fun b _ e=>by have e' : b=p:=e;rw [e'];exact .inl hpo) _ hk) hm7 hrx hn8 hm9 hu9,hl,by omega⟩⟩ (by
    simp only [Bool.false_eq_true,if_false]
    split
    ·omega
    ·rename_i hb9
     obtain ⟨x,hx,_⟩:=hyes7 (by simpa using hb9)
     have h8:=wayS_adv hg (by omega) hx
     omega)) ⟨rfl,rfl,rfl,rfl,trivial⟩
 ·have h11' : seesS s i bad 124=false:=by simpa using h11
  rw [h11'] at hP4
  have hP4' : PA w4 p s i bad:=hP4
  have hI4:WayI w1 p s w4 u ks i bad 1:=⟨hI.row.mod hm4 hup,hI.fresh,hP4',hI.le,hI.mod.trans hm4,hI.cnt⟩
  have hgo4:bad=false→RxV (KOf w1 u) w4 (lstS xs) ks∧(waysL s g n i xs).map (fun p=>(mkN 3 p.1,p.2))=T∧s.size + 1≤n + i:=fun hb=>⟨RxV.mod hm4 (fun b _ e=>by have e' : b=p:=e;rw [e'];exact .inl hpo) _ (hgo hb).1,(hgo hb).2⟩
  have hgr:Grow w4 w4:=Mod.refl _ _
  have hend:bad=false→waysS s g i0=some (mkN 3 xs,i):=fun hb=>by
    obtain ⟨hk,hl,hn⟩:=hgo hb
    obtain ⟨m,rfl⟩:∃ m,n=m + 1:=⟨n - 1,by omega⟩
    rw [← hT,← hl,waysL,if_neg (fun h=>by unfold barS at h;simp at h;simp [seesS,hb,h] at h11')];rfl
  have hnone:bad=true→waysS s g i0=none:=fun hb=>by rw [← hT,hno hb]
  have hs1x:=hI4.mod.size
  obtain ⟨adu,cu,rfl,hcu9⟩:=hI4.row.cap
  refine RK.exit rfl ?_
  refine GG ?_
  refine QQ (Yld.lenSl u178 rfl) ?_
  refine GG ?_
  refine CD (fun h20=>?_) (fun h20=>?_)
  ·obtain ⟨c,rfl⟩:∃ c,ks=[c]:=by
     match ks,h20 with
     | [c],_=>exact ⟨c,rfl⟩
   have hsu:Sl No w4 (.slice adu [c].length cu) 6 [c].length ([c].flatMap celC):=Sl.own hI4.row (fun _ _ h=>h)
   obtain ⟨bu,ou,cu',heu,_,_,hcu⟩:=hsu.elem (k:=0) celC_len rfl
   cases heu
   refine GG ?_
   refine QQ (Yld.indexAddr u178 i180 rfl rfl (by omega) (by simp)) ?_
   refine QQ (Yld.loadN (cs:=celC c) a180 rfl (atN (fun j u hj=>hgr.cell (hcu j u hj) (fun h=>h)))) ?_
   refine OQ (Does.storeN i180 rfl rfl rfl rfl ((hn4.blk.mod hI4.mod hb4p).mod hgr (fun h=>h)) (Nat.le_refl 6)) ?_
   rintro _ w19 ⟨hb19,hm19,_⟩
   refine RL.done ?_
   refine RK.ret_of Tryz.func195 (resC (cs:=celC c) rfl rfl a180 hb19) ?_ _
   exact ⟨_,rfl,⟨c,i,bad,rfl,hI4.le,(hI4.pa.mod hgr (fun h=>h)).mod hm19 (by omega),hnone,fun hb=>by
     obtain ⟨hk,hl,hn⟩:=hgo4 hb
     obtain ⟨x,rfl⟩:∃ x,xs=[x]:=by
      have h9:=rx_len xs hk
      match xs,h9 with
      | [x],_=>exact ⟨x,rfl⟩
     obtain ⟨c',ks',e1,hx,_⟩:=hk
     cases e1
     exact ⟨x,hend hb,RxV.off (fun b _ e=>.inl (hl01 b e)) x (RxV.mod hm19 (fun b _ e=>by have e' : b=b4:=e;rw [e'];exact .inl hb4o) x (RxV.grow hgr x hx))⟩⟩,((((Mod.any' hg4:Mod (·=p) w w1).trans hI4.mod).trans (Mod.any' hgr))).then hm19 (fun b hb e=>by have e' : b=b4:=e;omega)⟩
  ·refine GG ?_
   refine QQ (Yld.build (v:=.agg #[.int .i64 3,.int .u64 0,.int .u64 0,.int .u64 0,.int .u64 0,.slice adu ks.length cu]) rfl (fun w=>by kernel_rfl)) ?_
   refine OQ (Does.storeN i180 rfl rfl rfl rfl ((hn4.blk.mod hI4.mod hb4p).mod hgr (fun h=>h)) (Nat.le_refl 6)) ?_
   rintro _ w19 ⟨hb19,hm19,_⟩
   refine RL.done ?_
   refine RK.ret_of Tryz.func195 (resC (cs:=[.int .i64 3,.int .u64 0,.int .u64 0,.int .u64 0,.int .u64 0,.slice adu ks.length cu]) rfl rfl a180 hb19) ?_ _
   exact ⟨_,rfl,⟨⟨3,0,0,0,0,adu,ks.length,cu⟩,i,bad,rfl,hI4.le,(hI4.pa.mod hgr (fun h=>h)).mod hm19 (by omega),hnone,fun hb=>by
     obtain ⟨hk,hl,hn⟩:=hgo4 hb
     have h9:=rx_len xs hk
     have hmk:=mkN_ne (op:=3) (l:=xs) (by rw [← h9];omega)
     refine ⟨_,hend hb,?_⟩
     rw [hmk]
     refine ⟨adu,ks.length,cu,ks,⟨rfl,hcu9⟩,?_,?_⟩
     ·exact ((Sl.own (M:=Old w1) (hI4.row.mod hgr (fun _ _ h=>h)) (fun b e e2=>by have h8:=hI4.fresh b e;unfold Old at e2;omega)).mod (hm19.mono fun b _ e=>by have e' : b=b4:=e;rw [e'];exact hb4o)).off (by omega) (fun b _ e=>hl01 b e)
     ·exact RxV.off (fun b _ e=>.inl (hl01 b e)) _ (RxV.mod hm19 (fun b _ e=>by have e' : b=b4:=e;rw [e'];exact .inl hb4o) _ (RxV.grow hgr _ hk))⟩,((((Mod.any' hg4:Mod (·=p) w w1).trans hI4.mod).trans (Mod.any' hgr))).then hm19 (fun b hb e=>by have e' : b=b4:=e;omega)⟩
theorem par_adv (s:ByteArray):∀ r i x j,i≤s.size→par s r i=some (x,j)→i≤j∧j≤s.size
 | 0,i,x,j,hi,h=>waysS_adv (g:=fun _=>none) (fun _ _ _ _ h=>by cases h) hi h
 | r + 1,i,x,j,hi,h=>waysS_adv (g:=par s r) (par_adv s r) hi h
theorem par_ok (s:ByteArray) (hs:s.size≤40) (p:Nat):∀ (r d:Nat),d + r=8→∀ w i,PA w p s i false→i≤s.size→Fx Tryz.prog 195 [pp p,.int .i64 (d:Int)] w (fun u w'=>RT w w' p s (par s r i) u∧Mod (·=p) w w')
 | 0,d,hd,w,i,h,hi=>ways_ok s hs p d (by omega) (fun _=>none) (fun _ _ _ _ h=>by cases h) (fun _ _=>rfl) (fun h8=>by omega) w i h hi
 | r + 1,d,hd,w,i,h,hi=>ways_ok s hs p d (by omega) (par s r) (par_adv s r) (fun h8=>by omega) (fun h8 w i h hi=>par_ok s hs p r (d + 1) (by omega) w i h hi) w i h hi
theorem way_bad (s:ByteArray) (p:Nat) (d:Int) (w:World) (i:Nat) (h:PA w p s i true) :
  Fx Tryz.prog 217 [pp p,.int .i64 d] w (fun u w'=>∃ c:Cel,u=.agg (celC c).toArray∧PA w' p s i true∧Mod (·=p) w w'):=by
 have hplt:=h.lt
 refine enter Tryz.func217 rfl rfl rfl _ (Pick.sub (l:=[0,1]) (.cons rfl (.cons rfl .nil))) ?_
 refine GG ?_
 refine OP (Does.alloc i180) ?_
 rintro _ w1 ⟨b4,rfl,hn4⟩
 have hb4:=hn4.at_
 have hb4p:¬ b4=p:=by omega
 refine GG ?_
 refine RK.loop (fun t:Unit=>[(0,pp p),(4,pp b4),(5,.slice none 0 0)]) (fun t w'=>Grow w1 w') (fun t=>0) () ⟨rfl,rfl,rfl,trivial⟩ (Mod.refl _ _) (fun t w3 hI ih=>?_)
 have hP3:=(h.mod hn4.grow (fun h=>h)).mod hI (fun h=>h)
 refine GG ?_
 refine OP (Does.call rfl e233 (over_ok _ p s i true hP3)) ?_
 rintro _ w4 ⟨rfl,hg34⟩
 refine GG ?_
 refine RL.knownF (d:=9) rfl rfl (rfl) ?_
 iterate 3 refine RL.no (.no rfl rfl rfl rfl) rfl rfl ?_
 refine GG ?_
 iterate 3 refine RL.no (.no rfl rfl rfl rfl) rfl rfl ?_
 refine GG ?_
 refine RK.condF rfl ?_
 refine RK.exit rfl ?_
 refine GG ?_
 refine QQ (Yld.lenSl u178 rfl) ?_
 refine GG ?_
 refine RK.condF (hcF rfl (rfl)) ?_
 refine GG ?_
 refine QQ (Yld.build (v:=.agg #[.int .i64 2,.int .u64 0,.int .u64 0,.int .u64 0,.int .u64 0,.slice none 0 0]) rfl (fun w=>by kernel_rfl)) ?_
 refine OQ (Does.storeN i180 rfl rfl rfl rfl ((hn4.blk.mod hI (fun h=>h)).mod hg34 (fun h=>h)) (Nat.le_refl 6)) ?_
 rintro _ w19 ⟨hb19,hm19,_⟩
 refine RL.done ?_
 refine RK.ret_of Tryz.func217 (resC (cs:=[.int .i64 2,.int .u64 0,.int .u64 0,.int .u64 0,.int .u64 0,.slice none 0 0]) rfl rfl a180 hb19) ?_ _
 exact ⟨_,rfl,⟨2,0,0,0,0,none,0,0⟩,rfl,(hP3.mod hg34 (fun h=>h)).mod hm19 (by omega),(Mod.any' ((hn4.grow.trans hI).trans hg34)).then hm19 (fun b hb e=>by have e' : b=b4:=e;omega)⟩
theorem ways_bad (s:ByteArray) (p:Nat) (d:Int) (w:World) (i:Nat) (hi:i≤1000) (h:PA w p s i true) :
  Fx Tryz.prog 195 [pp p,.int .i64 d] w (fun u w'=>∃ c:Cel,u=.agg (celC c).toArray∧PA w' p s i true∧Mod (·=p) w w'):=by
 have hplt:=h.lt
 have hse:seesS s i true 124=false:=rfl
 refine enter Tryz.func195 rfl rfl rfl _ (Pick.sub (l:=[0,1]) (.cons rfl (.cons rfl .nil))) ?_
 refine GG ?_
 refine OP (Does.alloc i180) ?_
 rintro _ w1 ⟨b4,rfl,hn4⟩
 have hb4:=hn4.at_
 have hb4p:¬ b4=p:=by omega
 refine GG ?_
 refine OP (Does.call rfl e217 (way_bad s p d _ i (h.mod hn4.grow (fun h=>h)))) ?_
 rintro _ w2 ⟨c,rfl,hP2,hm2⟩
 refine OP (Does.slice1 u178 i180 rfl rfl rfl rfl rfl) ?_
 rintro _ w20 ⟨b5,rfl,hn5⟩
 have hm120:=hm2.trans (Mod.any' hn5.grow)
 refine GG ?_
 refine RK.loop (fun t:Unit=>[(0,pp p),(4,pp b4),(5,.slice (some ⟨b5,0,none⟩) 1 1)]) (fun t w'=>PA w' p s i true∧Mod (·=p) w20 w') (fun t=>0) () ⟨rfl,rfl,rfl,trivial⟩ ⟨hP2.mod hn5.grow (fun h=>h),Mod.refl _ _⟩ (fun t w3 hI ih=>?_)
 obtain ⟨hP3,hm203⟩:=hI
 refine GG ?_
 refine OP (Does.call rfl e218 (next_ok _ p s i true hP3 (by omega) 124)) ?_
 rintro _ w4 ⟨rfl,hP4,hm4⟩
 rw [hse] at hP4 ⊢
 have hP4' : PA w4 p s i true:=hP4
 have hb5:=hn5.at_
 have hs12:=hm2.size
 have hb4s:=hn4.size
 have hb5p:¬ b5=p:=by omega
 refine RL.done ?_
 refine RK.condF (hcF rfl (rfl)) ?_
 refine RK.exit rfl ?_
 refine GG ?_
 refine QQ (Yld.lenSl u178 rfl) ?_
 refine GG ?_
 refine RK.condT (hcT rfl (rfl)) ?_
 have hB5:=(hn5.blk.mod hm203 hb5p).mod hm4 hb5p
 refine GG ?_
 refine QQ (Yld.indexAddr u178 i180 rfl rfl (by omega) (by omega)) ?_
 refine QQ (Yld.loadN (cs:=celC c) a180 rfl (atN (blk0' hB5))) ?_
 refine OQ (Does.storeN i180 rfl rfl rfl rfl (((hn4.blk.mod hm120 hb4p).mod hm203 hb4p).mod hm4 hb4p) (Nat.le_refl 6)) ?_
 rintro _ w19 ⟨hb19,hm19,_⟩
 refine RL.done ?_
 refine RK.ret_of Tryz.func195 (resC (cs:=celC c) rfl rfl a180 hb19) ?_ _
 exact ⟨_,rfl,c,rfl,hP4'.mod hm19 (by omega),((((Mod.any' hn4.grow).trans hm120).trans hm203).trans hm4).then hm19 (fun b hb e=>by have e' : b=b4:=e;omega)⟩
theorem parse_ok (s:ByteArray) (w:World) :
  Fx Tryz.prog 159 [.string s] w (fun u w'=>∃ c:Cel,u=.tuple #[.agg (celC c).toArray,.bool (parseS s).isSome]∧Grow w w'∧∀ x,parseS s=some x→RxV (Old w) w' x [c]):=by
 by_cases hs:s.size≤40
 ·have hps0:parseS s=match par s 8 0 with | some (x,j)=>if j < s.size then none else some x | none=>none:=by unfold parseS;rw [if_neg (by omega)];rfl
  refine enter Tryz.func159 rfl rfl rfl _ (Pick.sub (l:=[0]) (.cons rfl .nil)) ?_
  refine GG ?_
  refine OP (Does.alloc i180) ?_
  rintro _ w1 ⟨b2,rfl,hn2⟩
  refine GG ?_
  refine QQ (Yld.lenStr u9 rfl) ?_
  refine RL.p rfl rfl ?_
  refine QQ (Yld.build (v:=.agg #[.string s,.int .i64 0,.bool (decide (40 < (s.size:Int)))]) rfl (fun w=>by kernel_rfl)) ?_
  refine OP (Does.box rfl) ?_
  rintro _ w2 ⟨p,rfl,hn4⟩
  have hP:PA w2 p s 0 false:=by have h:=hn4.blk;rw [decide_eq_false (by omega)] at h;exact h
  refine GG ?_
  refine OP (Does.call rfl e195 (par_ok s hs p 8 0 rfl _ 0 hP (by omega))) ?_
  rintro _ w3 ⟨⟨c,j,bad,rfl,hj,hP3,hno,hyes⟩,hm3⟩
  have hb2:=hn2.at_
  have hb2s:=hn2.size
  have hp:=hn4.at_
  have hps:=hn4.size
  have hs3:=hm3.size
  have hb2p:¬ b2=p:=by omega
  refine OP (Does.alloc i180) ?_
  rintro _ w5 ⟨b5,rfl,hn5⟩
  refine OQ (Does.storeN i180 rfl rfl rfl rfl hn5.blk (Nat.le_refl 6)) ?_
  rintro _ w6 ⟨hb6,hm6,_⟩
  have hb5:=hn5.at_
  have hb25:¬ b2=b5:=by omega
  have hB6:Blk w6 b5 180 (celC c):=hb6
  have hg03:Grow w w3:=(hn2.grow.trans hn4.grow).then hm3 (fun b hb e=>by have e' : b=p:=e;omega)
  have hg06:Grow w w6:=(hg03.trans hn5.grow).then hm6 (fun b hb e=>by have e' : b=b5:=e;omega)
  have hP6:PA w6 p s j bad:=(hP3.mod hn5.grow (fun h=>h)).mod hm6 (by omega)
  refine GG ?_
  refine QQ (Yld.fieldAddr fo246_2 rfl) ?_
  refine QQ (Yld.load p4 rfl (at1 (Blk.cell hP6 rfl))) ?_
  refine RL.p rfl rfl ?_
  refine SP 18 (fun h18=>?_) (fun h18=>?_)
  ·have hnone:parseS s=none:=by rw [hps0,hno h18]
   iterate 7 refine RL.no (.no rfl rfl rfl rfl) rfl rfl ?_
   refine GG ?_
   refine RK.condT rfl ?_
   refine GG ?_
   refine QQ (Yld.build (v:=.agg #[.int .i64 0,.int .u64 0,.int .u64 0,.int .u64 0,.int .u64 0,.slice none 0 0]) rfl (fun w=>by kernel_rfl)) ?_
   refine OQ (Does.storeN i180 rfl rfl rfl rfl (((((hn2.blk.mod hn4.grow (fun h=>h)).mod hm3 hb2p).mod hn5.grow (fun h=>h)).mod hm6 hb25)) (Nat.le_refl 6)) ?_
   rintro _ w19 ⟨hb19,hm19,_⟩
   refine GG ?_
   refine RK.ret_of Tryz.func159 (resCT (cs:=celC ⟨0,0,0,0,0,none,0,0⟩) rfl rfl a180 hb19 rfl) ?_ _
   exact ⟨_,rfl,⟨0,0,0,0,0,none,0,0⟩,by rw [hnone];rfl,hg06.then hm19 (fun b hb e=>by have e' : b=b2:=e;omega),fun x hx=>by rw [hnone] at hx;cases hx⟩
  ·obtain ⟨x,hx,hrx⟩:=hyes h18
   iterate 2 refine QQ (Yld.pure rfl) ?_
   refine QQ (Yld.fieldAddr fo246_1 rfl) ?_
   refine QQ (Yld.load p3 rfl (at1 (Blk.cell hP6 rfl))) ?_
   refine QQ (Yld.pure rfl) ?_
   refine QQ (Yld.lenStr u9 rfl) ?_
   refine QQ (Yld.pure rfl) ?_
   refine GG ?_
   refine CD (fun h26=>?_) (fun h26=>?_)
   ·have hnone:parseS s=none:=by rw [hps0,hx];show (if j < s.size then none else some x)=none;rw [if_pos (by omega)]
    refine GG ?_
    refine QQ (Yld.build (v:=.agg #[.int .i64 0,.int .u64 0,.int .u64 0,.int .u64 0,.int .u64 0,.slice none 0 0]) rfl (fun w=>by kernel_rfl)) ?_
    refine OQ (Does.storeN i180 rfl rfl rfl rfl (((((hn2.blk.mod hn4.grow (fun h=>h)).mod hm3 hb2p).mod hn5.grow (fun h=>h)).mod hm6 hb25)) (Nat.le_refl 6)) ?_
    rintro _ w19 ⟨hb19,hm19,_⟩
    refine GG ?_
    refine RK.ret_of Tryz.func159 (resCT (cs:=celC ⟨0,0,0,0,0,none,0,0⟩) rfl rfl a180 hb19 rfl) ?_ _
    exact ⟨_,rfl,⟨0,0,0,0,0,none,0,0⟩,by rw [hnone];rfl,hg06.then hm19 (fun b hb e=>by have e' : b=b2:=e;omega),fun x hx=>by rw [hnone] at hx;cases hx⟩
   ·have hsome:parseS s=some x:=by rw [hps0,hx];show (if j < s.size then none else some x)=some x;rw [if_neg (by omega)]
    refine GG ?_
    refine QQ (Yld.loadN (cs:=celC c) a180 rfl (atN (blk0' hB6))) ?_
    refine OQ (Does.storeN i180 rfl rfl rfl rfl (((((hn2.blk.mod hn4.grow (fun h=>h)).mod hm3 hb2p).mod hn5.grow (fun h=>h)).mod hm6 hb25)) (Nat.le_refl 6)) ?_
    rintro _ w19 ⟨hb19,hm19,_⟩
    have hl:∀ b,Old w b→Old w2 b:=fun b e=>by unfold Old at *;omega
    have hrx3:RxV (fun b=>Old w2 b∨b=b5) w3 x [c]:=RxV.off (fun b hb e=>e.elim (fun e=>e) (fun e=>by omega)) x hrx
    have hrx9:RxV (Old w) w19 x [c]:=RxV.off (fun b _ e=>.inl (hl b e)) x (RxV.mod hm19 (fun b _ e=>by have e' : b=b2:=e;unfold Old;omega) x (RxV.mod hm6 (fun b hb e=>.inr e) x (RxV.grow hn5.grow x hrx3)))
    refine GG ?_
    refine RK.ret_of Tryz.func159 (resCT (cs:=celC c) rfl rfl a180 hb19 rfl) ?_ _
    exact ⟨_,rfl,c,by rw [hsome];rfl,hg06.then hm19 (fun b hb e=>by have e' : b=b2:=e;omega),fun y hy=>by rw [hsome] at hy;cases hy;exact hrx9⟩
 ·have hnone:parseS s=none:=by unfold parseS;rw [if_pos (by omega)]
  refine enter Tryz.func159 rfl rfl rfl _ (Pick.sub (l:=[0]) (.cons rfl .nil)) ?_
  refine GG ?_
  refine OP (Does.alloc i180) ?_
  rintro _ w1 ⟨b2,rfl,hn2⟩
  refine GG ?_
  refine QQ (Yld.lenStr u9 rfl) ?_
  refine RL.p rfl rfl ?_
  refine QQ (Yld.build (v:=.agg #[.string s,.int .i64 0,.bool (decide (40 < (s.size:Int)))]) rfl (fun w=>by kernel_rfl)) ?_
  refine OP (Does.box rfl) ?_
  rintro _ w2 ⟨p,rfl,hn4⟩
  have hP:PA w2 p s 0 true:=by have h:=hn4.blk;rw [decide_eq_true (by omega)] at h;exact h
  refine GG ?_
  refine OP (Does.call rfl e195 (ways_bad s p 0 _ 0 (by omega) hP)) ?_
  rintro _ w3 ⟨c,rfl,hP3,hm3⟩
  have hb2:=hn2.at_
  have hb2s:=hn2.size
  have hp:=hn4.at_
  have hps:=hn4.size
  have hs3:=hm3.size
  have hb2p:¬ b2=p:=by omega
  refine OP (Does.alloc i180) ?_
  rintro _ w5 ⟨b5,rfl,hn5⟩
  refine OQ (Does.storeN i180 rfl rfl rfl rfl hn5.blk (Nat.le_refl 6)) ?_
  rintro _ w6 ⟨hb6,hm6,_⟩
  have hb5:=hn5.at_
  have hb25:¬ b2=b5:=by omega
  have hB6:Blk w6 b5 180 (celC c):=hb6
  have hg03:Grow w w3:=(hn2.grow.trans hn4.grow).then hm3 (fun b hb e=>by have e' : b=p:=e;omega)
  have hg06:Grow w w6:=(hg03.trans hn5.grow).then hm6 (fun b hb e=>by have e' : b=b5:=e;omega)
  have hP6:PA w6 p s 0 true:=(hP3.mod hn5.grow (fun h=>h)).mod hm6 (by omega)
  refine GG ?_
  refine QQ (Yld.fieldAddr fo246_2 rfl) ?_
  refine QQ (Yld.load p4 rfl (at1 (Blk.cell hP6 rfl))) ?_
  refine RL.p rfl rfl ?_
  refine RL.knownT (d:=18) rfl rfl (rfl) ?_
  iterate 7 refine RL.no (.no rfl rfl rfl rfl) rfl rfl ?_
  refine GG ?_
  refine RK.condT (hcT rfl (rfl)) ?_
  refine GG ?_
  refine QQ (Yld.build (v:=.agg #[.int .i64 0,.int .u64 0,.int .u64 0,.int .u64 0,.int .u64 0,.slice none 0 0]) rfl (fun w=>by kernel_rfl)) ?_
  refine OQ (Does.storeN i180 rfl rfl rfl rfl (((((hn2.blk.mod hn4.grow (fun h=>h)).mod hm3 hb2p).mod hn5.grow (fun h=>h)).mod hm6 hb25)) (Nat.le_refl 6)) ?_
  rintro _ w19 ⟨hb19,hm19,_⟩
  refine GG ?_
  refine RK.ret_of Tryz.func159 (resCT (cs:=celC ⟨0,0,0,0,0,none,0,0⟩) rfl rfl a180 hb19 rfl) ?_ _
  exact ⟨_,rfl,⟨0,0,0,0,0,none,0,0⟩,by rw [hnone];rfl,hg06.then hm19 (fun b hb e=>by have e' : b=b2:=e;omega),fun x hx=>by rw [hnone] at hx;cases hx⟩
end Go.Proofs.YtbcbfjnlnmhpbaaGreat
set_option linter.unusedVariables false
set_option linter.unusedSimpArgs false
set_option maxHeartbeats 1000000
set_option maxRecDepth 100000
namespace Go.Proofs.YtbcbfjnlnmhpbaaGreat
open Go Go.X Go.Rex
abbrev PB (w:World) (p:Nat) (s:ByteArray) (i:Nat) (d:Int) (bad:Bool):Prop:=Blk w p 206 [.string s,.int .i64 (i:Int),.int .i64 d,.bool bad]
def moreS (s:ByteArray) (i:Nat) (bad:Bool):Bool:=!bad && decide (i < s.size)
theorem more_ok (w:World) (p:Nat) (s:ByteArray) (i:Nat) (d:Int) (bad:Bool) (h:PB w p s i d bad):Fx Tryz.prog 182 [pp p] w (fun u w'=>u=.bool (moreS s i bad)∧Grow w w'):=by
 refine enter Tryz.func182 rfl rfl rfl _ (Pick.sub (l:=[0]) (.cons rfl .nil)) ?_
 refine GG ?_
 refine RK.drawM No [(0,false),(1,false),(2,false),(3,false),(4,false),(5,false),(6,false),(7,false),(8,false),(9,false),(10,false),(11,false),(12,false),(13,false),(14,false),(15,false),(16,false),(17,false)] [] mixed (by kernel_rfl) ?_
 refine GG ?_
 refine DF (Yld.fieldAddr fo206_3 rfl) ?_
 refine DQ (Yld.load p4 rfl (atM (h.cell rfl) (fun h=>h))) (Mod.drew _ _) ?_
 refine GG ?_
 refine SD 8 (fun h8=>?_) (fun h8=>?_)
 ·iterate 2 refine DF (Yld.pure rfl) ?_
  refine DF (Yld.fieldAddr fo206_1 rfl) ?_
  refine DQ (Yld.load p3 rfl (atM (h.cell rfl) (fun h=>h))) (Mod.drew _ _) ?_
  iterate 2 refine DF (Yld.pure rfl) ?_
  refine DF (Yld.fieldAddr fo206_0 rfl) ?_
  refine DQ (Yld.load p9 rfl (atM (h.cell rfl) (fun h=>h))) (Mod.drew _ _) ?_
  refine DQ (Yld.lenStr u9 rfl) (Mod.drew _ _) ?_
  refine DF (Yld.pure rfl) ?_
  refine GG ?_
  refine RK.ret_of Tryz.func182 (res1 rfl rfl) ?_ _
  exact ⟨_,rfl,by unfold moreS;simp_all,Mod.drew _ _⟩
 ·iterate 10 refine DL.no rfl (.no rfl rfl rfl rfl) rfl rfl ?_
  refine GG ?_
  refine RK.ret_of Tryz.func182 (res1 rfl rfl) ?_ _
  exact ⟨_,rfl,by unfold moreS;simp_all,Mod.drew _ _⟩
theorem fail_ok (w:World) (p:Nat) (s:ByteArray) (i:Nat) (d:Int) (bad:Bool) (h:PB w p s i d bad):Fx Tryz.prog 239 [pp p] w (fun u w'=>u=.tuple #[]∧PB w' p s i d true∧Mod (·=p) w w'):=by
 refine enter Tryz.func239 rfl rfl rfl _ (Pick.sub (l:=[0]) (.cons rfl .nil)) ?_
 refine GG ?_
 refine QQ (Yld.fieldAddr fo206_3 rfl) ?_
 refine OQ (Does.store i4 rfl rfl rfl h (.s (.s (.s .z)))) ?_
 rintro _ w3 ⟨hb3,hm3,_⟩
 refine RL.done ?_
 refine RK.end_of Tryz.func239 (res0 rfl) ?_
 exact ⟨_,rfl,rfl,hb3,hm3⟩
def spcS (c:Nat):Bool:=decide (c=124∨c=42∨c=43∨c=63∨c=40∨c=41∨c=91∨c=93∨c=46∨c=92)
theorem special_ok (c:Nat) (w:World):Fx Tryz.prog 242 [.int .u8 (c:Int)] w (fun v w'=>v=.bool (spcS c)∧w=w'):=by
 refine enter Tryz.func242 rfl rfl rfl _ (Pick.sub (l:=[0]) (.cons rfl .nil)) ?_
 refine GG ?_
 refine CD (fun h4=>?_) (fun h4=>?_)
 ·refine RK.skip ?_
  refine RK.condT (hcT rfl (by first | exact h4 | exact decide_eq_true h4 | simpa using h4)) ?_
  refine GG ?_
  refine RK.ret_of Tryz.func242 (res1 rfl rfl) ?_ _
  exact ⟨_,rfl,congrArg _ (by rw [Bool.eq_iff_iff];simp [spcS];omega),rfl⟩
 ·refine GG ?_
  refine CD (fun h4=>?_) (fun h4=>?_)
  ·refine RK.skip ?_
   refine RK.condT (hcT rfl (by first | exact h4 | exact decide_eq_true h4 | simpa using h4)) ?_
   refine GG ?_
   refine RK.ret_of Tryz.func242 (res1 rfl rfl) ?_ _
   exact ⟨_,rfl,congrArg _ (by rw [Bool.eq_iff_iff];simp [spcS];omega),rfl⟩
  ·refine GG ?_
   refine CD (fun h4=>?_) (fun h4=>?_)
   ·refine RK.skip ?_
    refine RK.condT (hcT rfl (by first | exact h4 | exact decide_eq_true h4 | simpa using h4)) ?_
    refine GG ?_
    refine RK.ret_of Tryz.func242 (res1 rfl rfl) ?_ _
    exact ⟨_,rfl,congrArg _ (by rw [Bool.eq_iff_iff];simp [spcS];omega),rfl⟩
   ·refine GG ?_
    refine CD (fun h4=>?_) (fun h4=>?_)
    ·refine RK.skip ?_
     refine RK.condT (hcT rfl (by first | exact h4 | exact decide_eq_true h4 | simpa using h4)) ?_
     refine GG ?_
     refine RK.ret_of Tryz.func242 (res1 rfl rfl) ?_ _
     exact ⟨_,rfl,congrArg _ (by rw [Bool.eq_iff_iff];simp [spcS];omega),rfl⟩
    ·refine GG ?_
     refine CD (fun h4=>?_) (fun h4=>?_)
     ·refine RK.skip ?_
      refine RK.condT (hcT rfl (by first | exact h4 | exact decide_eq_true h4 | simpa using h4)) ?_
      refine GG ?_
      refine RK.ret_of Tryz.func242 (res1 rfl rfl) ?_ _
      exact ⟨_,rfl,congrArg _ (by rw [Bool.eq_iff_iff];simp [spcS];omega),rfl⟩
     ·refine GG ?_
      refine CD (fun h4=>?_) (fun h4=>?_)
      ·refine RK.skip ?_
       refine RK.condT (hcT rfl (by first | exact h4 | exact decide_eq_true h4 | simpa using h4)) ?_
       refine GG ?_
       refine RK.ret_of Tryz.func242 (res1 rfl rfl) ?_ _
       exact ⟨_,rfl,congrArg _ (by rw [Bool.eq_iff_iff];simp [spcS];omega),rfl⟩
      ·refine GG ?_
       refine CD (fun h4=>?_) (fun h4=>?_)
       ·refine RK.skip ?_
        refine RK.condT (hcT rfl (by first | exact h4 | exact decide_eq_true h4 | simpa using h4)) ?_
        refine GG ?_
        refine RK.ret_of Tryz.func242 (res1 rfl rfl) ?_ _
        exact ⟨_,rfl,congrArg _ (by rw [Bool.eq_iff_iff];simp [spcS];omega),rfl⟩
       ·refine GG ?_
        refine CD (fun h4=>?_) (fun h4=>?_)
        ·refine RK.skip ?_
         refine RK.condT (hcT rfl (by first | exact h4 | exact decide_eq_true h4 | simpa using h4)) ?_
         refine GG ?_
         refine RK.ret_of Tryz.func242 (res1 rfl rfl) ?_ _
         exact ⟨_,rfl,congrArg _ (by rw [Bool.eq_iff_iff];simp [spcS];omega),rfl⟩
        ·refine GG ?_
         refine CD (fun h4=>?_) (fun h4=>?_)
         ·refine RK.skip ?_
          refine RK.condT (hcT rfl (by first | exact h4 | exact decide_eq_true h4 | simpa using h4)) ?_
          refine GG ?_
          refine RK.ret_of Tryz.func242 (res1 rfl rfl) ?_ _
          exact ⟨_,rfl,congrArg _ (by rw [Bool.eq_iff_iff];simp [spcS];omega),rfl⟩
         ·refine GG ?_
          refine CD (fun h4=>?_) (fun h4=>?_)
          ·refine GG ?_
           refine RK.ret_of Tryz.func242 (res1 rfl rfl) ?_ _
           exact ⟨_,rfl,congrArg _ (by rw [Bool.eq_iff_iff];simp [spcS];omega),rfl⟩
          ·refine GG ?_
           refine RK.ret_of Tryz.func242 (res1 rfl rfl) ?_ _
           exact ⟨_,rfl,congrArg _ (by rw [Bool.eq_iff_iff];simp [spcS];omega),rfl⟩
theorem quoted_ok (c:Nat) (w:World):Fx Tryz.prog 238 [.int .u8 (c:Int)] w (fun v w'=>v=.bool (quotedS c)∧w=w'):=by
 refine enter Tryz.func238 rfl rfl rfl _ (Pick.sub (l:=[0]) (.cons rfl .nil)) ?_
 refine GG ?_
 refine OP (Does.call rfl e242 (special_ok c _)) ?_
 rintro _ _ ⟨rfl,rfl⟩
 refine RL.p rfl rfl ?_
 refine SP 5 (fun h5=>?_) (fun h5=>?_)
 ·iterate 2 refine RL.no (.no rfl rfl rfl rfl) rfl rfl ?_
  refine GG ?_
  iterate 2 refine RL.no (.no rfl rfl rfl rfl) rfl rfl ?_
  refine GG ?_
  refine RK.ret_of Tryz.func238 (res1 rfl rfl) ?_ _
  exact ⟨_,rfl,congrArg _ (by rw [Bool.eq_iff_iff];simp [spcS,quotedS] at *;omega),rfl⟩
 ·iterate 2 refine QQ (Yld.pure rfl) ?_
  refine GG ?_
  refine SP 9 (fun h9=>?_) (fun h9=>?_)
  ·iterate 2 refine RL.no (.no rfl rfl rfl rfl) rfl rfl ?_
   refine GG ?_
   refine RK.ret_of Tryz.func238 (res1 rfl rfl) ?_ _
   exact ⟨_,rfl,congrArg _ (by rw [Bool.eq_iff_iff];simp [spcS,quotedS] at *;omega),rfl⟩
  ·iterate 2 refine QQ (Yld.pure rfl) ?_
   refine GG ?_
   refine RK.ret_of Tryz.func238 (res1 rfl rfl) ?_ _
   exact ⟨_,rfl,congrArg _ (by rw [Bool.eq_iff_iff];simp [spcS,quotedS] at *;omega),rfl⟩
theorem zero_bit {c:Nat} (hc:c < 256):(wds zero4).set (c / 64) (.int .u64 ((1 <<< (c % 64):Nat):Int))=wds (setBit zero4 c):=by
 rw [← wds_bit W4.zero hc]
 have h4:c / 64 < 4:=by omega
 have:(zero4[c / 64]?).getD 0=0:=by
  have h5:c / 64=0∨c / 64=1∨c / 64=2∨c / 64=3:=by omega
  rcases h5 with h | h | h | h <;> rw [h] <;> rfl
 rw [this,Nat.zero_or]
theorem one_ok (c:Nat) (hc:c < 256) (w:World):Fx Tryz.prog 240 [.int .u8 (c:Int)] w (fun v w'=>v=.agg (wds (setBit zero4 c)).toArray∧Grow w w'):=by
 have h1:(1 <<< (c % 64)) < 18446744073709551616:=by
  rw [Nat.shiftLeft_eq,Nat.one_mul];exact Nat.pow_lt_pow_right (m:=c % 64) (n:=64) (by omega) (Nat.mod_lt _ (by omega))
 have e1:IntKind.u8.wrap ((c:Int).tdiv 64)=((c / 64:Nat):Int):=by
  have e2:(c:Int).tdiv 64=((c / 64:Nat):Int):=by rw [Int.tdiv_eq_ediv_of_nonneg (by omega)];omega
  rw [e2];exact Go.X.wrap_u8 (by omega)
 have e3:(c:Int).tmod 64=((c % 64:Nat):Int):=by rw [Int.tmod_eq_emod_of_nonneg (by omega)];omega
 obtain ⟨x0,x1,x2,x3,hx⟩:=W4.four (W4.zero.bit c)
 refine enter Tryz.func240 rfl rfl rfl _ (Pick.sub (l:=[0]) (.cons rfl .nil)) ?_
 refine GG ?_
 refine OP (Does.alloc i177) ?_
 rintro _ w1 ⟨b2,rfl,hn2⟩
 refine GG ?_
 refine OP (Does.alloc i177) ?_
 rintro _ w2 ⟨b3,rfl,hn3⟩
 have hb2:=hn2.at_
 have hb2s:=hn2.size
 have hb3:=hn3.at_
 refine GG ?_
 refine QQ (Yld.quo rfl rfl (by omega)) ?_
 refine RL.re (d:=5) rfl rfl (congrArg (Value.int .u8) e1) ?_
 refine RL.p rfl rfl ?_
 refine QQ (Yld.rem rfl rfl (by omega)) ?_
 refine RL.re (d:=7) rfl rfl (congrArg (Value.int .u8) e3) ?_
 refine QQ (Yld.convI Tryz.underlying5 Tryz.underlying198 rfl) ?_
 refine RL.re (d:=8) rfl rfl (congrArg (Value.int .u64) (Go.X.wrap_u64 (x:=c % 64) (by omega))) ?_
 refine QQ (Yld.shl (a:=1) rfl rfl (by simp [IntKind.bits];omega)) ?_
 refine RL.re (d:=9) rfl rfl (congrArg (Value.int .u64) (Go.X.wrap_u64 h1)) ?_
 refine QQ (Yld.indexArr Tryz.underlying177 i22 rfl rfl (by omega)) ?_
 refine OQ (Does.store i22 rfl rfl rfl hn3.blk (setAt_of (by show 0 + c / 64 * 1 < 4;omega))) ?_
 rintro _ w3 ⟨hb3',hm3,_⟩
 have hB3:Blk w3 b3 177 (wds [x0,x1,x2,x3]):=by
   rw [← hx,← zero_bit hc]
   have h:=hb3'
   rw [Nat.zero_add,Nat.mul_one] at h
   exact h
 refine GG ?_
 refine QQ (Yld.loadN (cs:=wds [x0,x1,x2,x3]) a177 rfl (atN (blk0' hB3))) ?_
 refine OQ (Does.storeN i177 rfl rfl rfl rfl ((hn2.blk.mod hn3.grow (fun h=>h)).mod hm3 (by omega)) (Nat.le_refl 4)) ?_
 rintro _ w4 ⟨hb4,hm4,_⟩
 refine RL.done ?_
 refine RK.ret_of Tryz.func240 (resC (cs:=wds [x0,x1,x2,x3]) rfl rfl a177 hb4) ?_ _
 exact ⟨_,rfl,by rw [hx],((hn2.grow.trans hn3.grow).then hm3 (fun b hb e=>by have e' : b=b3:=e;omega)).then hm4 (fun b hb e=>by have e' : b=b2:=e;omega)⟩
theorem rmember_ok (w:World) (p:Nat) (s:ByteArray) (i:Nat) (d:Int) (h:PB w p s i d false) (hi:i≤s.size) (hs:s.size≤40):Fx Tryz.prog 245 [pp p] w (fun u w'=>∃ (c j:Nat) (bad:Bool),u=.int .u8 (c:Int)∧c < 256∧j≤s.size∧PB w' p s j d bad∧memS s i=(if bad then none else some (c,j))∧Mod (·=p) w w'):=by
 have hc:=b8_lt s i
 refine enter Tryz.func245 rfl rfl rfl _ (Pick.sub (l:=[0]) (.cons rfl .nil)) ?_
 refine GG ?_
 refine OP (Does.call rfl e182 (more_ok _ p s i d false h)) ?_
 rintro _ w1 ⟨rfl,hg1⟩
 have h1:=h.mod hg1 (fun h=>h)
 refine GG ?_
 refine CD (fun h6=>?_) (fun h6=>?_)
 ·have hl:¬ i < s.size:=by simpa [moreS] using h6
  refine GG ?_
  refine OP (Does.call rfl e239 (fail_ok _ p s i d false h1)) ?_
  rintro _ w2 ⟨rfl,hP2,hm2⟩
  refine GG ?_
  refine RK.ret_of Tryz.func245 (res1 rfl rfl) ?_ _
  exact ⟨_,rfl,0,i,true,rfl,by omega,hi,hP2,by unfold memS;rw [if_neg hl];rfl,(Mod.any' hg1).trans hm2⟩
 ·have hl:i < s.size:=by simpa [moreS] using h6
  refine GG ?_
  refine RK.drawM No [(0,false),(1,false),(2,false),(3,false),(4,false),(5,false),(6,false),(7,false),(8,false),(9,false)] [] mixed (by kernel_rfl) ?_
  refine GG ?_
  refine DF (Yld.fieldAddr fo206_0 rfl) ?_
  refine DQ (Yld.load p9 rfl (atM (Blk.cell h1 rfl) (fun h=>h))) (Mod.drew _ _) ?_
  refine GG ?_
  refine DF (Yld.fieldAddr fo206_1 rfl) ?_
  refine DQ (Yld.load p3 rfl (atM (Blk.cell h1 rfl) (fun h=>h))) (Mod.drew _ _) ?_
  refine DF (Yld.idxStrN u9 rfl rfl (hl)) ?_
  have h1d:PB w1.drew p s i d false:=h1.mod (Mod.drew No _) (fun h=>h)
  refine GG ?_
  refine QQ (Yld.fieldAddr fo206_1 rfl) ?_
  refine QQ (Yld.load p3 rfl (at1 (Blk.cell h1d rfl))) ?_
  refine RL.p rfl rfl ?_
  refine RL.re (d:=22) rfl rfl (succ_i64 (by omega)) ?_
  refine RL.p rfl rfl ?_
  refine QQ (Yld.fieldAddr fo206_1 rfl) ?_
  refine OQ (Does.store i3 rfl rfl rfl h1d (.s .z)) ?_
  rintro _ w2 ⟨hP2',hm2,_⟩
  have hP2:PB w2 p s (i + 1) d false:=hP2'
  have hm02:Mod (·=p) w w2:=((Mod.any' hg1).trans (Mod.drew _ _)).trans hm2
  refine GG ?_
  refine CD (fun h26=>?_) (fun h26=>?_)
  ·have h92:b8 s i=92:=by unfold b8;omega
   have hme:memS s i=signS s (i + 1):=by unfold memS;rw [if_pos hl,if_pos h92]
   refine GG ?_
   refine RK.drawM No [(0,false),(1,true),(2,false),(3,false),(4,false),(5,false),(6,false),(7,false),(8,false),(9,false),(10,false),(11,false),(12,false),(13,true),(14,false),(15,false)] [] mixed (by kernel_rfl) ?_
   refine DL.p rfl rfl rfl ?_
   refine OD (Does.call rfl e182 (more_ok _ p s (i + 1) d false (hP2.mod (Mod.drew No _) (fun h=>h)))) ?_
   rintro _ w3 ⟨rfl,hg3⟩
   have hgd:Grow w2 w3:=(Mod.drew _ _).trans hg3
   refine ⟨hgd,?_⟩
   refine GG ?_
   refine SD 30 (fun h30=>?_) (fun h30=>?_)
   ·have hl2:¬ i + 1 < s.size:=by simpa [moreS] using h30
    iterate 9 refine DL.no rfl (.no rfl rfl rfl rfl) rfl rfl ?_
    refine DL.lno rfl (.no rfl rfl rfl rfl) rfl rfl ?_
    refine DL.no rfl (.no rfl rfl rfl rfl) rfl rfl ?_
    refine GG ?_
    refine RK.condT rfl ?_
    refine GG ?_
    refine OP (Does.call rfl e239 (fail_ok _ p s (i + 1) d false (hP2.mod hgd (fun h=>h)))) ?_
    rintro _ w4 ⟨rfl,hP4,hm4⟩
    refine GG ?_
    refine RK.ret_of Tryz.func245 (res1 rfl rfl) ?_ _
    exact ⟨_,rfl,0,i + 1,true,rfl,by omega,by omega,hP4,by rw [hme];unfold signS;rw [if_neg (fun h=>hl2 h.1)];rfl,(hm02.trans (Mod.any' hgd)).trans hm4⟩
   ·have hl2:i + 1 < s.size:=by simpa [moreS] using h30
    iterate 2 refine DF (Yld.pure rfl) ?_
    refine DF (Yld.fieldAddr fo206_0 rfl) ?_
    refine DQ (Yld.load p9 rfl (atM (Blk.cell hP2 rfl) (fun h=>h))) (hgd) ?_
    iterate 2 refine DF (Yld.pure rfl) ?_
    refine DF (Yld.fieldAddr fo206_1 rfl) ?_
    refine DQ (Yld.load p3 rfl (atM (Blk.cell hP2 rfl) (fun h=>h))) (hgd) ?_
    refine DF (Yld.idxStrN u9 rfl rfl (hl2)) ?_
    refine OD (Does.call rfl e238 (quoted_ok (b8 s (i + 1)) _)) ?_
    rintro _ _ ⟨rfl,rfl⟩
    refine ⟨hgd,?_⟩
    refine DF (Yld.pure rfl) ?_
    refine GG ?_
    refine CD (fun h42=>?_) (fun h42=>?_)
    ·have hq:¬ quotedS (b8 s (i + 1))=true:=by unfold quotedS;simpa using h42
     refine GG ?_
     refine OP (Does.call rfl e239 (fail_ok _ p s (i + 1) d false (hP2.mod hgd (fun h=>h)))) ?_
     rintro _ w4 ⟨rfl,hP4,hm4⟩
     refine GG ?_
     refine RK.ret_of Tryz.func245 (res1 rfl rfl) ?_ _
     exact ⟨_,rfl,0,i + 1,true,rfl,by omega,by omega,hP4,by rw [hme];unfold signS;rw [if_neg (fun h=>hq h.2)];rfl,(hm02.trans (Mod.any' hgd)).trans hm4⟩
    ·have hq:quotedS (b8 s (i + 1))=true:=by unfold quotedS;simpa using h42
     have hP3:=hP2.mod hgd (fun h=>h)
     have hP3' : PB w3 p s (i + 1) d false:=hP3
     refine GG ?_
     refine QQ (Yld.fieldAddr fo206_1 rfl) ?_
     refine QQ (Yld.load p3 rfl (at1 (Blk.cell hP3' rfl))) ?_
     refine RL.p rfl rfl ?_
     refine RL.re (d:=49) rfl rfl (succ_i64 (by omega)) ?_
     refine RL.p rfl rfl ?_
     refine QQ (Yld.fieldAddr fo206_1 rfl) ?_
     refine OQ (Does.store i3 rfl rfl rfl hP3' (.s .z)) ?_
     rintro _ w4 ⟨hP4',hm4,_⟩
     have hP4:PB w4 p s ((i + 1) + 1) d false:=hP4'
     refine GG ?_
     refine RK.drawM No [(0,false),(1,false),(2,false),(3,false),(4,false),(5,false),(6,false),(7,false),(8,false),(9,false),(10,false)] [] mixed (by kernel_rfl) ?_
     refine GG ?_
     refine DF (Yld.fieldAddr fo206_0 rfl) ?_
     refine DQ (Yld.load p9 rfl (atM (Blk.cell hP4 rfl) (fun h=>h))) (Mod.drew _ _) ?_
     refine GG ?_
     refine DF (Yld.fieldAddr fo206_1 rfl) ?_
     refine DQ (Yld.load p3 rfl (atM (Blk.cell hP4 rfl) (fun h=>h))) (Mod.drew _ _) ?_
     refine DL.p rfl rfl rfl ?_
     refine DL.re (d:=60) rfl rfl (sub_i64 (z:=((i + 1:Nat):Int)) (by omega) (by omega) (by omega)) ?_
     refine DF (Yld.idxStrN u9 rfl rfl (hl2)) ?_
     refine GG ?_
     refine RK.ret_of Tryz.func245 (res1 rfl rfl) ?_ _
     exact ⟨_,rfl,b8 s (i + 1),i + 2,false,rfl,b8_lt _ _,by omega,hP4.mod (Mod.drew No _) (fun h=>h),by rw [hme];unfold signS;rw [if_pos ⟨hl2,hq⟩];rfl,((hm02.trans (Mod.any' hgd)).trans hm4).trans (Mod.drew _ _)⟩
  ·have h92:¬ b8 s i=92:=by unfold b8;omega
   have hb8:b8 s i=(bt s i).toNat:=rfl
   refine GG ?_
   refine SP 64 (fun h64=>?_) (fun h64=>?_)
   ·iterate 2 refine RL.no (.no rfl rfl rfl rfl) rfl rfl ?_
    refine GG ?_
    iterate 2 refine RL.no (.no rfl rfl rfl rfl) rfl rfl ?_
    refine GG ?_
    iterate 2 refine RL.no (.no rfl rfl rfl rfl) rfl rfl ?_
    refine GG ?_
    refine RK.condT rfl ?_
    refine GG ?_
    refine OP (Does.call rfl e239 (fail_ok _ p s (i + 1) d false hP2)) ?_
    rintro _ w4 ⟨rfl,hP4,hm4⟩
    refine GG ?_
    refine RK.ret_of Tryz.func245 (res1 rfl rfl) ?_ _
    exact ⟨_,rfl,by first
      | exact ⟨b8 s i,i + 1,true,rfl,hc,by omega,hP4,by unfold memS;rw [if_pos hl,if_neg h92,if_pos (by simp at *;omega)];rfl,hm02.trans hm4⟩
      | exact ⟨b8 s i,i + 1,false,rfl,hc,by omega,hP2,by unfold memS;rw [if_pos hl,if_neg h92,if_neg (by simp at *;omega)];rfl,hm02⟩⟩
   ·iterate 2 refine QQ (Yld.pure rfl) ?_
    refine GG ?_
    refine SP 68 (fun h68=>?_) (fun h68=>?_)
    ·iterate 2 refine RL.no (.no rfl rfl rfl rfl) rfl rfl ?_
     refine GG ?_
     iterate 2 refine RL.no (.no rfl rfl rfl rfl) rfl rfl ?_
     refine GG ?_
     refine RK.condT rfl ?_
     refine GG ?_
     refine OP (Does.call rfl e239 (fail_ok _ p s (i + 1) d false hP2)) ?_
     rintro _ w4 ⟨rfl,hP4,hm4⟩
     refine GG ?_
     refine RK.ret_of Tryz.func245 (res1 rfl rfl) ?_ _
     exact ⟨_,rfl,by first
       | exact ⟨b8 s i,i + 1,true,rfl,hc,by omega,hP4,by unfold memS;rw [if_pos hl,if_neg h92,if_pos (by simp at *;omega)];rfl,hm02.trans hm4⟩
       | exact ⟨b8 s i,i + 1,false,rfl,hc,by omega,hP2,by unfold memS;rw [if_pos hl,if_neg h92,if_neg (by simp at *;omega)];rfl,hm02⟩⟩
    ·iterate 2 refine QQ (Yld.pure rfl) ?_
     refine GG ?_
     refine SP 72 (fun h72=>?_) (fun h72=>?_)
     ·iterate 2 refine RL.no (.no rfl rfl rfl rfl) rfl rfl ?_
      refine GG ?_
      refine RK.condT rfl ?_
      refine GG ?_
      refine OP (Does.call rfl e239 (fail_ok _ p s (i + 1) d false hP2)) ?_
      rintro _ w4 ⟨rfl,hP4,hm4⟩
      refine GG ?_
      refine RK.ret_of Tryz.func245 (res1 rfl rfl) ?_ _
      exact ⟨_,rfl,by first
        | exact ⟨b8 s i,i + 1,true,rfl,hc,by omega,hP4,by unfold memS;rw [if_pos hl,if_neg h92,if_pos (by simp at *;omega)];rfl,hm02.trans hm4⟩
        | exact ⟨b8 s i,i + 1,false,rfl,hc,by omega,hP2,by unfold memS;rw [if_pos hl,if_neg h92,if_neg (by simp at *;omega)];rfl,hm02⟩⟩
     ·iterate 2 refine QQ (Yld.pure rfl) ?_
      refine GG ?_
      refine CD (fun h75=>?_) (fun h75=>?_)
      ·refine GG ?_
       refine OP (Does.call rfl e239 (fail_ok _ p s (i + 1) d false hP2)) ?_
       rintro _ w4 ⟨rfl,hP4,hm4⟩
       refine GG ?_
       refine RK.ret_of Tryz.func245 (res1 rfl rfl) ?_ _
       exact ⟨_,rfl,by first
         | exact ⟨b8 s i,i + 1,true,rfl,hc,by omega,hP4,by unfold memS;rw [if_pos hl,if_neg h92,if_pos (by simp at *;omega)];rfl,hm02.trans hm4⟩
         | exact ⟨b8 s i,i + 1,false,rfl,hc,by omega,hP2,by unfold memS;rw [if_pos hl,if_neg h92,if_neg (by simp at *;omega)];rfl,hm02⟩⟩
      ·refine GG ?_
       refine RK.ret_of Tryz.func245 (res1 rfl rfl) ?_ _
       exact ⟨_,rfl,by first
         | exact ⟨b8 s i,i + 1,true,rfl,hc,by omega,hP4,by unfold memS;rw [if_pos hl,if_neg h92,if_pos (by simp at *;omega)];rfl,hm02.trans hm4⟩
         | exact ⟨b8 s i,i + 1,false,rfl,hc,by omega,hP2,by unfold memS;rw [if_pos hl,if_neg h92,if_neg (by simp at *;omega)];rfl,hm02⟩⟩
end Go.Proofs.YtbcbfjnlnmhpbaaGreat
set_option linter.unusedVariables false
set_option linter.unusedSimpArgs false
set_option maxHeartbeats 1000000
set_option maxRecDepth 100000
namespace Go.Proofs.YtbcbfjnlnmhpbaaGreat
open Go Go.X Go.Rex
structure ClsR (s:ByteArray) (T:Option (List Nat×Nat)) (i0 n:Nat) (bad:Bool) (i:Nat) (set:List Nat):Prop where
 none_:n=0→bad=false∧i=i0
 go:bad=false→∃ m,clsL s m i set=T∧s.size + 1≤m + i
 some_:n≠0→¬ (i0 < s.size∧b8 s i0=93)
 no:bad=true→T=none
 cnt:n≤s.size + 1∧(bad=false→n≤i)
@[irreducible] def topS (s:ByteArray) (i:Nat) (bad:Bool) (c:Nat):Bool:=!bad && decide (i < s.size∧b8 s i≠c)
theorem ClsR.step {s:ByteArray} {T:Option (List Nat×Nat)} {i0 n i:Nat} {set:List Nat} (h:ClsR s T i0 n false i set) (hi:i < s.size) (h93:b8 s i≠93) (hi0:n=0∨n≠0) {c j:Nat} {bad:Bool} (h1:memS s i=if bad then none else some (c,j)) {c2 j2:Nat} {bad2:Bool} (h2:bad=true→bad2=true) (h3:bad=false→toS s c j=if bad2 then none else some (c2,j2)) (hj:j2≤s.size):ClsR s T i0 (n + 1) (bad2 || decide (c2 < c)) j2 (addG set c c2):=by
 obtain ⟨m,hm,hmk⟩:=h.go rfl
 obtain ⟨q,rfl⟩:∃ q,m=q + 1:=⟨m - 1,by omega⟩
 have hb:=(body_go hi h93).symm.trans hm
 have hs:=ClsI.step hb (by omega) h1 h2 h3
 have hn:=h.cnt.2 rfl
 refine ⟨by omega,fun hb=>?_,fun _=>?_,fun hb=>(hs.no hb).2,by omega,fun hb=>?_⟩
 ·exact hs.go rfl hb
 ·by_cases e:n=0
  ·have:=(h.none_ e).2;subst this;exact fun hh=>h93 hh.2
  ·exact h.some_ e
 ·simp at hb
  have hbf:bad=false:=by cases hbb:bad with | false=>rfl | true=>have:=h2 hbb;simp [this] at hb
  rw [hbf] at h1
  have e4:=h3 hbf
  rw [hb.1] at e4
  have h5:=memS_adv h1
  have h6:=toS_adv e4 h5.2.1 h5.2.2
  omega
theorem topS_true {s:ByteArray} {i:Nat} {bad:Bool} {c:Nat} (h:topS s i bad c=true):bad=false∧i < s.size∧b8 s i≠c:=by
 unfold topS at h;simp at h;exact h
theorem rclass_ok (w:World) (p:Nat) (s:ByteArray) (i:Nat) (d:Int) (h:PB w p s i d false) (hi:i≤s.size) (hs:s.size≤40):Fx Tryz.prog 241 [pp p] w (fun u w'=>∃ (c:Cel) (j:Nat) (bad:Bool),u=.agg (celC c).toArray∧j≤s.size∧PB w' p s j d bad∧(bad=true→clsS s i=none)∧(bad=false→∃ l,clsS s i=some (l,j)∧RxV No w' (.set l) [c])∧Mod (·=p) w w'):=by
  have hplt:=h.lt
  have hcl:clsS s i=clsB s (notS s i) (if notS s i then i + 1 else i):=rfl
  have hi0s:(if notS s i then i + 1 else i)≤s.size:=by unfold notS;by_cases e:i < s.size∧b8 s i=94 <;> simp [e] <;> omega
  refine enter Tryz.func241 rfl rfl rfl _ (Pick.sub (l:=[0]) (.cons rfl .nil)) ?_
  refine RK.seq ?_
  refine RK.region ?_
  refine RL.op (.free rfl) rfl rfl (Does.alloc i180) ?_
  rintro _ w1 ⟨b2,rfl,hn2⟩
  have hb2:=hn2.at_
  have hs1:=hn2.size
  have hP1:=h.mod hn2.grow (fun h=>h)
  refine RL.done ?_
  refine RK.seq ?_
  refine RK.cut [(0,pp p),(2,pp b2),(3,.bool (notS s i))] (fun w'=>Grow w1 w') (fun w3 hg13=>?_) (fun hj=>?_)
  · have hP3:=hP1.mod hg13 (fun h=>h)
    refine RK.seq ?_
    refine RK.cut [(0,pp p),(2,pp b2),(3,.bool (notS s i))] (fun w'=>PB w' p s (if notS s i then i + 1 else i) d false∧Mod (·=p) w1 w') (fun w4 hQ4=>?_) (fun hj=>?_)
    · obtain ⟨hP4,hm14⟩:=hQ4
      generalize (if notS s i then i + 1 else i)=i0 at *
      generalize notS s i=no at *
      refine RK.seq ?_
      refine RK.region ?_
      refine RL.op (.free rfl) rfl rfl (Does.alloc i177) ?_
      rintro _ w5 ⟨b4,rfl,hn4⟩
      have hb4:=hn4.at_
      have hs14:=hm14.size
      have hs4:=hn4.size
      have hB5:Blk w5 b4 177 (wds zero4):=hn4.blk
      have hP5:=hP4.mod hn4.grow (fun h=>h)
      have hb4p:b4≠p:=by omega
      have hm15:Mod (fun b=>b=p∨b=b4) w1 w5:=(hm14.mono fun b _ e=>.inl e).trans (Mod.any' hn4.grow)
      obtain ⟨T,hT⟩:∃ T,clsL s (s.size + 1) i0 zero4=T:=⟨_,rfl⟩
      have hclB : clsB s no i0 = if i0 < s.size ∧ b8 s i0 = 93 then none else T.map fun q => (if no then invS q.1 else q.1, q.2) := by
          unfold clsB;rw [hT];cases T <;> rfl
      rw [hclB] at hcl
      refine RL.done ?_
      refine RK.seq ?_
      refine RK.region ?_
      refine RL.p rfl rfl ?_
      refine RL.done ?_
      refine RK.seq ?_
      refine RK.block ?_
      refine RK.loop (fun t:Nat×Bool×Nat×List Nat=>[(0,pp p),(2,pp b2),(3,.bool no),(4,pp b4),(5,.int .i64 (t.1:Int))]) (fun t w'=>PB w' p s t.2.2.1 d t.2.1∧Blk w' b4 177 (wds t.2.2.2)∧W4 t.2.2.2∧t.2.2.1≤s.size∧ClsR s T i0 t.1 t.2.1 t.2.2.1 t.2.2.2∧Mod (fun b=>b=p∨b=b4) w1 w') (fun t=>if t.2.1 then 0 else s.size + 1 - t.2.2.1) (0,false,i0,zero4) ⟨rfl,rfl,rfl,rfl,rfl,trivial⟩ ⟨hP5,hB5,W4.zero,hi0s,⟨fun _=>⟨rfl,rfl⟩,fun _=>⟨s.size + 1,hT,by simp only;omega⟩,fun h=>absurd rfl h,by simp,by simp⟩,hm15⟩ (fun t w6 hI ih=>?_)
      obtain ⟨n,bad,k,set⟩:=t
      obtain ⟨hP,hB,hW,hk,hC,hm⟩:=hI
      simp only at hP hB hW hk hC
      iterate 2 refine RK.seq ?_
      refine RK.cut [(0,pp p),(2,pp b2),(3,.bool no),(4,pp b4),(5,.int .i64 (n:Int)),(45,.bool (topS s k bad 93))] (fun w'=>Grow w6 w') (fun w7 hg67=>?_) (fun hj=>?_)
      · have hP7:=hP.mod hg67 (fun h=>h)
        have hB7:=hB.mod hg67 (fun h=>h)
        have hm7:Mod (fun b=>b=p∨b=b4) w1 w7:=hm.trans (Mod.any' hg67)
        first | refine RK.condD rfl (fun h45=>?_) (fun h45=>?_) | refine RK.condN rfl (fun h45=>?_) (fun h45=>?_) | refine RK.cond rfl (fun h45=>?_) (fun h45=>?_)
        · obtain ⟨hbad,hks,h93⟩:=topS_true h45
          subst hbad
          refine RK.skip ?_
          refine RK.block ?_
          refine RK.seq ?_
          refine RK.region ?_
          refine RL.p rfl rfl ?_
          refine RL.op (.free rfl) rfl rfl (Does.call rfl e245 (rmember_ok _ p s k d hP7 (Nat.le_of_lt hks) hs)) ?_
          rintro _ w8 ⟨c,j,bd,rfl,hc,hj1,hP8,hmem,hm8⟩
          have hB8:=hB7.mod hm8 hb4p
          have hm18:=hm7.trans (hm8.mono fun b _ e=>.inl e)
          refine RL.p rfl rfl ?_
          refine RL.done ?_
          refine RK.seq ?_
          refine RK.region ?_
          iterate 2 refine RL.p rfl rfl ?_
          refine RL.done ?_
          refine RK.seq ?_
          refine RK.cutS (fun s3:Nat×Nat×Bool=>[(0,pp p),(2,pp b2),(3,.bool no),(4,pp b4),(5,.int .i64 (n:Int)),(6,.int .u8 (c:Int)),(7,.int .u8 (s3.1:Int))]) (fun s3 w'=>s3.1 < 256∧s3.2.1≤s.size∧PB w' p s s3.2.1 d s3.2.2∧Blk w' b4 177 (wds set)∧Mod (fun b=>b=p∨b=b4) w1 w'∧(bd=true→s3.2.2=true)∧(bd=false→toS s c j=if s3.2.2 then none else some (s3.1,s3.2.1))) (fun s3 w9 hQ9=>?_) (fun hj=>?_)
          · obtain ⟨c2,j2,bd2⟩:=s3
            obtain ⟨hc2,hj2,hP9,hB9,hm19,hbd1,hbd2⟩:=hQ9
            simp only at hc2 hj2 hP9 hbd1 hbd2
            have hC9:=hC.step hks h93 (by omega) hmem (c2:=c2) (j2:=j2) (bad2:=bd2) hbd1 hbd2 hj2
            have hkadv : (bd2 || decide (c2 < c)) = false → k < j2 := fun hb => by
                have e:bd=false:=by cases hbb:bd with | false=>rfl | true=>have:=hbd1 hbb;simp [this] at hb
                simp at hb
                rw [e] at hmem
                have e4:=hbd2 e
                rw [hb.1] at e4
                have h5:=memS_adv hmem
                have h6:=toS_adv e4 h5.2.1 h5.2.2
                omega
            refine RK.seq ?_
            refine RK.cut [(0,pp p),(2,pp b2),(3,.bool no),(4,pp b4),(5,.int .i64 (n:Int)),(6,.int .u8 (c:Int)),(7,.int .u8 (c2:Int))] (fun w'=>PB w' p s j2 d (bd2 || decide (c2 < c))∧Blk w' b4 177 (wds set)∧Mod (fun b=>b=p∨b=b4) w1 w') (fun w10 hQ10=>?_) (fun hj=>?_)
            · obtain ⟨hP10,hB10,hm110⟩:=hQ10
              iterate 2 refine RK.seq ?_
              refine RK.region ?_
              refine RL.p rfl rfl ?_
              refine RL.q (.free rfl) rfl rfl (Yld.convI Tryz.underlying5 Tryz.underlying3 rfl) ?_
              refine RL.re (d:=78) rfl rfl (congrArg (Value.int .i64) (wrap_i64 (by omega) (by omega))) ?_
              refine RL.p rfl rfl ?_
              refine RL.done ?_
              refine RK.block ?_
              refine RK.loop (fun e:Nat=>[(0,pp p),(2,pp b2),(3,.bool no),(4,pp b4),(5,.int .i64 (n:Int)),(7,.int .u8 (c2:Int)),(8,.int .i64 ((c + e:Nat):Int))]) (fun e w'=>PB w' p s j2 d (bd2 || decide (c2 < c))∧Blk w' b4 177 (wds (partR set c e))∧Mod (fun b=>b=p∨b=b4) w1 w'∧e≤c2 + 1 - c) (fun e=>c2 + 1 - c - e) 0 ⟨rfl,rfl,rfl,rfl,rfl,rfl,rfl,trivial⟩ ⟨hP10,hB10,hm110,by omega⟩ (fun e w11 hI2 ih2=>?_)
              obtain ⟨hP11,hB11,hm11,he⟩:=hI2
              iterate 2 refine RK.seq ?_
              refine RK.region ?_
              iterate 2 refine RL.p rfl rfl ?_
              refine RL.q (.free rfl) rfl rfl (Yld.convI Tryz.underlying5 Tryz.underlying3 rfl) ?_
              refine RL.re (d:=81) rfl rfl (congrArg (Value.int .i64) (wrap_i64 (by omega) (by omega))) ?_
              refine RL.p rfl rfl ?_
              refine RL.done ?_
              first | refine RK.condD rfl (fun h82=>?_) (fun h82=>?_) | refine RK.condN rfl (fun h82=>?_) (fun h82=>?_) | refine RK.cond rfl (fun h82=>?_) (fun h82=>?_)
              · have hce:c + e < 256:=by omega
                have hW11:=partR_w4 hW c e
                have h1s:(1 <<< ((c + e) % 64)) < 18446744073709551616:=by rw [Nat.shiftLeft_eq,Nat.one_mul];exact Nat.pow_lt_pow_right (m:=(c + e) % 64) (n:=64) (by omega) (Nat.mod_lt _ (by omega))
                have hq4:(c + e) / 64 < 4:=by omega
                obtain ⟨y,hy⟩:∃ y,(partR set c e)[(c + e) / 64]?=some y:=⟨_,List.getElem?_eq_getElem (by rw [hW11.1];exact hq4)⟩
                have hyl:=hW11.2 y (List.mem_of_getElem? hy)
                have e1 : IntKind.i64.wrap (((c + e : Nat) : Int).tdiv 64) = (((c + e) / 64 : Nat) : Int) := by
                    have e2:((c + e:Nat):Int).tdiv 64=(((c + e) / 64:Nat):Int):=by rw [Int.tdiv_eq_ediv_of_nonneg (by omega)];omega
                    rw [e2];exact wrap_i64 (by omega) (by omega)
                have e3:((c + e:Nat):Int).tmod 64=(((c + e) % 64:Nat):Int):=by rw [Int.tmod_eq_emod_of_nonneg (by omega)];omega
                refine RK.skip ?_
                refine RK.seq ?_
                refine RK.block ?_
                refine RK.region ?_
                refine RL.p rfl rfl ?_
                refine RL.q (.free rfl) rfl rfl (Yld.quo rfl rfl (by omega)) ?_
                refine RL.re (d:=86) rfl rfl (congrArg (Value.int .i64) e1) ?_
                refine RL.p rfl rfl ?_
                refine RL.q (.free rfl) rfl rfl (Yld.quo rfl rfl (by omega)) ?_
                refine RL.re (d:=88) rfl rfl (congrArg (Value.int .i64) e1) ?_
                refine RL.q (.free rfl) rfl rfl (Yld.indexArr Tryz.underlying177 i22 rfl rfl (hq4)) ?_
                refine RL.q (.free rfl) rfl rfl (Yld.load p22 rfl (at1 (hB11.at1 (v:=.int .u64 (y:Int)) (by simp [hy])))) ?_
                refine RL.p rfl rfl ?_
                refine RL.q (.free rfl) rfl rfl (Yld.rem rfl rfl (by omega)) ?_
                refine RL.re (d:=92) rfl rfl (congrArg (Value.int .i64) e3) ?_
                refine RL.q (.free rfl) rfl rfl (Yld.convI Tryz.underlying3 Tryz.underlying198 rfl) ?_
                refine RL.re (d:=93) rfl rfl (congrArg (Value.int .u64) (Go.X.wrap_u64 (x:=(c + e) % 64) (by omega))) ?_
                refine RL.q (.free rfl) rfl rfl (Yld.shl (a:=1) rfl rfl (by simp [IntKind.bits];omega)) ?_
                refine RL.re (d:=94) rfl rfl (congrArg (Value.int .u64) (Go.X.wrap_u64 h1s)) ?_
                refine RL.p rfl rfl ?_
                refine RL.re (d:=95) rfl rfl (congrArg (Value.int .u64) (Go.X.u64_or hyl h1s)) ?_
                refine RL.q (.free rfl) rfl rfl (Yld.indexArr Tryz.underlying177 i22 rfl rfl (hq4)) ?_
                refine RL.op' (.free rfl) rfl (Does.store i22 rfl rfl rfl hB11 (setAt_of (by simp [hW11.1];omega))) ?_
                rintro _ w12 ⟨hb12,hm12,_⟩
                have hB12 : Blk w12 b4 177 (wds (partR set c (e + 1))) := by
                    have h9:=wds_bit hW11 hce
                    rw [hy] at h9
                    have h7:partR set c (e + 1)=setBit (partR set c e) (c + e):=range_snoc c e set
                    rw [h7,← h9]
                    have h8:=hb12
                    rw [Nat.zero_add,Nat.mul_one] at h8
                    exact h8
                refine RL.done ?_
                refine RK.inBlock ?_
                refine RK.region ?_
                iterate 2 refine RL.p rfl rfl ?_
                refine RL.re (d:=84) rfl rfl (succ_i64 (by omega)) ?_
                refine RL.p rfl rfl ?_
                refine RL.done ?_
                exact RK.back (ih2 (e + 1) _ ⟨hP11.mod hm12 (by omega),hB12,hm11.trans (hm12.mono fun b _ e=>.inr e),by omega⟩ (by omega)) ⟨rfl,rfl,rfl,rfl,rfl,rfl,rfl,trivial⟩
              · have hde:e=c2 + 1 - c:=by omega
                have hBe:Blk w11 b4 177 (wds (addG set c c2)):=by rw [hde] at hB11;exact hB11
                have hcnt:=hC9.cnt
                refine RK.exit rfl ?_
                refine RK.region ?_
                iterate 2 refine RL.p rfl rfl ?_
                refine RL.re (d:=98) rfl rfl (succ_i64 (by omega)) ?_
                refine RL.p rfl rfl ?_
                refine RL.done ?_
                refine RK.inBlock ?_
                exact RK.back (ih (n + 1,(bd2 || decide (c2 < c)),j2,addG set c c2) _ ⟨hP11,hBe,hW.add _ _,hj2,hC9,hm11⟩ (by
                  simp only [Bool.false_eq_true,if_false]
                  split
                  · omega
                  · rename_i hb9
                    have hk9:=hkadv (by simpa using hb9);omega)) ⟨rfl,rfl,rfl,rfl,rfl,trivial⟩
            · refine RK.seq ?_
              refine RK.region ?_
              iterate 3 refine RL.p rfl rfl ?_
              refine RL.done ?_
              first | refine RK.condD rfl (fun h74=>?_) (fun h74=>?_) | refine RK.condN rfl (fun h74=>?_) (fun h74=>?_) | refine RK.cond rfl (fun h74=>?_) (fun h74=>?_)
              · refine RK.region ?_
                refine RL.p rfl rfl ?_
                refine RL.op (.free rfl) rfl rfl (Does.call rfl e239 (fail_ok _ p s j2 d bd2 hP9)) ?_
                rintro _ w10 ⟨rfl,hP10',hm10⟩
                refine RL.done ?_
                exact RK.back (hj _ ⟨by rw [show (bd2 || decide (c2 < c))=true by simp;exact .inr (by omega)];exact hP10',hB9.mod hm10 hb4p,hm19.trans (hm10.mono fun b _ e=>.inl e)⟩) ⟨rfl,rfl,rfl,rfl,rfl,rfl,rfl,trivial⟩
              · refine RK.skip ?_
                exact RK.back (hj _ ⟨by rw [show (bd2 || decide (c2 < c))=bd2 by simp;omega];exact hP9,hB9,hm19⟩) ⟨rfl,rfl,rfl,rfl,rfl,rfl,rfl,trivial⟩
          · refine RK.seq ?_
            refine RK.drawM No [(0,false),(1,true),(2,false),(3,false),(4,false),(5,false),(6,false),(7,false),(8,false),(9,false),(10,false),(11,false),(12,false),(13,false)] [] mixed (by kernel_rfl) ?_
            refine DL.p rfl rfl rfl ?_
            refine DL.op rfl (.free rfl) rfl rfl (Does.call rfl e182 (more_ok _ p s j d bd (hP8.mod (Mod.drew No _) (fun h=>h)))) ?_
            rintro _ w9 ⟨rfl,hg9⟩
            have hgd:Grow w8 w9:=(Mod.drew _ _).trans hg9
            refine ⟨hgd,?_⟩
            have hP9:=hP8.mod hgd (fun h=>h)
            have hB9:=hB8.mod hgd (fun h=>h)
            have hm19:=hm18.trans (Mod.any' hgd)
            refine DL.p rfl rfl rfl ?_
            first | refine DL.splitD (d:=51) rfl rfl (fun h51=>?_) (fun h51=>?_) | refine DL.splitN (d:=51) rfl rfl (fun h51=>?_) (fun h51=>?_) | refine DL.split (d:=51) rfl rfl (fun h51=>?_) (fun h51=>?_)
            · have hm:=h51
              unfold moreS at hm
              simp at hm
              obtain ⟨hbd,hjs⟩:=hm
              subst hbd
              iterate 2 refine DL.qf rfl (.yes rfl rfl rfl) rfl rfl (Yld.pure rfl) ?_
              refine DL.qf rfl (.yes rfl rfl rfl) rfl rfl (Yld.fieldAddr fo206_0 rfl) ?_
              refine DL.q rfl (.yes rfl rfl rfl) rfl rfl rfl (Yld.load p9 rfl (atM (hP8.cell rfl) (fun h=>h))) (hgd) ?_
              iterate 2 refine DL.qf rfl (.yes rfl rfl rfl) rfl rfl (Yld.pure rfl) ?_
              refine DL.qf rfl (.yes rfl rfl rfl) rfl rfl (Yld.fieldAddr fo206_1 rfl) ?_
              refine DL.q rfl (.yes rfl rfl rfl) rfl rfl rfl (Yld.load p3 rfl (atM (hP8.cell rfl) (fun h=>h))) (hgd) ?_
              refine DL.qf rfl (.yes rfl rfl rfl) rfl rfl (Yld.idxStrN u9 rfl rfl (hjs)) ?_
              refine DL.qf rfl (.yes rfl rfl rfl) rfl rfl (Yld.pure rfl) ?_
              refine DL.p rfl rfl rfl ?_
              refine DL.done ?_
              first | refine RK.condD rfl (fun h62=>?_) (fun h62=>?_) | refine RK.condN rfl (fun h62=>?_) (fun h62=>?_) | refine RK.cond rfl (fun h62=>?_) (fun h62=>?_)
              · have h45:b8 s j=45:=by unfold b8;omega
                refine RK.seq ?_
                refine RK.region ?_
                iterate 2 refine RL.p rfl rfl ?_
                refine RL.q (.free rfl) rfl rfl (Yld.fieldAddr fo206_1 rfl) ?_
                refine RL.q (.free rfl) rfl rfl (Yld.load p3 rfl (at1 (hP9.cell rfl))) ?_
                refine RL.p rfl rfl ?_
                refine RL.re (d:=67) rfl rfl (succ_i64 (by omega)) ?_
                refine RL.p rfl rfl ?_
                refine RL.q (.free rfl) rfl rfl (Yld.fieldAddr fo206_1 rfl) ?_
                refine RL.op' (.free rfl) rfl (Does.store i3 rfl rfl rfl hP9 (.s .z)) ?_
                rintro _ w10 ⟨hP10',hm10,_⟩
                have hP10:PB w10 p s (j + 1) d false:=hP10'
                refine RL.done ?_
                refine RK.region ?_
                refine RL.p rfl rfl ?_
                refine RL.op (.free rfl) rfl rfl (Does.call rfl e245 (rmember_ok _ p s (j + 1) d hP10 (by omega) hs)) ?_
                rintro _ w12 ⟨c2,j2,bd2,rfl,hc2,hj2,hP12,hmem2,hm12⟩
                refine RL.p rfl rfl ?_
                refine RL.done ?_
                exact RK.back (hj (c2,j2,bd2) _ ⟨hc2,hj2,hP12,(hB9.mod hm10 hb4p).mod hm12 hb4p,(hm19.trans (hm10.mono fun b _ e=>.inl e)).trans (hm12.mono fun b _ e=>.inl e),fun h=>(by cases h),fun _=>by unfold toS;rw [if_pos ⟨hjs,h45⟩];exact hmem2⟩) ⟨rfl,rfl,rfl,rfl,rfl,rfl,rfl,trivial⟩
              · have h45:¬ b8 s j=45:=by unfold b8;omega
                refine RK.skip ?_
                exact RK.back (hj (c,j,false) _ ⟨hc,hj1,hP9,hB9,hm19,fun h=>h,fun _=>by unfold toS;rw [if_neg (fun h=>h45 h.2)];rfl⟩) ⟨rfl,rfl,rfl,rfl,rfl,rfl,rfl,trivial⟩
            · iterate 10 refine DL.no rfl (.no rfl rfl rfl rfl) rfl rfl ?_
              refine DL.p rfl rfl rfl ?_
              refine DL.done ?_
              refine RK.condF (hcF rfl (rfl)) ?_
              refine RK.skip ?_
              exact RK.back (hj (c,j,bd) _ ⟨hc,hj1,hP9,hB9,hm19,fun h=>h,fun hb=>by unfold toS;rw [if_neg (fun h=>by simp [moreS,hb,h.1] at h51),hb];rfl⟩) ⟨rfl,rfl,rfl,rfl,rfl,rfl,rfl,trivial⟩
        · refine RK.exit rfl ?_
          iterate 2 refine RK.seq ?_
          refine RK.region ?_
          refine RL.p rfl rfl ?_
          refine RL.op (.free rfl) rfl rfl (Does.call rfl e182 (more_ok _ p s k d bad hP7)) ?_
          rintro _ w8 ⟨rfl,hg8⟩
          have hP8:=hP7.mod hg8 (fun h=>h)
          have hB8:=hB7.mod hg8 (fun h=>h)
          have hm18:=hm7.trans (Mod.any' hg8)
          have hR8:=((hn2.blk.mod hm14 (by omega)).mod hn4.grow (fun h=>h))
          iterate 2 refine RL.p rfl rfl ?_
          first | refine RL.splitD (d:=102) rfl rfl (fun h102=>?_) (fun h102=>?_) | refine RL.splitN (d:=102) rfl rfl (fun h102=>?_) (fun h102=>?_) | refine RL.split (d:=102) rfl rfl (fun h102=>?_) (fun h102=>?_)
          · have hnone : clsS s i = none := by
                rw [hcl]
                have:T=none:=by
                  cases hb:bad with
                  | true=>exact hC.no hb
                  | false=>
                    obtain ⟨m,hm,hmk⟩:=hC.go hb
                    obtain ⟨q,rfl⟩:∃ q,m=q + 1:=⟨m - 1,by omega⟩
                    have hks:¬ k < s.size:=by intro hh;simp [moreS,hb,hh] at h102
                    rw [← hm,clsL,if_neg hks]
                rw [this];split <;> rfl
            iterate 2 refine RL.no (.no rfl rfl rfl rfl) rfl rfl ?_
            refine RL.p rfl rfl ?_
            refine RL.done ?_
            refine RK.condT (hcT rfl (rfl)) ?_
            refine RK.seq ?_
            refine RK.region ?_
            refine RL.p rfl rfl ?_
            refine RL.op (.free rfl) rfl rfl (Does.call rfl e239 (fail_ok _ p s k d bad hP8)) ?_
            rintro _ w9 ⟨rfl,hP9,hm9⟩
            refine RL.done ?_
            refine RK.seq ?_
            refine RK.region ?_
            refine RL.q (.free rfl) rfl rfl (Yld.build (v:=.agg #[.int .i64 0,.int .u64 0,.int .u64 0,.int .u64 0,.int .u64 0,.slice none 0 0]) rfl (fun w=>by kernel_rfl)) ?_
            refine RL.op' (.free rfl) rfl (Does.storeN i180 rfl rfl rfl rfl ((hn2.blk.mod hm18 (by omega)).mod hm9 (by omega)) (Nat.le_refl 6)) ?_
            rintro _ w11 ⟨hb11,hm11,_⟩
            refine RL.done ?_
            refine RK.ret_of Tryz.func241 (resC (cs:=celC ⟨0,0,0,0,0,none,0,0⟩) rfl rfl a180 hb11) ?_ _
            exact ⟨_,rfl,⟨0,0,0,0,0,none,0,0⟩,k,true,rfl,hk,hP9.mod hm11 (by omega),fun _=>hnone,fun e=>(by cases e),(((Mod.any' hn2.grow:Mod (·=p) w w1).then hm18 (fun b hb e=>e.elim (fun e=>e) (fun e=>by omega))).trans hm9).then hm11 (fun b hb e=>by have e' : b=b2:=e;omega)⟩
          · have hm2:=h102
            unfold moreS at hm2
            simp at hm2
            obtain ⟨hbad,hks⟩:=hm2
            subst hbad
            have h93 : b8 s k = 93 := by
                have h9:=h45
                simp [topS,hks] at h9
                exact h9
            iterate 2 refine RL.q (.yes rfl rfl rfl) rfl rfl (Yld.pure rfl) ?_
            refine RL.p rfl rfl ?_
            refine RL.done ?_
            first | refine RK.condD rfl (fun h105=>?_) (fun h105=>?_) | refine RK.condN rfl (fun h105=>?_) (fun h105=>?_) | refine RK.cond rfl (fun h105=>?_) (fun h105=>?_)
            · have hn0:n=0:=by have h:=h105;omega
              have hk0:=(hC.none_ hn0).2
              have hnone:clsS s i=none:=by rw [hcl,if_pos (by rw [← hk0];exact ⟨hks,h93⟩)]
              refine RK.seq ?_
              refine RK.region ?_
              refine RL.p rfl rfl ?_
              refine RL.op (.free rfl) rfl rfl (Does.call rfl e239 (fail_ok _ p s k d false hP8)) ?_
              rintro _ w9 ⟨rfl,hP9,hm9⟩
              refine RL.done ?_
              refine RK.seq ?_
              refine RK.region ?_
              refine RL.q (.free rfl) rfl rfl (Yld.build (v:=.agg #[.int .i64 0,.int .u64 0,.int .u64 0,.int .u64 0,.int .u64 0,.slice none 0 0]) rfl (fun w=>by kernel_rfl)) ?_
              refine RL.op' (.free rfl) rfl (Does.storeN i180 rfl rfl rfl rfl ((hn2.blk.mod hm18 (by omega)).mod hm9 (by omega)) (Nat.le_refl 6)) ?_
              rintro _ w11 ⟨hb11,hm11,_⟩
              refine RL.done ?_
              refine RK.ret_of Tryz.func241 (resC (cs:=celC ⟨0,0,0,0,0,none,0,0⟩) rfl rfl a180 hb11) ?_ _
              exact ⟨_,rfl,⟨0,0,0,0,0,none,0,0⟩,k,true,rfl,hk,hP9.mod hm11 (by omega),fun _=>hnone,fun e=>(by cases e),(((Mod.any' hn2.grow:Mod (·=p) w w1).then hm18 (fun b hb e=>e.elim (fun e=>e) (fun e=>by omega))).trans hm9).then hm11 (fun b hb e=>by have e' : b=b2:=e;omega)⟩
            · have hn0:n≠0:=by have h:=h105;omega
              obtain ⟨m,hm0,hmk⟩:=hC.go rfl
              obtain ⟨q,rfl⟩:∃ q,m=q + 1:=⟨m - 1,by omega⟩
              have hTe:T=some (set,k + 1):=by rw [← hm0,clsL,if_pos hks,if_pos h93]
              have hsome:clsS s i=some (if no then invS set else set,k + 1):=by rw [hcl,if_neg (hC.some_ hn0),hTe];rfl
              refine RK.skip ?_
              refine RK.seq ?_
              refine RK.region ?_
              iterate 2 refine RL.p rfl rfl ?_
              refine RL.q (.free rfl) rfl rfl (Yld.fieldAddr fo206_1 rfl) ?_
              refine RL.q (.free rfl) rfl rfl (Yld.load p3 rfl (at1 (hP8.cell rfl))) ?_
              refine RL.p rfl rfl ?_
              refine RL.re (d:=113) rfl rfl (succ_i64 (by omega)) ?_
              refine RL.p rfl rfl ?_
              refine RL.q (.free rfl) rfl rfl (Yld.fieldAddr fo206_1 rfl) ?_
              refine RL.op' (.free rfl) rfl (Does.store i3 rfl rfl rfl hP8 (.s .z)) ?_
              rintro _ w9 ⟨hP9',hm9,_⟩
              have hP9:PB w9 p s (k + 1) d false:=hP9'
              have hB9:=hB8.mod hm9 hb4p
              have hm19:=hm18.trans (hm9.mono fun b _ e=>.inl e)
              refine RL.done ?_
              refine RK.seq ?_
              refine RK.cut [(0,pp p),(2,pp b2),(4,pp b4)] (fun w'=>Blk w' b4 177 (wds (if no then invS set else set))∧Mod (·=b4) w9 w') (fun w10 hQ10=>?_) (fun hj=>?_)
              · obtain ⟨hB10,hm10⟩:=hQ10
                have hWn:W4 (if no then invS set else set):=by split;exact hW.inv;exact hW
                obtain ⟨x0,x1,x2,x3,hx⟩:=W4.four hWn
                rw [hx] at hB10
                refine RK.seq ?_
                refine RK.region ?_
                refine RL.q (.free rfl) rfl rfl (Yld.loadN (cs:=wds [x0,x1,x2,x3]) a177 rfl (atN (blk0' hB10))) ?_
                refine RL.q (.free rfl) rfl rfl (Yld.build (v:=.agg #[.int .i64 1,.int .u64 (x0:Int),.int .u64 (x1:Int),.int .u64 (x2:Int),.int .u64 (x3:Int),.slice none 0 0]) rfl (fun w=>by kernel_rfl)) ?_
                refine RL.op' (.free rfl) rfl (Does.storeN i180 rfl rfl rfl rfl ((hn2.blk.mod hm19 (by omega)).mod hm10 (by omega)) (Nat.le_refl 6)) ?_
                rintro _ w11 ⟨hb11,hm11,_⟩
                refine RL.done ?_
                refine RK.ret_of Tryz.func241 (resC (cs:=celC ⟨1,x0,x1,x2,x3,none,0,0⟩) rfl rfl a180 hb11) ?_ _
                exact ⟨_,rfl,⟨1,x0,x1,x2,x3,none,0,0⟩,k + 1,false,rfl,by omega,(hP9.mod hm10 (by omega)).mod hm11 (by omega),fun e=>(by cases e),fun _=>⟨_,hsome,x0,x1,x2,x3,hx,rfl⟩,(((Mod.any' hn2.grow:Mod (·=p) w w1).then hm19 (fun b hb e=>e.elim (fun e=>e) (fun e=>by omega))).then hm10 (fun b hb e=>by omega)).then hm11 (fun b hb e=>by have e' : b=b2:=e;omega)⟩
              · refine RK.seq ?_
                refine RK.region ?_
                refine RL.p rfl rfl ?_
                refine RL.done ?_
                first | refine RK.condD rfl (fun h116=>?_) (fun h116=>?_) | refine RK.condN rfl (fun h116=>?_) (fun h116=>?_) | refine RK.cond rfl (fun h116=>?_) (fun h116=>?_)
                · obtain ⟨x0,x1,x2,x3,hx⟩:=W4.four hW
                  obtain ⟨hW1,hW2⟩:=hW
                  have hil:(invS set).length=4:=by simpa [invS] using hW1
                  refine RK.seq ?_
                  refine RK.region ?_
                  refine RL.p rfl rfl ?_
                  refine RL.done ?_
                  refine RK.block ?_
                  refine RK.loop (fun q:Nat=>[(0,pp p),(2,pp b2),(4,pp b4),(9,.int .i64 (q:Int))]) (fun q w'=>Blk w' b4 177 (wds ((invS set).take q ++ set.drop q))∧Mod (·=b4) w9 w'∧q≤4) (fun q=>4 - q) 0 ⟨rfl,rfl,rfl,rfl,trivial⟩ ⟨by simpa using hB9,Mod.refl _ _,by omega⟩ (fun q w10 hI3 ih3=>?_)
                  obtain ⟨hBq,hmq,hq⟩:=hI3
                  iterate 2 refine RK.seq ?_
                  refine RK.region ?_
                  iterate 2 refine RL.p rfl rfl ?_
                  refine RL.done ?_
                  first | refine RK.condD rfl (fun h118=>?_) (fun h118=>?_) | refine RK.condN rfl (fun h118=>?_) (fun h118=>?_) | refine RK.cond rfl (fun h118=>?_) (fun h118=>?_)
                  · obtain ⟨x,hxq⟩:∃ x,set[q]?=some x:=⟨set[q]'(by omega),List.getElem?_eq_getElem (by omega)⟩
                    have hxl:=hW2 x (List.mem_of_getElem? hxq)
                    have hcx : (wds ((invS set).take q ++ set.drop q))[q]? = some (.int .u64 (x : Int)) := by
                        rw [List.getElem?_map,List.getElem?_append_right (by simp [invS];omega)]
                        simp [invS,hW1,hxq,show min q 4=q by omega]
                    refine RK.skip ?_
                    refine RK.seq ?_
                    refine RK.block ?_
                    refine RK.region ?_
                    iterate 2 refine RL.p rfl rfl ?_
                    refine RL.q (.free rfl) rfl rfl (Yld.indexArr Tryz.underlying177 i22 rfl rfl (by omega)) ?_
                    refine RL.q (.free rfl) rfl rfl (Yld.load p22 rfl (at1 (hBq.at1 hcx))) ?_
                    refine RL.q (.free rfl) rfl rfl (Yld.compl rfl (by omega) (by omega)) ?_
                    refine RL.re (d:=125) rfl rfl (congrArg (Value.int .u64) (show _=((18446744073709551615 - x:Nat):Int) by omega)) ?_
                    refine RL.q (.free rfl) rfl rfl (Yld.indexArr Tryz.underlying177 i22 rfl rfl (by omega)) ?_
                    refine RL.op' (.free rfl) rfl (Does.store i22 rfl rfl rfl hBq (setAt_of (by simp [invS,hW1];omega))) ?_
                    rintro _ w11 ⟨hb11,hm11,_⟩
                    refine RL.done ?_
                    refine RK.inBlock ?_
                    refine RK.region ?_
                    iterate 2 refine RL.p rfl rfl ?_
                    refine RL.re (d:=120) rfl rfl (succ_i64 (by omega)) ?_
                    refine RL.p rfl rfl ?_
                    refine RL.done ?_
                    exact RK.back (ih3 (q + 1) _ ⟨by rw [Nat.zero_add,Nat.mul_one,← List.map_set,inv_set hxq] at hb11;exact hb11,hmq.trans hm11,by omega⟩ (by omega)) ⟨rfl,rfl,rfl,rfl,trivial⟩
                  · have ek:q=4:=by omega
                    subst ek
                    have e1:(invS set).take 4 ++ set.drop 4=invS set:=by rw [List.take_of_length_le (by omega),List.drop_eq_nil_of_le (by omega),List.append_nil]
                    rw [e1] at hBq
                    refine RK.exit rfl ?_
                    exact RK.back (hj _ ⟨by rw [if_pos h116];exact hBq,hmq⟩) ⟨rfl,rfl,rfl,trivial⟩
                · refine RK.skip ?_
                  exact RK.back (hj _ ⟨by rw [if_neg (by simp [h116])];exact hB9,Mod.refl _ _⟩) ⟨rfl,rfl,rfl,trivial⟩
      · refine RK.drawM No [(0,false),(1,true),(2,false),(3,false),(4,false),(5,false),(6,false),(7,false),(8,false),(9,false),(10,false),(11,false),(12,false),(13,false)] [] mixed (by kernel_rfl) ?_
        refine DL.p rfl rfl rfl ?_
        refine DL.op rfl (.free rfl) rfl rfl (Does.call rfl e182 (more_ok _ p s k d bad (hP.mod (Mod.drew No _) (fun h=>h)))) ?_
        rintro _ w7 ⟨rfl,hg7⟩
        have hgd:Grow w6 w7:=(Mod.drew _ _).trans hg7
        refine ⟨hgd,?_⟩
        refine DL.p rfl rfl rfl ?_
        first | refine DL.splitD (d:=34) rfl rfl (fun h34=>?_) (fun h34=>?_) | refine DL.splitN (d:=34) rfl rfl (fun h34=>?_) (fun h34=>?_) | refine DL.split (d:=34) rfl rfl (fun h34=>?_) (fun h34=>?_)
        · have hm2:=h34
          unfold moreS at hm2
          simp at hm2
          iterate 2 refine DL.qf rfl (.yes rfl rfl rfl) rfl rfl (Yld.pure rfl) ?_
          refine DL.qf rfl (.yes rfl rfl rfl) rfl rfl (Yld.fieldAddr fo206_0 rfl) ?_
          refine DL.q rfl (.yes rfl rfl rfl) rfl rfl rfl (Yld.load p9 rfl (atM (hP.cell rfl) (fun h=>h))) (hgd) ?_
          iterate 2 refine DL.qf rfl (.yes rfl rfl rfl) rfl rfl (Yld.pure rfl) ?_
          refine DL.qf rfl (.yes rfl rfl rfl) rfl rfl (Yld.fieldAddr fo206_1 rfl) ?_
          refine DL.q rfl (.yes rfl rfl rfl) rfl rfl rfl (Yld.load p3 rfl (atM (hP.cell rfl) (fun h=>h))) (hgd) ?_
          refine DL.qf rfl (.yes rfl rfl rfl) rfl rfl (Yld.idxStrN u9 rfl rfl (hm2.2)) ?_
          refine DL.qf rfl (.yes rfl rfl rfl) rfl rfl (Yld.pure rfl) ?_
          refine DL.p rfl rfl rfl ?_
          refine DL.re (d:=45) rfl rfl (congrArg Value.bool (show _=topS s k bad 93 by unfold topS b8;rw [Bool.eq_iff_iff];simp [hm2];omega)) ?_
          refine DL.done ?_
          exact RK.back (hj _ hgd) ⟨rfl,rfl,rfl,rfl,rfl,rfl,trivial⟩
        · iterate 10 refine DL.no rfl (.no rfl rfl rfl rfl) rfl rfl ?_
          refine DL.p rfl rfl rfl ?_
          refine DL.re (d:=45) rfl rfl (congrArg Value.bool (show _=topS s k bad 93 by unfold topS;unfold moreS at h34;rw [Bool.eq_iff_iff];simp at h34 ⊢;intro hb hk2;have:=h34 hb;omega)) ?_
          refine DL.done ?_
          exact RK.back (hj _ hgd) ⟨rfl,rfl,rfl,rfl,rfl,rfl,trivial⟩
    · refine RK.seq ?_
      refine RK.region ?_
      refine RL.p rfl rfl ?_
      refine RL.done ?_
      first | refine RK.condD rfl (fun h24=>?_) (fun h24=>?_) | refine RK.condN rfl (fun h24=>?_) (fun h24=>?_) | refine RK.cond rfl (fun h24=>?_) (fun h24=>?_)
      · refine RK.region ?_
        iterate 2 refine RL.p rfl rfl ?_
        refine RL.q (.free rfl) rfl rfl (Yld.fieldAddr fo206_1 rfl) ?_
        refine RL.q (.free rfl) rfl rfl (Yld.load p3 rfl (at1 (hP3.cell rfl))) ?_
        refine RL.p rfl rfl ?_
        refine RL.re (d:=29) rfl rfl (succ_i64 (by omega)) ?_
        refine RL.p rfl rfl ?_
        refine RL.q (.free rfl) rfl rfl (Yld.fieldAddr fo206_1 rfl) ?_
        refine RL.op' (.free rfl) rfl (Does.store i3 rfl rfl rfl hP3 (.s .z)) ?_
        rintro _ w4 ⟨hP4',hm4,_⟩
        have hP4:PB w4 p s (i + 1) d false:=hP4'
        have hno:notS s i=true:=by first | exact h24 | (unfold notS;exact decide_eq_true h24)
        refine RL.done ?_
        exact RK.back (hj _ ⟨by rw [if_pos hno];exact hP4,(Mod.any' hg13).trans hm4⟩) ⟨rfl,rfl,rfl,trivial⟩
      · have hno:¬ notS s i=true:=by unfold notS;simpa using h24
        refine RK.skip ?_
        exact RK.back (hj _ ⟨by rw [if_neg hno];exact hP3,Mod.any' hg13⟩) ⟨rfl,rfl,rfl,trivial⟩
  · refine RK.drawM No [(0,false),(1,true),(2,false),(3,false),(4,false),(5,false),(6,false),(7,false),(8,false),(9,false),(10,false),(11,false),(12,false),(13,false),(14,false)] [] mixed (by kernel_rfl) ?_
    refine DL.p rfl rfl rfl ?_
    refine DL.op rfl (.free rfl) rfl rfl (Does.call rfl e182 (more_ok _ p s i d false (hP1.mod (Mod.drew No _) (fun h=>h)))) ?_
    rintro _ w3 ⟨rfl,hg3⟩
    have hgd:Grow w1 w3:=(Mod.drew _ _).trans hg3
    refine ⟨hgd,?_⟩
    refine DL.p rfl rfl rfl ?_
    first | refine DL.splitD (d:=12) rfl rfl (fun h12=>?_) (fun h12=>?_) | refine DL.splitN (d:=12) rfl rfl (fun h12=>?_) (fun h12=>?_) | refine DL.split (d:=12) rfl rfl (fun h12=>?_) (fun h12=>?_)
    · have hl:i < s.size:=by simpa [moreS] using h12
      iterate 2 refine DL.qf rfl (.yes rfl rfl rfl) rfl rfl (Yld.pure rfl) ?_
      refine DL.qf rfl (.yes rfl rfl rfl) rfl rfl (Yld.fieldAddr fo206_0 rfl) ?_
      refine DL.q rfl (.yes rfl rfl rfl) rfl rfl rfl (Yld.load p9 rfl (atM (hP1.cell rfl) (fun h=>h))) (hgd) ?_
      iterate 2 refine DL.qf rfl (.yes rfl rfl rfl) rfl rfl (Yld.pure rfl) ?_
      refine DL.qf rfl (.yes rfl rfl rfl) rfl rfl (Yld.fieldAddr fo206_1 rfl) ?_
      refine DL.q rfl (.yes rfl rfl rfl) rfl rfl rfl (Yld.load p3 rfl (atM (hP1.cell rfl) (fun h=>h))) (hgd) ?_
      refine DL.qf rfl (.yes rfl rfl rfl) rfl rfl (Yld.idxStrN u9 rfl rfl (hl)) ?_
      refine DL.qf rfl (.yes rfl rfl rfl) rfl rfl (Yld.pure rfl) ?_
      iterate 2 refine DL.p rfl rfl rfl ?_
      refine DL.re (d:=3) rfl rfl (congrArg Value.bool (show _=notS s i by unfold notS b8;rw [Bool.eq_iff_iff];simp [hl];omega)) ?_
      refine DL.done ?_
      exact RK.back (hj _ hgd) ⟨rfl,rfl,rfl,trivial⟩
    · iterate 10 refine DL.no rfl (.no rfl rfl rfl rfl) rfl rfl ?_
      iterate 2 refine DL.p rfl rfl rfl ?_
      refine DL.re (d:=3) rfl rfl (congrArg Value.bool (show _=notS s i by unfold notS;rw [Bool.eq_iff_iff];simp [moreS] at h12 ⊢;omega)) ?_
      refine DL.done ?_
      exact RK.back (hj _ hgd) ⟨rfl,rfl,rfl,trivial⟩
end Go.Proofs.YtbcbfjnlnmhpbaaGreat
set_option linter.unusedVariables false
set_option linter.unusedSimpArgs false
set_option maxHeartbeats 1000000
set_option maxRecDepth 100000
namespace Go.Proofs.YtbcbfjnlnmhpbaaGreat
open Go Go.X Go.Rex
def RT2 (w w' : World) (p:Nat) (s:ByteArray) (d:Nat) (r:Option (Rx×Nat)) (u:Value):Prop:=∃ (c:Cel) (j:Nat) (bad:Bool) (d' : Int),u=.agg (celC c).toArray∧j≤s.size∧PB w' p s j d' bad∧(bad=true→r=none)∧(bad=false→d'=d∧∃ x,r=some (x,j)∧RxV (Old w) w' x [c])
def GrpOk2 (p:Nat) (s:ByteArray) (d:Nat) (g:Nat→Option (Rx×Nat)):Prop:=d < 8→∀ w i,PB w p s i ((d + 1:Nat):Int) false→i≤s.size→Fx Tryz.prog 150 [pp p] w (fun u w'=>RT2 w w' p s (d + 1) (g i) u∧Mod (·=p) w w')
theorem ratom_ok (s:ByteArray) (hs:s.size≤40) (p d:Nat) (hd:d≤8) (g:Nat→Option (Rx×Nat)) (hg8:d=8→∀ i,g i=none) (hgw:GrpOk2 p s d g)
  (w:World) (i:Nat) (h:PB w p s i (d:Int) false) (hi:i < s.size) (h124:b8 s i≠124) (h41:b8 s i≠41) :
  Fx Tryz.prog 231 [pp p] w (fun u w'=>RT2 w w' p s d (atomS s g i) u∧Mod (·=p) w w'):=by
 have hplt:=h.lt
 have hc:=b8_lt s i
 have hb8:b8 s i=(bt s i).toNat:=rfl
 refine enter Tryz.func231 rfl rfl rfl _ (Pick.sub (l:=[0]) (.cons rfl .nil)) ?_
 refine GG ?_
 refine OP (Does.alloc i180) ?_
 rintro _ w1 ⟨b2,rfl,hn2⟩
 have hb2:=hn2.at_
 have hs1:=hn2.size
 have hb2p:¬ b2=p:=by omega
 have hP1:=h.mod hn2.grow (fun h=>h)
 refine GG ?_
 refine RK.drawM No [(0,false),(1,false),(2,false),(3,false),(4,false),(5,false),(6,false),(7,false),(8,false),(9,false)] [] mixed (by kernel_rfl) ?_
 refine GG ?_
 refine DF (Yld.fieldAddr fo206_0 rfl) ?_
 refine DQ (Yld.load p9 rfl (atM (hP1.cell rfl) (fun h=>h))) (Mod.drew _ _) ?_
 refine GG ?_
 refine DF (Yld.fieldAddr fo206_1 rfl) ?_
 refine DQ (Yld.load p3 rfl (atM (hP1.cell rfl) (fun h=>h))) (Mod.drew _ _) ?_
 refine DF (Yld.idxStrN u9 rfl rfl (hi)) ?_
 have hP1d:PB w1.drew p s i (d:Int) false:=hP1.mod (Mod.drew No _) (fun h=>h)
 refine GG ?_
 refine QQ (Yld.fieldAddr fo206_1 rfl) ?_
 refine QQ (Yld.load p3 rfl (at1 (Blk.cell hP1d rfl))) ?_
 refine RL.p rfl rfl ?_
 refine RL.re (d:=18) rfl rfl (succ_i64 (by omega)) ?_
 refine RL.p rfl rfl ?_
 refine QQ (Yld.fieldAddr fo206_1 rfl) ?_
 refine OQ (Does.store i3 rfl rfl rfl hP1d (.s .z)) ?_
 rintro _ w2 ⟨hP2',hm2,_⟩
 have hP2:PB w2 p s (i + 1) (d:Int) false:=hP2'
 have hm12:Mod (·=p) w1 w2:=(Mod.drew _ _).trans hm2
 refine GG ?_
 refine CD (fun h21=>?_) (fun h21=>?_)
 ·have h46:b8 s i=46:=by omega
  have hat:atomS s g i=some (.set (invS zero4),i + 1):=by unfold atomS;rw [if_neg (by omega),if_neg (by omega),if_pos h46]
  refine GG ?_
  refine QQ (Yld.build (v:=.agg #[.int .u64 18446744073709551615,.int .u64 18446744073709551615,.int .u64 18446744073709551615,.int .u64 18446744073709551615]) rfl (fun w=>by kernel_rfl)) ?_
  refine QQ (Yld.build (v:=.agg #[.int .i64 1,.int .u64 18446744073709551615,.int .u64 18446744073709551615,.int .u64 18446744073709551615,.int .u64 18446744073709551615,.slice none 0 0]) rfl (fun w=>by kernel_rfl)) ?_
  refine OQ (Does.storeN i180 rfl rfl rfl rfl (hn2.blk.mod hm12 hb2p) (Nat.le_refl 6)) ?_
  rintro _ w19 ⟨hb19,hm19,_⟩
  refine RL.done ?_
  refine RK.ret_of Tryz.func231 (resC (cs:=celC ⟨1,18446744073709551615,18446744073709551615,18446744073709551615,18446744073709551615,none,0,0⟩) rfl rfl a180 hb19) ?_ _
  exact ⟨_,rfl,⟨⟨1,18446744073709551615,18446744073709551615,18446744073709551615,18446744073709551615,none,0,0⟩,(i + 1),false,(d:Int),rfl,by omega,Blk.mod hP2 hm19 (by omega),fun e=>(by cases e),fun _=>⟨rfl,.set (invS zero4),hat,18446744073709551615,18446744073709551615,18446744073709551615,18446744073709551615,rfl,rfl⟩⟩,((Mod.any' hn2.grow:Mod (·=p) w w1).trans hm12).then hm19 (fun b hb e=>by have e' : b=b2:=e;omega)⟩
 ·have h46:¬ b8 s i=46:=by omega
  refine GG ?_
  refine CD (fun h26=>?_) (fun h26=>?_)
  ·have h92:b8 s i=92:=by omega
   have hat:atomS s g i=(signS s (i + 1)).map (fun p=>(.set (setBit zero4 p.1),p.2)):=by unfold atomS;rw [if_neg (by omega),if_neg (by omega),if_neg h46,if_pos h92]
   refine GG ?_
   refine RK.drawM No [(0,false),(1,true),(2,false),(3,false),(4,false),(5,false),(6,false),(7,false),(8,false),(9,false),(10,false),(11,false),(12,false),(13,true),(14,false),(15,false)] [] mixed (by kernel_rfl) ?_
   refine DL.p rfl rfl rfl ?_
   refine OD (Does.call rfl e182 (more_ok _ p s (i + 1) (d:Int) false (hP2.mod (Mod.drew No _) (fun h=>h)))) ?_
   rintro _ w3 ⟨rfl,hg3⟩
   have hgd:Grow w2 w3:=(Mod.drew _ _).trans hg3
   refine ⟨hgd,?_⟩
   have hP3:=hP2.mod hgd (fun h=>h)
   have hm13:=hm12.trans (Mod.any' hgd)
   refine GG ?_
   refine SD 32 (fun h32=>?_) (fun h32=>?_)
   ·have hl2:¬ i + 1 < s.size:=by simpa [moreS] using h32
    have hnone:atomS s g i=none:=by rw [hat];unfold signS;rw [if_neg (fun h=>hl2 h.1)];rfl
    iterate 9 refine DL.no rfl (.no rfl rfl rfl rfl) rfl rfl ?_
    refine DL.lno rfl (.no rfl rfl rfl rfl) rfl rfl ?_
    refine DL.no rfl (.no rfl rfl rfl rfl) rfl rfl ?_
    refine GG ?_
    refine RK.condT rfl ?_
    refine GG ?_
    refine OP (Does.call rfl e239 (fail_ok _ p s (i + 1) (d:Int) false hP3)) ?_
    rintro _ w4 ⟨rfl,hP4,hm4⟩
    have hm14:=hm13.trans hm4
    refine GG ?_
    refine QQ (Yld.build (v:=.agg #[.int .i64 0,.int .u64 0,.int .u64 0,.int .u64 0,.int .u64 0,.slice none 0 0]) rfl (fun w=>by kernel_rfl)) ?_
    refine OQ (Does.storeN i180 rfl rfl rfl rfl (hn2.blk.mod hm14 hb2p) (Nat.le_refl 6)) ?_
    rintro _ w19 ⟨hb19,hm19,_⟩
    refine RL.done ?_
    refine RK.ret_of Tryz.func231 (resC (cs:=celC ⟨0,0,0,0,0,none,0,0⟩) rfl rfl a180 hb19) ?_ _
    exact ⟨_,rfl,⟨⟨0,0,0,0,0,none,0,0⟩,(i + 1),true,(d:Int),rfl,by omega,Blk.mod hP4 hm19 (by omega),fun _=>hnone,fun e=>(by cases e)⟩,((Mod.any' hn2.grow:Mod (·=p) w w1).trans hm14).then hm19 (fun b hb e=>by have e' : b=b2:=e;omega)⟩
   ·have hl2:i + 1 < s.size:=by simpa [moreS] using h32
    iterate 2 refine DF (Yld.pure rfl) ?_
    refine DF (Yld.fieldAddr fo206_0 rfl) ?_
    refine DQ (Yld.load p9 rfl (atM (Blk.cell hP2 rfl) (fun h=>h))) (hgd) ?_
    iterate 2 refine DF (Yld.pure rfl) ?_
    refine DF (Yld.fieldAddr fo206_1 rfl) ?_
    refine DQ (Yld.load p3 rfl (atM (Blk.cell hP2 rfl) (fun h=>h))) (hgd) ?_
    refine DF (Yld.idxStrN u9 rfl rfl (hl2)) ?_
    refine OD (Does.call rfl e238 (quoted_ok (b8 s (i + 1)) _)) ?_
    rintro _ _ ⟨rfl,rfl⟩
    refine ⟨hgd,?_⟩
    refine DF (Yld.pure rfl) ?_
    refine GG ?_
    refine CD (fun h44=>?_) (fun h44=>?_)
    ·have hq:¬ quotedS (b8 s (i + 1))=true:=by unfold quotedS;simpa using h44
     have hnone:atomS s g i=none:=by rw [hat];unfold signS;rw [if_neg (fun h=>hq h.2)];rfl
     refine GG ?_
     refine OP (Does.call rfl e239 (fail_ok _ p s (i + 1) (d:Int) false hP3)) ?_
     rintro _ w4 ⟨rfl,hP4,hm4⟩
     have hm14:=hm13.trans hm4
     refine GG ?_
     refine QQ (Yld.build (v:=.agg #[.int .i64 0,.int .u64 0,.int .u64 0,.int .u64 0,.int .u64 0,.slice none 0 0]) rfl (fun w=>by kernel_rfl)) ?_
     refine OQ (Does.storeN i180 rfl rfl rfl rfl (hn2.blk.mod hm14 hb2p) (Nat.le_refl 6)) ?_
     rintro _ w19 ⟨hb19,hm19,_⟩
     refine RL.done ?_
     refine RK.ret_of Tryz.func231 (resC (cs:=celC ⟨0,0,0,0,0,none,0,0⟩) rfl rfl a180 hb19) ?_ _
     exact ⟨_,rfl,⟨⟨0,0,0,0,0,none,0,0⟩,(i + 1),true,(d:Int),rfl,by omega,Blk.mod hP4 hm19 (by omega),fun _=>hnone,fun e=>(by cases e)⟩,((Mod.any' hn2.grow:Mod (·=p) w w1).trans hm14).then hm19 (fun b hb e=>by have e' : b=b2:=e;omega)⟩
    ·have hq:quotedS (b8 s (i + 1))=true:=by unfold quotedS;simpa using h44
     have hP3' : PB w3 p s (i + 1) (d:Int) false:=hP3
     refine GG ?_
     refine QQ (Yld.fieldAddr fo206_1 rfl) ?_
     refine QQ (Yld.load p3 rfl (at1 (Blk.cell hP3' rfl))) ?_
     refine RL.p rfl rfl ?_
     refine RL.re (d:=52) rfl rfl (succ_i64 (by omega)) ?_
     refine RL.p rfl rfl ?_
     refine QQ (Yld.fieldAddr fo206_1 rfl) ?_
     refine OQ (Does.store i3 rfl rfl rfl hP3' (.s .z)) ?_
     rintro _ w4 ⟨hP4',hm4,_⟩
     have hP4:PB w4 p s ((i + 1) + 1) (d:Int) false:=hP4'
     have hm14:=hm13.trans hm4
     have hc1:=b8_lt s (i + 1)
     have hsome:atomS s g i=some (.set (setBit zero4 (b8 s (i + 1))),i + 2):=by rw [hat];unfold signS;rw [if_pos ⟨hl2,hq⟩];rfl
     obtain ⟨x0,x1,x2,x3,hx⟩:=W4.four (W4.zero.bit (b8 s (i + 1)))
     refine GG ?_
     refine RK.drawM (·=b2) [(0,false),(1,false),(2,false),(3,false),(4,false),(5,false),(6,false),(7,false),(8,false),(9,false),(10,true),(11,false),(12,true)] [12] mixed (by kernel_rfl) ?_
     refine GG ?_
     refine DF (Yld.fieldAddr fo206_0 rfl) ?_
     refine DQ (Yld.load p9 rfl (atM (Blk.cell hP4 rfl) (fun e=>hb2p (Eq.symm e)))) (Mod.drew _ _) ?_
     refine GG ?_
     refine DF (Yld.fieldAddr fo206_1 rfl) ?_
     refine DQ (Yld.load p3 rfl (atM (Blk.cell hP4 rfl) (fun e=>hb2p (Eq.symm e)))) (Mod.drew _ _) ?_
     refine DL.p rfl rfl rfl ?_
     refine DL.re (d:=63) rfl rfl (sub_i64 (z:=((i + 1:Nat):Int)) (by omega) (by omega) (by omega)) ?_
     refine DF (Yld.idxStrN u9 rfl rfl (hl2)) ?_
     have ho:=one_ok (b8 s (i + 1)) hc1 w4.drew
     rw [hx] at ho
     refine OD (Does.call rfl e240 (ho)) ?_
     rintro _ w5 ⟨rfl,hg5⟩
     refine ⟨(Mod.drew _ _).trans (Mod.any' hg5),?_⟩
     have hm15:=(hm14.trans (Mod.drew _ _)).trans (Mod.any' hg5)
     have hP5:PB w5 p s (i + 2) (d:Int) false:=(hP4.mod (Mod.drew No _) (fun h=>h)).mod hg5 (fun h=>h)
     refine DF (Yld.build (v:=.agg #[.int .i64 1,.int .u64 (x0:Int),.int .u64 (x1:Int),.int .u64 (x2:Int),.int .u64 (x3:Int),.slice none 0 0]) rfl (fun w=>by kernel_rfl)) ?_
     refine DL.opT rfl (.free rfl) rfl rfl (Does.storeN i180 rfl rfl rfl rfl (hn2.blk.mod hm15 hb2p) (Nat.le_refl 6)) ?_
     rintro _ w19 ⟨hb19,hm19,_⟩
     refine DL.done ?_
     refine RK.ret_of Tryz.func231 (resC (cs:=celC ⟨1,x0,x1,x2,x3,none,0,0⟩) rfl rfl a180 hb19) ?_ _
     exact ⟨_,rfl,⟨⟨1,x0,x1,x2,x3,none,0,0⟩,(i + 2),false,(d:Int),rfl,by omega,Blk.mod hP5 hm19 (by omega),fun e=>(by cases e),fun _=>⟨rfl,.set (setBit zero4 (b8 s (i + 1))),hsome,x0,x1,x2,x3,hx,rfl⟩⟩,((Mod.any' hn2.grow:Mod (·=p) w w1).trans hm15).then hm19 (fun b hb e=>by have e' : b=b2:=e;omega)⟩
  ·have h92:¬ b8 s i=92:=by omega
   refine GG ?_
   refine CD (fun h67=>?_) (fun h67=>?_)
   ·have h40:b8 s i=40:=by omega
    have hat:atomS s g i=grpS s (g (i + 1)):=by unfold atomS;rw [if_pos h40]
    refine GG ?_
    refine QQ (Yld.fieldAddr fo206_2 rfl) ?_
    refine QQ (Yld.load p3 rfl (at1 (Blk.cell hP2 rfl))) ?_
    refine RL.p rfl rfl ?_
    refine RL.re (d:=74) rfl rfl (add_i64 (z:=((d + 1:Nat):Int)) (by omega) (by omega) (by omega)) ?_
    refine RL.p rfl rfl ?_
    refine QQ (Yld.fieldAddr fo206_2 rfl) ?_
    refine OQ (Does.store i3 rfl rfl rfl hP2 (.s (.s .z))) ?_
    rintro _ w3 ⟨hP3',hm3,_⟩
    have hP3:PB w3 p s (i + 1) ((d + 1:Nat):Int) false:=hP3'
    have hm13:=hm12.trans hm3
    refine GG ?_
    refine QQ (Yld.fieldAddr fo206_2 rfl) ?_
    refine QQ (Yld.load p3 rfl (at1 (Blk.cell hP3 rfl))) ?_
    refine GG ?_
    refine CD (fun h81=>?_) (fun h81=>?_)
    ·have hd8:d=8:=by have h:=h81;omega
     have hnone:atomS s g i=none:=by rw [hat,hg8 hd8];rfl
     refine GG ?_
     refine OP (Does.call rfl e239 (fail_ok _ p s (i + 1) ((d + 1:Nat):Int) false hP3)) ?_
     rintro _ w4 ⟨rfl,hP4,hm4⟩
     have hm14:=hm13.trans hm4
     refine GG ?_
     refine QQ (Yld.build (v:=.agg #[.int .i64 0,.int .u64 0,.int .u64 0,.int .u64 0,.int .u64 0,.slice none 0 0]) rfl (fun w=>by kernel_rfl)) ?_
     refine OQ (Does.storeN i180 rfl rfl rfl rfl (hn2.blk.mod hm14 hb2p) (Nat.le_refl 6)) ?_
     rintro _ w19 ⟨hb19,hm19,_⟩
     refine RL.done ?_
     refine RK.ret_of Tryz.func231 (resC (cs:=celC ⟨0,0,0,0,0,none,0,0⟩) rfl rfl a180 hb19) ?_ _
     exact ⟨_,rfl,⟨⟨0,0,0,0,0,none,0,0⟩,(i + 1),true,((d + 1:Nat):Int),rfl,by omega,Blk.mod hP4 hm19 (by omega),fun _=>hnone,fun e=>(by cases e)⟩,((Mod.any' hn2.grow:Mod (·=p) w w1).trans hm14).then hm19 (fun b hb e=>by have e' : b=b2:=e;omega)⟩
    ·have hd8:d < 8:=by have h:=h81;omega
     refine GG ?_
     refine OP (Does.call rfl e150 (hgw hd8 _ (i + 1) hP3 (by omega))) ?_
     rintro _ w4 ⟨⟨c,j,bad,d',rfl,hj,hP4,hno,hyes⟩,hm4⟩
     have hm14:=hm13.trans hm4
     refine OP (Does.alloc i180) ?_
     rintro _ w5 ⟨b5,rfl,hn5⟩
     have hb5:=hn5.at_
     have hs14:=hm14.size
     refine OQ (Does.storeN i180 rfl rfl rfl rfl hn5.blk (Nat.le_refl 6)) ?_
     rintro _ w6 ⟨hb6,hm6,_⟩
     have hB6:Blk w6 b5 180 (celC c):=hb6
     have hs5:=hn5.size
     have hb5p:b5≠p:=by omega
     have hg46:Mod (fun b=>b=b5) w4 w6:=(Mod.any' hn5.grow).trans hm6
     have hm16:Mod (·=p) w1 w6:=(hm14.trans (Mod.any' hn5.grow)).then hm6 (fun b hb e=>by have e' : b=b5:=e;omega)
     have hP6:=hP4.mod hg46 (by omega)
     refine GG ?_
     refine RK.drawM No [(0,false),(1,true),(2,false),(3,false),(4,false),(5,false),(6,false),(7,false),(8,false),(9,false),(10,false),(11,false),(12,false),(13,false),(14,false)] [] mixed (by kernel_rfl) ?_
     refine DL.p rfl rfl rfl ?_
     refine OD (Does.call rfl e182 (more_ok _ p s j d' bad (hP6.mod (Mod.drew No _) (fun h=>h)))) ?_
     rintro _ w7 ⟨rfl,hg7⟩
     have hgd:Grow w6 w7:=(Mod.drew _ _).trans hg7
     refine ⟨hgd,?_⟩
     have hP7:=hP6.mod hgd (fun h=>h)
     have hm17:=hm16.trans (Mod.any' hgd)
     refine GG ?_
     refine SD 90 (fun h90=>?_) (fun h90=>?_)
     ·have hnone:atomS s g i=none:=by
        rw [hat]
        cases hb:bad with
        | true=>rw [hno hb];rfl
        | false=>
         obtain ⟨_,x,hx,_⟩:=hyes hb
         rw [hx]
         show (if j < s.size∧b8 s j=41 then some (x,j + 1) else none)=none
         rw [if_neg (fun h=>by simp [moreS,hb,h.1] at h90)]
      iterate 10 refine DL.no rfl (.no rfl rfl rfl rfl) rfl rfl ?_
      refine GG ?_
      refine RK.condT rfl ?_
      refine GG ?_
      refine OP (Does.call rfl e239 (fail_ok _ p s j d' bad hP7)) ?_
      rintro _ w8 ⟨rfl,hP8,hm8⟩
      have hm18:=hm17.trans hm8
      refine GG ?_
      refine QQ (Yld.build (v:=.agg #[.int .i64 0,.int .u64 0,.int .u64 0,.int .u64 0,.int .u64 0,.slice none 0 0]) rfl (fun w=>by kernel_rfl)) ?_
      refine OQ (Does.storeN i180 rfl rfl rfl rfl (hn2.blk.mod hm18 hb2p) (Nat.le_refl 6)) ?_
      rintro _ w19 ⟨hb19,hm19,_⟩
      refine RL.done ?_
      refine RK.ret_of Tryz.func231 (resC (cs:=celC ⟨0,0,0,0,0,none,0,0⟩) rfl rfl a180 hb19) ?_ _
      exact ⟨_,rfl,⟨⟨0,0,0,0,0,none,0,0⟩,j,true,d',rfl,by omega,Blk.mod hP8 hm19 (by omega),fun _=>hnone,fun e=>(by cases e)⟩,((Mod.any' hn2.grow:Mod (·=p) w w1).trans hm18).then hm19 (fun b hb e=>by have e' : b=b2:=e;omega)⟩
     ·have hmo:bad=false∧j < s.size:=by simpa [moreS] using h90
      obtain ⟨hbad,hjs⟩:=hmo
      subst hbad
      obtain ⟨hdd,x,hx,hrx⟩:=hyes rfl
      subst hdd
      iterate 2 refine DF (Yld.pure rfl) ?_
      refine DF (Yld.fieldAddr fo206_0 rfl) ?_
      refine DQ (Yld.load p9 rfl (atM (Blk.cell hP6 rfl) (fun h=>h))) (hgd) ?_
      iterate 2 refine DF (Yld.pure rfl) ?_
      refine DF (Yld.fieldAddr fo206_1 rfl) ?_
      refine DQ (Yld.load p3 rfl (atM (Blk.cell hP6 rfl) (fun h=>h))) (hgd) ?_
      refine DF (Yld.idxStrN u9 rfl rfl (hjs)) ?_
      refine DF (Yld.pure rfl) ?_
      refine GG ?_
      refine CD (fun h101=>?_) (fun h101=>?_)
      ·have hj41:¬ b8 s j=41:=by unfold b8;have h:=h101;omega
       have hnone:atomS s g i=none:=by
         rw [hat,hx]
         show (if j < s.size∧b8 s j=41 then some (x,j + 1) else none)=none
         rw [if_neg (fun h=>hj41 h.2)]
       refine GG ?_
       refine OP (Does.call rfl e239 (fail_ok _ p s j ((d + 1:Nat):Int) false hP7)) ?_
       rintro _ w8 ⟨rfl,hP8,hm8⟩
       have hm18:=hm17.trans hm8
       refine GG ?_
       refine QQ (Yld.build (v:=.agg #[.int .i64 0,.int .u64 0,.int .u64 0,.int .u64 0,.int .u64 0,.slice none 0 0]) rfl (fun w=>by kernel_rfl)) ?_
       refine OQ (Does.storeN i180 rfl rfl rfl rfl (hn2.blk.mod hm18 hb2p) (Nat.le_refl 6)) ?_
       rintro _ w19 ⟨hb19,hm19,_⟩
       refine RL.done ?_
       refine RK.ret_of Tryz.func231 (resC (cs:=celC ⟨0,0,0,0,0,none,0,0⟩) rfl rfl a180 hb19) ?_ _
       exact ⟨_,rfl,⟨⟨0,0,0,0,0,none,0,0⟩,j,true,((d + 1:Nat):Int),rfl,by omega,Blk.mod hP8 hm19 (by omega),fun _=>hnone,fun e=>(by cases e)⟩,((Mod.any' hn2.grow:Mod (·=p) w w1).trans hm18).then hm19 (fun b hb e=>by have e' : b=b2:=e;omega)⟩
      ·have hj41:b8 s j=41:=by unfold b8;have h:=h101;omega
       have hsome:atomS s g i=some (x,j + 1):=by rw [hat,hx];show (if j < s.size∧b8 s j=41 then some (x,j + 1) else none)=_;rw [if_pos ⟨hjs,hj41⟩]
       refine GG ?_
       refine QQ (Yld.fieldAddr fo206_1 rfl) ?_
       refine QQ (Yld.load p3 rfl (at1 (Blk.cell hP7 rfl))) ?_
       refine RL.p rfl rfl ?_
       refine RL.re (d:=109) rfl rfl (succ_i64 (by omega)) ?_
       refine RL.p rfl rfl ?_
       refine QQ (Yld.fieldAddr fo206_1 rfl) ?_
       refine OQ (Does.store i3 rfl rfl rfl hP7 (.s .z)) ?_
       rintro _ w8 ⟨hP8',hm8,_⟩
       have hP8:PB w8 p s (j + 1) ((d + 1:Nat):Int) false:=hP8'
       refine GG ?_
       refine QQ (Yld.fieldAddr fo206_2 rfl) ?_
       refine QQ (Yld.load p3 rfl (at1 (Blk.cell hP8 rfl))) ?_
       refine RL.p rfl rfl ?_
       refine RL.re (d:=116) rfl rfl (sub_i64 (z:=((d:Nat):Int)) (by omega) (by omega) (by omega)) ?_
       refine RL.p rfl rfl ?_
       refine QQ (Yld.fieldAddr fo206_2 rfl) ?_
       refine OQ (Does.store i3 rfl rfl rfl hP8 (.s (.s .z))) ?_
       rintro _ w9 ⟨hP9',hm9,_⟩
       have hP9:PB w9 p s (j + 1) (d:Int) false:=hP9'
       have hm79:Mod (·=p) w7 w9:=hm8.trans hm9
       have hB9:Blk w9 b5 180 (celC c):=(hB6.mod hgd (fun h=>h)).mod hm79 hb5p
       have hm19':=hm17.trans hm79
       refine GG ?_
       refine QQ (Yld.loadN (cs:=celC c) a180 rfl (atN (blk0' hB9))) ?_
       refine OQ (Does.storeN i180 rfl rfl rfl rfl (hn2.blk.mod hm19' hb2p) (Nat.le_refl 6)) ?_
       rintro _ w19 ⟨hb19,hm19,_⟩
       have hs3:=hm13.size
       have hrx9:RxV (fun b=>Old w3 b∨b=b5) w4 x [c]:=RxV.off (fun b hb e=>e.elim (fun e=>e) (fun e=>by omega)) x hrx
       have hm49:Mod (fun b=>b=b5∨b=p) w4 w9:=((hg46.mono fun b _ e=>.inl e).trans (Mod.any' hgd)).trans (hm79.mono fun b _ e=>.inr e)
       have hrx19:RxV (Old w) w19 x [c]:=RxV.off (fun b _ e=>.inl (by unfold Old at *;omega)) x (RxV.mod hm19 (fun b _ e=>by have e' : b=b2:=e;unfold Old;omega) x (RxV.mod hm49 (fun b _ e=>by unfold Old;rcases e with e | e <;> omega) x hrx9))
       refine RL.done ?_
       refine RK.ret_of Tryz.func231 (resC (cs:=celC c) rfl rfl a180 hb19) ?_ _
       exact ⟨_,rfl,⟨c,j + 1,false,(d:Int),rfl,by omega,hP9.mod hm19 (by omega),fun e=>(by cases e),fun _=>⟨rfl,x,hsome,hrx19⟩⟩,((Mod.any' hn2.grow:Mod (·=p) w w1).trans hm19').then hm19 (fun b hb e=>by have e' : b=b2:=e;omega)⟩
   ·have h40:¬ b8 s i=40:=by omega
    refine GG ?_
    refine CD (fun h120=>?_) (fun h120=>?_)
    ·have h91:b8 s i=91:=by omega
     have hat:atomS s g i=(clsS s (i + 1)).map (fun p=>(.set p.1,p.2)):=by unfold atomS;rw [if_neg h40,if_pos h91]
     refine GG ?_
     refine OP (Does.call rfl e241 (rclass_ok _ p s (i + 1) (d:Int) hP2 (by omega) hs)) ?_
     rintro _ w3 ⟨c,j,bad,rfl,hj,hP3,hno,hyes,hm3⟩
     have hm13:=hm12.trans hm3
     refine OQ (Does.storeN i180 rfl rfl rfl rfl (hn2.blk.mod hm13 hb2p) (Nat.le_refl 6)) ?_
     rintro _ w19 ⟨hb19,hm19,_⟩
     refine RL.done ?_
     refine RK.ret_of Tryz.func231 (resC (cs:=celC c) rfl rfl a180 hb19) ?_ _
     exact ⟨_,rfl,⟨c,j,bad,(d:Int),rfl,by omega,hP3.mod hm19 (by omega),fun e=>by rw [hat,hno e];rfl,fun e=>by
       obtain ⟨l,h1,h2⟩:=hyes e
       exact ⟨rfl,.set l,by rw [hat,h1];rfl,h2⟩⟩,((Mod.any' hn2.grow:Mod (·=p) w w1).trans hm13).then hm19 (fun b hb e=>by have e' : b=b2:=e;omega)⟩
    ·have h91:¬ b8 s i=91:=by omega
     have hat:atomS s g i=if b8 s i=42∨b8 s i=43∨b8 s i=63∨b8 s i=93 then none else some (.set (setBit zero4 (b8 s i)),i + 1):=by unfold atomS;rw [if_neg h40,if_neg h91,if_neg h46,if_neg h92]
     refine GG ?_
     refine OP (Does.call rfl e242 (special_ok (b8 s i) _)) ?_
     rintro _ _ ⟨rfl,rfl⟩
     refine GG ?_
     refine CD (fun h125=>?_) (fun h125=>?_)
     ·have hnone:atomS s g i=none:=by rw [hat,if_pos (by have h:=h125;first | omega | (unfold spcS at h;simp at h;omega))]
      refine GG ?_
      refine OP (Does.call rfl e239 (fail_ok _ p s (i + 1) (d:Int) false hP2)) ?_
      rintro _ w4 ⟨rfl,hP4,hm4⟩
      have hm14:=hm12.trans hm4
      refine GG ?_
      refine QQ (Yld.build (v:=.agg #[.int .i64 0,.int .u64 0,.int .u64 0,.int .u64 0,.int .u64 0,.slice none 0 0]) rfl (fun w=>by kernel_rfl)) ?_
      refine OQ (Does.storeN i180 rfl rfl rfl rfl (hn2.blk.mod hm14 hb2p) (Nat.le_refl 6)) ?_
      rintro _ w19 ⟨hb19,hm19,_⟩
      refine RL.done ?_
      refine RK.ret_of Tryz.func231 (resC (cs:=celC ⟨0,0,0,0,0,none,0,0⟩) rfl rfl a180 hb19) ?_ _
      exact ⟨_,rfl,⟨⟨0,0,0,0,0,none,0,0⟩,(i + 1),true,(d:Int),rfl,by omega,Blk.mod hP4 hm19 (by omega),fun _=>hnone,fun e=>(by cases e)⟩,((Mod.any' hn2.grow:Mod (·=p) w w1).trans hm14).then hm19 (fun b hb e=>by have e' : b=b2:=e;omega)⟩
     ·have hsome:atomS s g i=some (.set (setBit zero4 (b8 s i)),i + 1):=by rw [hat,if_neg (by have h:=h125;first | omega | (unfold spcS at h;simp at h;omega))]
      obtain ⟨x0,x1,x2,x3,hx⟩:=W4.four (W4.zero.bit (b8 s i))
      have ho:=one_ok (b8 s i) hc w2
      rw [hx] at ho
      refine GG ?_
      refine OP (Does.call rfl e240 (ho)) ?_
      rintro _ w5 ⟨rfl,hg5⟩
      have hm15:=hm12.trans (Mod.any' hg5)
      have hP5:=hP2.mod hg5 (fun h=>h)
      refine QQ (Yld.build (v:=.agg #[.int .i64 1,.int .u64 (x0:Int),.int .u64 (x1:Int),.int .u64 (x2:Int),.int .u64 (x3:Int),.slice none 0 0]) rfl (fun w=>by kernel_rfl)) ?_
      refine OQ (Does.storeN i180 rfl rfl rfl rfl (hn2.blk.mod hm15 hb2p) (Nat.le_refl 6)) ?_
      rintro _ w19 ⟨hb19,hm19,_⟩
      refine RL.done ?_
      refine RK.ret_of Tryz.func231 (resC (cs:=celC ⟨1,x0,x1,x2,x3,none,0,0⟩) rfl rfl a180 hb19) ?_ _
      exact ⟨_,rfl,⟨⟨1,x0,x1,x2,x3,none,0,0⟩,(i + 1),false,(d:Int),rfl,by omega,Blk.mod hP5 hm19 (by omega),fun e=>(by cases e),fun _=>⟨rfl,.set (setBit zero4 (b8 s i)),hsome,x0,x1,x2,x3,hx,rfl⟩⟩,((Mod.any' hn2.grow:Mod (·=p) w w1).trans hm15).then hm19 (fun b hb e=>by have e' : b=b2:=e;omega)⟩
end Go.Proofs.YtbcbfjnlnmhpbaaGreat
