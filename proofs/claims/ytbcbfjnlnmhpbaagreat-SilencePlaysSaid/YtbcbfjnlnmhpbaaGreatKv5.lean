/- What the claim stands on, part 5. Of own lemmas only those that it reaches. -/
import Derived.Test.YtbcbfjnlnmhpbaaGreatKv4
set_option linter.unusedVariables false
set_option linter.unusedSimpArgs false
set_option maxHeartbeats 1000000
set_option maxRecDepth 100000
namespace Go.Proofs.YtbcbfjnlnmhpbaaGreat
open Go Go.X Go.Rex
abbrev SlS (M:Nat→Prop) (w:World) (v:Value) (P:List Stp):Prop:=Sl M w v 7 P.length (P.flatMap stC)
theorem check1_ok (P:List Stp) (s:Stp) (hw:W4 s.set) (hs:okS P.length s) (v:Value) (b1:Nat) (w:World) (hv:SlS No w v P) (hb:Blk w b1 194 [v]) :
  Fx Tryz.prog 204 [stV s,pp b1] w (fun u w'=>u=.bool false∧Grow w w'):=by
 obtain ⟨ad,c,rfl⟩:=hv.shape
 refine enter Tryz.func204 rfl rfl rfl _ (Pick.sub (l:=[0,1]) (.cons rfl (.cons rfl .nil))) ?_
 refine GG ?_
 refine OP (Does.box rfl) ?_
 rintro _ w2 ⟨b2,rfl,hn2⟩
 refine GG ?_
 refine QQ (Yld.loadN (cs:=stC s) a226 rfl (atN (blk0' hn2.blk))) ?_
 refine QQ (Yld.load p194 rfl (at1 ((hb.mod hn2.grow (fun h=>h)).cell rfl))) ?_
 refine QQ (Yld.lenSl u194 rfl) ?_
 refine OP (Does.call rfl e205 (right_ok P.length s false hw (.inl ⟨rfl,hs⟩) _)) ?_
 rintro _ w3 ⟨rfl,hg3⟩
 refine GG ?_
 refine RK.ret_of Tryz.func204 (res1 rfl rfl) ?_ _
 exact ⟨_,rfl,rfl,hn2.grow.trans hg3⟩
theorem checkI_ok (P:List Stp) (hP:OkP P) (ad:Option Addr) (c:Nat) (b1:Nat) (w:World) (hv:SlS No w (.slice ad P.length c) P) (hb:Blk w b1 194 [.slice ad P.length c]) :
  Fx Tryz.prog 224 [.slice ad (P.length - 1) c,.func (.func 204) #[] #[pp b1]] w (fun u w'=>u=.int .i64 (-1)∧Grow w w'):=by
 have hle:=hP.le
 refine enter Tryz.func224 rfl rfl rfl _ (Pick.sub (l:=[0,1]) (.cons rfl (.cons rfl .nil))) ?_
 refine GG ?_
 refine QQ (Yld.lenSl u194 rfl) ?_
 refine GG ?_
 refine RK.loop (fun k:Nat=>[(0,.slice ad (P.length - 1) c),(1,.func (.func 204) #[] #[pp b1]),(7,.int .i64 ((P.length - 1:Nat):Int)),(8,.int .i64 k)]) (fun k w'=>Grow w w'∧k≤P.length - 1) (fun k=>P.length - 1 - k) 0 ⟨rfl,rfl,rfl,rfl,trivial⟩ ⟨Mod.refl _ _,by omega⟩ (fun k w' hI ih=>?_)
 obtain ⟨hg,hk⟩:=hI
 refine GG ?_
 refine CD (fun h9=>?_) (fun h9=>?_)
 ·obtain ⟨s,hs⟩:∃ s,P[k]?=some s:=⟨P[k]'(by omega),List.getElem?_eq_getElem (by omega)⟩
  obtain ⟨hw4,hok⟩:=hP.at_ k s hs
  have hok' : okS P.length s:=by rcases hok with ⟨_,h1⟩ | ⟨h1,_⟩;exact h1;omega
  obtain ⟨b2,o2,c2,he,_,_,hcl⟩:=hv.elem stC_len hs
  cases he
  refine GG ?_
  refine QQ (Yld.indexAddrN u194 i226 rfl rfl (by omega)) ?_
  refine QQ (Yld.loadN (cs:=stC s) a226 rfl (atN (fun j u hj=>hg.cell (hcl j u hj) (fun h=>h)))) ?_
  refine OP (Does.callv rfl rfl e204 (check1_ok P s hw4 hok' _ b1 _ (hv.mod hg) (hb.mod hg (fun h=>h)))) ?_
  rintro _ w2 ⟨rfl,hg2⟩
  refine RL.done ?_
  refine RK.condF (hcF rfl (rfl)) ?_
  refine RK.skip ?_
  refine RK.inBlock ?_
  refine RK.region ?_
  refine RL.p rfl rfl ?_
  refine RL.re (d:=18) rfl rfl (succ_i64 (by omega)) ?_
  refine GG ?_
  exact RK.back (ih (k + 1) _ ⟨hg.trans hg2,by omega⟩ (by omega)) ⟨rfl,rfl,rfl,rfl,trivial⟩
 ·refine RK.exit rfl ?_
  refine GG ?_
  refine RK.ret_of Tryz.func224 (res1 rfl rfl) ?_ _
  exact ⟨_,rfl,rfl,hg⟩
theorem checkC_ok (P:List Stp) (hP:OkP P) (ad:Option Addr) (c:Nat) (b1:Nat) (w:World) (hv:SlS No w (.slice ad P.length c) P) (hb:Blk w b1 194 [.slice ad P.length c]) :
  Fx Tryz.prog 203 [.slice ad (P.length - 1) c,.func (.func 204) #[] #[pp b1]] w (fun u w'=>u=.bool false∧Grow w w'):=by
 refine enter Tryz.func203 rfl rfl rfl _ (Pick.sub (l:=[0,1]) (.cons rfl (.cons rfl .nil))) ?_
 refine GG ?_
 refine OP (Does.call rfl e224 (checkI_ok P hP ad c b1 _ hv hb)) ?_
 rintro _ w2 ⟨rfl,hg2⟩
 refine GG ?_
 refine RK.ret_of Tryz.func203 (res1 rfl rfl) ?_ _
 exact ⟨_,rfl,rfl,hg2⟩
theorem check_ok (P : List Stp) (hP : OkP P) (ad : Option Addr) (c : Nat) (hc : P.length ≤ c) (w : World) (hv : SlS No w (.slice ad P.length c) P) :
    Fx Tryz.prog 170 [.slice ad P.length c] w (fun u w'=>u=.bool true∧Grow w w'):=by
  have hle:=hP.le
  have h1:=hP.one
  obtain ⟨s,hs⟩:∃ s,P[P.length - 1]?=some s:=⟨P[P.length - 1]'(by omega),List.getElem?_eq_getElem (by omega)⟩
  obtain ⟨hw4,hok⟩:=hP.at_ _ s hs
  have hok' : s=matchS:=by rcases hok with ⟨h1,_⟩ | ⟨_,h1⟩;omega;exact h1
  obtain ⟨b2,o2,c2,he,_,_,hcl⟩:=hv.elem stC_len hs
  cases he
  refine enter Tryz.func170 rfl rfl rfl _ (Pick.sub (l:=[0]) (.cons rfl .nil)) ?_
  refine RK.seq ?_
  refine RK.region ?_
  refine RL.op (.free rfl) rfl rfl (Does.box rfl) ?_
  rintro _ w1 ⟨b1,rfl,hn1⟩
  have hB1:=hn1.blk
  refine RL.p rfl rfl ?_
  refine RL.done ?_
  iterate 2 refine RK.seq ?_
  refine RK.region ?_
  refine RL.q (.free rfl) rfl rfl (Yld.load p194 rfl (at1 (hB1.cell rfl))) ?_
  refine RL.q (.free rfl) rfl rfl (Yld.lenSl u194 rfl) ?_
  iterate 2 refine RL.p rfl rfl ?_
  refine RL.knownF (d:=7) rfl rfl (decide_eq_false (by omega)) ?_
  refine RL.q (.yes rfl rfl rfl) rfl rfl (Yld.load p194 rfl (at1 (hB1.cell rfl))) ?_
  refine RL.q (.yes rfl rfl rfl) rfl rfl (Yld.lenSl u194 rfl) ?_
  refine RL.q (.yes rfl rfl rfl) rfl rfl (Yld.pure rfl) ?_
  refine RL.p rfl rfl ?_
  refine RL.done ?_
  refine RK.condF (hcF rfl (decide_eq_false (by omega))) ?_
  refine RK.skip ?_
  refine RK.seq ?_
  refine RK.region ?_
  refine RL.q (.free rfl) rfl rfl (Yld.load p194 rfl (at1 (hB1.cell rfl))) ?_
  refine RL.q (.free rfl) rfl rfl (Yld.lenSl u194 rfl) ?_
  refine RL.p rfl rfl ?_
  refine RL.re (d:=14) rfl rfl (sub_i64 (z:=((P.length - 1:Nat):Int)) (by omega) (by omega) (by omega)) ?_
  refine RL.p rfl rfl ?_
  refine RL.done ?_
  refine RK.seq ?_
  refine RK.drawM No [(0,false),(1,false),(2,false),(3,false),(4,true),(5,false),(6,false),(7,false),(8,false),(9,false),(10,false),(11,false),(12,false),(13,true),(14,false),(15,false)] [] mixed (by kernel_rfl) ?_
  refine DL.q rfl (.free rfl) rfl rfl rfl (Yld.load p194 rfl (atM (hB1.cell rfl) (fun h=>h))) (Mod.drew _ _) ?_
  refine DL.p rfl rfl rfl ?_
  refine DL.qf rfl (.free rfl) rfl rfl (Yld.sliceHi u194 i226 (m:=P.length - 1) rfl rfl (by omega)) ?_
  refine DL.p rfl rfl rfl ?_
  refine DL.op rfl (.free rfl) rfl rfl (Does.call rfl e203 (checkC_ok P hP _ c b1 _ (hv.mod (hn1.grow.trans (Mod.drew _ _))) (hB1.mod (Mod.drew No _) (fun h=>h)))) ?_
  rintro _ w2 ⟨rfl,hg2⟩
  have hgd:Grow w1 w2:=(Mod.drew _ _).trans hg2
  refine ⟨hgd,?_⟩
  iterate 2 refine DL.p rfl rfl rfl ?_
  refine DL.knownT (d:=21) rfl rfl (rfl) ?_
  refine DL.q rfl (.yes rfl rfl rfl) rfl rfl rfl (Yld.load p194 rfl (atM (hB1.cell rfl) (fun h=>h))) (hgd) ?_
  refine DL.qf rfl (.yes rfl rfl rfl) rfl rfl (Yld.pure rfl) ?_
  refine DL.qf rfl (.yes rfl rfl rfl) rfl rfl (Yld.indexAddrN u194 i226 rfl rfl (by omega)) ?_
  refine DL.q rfl (.yes rfl rfl rfl) rfl rfl rfl (Yld.loadN (cs:=stC s) a226 rfl (atNM (fun j u hj=>(hn1.grow).cell (hcl j u hj) (fun h=>h)) (fun h=>h))) (hgd) ?_
  refine DL.q rfl (.yes rfl rfl rfl) rfl rfl rfl (Yld.load p194 rfl (atM (hB1.cell rfl) (fun h=>h))) (hgd) ?_
  refine DL.q rfl (.yes rfl rfl rfl) rfl rfl rfl (Yld.lenSl u194 rfl) (hgd) ?_
  refine DL.op rfl (.yes rfl rfl rfl) rfl rfl (Does.call rfl e205 (right_ok P.length s true hw4 (.inr ⟨rfl,hok'⟩) _)) ?_
  rintro _ w3 ⟨rfl,hg3⟩
  refine ⟨hgd.trans hg3,?_⟩
  iterate 2 refine DL.p rfl rfl rfl ?_
  refine DL.done ?_
  refine RK.ret_of Tryz.func170 (res1 rfl rfl) ?_ _
  exact ⟨_,rfl,rfl,(hn1.grow.trans hgd).trans hg3⟩
theorem lt64 {a b:Nat} (ha:a < 18446744073709551616) (hb:b < 18446744073709551616):a ||| b < 18446744073709551616:=Nat.or_lt_two_pow (n:=64) ha hb
theorem sh64 {c:Nat} (hc:c < 64):1 <<< c < 18446744073709551616:=by
 rw [Nat.shiftLeft_eq,Nat.one_mul];exact Nat.pow_lt_pow_right (m:=c) (n:=64) (by omega) hc
theorem shr64 {a:Nat} (ha:a < 18446744073709551616) (c:Nat):a >>> c < 18446744073709551616:=Nat.lt_of_le_of_lt (Nat.shiftRight_le a c) ha
abbrev PU (w:World) (bp been:Nat):Prop:=Blk w bp 22 [.int .u64 (been:Int)]
theorem come_ok (P:List Stp) (hP:OkP P) (v:Value) (bp:Nat):∀ (m at_ been:Nat),miss P.length been≤m→at_ < P.length→been < 18446744073709551616→∀ w,SlS (·=bp) w v P→PU w bp been→Fx Tryz.prog 206 [v,.int .i64 (at_:Int),pp bp] w (fun u w'=>∃ r b' : Nat,u=.int .u64 (r:Int)∧r < 18446744073709551616∧b' < 18446744073709551616∧Come P at_ been r b'∧PU w' bp b'∧Mod (·=bp) w w'):=by
  intro m
  induction m with
  | zero=>
    intro at_ been hm hat hbe w hv hb
    have hat2:been.testBit at_=true:=by
      cases hbt:been.testBit at_ with
      | true=>rfl
      | false=>
        have:=miss_lt (n:=P.length) (been:=been) (b':=been ||| 1 <<< at_) hat hbt (fun v hv=>bit_or.2 (.inl hv)) (bit_or.2 (.inr rfl))
        omega
    have hle:=hP.le
    refine enter Tryz.func206 rfl rfl rfl _ (Pick.sub (l:=[0,1,2]) (.cons rfl (.cons rfl (.cons rfl .nil)))) ?_
    refine RK.seq ?_
    refine RK.region ?_
    refine RL.p rfl rfl ?_
    refine RL.done ?_
    iterate 2 refine RK.seq ?_
    refine RK.region ?_
    iterate 2 refine RL.p rfl rfl ?_
    refine RL.q (.free rfl) rfl rfl (Yld.load p22 rfl (at1 (hb.cell rfl))) ?_
    refine RL.p rfl rfl ?_
    refine RL.q (.free rfl) rfl rfl (Yld.shr rfl rfl (by simp [IntKind.bits];omega)) ?_
    refine RL.p rfl rfl ?_
    refine RL.re (d:=13) rfl rfl (congrArg (Value.int .u64) (Go.X.u64_and (b:=1) (shr64 hbe at_) (by decide))) ?_
    refine RL.p rfl rfl ?_
    refine RL.done ?_
    refine RK.condT (hcT rfl (decide_eq_true ((bit1I been at_).2 hat2))) ?_
    refine RK.seq ?_
    refine RK.region ?_
    refine RL.p rfl rfl ?_
    refine RL.done ?_
    refine RK.ret_of Tryz.func206 (res1 rfl rfl) ?_ _
    exact ⟨_,rfl,0,been,rfl,by omega,hbe,Come.there hat2,hb,Mod.refl _ _⟩
  | succ m ihm=>
    intro at_ been hm hat hbe w hv hb
    have hle:=hP.le
    obtain ⟨s,hs⟩:∃ s,P[at_]?=some s:=⟨P[at_]'hat,List.getElem?_eq_getElem hat⟩
    obtain ⟨hw4,hok⟩:=hP.at_ at_ s hs
    obtain ⟨b2,o2,c2,rfl,hb2,_,hcl⟩:=hv.elem stC_len hs
    obtain ⟨op,t,sa,sb⟩:=s
    obtain ⟨x0,x1,x2,x3,rfl⟩:=W4.four hw4
    refine enter Tryz.func206 rfl rfl rfl _ (Pick.sub (l:=[0,1,2]) (.cons rfl (.cons rfl (.cons rfl .nil)))) ?_
    refine RK.seq ?_
    refine RK.region ?_
    refine RL.p rfl rfl ?_
    refine RL.done ?_
    iterate 2 refine RK.seq ?_
    refine RK.region ?_
    iterate 2 refine RL.p rfl rfl ?_
    refine RL.q (.free rfl) rfl rfl (Yld.load p22 rfl (at1 (hb.cell rfl))) ?_
    refine RL.p rfl rfl ?_
    refine RL.q (.free rfl) rfl rfl (Yld.shr rfl rfl (by simp [IntKind.bits];omega)) ?_
    refine RL.p rfl rfl ?_
    refine RL.re (d:=13) rfl rfl (congrArg (Value.int .u64) (Go.X.u64_and (b:=1) (shr64 hbe at_) (by decide))) ?_
    refine RL.p rfl rfl ?_
    refine RL.done ?_
    first | refine RK.condD rfl (fun h14=>?_) (fun h14=>?_) | refine RK.condN rfl (fun h14=>?_) (fun h14=>?_) | refine RK.cond rfl (fun h14=>?_) (fun h14=>?_)
    · refine RK.seq ?_
      refine RK.region ?_
      refine RL.p rfl rfl ?_
      refine RL.done ?_
      refine RK.ret_of Tryz.func206 (res1 rfl rfl) ?_ _
      exact ⟨_,rfl,0,been,rfl,by omega,hbe,Come.there ((bit1I been at_).1 h14),hb,Mod.refl _ _⟩
    · have hbt : been.testBit at_ = false := by
          cases hx:been.testBit at_ with
          | false=>rfl
          | true=>exact absurd ((bit1I been at_).2 hx) h14
      have hlt:=miss_lt (n:=P.length) (been:=been) (b':=been ||| 1 <<< at_) hat hbt (fun v hv=>bit_or.2 (.inl hv)) (bit_or.2 (.inr rfl))
      have hsh:=sh64 (c:=at_) (by omega)
      have hbe1:=lt64 hbe hsh
      refine RK.skip ?_
      refine RK.seq ?_
      refine RK.drawM (·=bp) [(0,false),(1,false),(3,false),(4,false),(2,true),(5,false),(6,false),(7,true)] [7] mixed (by kernel_rfl) ?_
      iterate 3 refine DL.p rfl rfl rfl ?_
      refine DL.qf rfl (.free rfl) rfl rfl (Yld.shl (a:=1) rfl rfl (by simp [IntKind.bits];omega)) ?_
      refine DL.re (d:=19) rfl rfl (congrArg (Value.int .u64) (Go.X.wrap_u64 hsh)) ?_
      refine DL.lq rfl (.free rfl) rfl rfl (Yld.load p22 rfl (at1 (hb.cell rfl))) ?_
      refine DL.p rfl rfl rfl ?_
      refine DL.re (d:=20) rfl rfl (congrArg (Value.int .u64) (Go.X.u64_or hbe hsh)) ?_
      refine DL.p rfl rfl rfl ?_
      refine DL.opT rfl (.free rfl) rfl rfl (Does.store i22 rfl rfl rfl hb (.z)) ?_
      rintro _ w1 ⟨hb1,hm1,_⟩
      have hm01:Mod (·=bp) w w1:=(Mod.drew _ _).trans hm1
      have hb1' : PU w1 bp (been ||| 1 <<< at_):=hb1
      have hv1:=hv.mod hm01
      refine DL.done ?_
      iterate 2 refine RK.seq ?_
      refine RK.region ?_
      iterate 2 refine RL.p rfl rfl ?_
      refine RL.q (.free rfl) rfl rfl (Yld.indexAddrN u194 i226 rfl rfl (hat)) ?_
      refine RL.q (.free rfl) rfl rfl (Yld.loadN (cs:=stC ⟨op,[x0,x1,x2,x3],sa,sb⟩) a226 rfl (atN (fun j u hj=>hm01.cell (hcl j u hj) hb2))) ?_
      refine RL.op (.free rfl) rfl rfl (Does.alloc i226) ?_
      rintro _ w2 ⟨b7,rfl,hn7⟩
      have hbpl:=hb.lt
      have hs01:=hm01.size
      have hb7:=hn7.at_
      have hb7p:¬ b7=bp:=by omega
      refine RL.op' (.free rfl) rfl (Does.storeN i226 rfl rfl rfl rfl hn7.blk (Nat.le_refl 7)) ?_
      rintro _ w3 ⟨hb3,hm3,_⟩
      have hB3:Blk w3 b7 226 [.int .i64 (op:Int),.int .u64 (x0:Int),.int .u64 (x1:Int),.int .u64 (x2:Int),.int .u64 (x3:Int),.int .i64 (sa:Int),.int .i64 (sb:Int)]:=hb3
      have hg3:Grow w1 w3:=hn7.grow.then hm3 (fun y hy e=>by have e' : y=b7:=e;omega)
      have hb3':=hb1'.mod hg3 (fun h=>h)
      have hv3:=hv1.mod (Mod.any' hg3)
      have hm03:Mod (·=bp) w w3:=hm01.trans (Mod.any' hg3)
      refine RL.done ?_
      refine RK.seq ?_
      refine RK.region ?_
      refine RL.q (.free rfl) rfl rfl (Yld.fieldAddr fo226_0 rfl) ?_
      refine RL.q (.free rfl) rfl rfl (Yld.load p3 rfl (at1 (hB3.cell rfl))) ?_
      refine RL.done ?_
      refine RK.block ?_
      refine RK.seq ?_
      refine RK.region ?_
      iterate 2 refine RL.p rfl rfl ?_
      refine RL.done ?_
      first | refine RK.condD rfl (fun h28=>?_) (fun h28=>?_) | refine RK.condN rfl (fun h28=>?_) (fun h28=>?_) | refine RK.cond rfl (fun h28=>?_) (fun h28=>?_)
      · have ho:op=2:=by omega
        subst ho
        have hab : sa < P.length ∧ sb < P.length := by
            rcases hok with ⟨_,h1⟩ | ⟨_,h1⟩
            · rcases h1 with ⟨h2,_⟩ | ⟨_,h2,h3,_⟩ | ⟨h2,_⟩
              · cases h2
              · exact ⟨h2,h3⟩
              · cases h2
            · cases h1
        refine RK.seq ?_
        refine RK.drawM (·=bp) [(0,false),(1,false),(2,false),(3,false),(5,false),(6,false),(7,false),(8,false),(4,true),(9,true),(10,false),(11,false)] [] mixed (by kernel_rfl) ?_
        refine DL.p rfl rfl rfl ?_
        refine DL.qf rfl (.free rfl) rfl rfl (Yld.fieldAddr fo226_2 rfl) ?_
        refine DL.q rfl (.free rfl) rfl rfl rfl (Yld.load p3 rfl (atM (hB3.cell rfl) (hb7p))) (Mod.drew _ _) ?_
        iterate 2 refine DL.p rfl rfl rfl ?_
        refine DL.qf rfl (.free rfl) rfl rfl (Yld.fieldAddr fo226_3 rfl) ?_
        refine DL.q rfl (.free rfl) rfl rfl rfl (Yld.load p3 rfl (atM (hB3.cell rfl) (hb7p))) (Mod.drew _ _) ?_
        refine DL.p rfl rfl rfl ?_
        refine DL.op rfl (.free rfl) rfl rfl (Does.call rfl e206 (ihm sa (been ||| 1 <<< at_) (by omega) hab.1 hbe1 _ (hv3.mod (Mod.drew _ _)) (hb3'.mod (Mod.drew No _) (fun h=>h)))) ?_
        rintro _ w4 ⟨r1,b1,rfl,hr1,hb1l,hc1,hb4,hm4⟩
        have hm34:Mod (·=bp) w3 w4:=(Mod.drew _ _).trans hm4
        refine ⟨hm34,?_⟩
        have hlt2:=miss_lt (n:=P.length) (been:=been) (b':=b1) hat hbt (fun v hv=>hc1.sub v (bit_or.2 (.inl hv))) (hc1.sub _ (bit_or.2 (.inr rfl)))
        refine DL.op rfl (.free rfl) rfl rfl (Does.call rfl e206 (ihm sb b1 (by omega) hab.2 hb1l _ (hv3.mod hm34) hb4)) ?_
        rintro _ w5 ⟨r2,b5,rfl,hr2,hb5l,hc2,hb5,hm5⟩
        refine ⟨hm34.trans hm5,?_⟩
        refine DL.p rfl rfl rfl ?_
        refine DL.re (d:=40) rfl rfl (congrArg (Value.int .u64) (Go.X.u64_or hr1 hr2)) ?_
        refine DL.p rfl rfl rfl ?_
        refine DL.done ?_
        refine RK.ret_of Tryz.func206 (res1 rfl rfl) ?_ _
        exact ⟨_,rfl,r1 ||| r2,b5,rfl,lt64 hr1 hr2,hb5l,Come.split hbt hs rfl hc1 hc2,hb5,(hm03.trans hm34).trans hm5⟩
      · refine RK.seq ?_
        refine RK.region ?_
        iterate 2 refine RL.p rfl rfl ?_
        refine RL.done ?_
        first | refine RK.condD rfl (fun h41=>?_) (fun h41=>?_) | refine RK.condN rfl (fun h41=>?_) (fun h41=>?_) | refine RK.cond rfl (fun h41=>?_) (fun h41=>?_)
        · have ho:op=3:=by omega
          subst ho
          have hab : sa < P.length := by
              rcases hok with ⟨_,h1⟩ | ⟨_,h1⟩
              · rcases h1 with ⟨h2,_⟩ | ⟨h2,_⟩ | ⟨_,h2,_⟩
                · cases h2
                · cases h2
                · exact h2
              · cases h1
          refine RK.seq ?_
          refine RK.region ?_
          refine RL.p rfl rfl ?_
          refine RL.q (.free rfl) rfl rfl (Yld.fieldAddr fo226_2 rfl) ?_
          refine RL.q (.free rfl) rfl rfl (Yld.load p3 rfl (at1 (hB3.cell rfl))) ?_
          refine RL.p rfl rfl ?_
          refine RL.op (.free rfl) rfl rfl (Does.call rfl e206 (ihm sa (been ||| 1 <<< at_) (by omega) hab hbe1 _ hv3 hb3')) ?_
          rintro _ w4 ⟨r1,b1,rfl,hr1,hb1l,hc1,hb4,hm4⟩
          refine RL.p rfl rfl ?_
          refine RL.done ?_
          refine RK.ret_of Tryz.func206 (res1 rfl rfl) ?_ _
          exact ⟨_,rfl,r1,b1,rfl,hr1,hb1l,Come.jump hbt hs rfl hc1,hb4,hm03.trans hm4⟩
        · refine RK.skip ?_
          refine RK.inBlock ?_
          refine RK.seq ?_
          refine RK.region ?_
          refine RL.p rfl rfl ?_
          refine RL.q (.free rfl) rfl rfl (Yld.shl (a:=1) rfl rfl (by simp [IntKind.bits];omega)) ?_
          refine RL.re (d:=49) rfl rfl (congrArg (Value.int .u64) (Go.X.wrap_u64 hsh)) ?_
          refine RL.p rfl rfl ?_
          refine RL.done ?_
          refine RK.ret_of Tryz.func206 (res1 rfl rfl) ?_ _
          exact ⟨_,rfl,1 <<< at_,been ||| 1 <<< at_,rfl,hsh,hbe1,Come.leaf hbt ⟨_,hs,by show op≠2;omega,by show op≠3;omega⟩,hb3',hm03⟩
theorem start_ok (P:List Stp) (hP:OkP P) (H:List Nat→Nat→Prop) (v:Value) (w:World) (hv:SlS No w v P):Fx Tryz.prog 171 [v] w (fun u w'=>∃ r:Nat,u=.int .u64 (r:Int)∧r < 18446744073709551616∧Now P H 0 r∧Grow w w'):=by
 have h1:=hP.one
 refine enter Tryz.func171 rfl rfl rfl _ (Pick.sub (l:=[0]) (.cons rfl .nil)) ?_
 refine GG ?_
 refine OP (Does.alloc i22) ?_
 rintro _ w1 ⟨b3,rfl,hn3⟩
 refine OQ (Does.store i22 rfl rfl rfl hn3.blk (.z)) ?_
 rintro _ w2 ⟨hb2,hm2,_⟩
 have hb3:=hn3.at_
 have hg2:Grow w w2:=hn3.grow.then hm2 (fun y hy e=>by have e' : y=b3:=e;omega)
 refine GG ?_
 refine OP (Does.call rfl e206 (come_ok P hP v b3 _ 0 0 (Nat.le_refl _) h1 (by omega) _ (hv.pass (by omega) hg2 (fun b e=>.inr (by have e' : b=b3:=e;omega))) hb2)) ?_
 rintro _ w3 ⟨r,b',rfl,hr,hb',hc,hb3',hm3⟩
 refine GG ?_
 refine RK.ret_of Tryz.func171 (res1 rfl rfl) ?_ _
 exact ⟨_,rfl,r,rfl,hr,Now.start hc,hg2.then hm3 (fun y hy e=>by have e' : y=b3:=e;omega)⟩
end Go.Proofs.YtbcbfjnlnmhpbaaGreat
set_option linter.unusedVariables false
set_option linter.unusedSimpArgs false
set_option maxHeartbeats 1000000
set_option maxRecDepth 100000
namespace Go.Proofs.YtbcbfjnlnmhpbaaGreat
open Go Go.X Go.Rex
theorem next_steps (P:List Stp) (hP:OkP P) (H:List Nat→Nat→Prop) (kk m c:Nat) (hc:c < 256) (hm:m < 18446744073709551616) (hH:∀ t,H t kk↔inB t c=true) (hnow:Now P H kk m) (v:Value) (w:World) (hv:SlS No w v P):Fx Tryz.prog 172 [v,.int .u64 (m:Int),.int .u8 (c:Int)] w (fun u w'=>∃ r:Nat,u=.int .u64 (r:Int)∧r < 18446744073709551616∧Now P H (kk + 1) r∧Grow w w'):=by
 have hle:=hP.le
 obtain ⟨ad,cp,rfl⟩:=hv.shape
 have e1:IntKind.u8.wrap ((c:Int).tdiv 64)=((c / 64:Nat):Int):=by
  have e2:(c:Int).tdiv 64=((c / 64:Nat):Int):=by rw [Int.tdiv_eq_ediv_of_nonneg (by omega)];omega
  rw [e2];exact Go.X.wrap_u8 (by omega)
 have e3:(c:Int).tmod 64=((c % 64:Nat):Int):=by rw [Int.tmod_eq_emod_of_nonneg (by omega)];omega
 refine enter Tryz.func172 rfl rfl rfl _ (Pick.sub (l:=[0,1,2]) (.cons rfl (.cons rfl (.cons rfl .nil)))) ?_
 refine GG ?_
 refine OP (Does.alloc i22) ?_
 rintro _ w1 ⟨b7,rfl,hn7⟩
 refine OQ (Does.store i22 rfl rfl rfl hn7.blk (.z)) ?_
 rintro _ w2 ⟨hb2,hm2,_⟩
 have hb7:=hn7.at_
 have hg2:Grow w w2:=hn7.grow.then hm2 (fun y hy e=>by have e' : y=b7:=e;omega)
 have hv2:SlS (·=b7) w2 (.slice ad P.length cp) P:=hv.pass (by omega) hg2 (fun b e=>.inr (by have e' : b=b7:=e;omega))
 refine GG ?_
 refine QQ (Yld.lenSl u194 rfl) ?_
 refine GG ?_
 refine RK.loop (fun s:Nat×Nat×Nat=>[(0,.slice ad P.length cp),(1,.int .u64 (m:Int)),(2,.int .u8 (c:Int)),(7,pp b7),(8,.int .u64 (s.2.2:Int)),(11,.slice ad P.length cp),(12,.int .i64 (P.length:Int)),(13,.int .i64 (s.1:Int))]) (fun s w'=>s.1≤P.length∧PU w' b7 s.2.1∧s.2.1 < 18446744073709551616∧s.2.2 < 18446744073709551616∧NextI P H m kk s.1 s.2.1 s.2.2∧Mod (·=b7) w2 w') (fun s=>P.length - s.1) (0,0,0) ⟨rfl,rfl,rfl,rfl,rfl,rfl,rfl,rfl,trivial⟩ ⟨by simp,hb2,by simp,by simp,NextI.zero,Mod.refl _ _⟩ (fun s w3 hI ih=>?_)
 obtain ⟨i,been,to⟩:=s
 obtain ⟨hi,hb3,hbe,hto,hN,hm3⟩:=hI
 simp only at hi hb3 hbe hto hN
 refine GG ?_
 refine CD (fun h14=>?_) (fun h14=>?_)
 ·have hil:i < P.length:=by simp only at h14;omega
  obtain ⟨s,hs⟩:∃ s,P[i]?=some s:=⟨P[i]'hil,List.getElem?_eq_getElem hil⟩
  obtain ⟨hw4,hok⟩:=hP.at_ i s hs
  obtain ⟨b2,o2,c2,he,hb2n,_,hcl⟩:=hv2.elem stC_len hs
  cases he
  obtain ⟨op,t,sa,sb⟩:=s
  obtain ⟨x0,x1,x2,x3,hte⟩:=W4.four hw4
  simp only at hte
  subst hte
  refine GG ?_
  refine QQ (Yld.indexAddrN u194 i226 rfl rfl (hil)) ?_
  refine QQ (Yld.loadN (cs:=stC ⟨op,[x0,x1,x2,x3],sa,sb⟩) a226 rfl (atN (fun j u hj=>hm3.cell (hcl j u hj) hb2n))) ?_
  refine OP (Does.alloc i226) ?_
  rintro _ w4 ⟨b10,rfl,hn10⟩
  refine RL.p rfl rfl ?_
  refine OQ (Does.storeN i226 rfl rfl rfl rfl hn10.blk (Nat.le_refl 7)) ?_
  rintro _ w5 ⟨hb5,hm5,_⟩
  have hb7l:=hb3.lt
  have hb10:=hn10.at_
  have hB5:Blk w5 b10 226 [.int .i64 (op:Int),.int .u64 (x0:Int),.int .u64 (x1:Int),.int .u64 (x2:Int),.int .u64 (x3:Int),.int .i64 (sa:Int),.int .i64 (sb:Int)]:=hb5
  have hg5:Grow w3 w5:=hn10.grow.then hm5 (fun y hy e=>by have e' : y=b10:=e;omega)
  have hb5':=hb3.mod hg5 (fun h=>h)
  have hm25:Mod (·=b7) w2 w5:=hm3.trans (Mod.any' hg5)
  obtain ⟨y,hy⟩:∃ y,[x0,x1,x2,x3][c / 64]?=some y:=⟨_,List.getElem?_eq_getElem (by show c / 64 < 4;omega)⟩
  have hyl:=hw4.2 y (List.mem_of_getElem? hy)
  have hcy:w5.cell? ⟨b10,0 + 1 + c / 64 * 1,none⟩=some (.int .u64 (y:Int)):=by
    rw [Nat.mul_one];exact blk_set4s hB5 (c / 64) _ (by rw [List.getElem?_map,hy];rfl)
  have hin:inB [x0,x1,x2,x3] c=y.testBit (c % 64):=by unfold inB;rw [hy];rfl
  refine GG ?_
  refine QQ (Yld.shr rfl rfl (by simp [IntKind.bits];omega)) ?_
  refine RL.p rfl rfl ?_
  refine RL.re (d:=21) rfl rfl (congrArg (Value.int .u64) (Go.X.u64_and (b:=1) (shr64 hm i) (by decide))) ?_
  refine GG ?_
  refine SP 23 (fun h23=>?_) (fun h23=>?_)
  ·have hbit:=(bit1I m i).1 h23
   refine QQ (Yld.fieldAddr fo226_0 rfl) ?_
   refine QQ (Yld.load p3 rfl (at1 (hB5.cell rfl))) ?_
   refine QQ (Yld.pure rfl) ?_
   refine GG ?_
   refine SP 28 (fun h28=>?_) (fun h28=>?_)
   ·have ho:op=1:=by have h:=h28;omega
    subst ho
    have hil1:i + 1 < P.length:=by
      rcases hok with ⟨h1,_⟩ | ⟨_,h1⟩
      ·exact h1
      ·cases h1
    refine QQ (Yld.pure rfl) ?_
    refine QQ (Yld.quo rfl rfl (by omega)) ?_
    refine RL.re (d:=30) rfl rfl (congrArg (Value.int .u8) e1) ?_
    refine QQ (Yld.fieldAddr fo226_1 rfl) ?_
    refine QQ (Yld.indexArr Tryz.underlying177 i22 rfl rfl (by omega)) ?_
    refine QQ (Yld.load p22 rfl (at1 (hcy))) ?_
    refine QQ (Yld.pure rfl) ?_
    refine QQ (Yld.rem rfl rfl (by omega)) ?_
    refine RL.re (d:=35) rfl rfl (congrArg (Value.int .u8) e3) ?_
    refine QQ (Yld.shr rfl rfl (by simp [IntKind.bits];omega)) ?_
    refine QQ (Yld.pure rfl) ?_
    refine RL.re (d:=37) rfl rfl (congrArg (Value.int .u64) (Go.X.u64_and (b:=1) (shr64 hyl (c % 64)) (by decide))) ?_
    refine QQ (Yld.pure rfl) ?_
    refine GG ?_
    refine CD (fun h39=>?_) (fun h39=>?_)
    ·have hin1:=hin.trans ((bit1I y (c % 64)).1 h39)
     refine RK.region ?_
     iterate 4 refine RL.p rfl rfl ?_
     refine RL.re (d:=43) rfl rfl (succ_i64 (by omega)) ?_
     refine OP (Does.call rfl e206 (come_ok P hP _ b7 _ (i + 1) been (Nat.le_refl _) hil1 hbe _ (hv2.mod hm25) hb5')) ?_
     rintro _ w6 ⟨r,b',rfl,hr,hb',hcome,hb6,hm6⟩
     refine RL.p rfl rfl ?_
     refine RL.re (d:=45) rfl rfl (congrArg (Value.int .u64) (Go.X.u64_or hto hr)) ?_
     refine RL.p rfl rfl ?_
     refine RL.done ?_
     refine RK.inBlock ?_
     refine RK.region ?_
     refine RL.p rfl rfl ?_
     refine RL.re (d:=46) rfl rfl (succ_i64 (by omega)) ?_
     refine GG ?_
     exact RK.back (ih (i + 1,b',to ||| r) _ ⟨by simp only;omega,hb6,hb',lt64 hto hr,hN.yes hbit hs rfl ((hH _).2 hin1) hcome,hm25.trans hm6⟩ (by simp only;omega)) ⟨rfl,rfl,rfl,rfl,rfl,rfl,rfl,rfl,trivial⟩
    ·refine RK.skip ?_
     refine RK.inBlock ?_
     refine RK.region ?_
     refine RL.p rfl rfl ?_
     refine RL.re (d:=46) rfl rfl (succ_i64 (by omega)) ?_
     refine GG ?_
     exact RK.back (ih (i + 1,been,to) _ ⟨by simp only;omega,hb5',hbe,hto,hN.no fun st h1 h2 h3 h4=>by
       rw [hs] at h2;cases h2
       have h5:=(hH _).1 h4
       rw [hin] at h5
       exact h39 ((bit1I y (c % 64)).2 h5)
      ,hm25⟩ (by simp only;omega)) ⟨rfl,rfl,rfl,rfl,rfl,rfl,rfl,rfl,trivial⟩
   ·iterate 10 refine RL.no (.no rfl rfl rfl rfl) rfl rfl ?_
    refine GG ?_
    refine RK.condF (hcF rfl (rfl)) ?_
    refine RK.skip ?_
    refine RK.inBlock ?_
    refine RK.region ?_
    refine RL.p rfl rfl ?_
    refine RL.re (d:=46) rfl rfl (succ_i64 (by omega)) ?_
    refine GG ?_
    exact RK.back (ih (i + 1,been,to) _ ⟨by simp only;omega,hb5',hbe,hto,hN.no fun st h1 h2 h3 h4=>by
      rw [hs] at h2;cases h2
      have h:=h28;simp only at h3;omega
     ,hm25⟩ (by simp only;omega)) ⟨rfl,rfl,rfl,rfl,rfl,rfl,rfl,rfl,trivial⟩
  ·iterate 3 refine RL.no (.no rfl rfl rfl rfl) rfl rfl ?_
   refine GG ?_
   iterate 10 refine RL.no (.no rfl rfl rfl rfl) rfl rfl ?_
   refine GG ?_
   refine RK.condF (hcF rfl (rfl)) ?_
   refine RK.skip ?_
   refine RK.inBlock ?_
   refine RK.region ?_
   refine RL.p rfl rfl ?_
   refine RL.re (d:=46) rfl rfl (succ_i64 (by omega)) ?_
   refine GG ?_
   exact RK.back (ih (i + 1,been,to) _ ⟨by simp only;omega,hb5',hbe,hto,hN.no fun st h1 h2 h3 h4=>h23 ((bit1I m i).2 h1),hm25⟩ (by simp only;omega)) ⟨rfl,rfl,rfl,rfl,rfl,rfl,rfl,rfl,trivial⟩
 ·have hie:i=P.length:=by simp only at h14;omega
  subst hie
  refine RK.exit rfl ?_
  refine GG ?_
  refine RK.ret_of Tryz.func172 (res1 rfl rfl) ?_ _
  exact ⟨_,rfl,to,rfl,hto,hnow.next hN,hg2.then hm3 (fun y hy e=>by have e' : y=b7:=e;omega)⟩
theorem scanMatch_ok (x:Rx) (ht:Tr false x) (hsz:sz x + 1≤40) (v:Value) (s:ByteArray) (hs:s.size≤9223372036854775806) (w:World) (hv:SlS No w v (whole x)) (hcap:∃ ad c,v=.slice ad (whole x).length c∧(whole x).length≤c):Fx Tryz.prog 141 [v,.string s] w (fun u w'=>u=.bool (takes x s)∧Grow w w'):=by
 have hP:=whole_ok ht hsz
 have hw:=tr_wf x false ht
 obtain ⟨P,hPe⟩:∃ P,whole x=P:=⟨_,rfl⟩
 have hle:=hP.le
 rw [hPe] at hP hv hcap hle
 obtain ⟨ad,cp,rfl,hc⟩:=hcap
 have hend:∀ k m,Now P (HS s) k m→((∃ c st,m.testBit c=true∧P[c]?=some st∧st.op=4)↔Lg (HS s) x true 0 k):=fun k m hm=>by rw [← hPe] at hm ⊢;exact whole_match hw.1 hw.2.1 hm
 refine enter Tryz.func141 rfl rfl rfl _ (Pick.sub (l:=[0,1]) (.cons rfl (.cons rfl .nil))) ?_
 refine GG ?_
 refine OP (Does.call rfl e170 (check_ok P hP ad cp hc _ hv)) ?_
 rintro _ w1 ⟨rfl,hg1⟩
 refine GG ?_
 refine RK.condF (hcF rfl (rfl)) ?_
 refine GG ?_
 refine OP (Does.call rfl e171 (start_ok P hP (HS s) _ _ (hv.mod hg1))) ?_
 rintro _ w2 ⟨r,rfl,hr,hn0,hg2⟩
 have hg02:=hg1.trans hg2
 refine GG ?_
 refine QQ (Yld.lenStr u9 rfl) ?_
 refine GG ?_
 refine RK.loop (fun t:Nat×Nat=>[(0,.slice ad P.length cp),(1,.string s),(5,.int .u64 (t.2:Int)),(15,.int .i64 (s.size:Int)),(16,.int .i64 (t.1:Int))]) (fun t w'=>t.1≤s.size∧t.2 < 18446744073709551616∧Now P (HS s) t.1 t.2∧Grow w w') (fun t=>s.size - t.1) (0,r) ⟨rfl,rfl,rfl,rfl,rfl,trivial⟩ ⟨by simp,hr,hn0,hg02⟩ (fun t w3 hI ih=>?_)
 obtain ⟨k,m⟩:=t
 obtain ⟨hk,hm,hn,hg⟩:=hI
 simp only at hk hm hn
 refine GG ?_
 refine CD (fun h17=>?_) (fun h17=>?_)
 ·have hks:k < s.size:=by simp only at h17;omega
  refine GG ?_
  refine QQ (Yld.idxStrN u9 rfl rfl (hks)) ?_
  refine OP (Does.call rfl e172 (next_steps P hP (HS s) k m (b8 s k) (b8_lt s k) hm (fun t=>⟨fun h=>h.2,fun h=>⟨hks,h⟩⟩) hn _ _ (hv.mod hg))) ?_
  rintro _ w4 ⟨r',rfl,hr',hn',hg4⟩
  refine RL.p rfl rfl ?_
  refine RL.done ?_
  refine RK.inBlock ?_
  refine RK.region ?_
  refine RL.p rfl rfl ?_
  refine RL.re (d:=25) rfl rfl (succ_i64 (by omega)) ?_
  refine GG ?_
  exact RK.back (ih (k + 1,r') _ ⟨by simp only;omega,hr',hn',hg.trans hg4⟩ (by simp only;omega)) ⟨rfl,rfl,rfl,rfl,rfl,trivial⟩
 ·have hke:k=s.size:=by simp only at h17;omega
  subst hke
  have he:=hend _ _ hn
  refine RK.exit rfl ?_
  refine GG ?_
  refine QQ (Yld.lenSl u194 rfl) ?_
  refine GG ?_
  refine RK.loop (fun i:Nat=>[(5,.int .u64 (m:Int)),(26,.slice ad P.length cp),(27,.int .i64 (P.length:Int)),(28,.int .i64 (i:Int))]) (fun i w'=>i≤P.length∧Grow w w'∧∀ c st,c < i→m.testBit c=true→P[c]?=some st→st.op≠4) (fun i=>P.length - i) 0 ⟨rfl,rfl,rfl,rfl,trivial⟩ ⟨by omega,hg,fun c st h=>by omega⟩ (fun i w4 hI2 ih2=>?_)
  obtain ⟨hi,hg4,hno⟩:=hI2
  refine GG ?_
  refine CD (fun h29=>?_) (fun h29=>?_)
  ·obtain ⟨st,hst⟩:∃ st,P[i]?=some st:=⟨P[i]'(by omega),List.getElem?_eq_getElem (by omega)⟩
   obtain ⟨b2,o2,c2,hce,_,_,hcl⟩:=hv.elem stC_len hst
   cases hce
   refine GG ?_
   refine QQ (Yld.indexAddrN u194 i226 rfl rfl (by omega)) ?_
   refine QQ (Yld.loadN (cs:=stC st) a226 rfl (atN (fun j u hj=>hg4.cell (hcl j u hj) (fun h=>h)))) ?_
   refine OP (Does.alloc i226) ?_
   rintro _ w5 ⟨b8,rfl,hn8⟩
   refine RL.p rfl rfl ?_
   refine OQ (Does.storeN i226 rfl rfl rfl rfl hn8.blk (Nat.le_refl 7)) ?_
   rintro _ w6 ⟨hb6,hm6,_⟩
   have hB6:Blk w6 b8 226 (stC st):=hb6
   have hg6:Grow w4 w6:=hn8.grow.then hm6 (fun y hy e=>by have e' : y=b8:=e;have:=hn8.at_;omega)
   refine GG ?_
   refine QQ (Yld.shr rfl rfl (by simp [IntKind.bits];omega)) ?_
   refine RL.p rfl rfl ?_
   refine RL.re (d:=36) rfl rfl (congrArg (Value.int .u64) (Go.X.u64_and (b:=1) (shr64 hm i) (by decide))) ?_
   refine GG ?_
   refine SP 38 (fun h38=>?_) (fun h38=>?_)
   ·have hbit:=(bit1I m i).1 h38
    refine QQ (Yld.fieldAddr fo226_0 rfl) ?_
    refine QQ (Yld.load p3 rfl (at1 (hB6.cell rfl))) ?_
    refine QQ (Yld.pure rfl) ?_
    refine GG ?_
    refine CD (fun h42=>?_) (fun h42=>?_)
    ·have ho:st.op=4:=by have h:=h42;omega
     refine GG ?_
     refine RK.ret_of Tryz.func141 (res1 rfl rfl) ?_ _
     exact ⟨_,rfl,congrArg _ ((takes_iff x s).2 (he.1 ⟨i,st,hbit,hst,ho⟩)).symm,hg4.trans hg6⟩
    ·refine RK.skip ?_
     refine RK.inBlock ?_
     refine RK.region ?_
     refine RL.p rfl rfl ?_
     refine RL.re (d:=43) rfl rfl (succ_i64 (by omega)) ?_
     refine GG ?_
     exact RK.back (ih2 (i + 1) _ ⟨by omega,hg4.trans hg6,fun c st' hc h1 h2 h3=>by
       by_cases e:c=i
       ·subst e;rw [hst] at h2;cases h2;have h:=h42;omega
       ·exact hno c st' (by omega) h1 h2 h3⟩ (by omega)) ⟨rfl,rfl,rfl,rfl,trivial⟩
   ·iterate 3 refine RL.no (.no rfl rfl rfl rfl) rfl rfl ?_
    refine GG ?_
    refine RK.condF (hcF rfl (rfl)) ?_
    refine RK.skip ?_
    refine RK.inBlock ?_
    refine RK.region ?_
    refine RL.p rfl rfl ?_
    refine RL.re (d:=43) rfl rfl (succ_i64 (by omega)) ?_
    refine GG ?_
    exact RK.back (ih2 (i + 1) _ ⟨by omega,hg4.trans hg6,fun c st' hc h1 h2 h3=>by
      by_cases e:c=i
      ·subst e;exact h38 ((bit1I m c).2 h1)
      ·exact hno c st' (by omega) h1 h2 h3⟩ (by omega)) ⟨rfl,rfl,rfl,rfl,trivial⟩
  ·refine RK.exit rfl ?_
   refine GG ?_
   refine RK.ret_of Tryz.func141 (res1 rfl rfl) ?_ _
   exact ⟨_,rfl,congrArg _ (by
     cases hx:takes x s with
     | false=>rfl
     | true=>
      obtain ⟨c,st,h1,h2,h3⟩:=he.2 ((takes_iff x s).1 hx)
      exact absurd h3 (hno c st (by have:=(List.getElem?_eq_some_iff.1 h2).1;omega) h1 h2)
    ),hg4⟩
end Go.Proofs.YtbcbfjnlnmhpbaaGreat
set_option linter.unusedVariables false
set_option linter.unusedSimpArgs false
set_option maxHeartbeats 1000000
set_option maxRecDepth 100000
namespace Go.Proofs.YtbcbfjnlnmhpbaaGreat
open Go Go.X Go.Rex
abbrev bls (xs:List Bool):List Value:=xs.map Value.bool
abbrev SlB (M:Nat→Prop) (w:World) (v:Value) (xs:List Bool):Prop:=Sl M w v 1 xs.length (bls xs)
theorem bls_get {xs:List Bool} {k:Nat} {b:Bool} (h:xs[k]?=some b):(bls xs)[k]?=some (.bool b):=by simp [h]
theorem set_take_bool {xs ys:List Bool} {k:Nat} {b:Bool} (hl:xs.length=ys.length) (hy:ys[k]?=some b):(ys.take k ++ xs.drop k).set k b=ys.take (k + 1) ++ xs.drop (k + 1):=by
 have hk:=(List.getElem?_eq_some_iff.1 hy).1
 rw [List.drop_eq_getElem_cons (by omega:k < xs.length),List.set_append_right _ _ (by simp;omega)]
 have e:k - (ys.take k).length=0:=by simp;omega
 rw [e,List.set_cons_zero,List.take_succ_eq_append_getElem hk,(List.getElem?_eq_some_iff.1 hy).2]
 simp
theorem joinL_ok (M:Nat→Prop) (xs ys:List Bool) (hl:xs.length=ys.length) (hb:xs.length≤1000000) (v u:Value) (w:World) (hv:SlB M w v xs) (hu:SlB M w u ys):Fx Tryz.prog 229 [v,u] w (fun z w'=>SlB No w' z (joinS xs ys)∧Grow w w'):=by
 obtain ⟨ad,c,rfl⟩:=hv.shape
 obtain ⟨ad2,c2,rfl⟩:=hu.shape
 have hjl:=joinS_len hl
 refine enter Tryz.func229 rfl rfl rfl _ (Pick.sub (l:=[0,1]) (.cons rfl (.cons rfl .nil))) ?_
 refine GG ?_
 refine QQ (Yld.lenSl u257 rfl) ?_
 refine OP (Does.mkSlice u257 i4 rfl rfl rfl (by omega) (by omega)) ?_
 rintro _ w1 ⟨b,rfl,hn1⟩
 have hb1:=hn1.at_
 have hB0:Blk w1 b 4 (bls ((joinS xs ys).take 0 ++ (List.replicate xs.length false).drop 0)):=by simpa using hn1.blk
 refine GG ?_
 refine RK.loop (fun k:Nat=>[(0,.slice ad xs.length c),(1,.slice ad2 ys.length c2),(5,.slice (some ⟨b,0,none⟩) xs.length xs.length),(6,.int .i64 (k:Int))]) (fun k w'=>k≤xs.length∧Blk w' b 4 (bls ((joinS xs ys).take k ++ (List.replicate xs.length false).drop k))∧Mod (·=b) w1 w') (fun k=>xs.length - k) 0 ⟨rfl,rfl,rfl,rfl,trivial⟩ ⟨by omega,hB0,Mod.refl _ _⟩ (fun k w2 hI ih=>?_)
 obtain ⟨hk,hB,hm⟩:=hI
 have hg2:Grow w w2:=hn1.grow.then hm (fun y hy e=>by have e' : y=b:=e;omega)
 refine GG ?_
 refine QQ (Yld.lenSl u257 rfl) ?_
 refine GG ?_
 refine CD (fun h13=>?_) (fun h13=>?_)
 ·obtain ⟨x,hx⟩:∃ x,xs[k]?=some x:=⟨xs[k]'(by omega),List.getElem?_eq_getElem (by omega)⟩
  obtain ⟨y,hy⟩:∃ y,ys[k]?=some y:=⟨ys[k]'(by omega),List.getElem?_eq_getElem (by omega)⟩
  obtain ⟨b3,o3,c3,he3,_,_,hc3⟩:=hv.elem1 (bls_get hx)
  cases he3
  obtain ⟨b4,o4,c4,he4,_,_,hc4⟩:=hu.elem1 (bls_get hy)
  cases he4
  have hz:(joinS xs ys)[k]?=some (x || y):=by unfold joinS;rw [List.getElem?_zipWith,hx,hy]
  refine GG ?_
  refine QQ (Yld.indexAddrN u257 i4 rfl rfl (by omega)) ?_
  refine QQ (Yld.load p4 rfl (at1 (hg2.cell (hc3 k _ (bls_get hx)) (fun h=>h)))) ?_
  refine RL.p rfl rfl ?_
  refine SP 22 (fun h22=>?_) (fun h22=>?_)
  ·have hzt:(joinS xs ys)[k]?=some true:=by rw [hz,h22];rfl
   iterate 4 refine RL.no (.no rfl rfl rfl rfl) rfl rfl ?_
   refine RL.p rfl rfl ?_
   refine QQ (Yld.indexAddrN u257 i4 rfl rfl (by omega)) ?_
   refine OQ (Does.store i4 rfl rfl rfl hB (setAt_of (by simp [hjl];omega))) ?_
   rintro _ w3 ⟨hb3,hm3,_⟩
   refine RL.done ?_
   refine RK.inBlock ?_
   refine RK.region ?_
   iterate 2 refine RL.p rfl rfl ?_
   refine RL.re (d:=15) rfl rfl (succ_i64 (by omega)) ?_
   refine GG ?_
   exact RK.back (ih (k + 1) _ ⟨by omega,by rw [Nat.zero_add,Nat.mul_one,← List.map_set,set_take_bool (by simp [hjl]) hzt] at hb3;exact hb3,hm.trans hm3⟩ (by omega)) ⟨rfl,rfl,rfl,rfl,trivial⟩
  ·have hzt:(joinS xs ys)[k]?=some y:=by rw [hz,h22];rfl
   iterate 2 refine QQ (Yld.pure rfl) ?_
   refine QQ (Yld.indexAddrN u257 i4 rfl rfl (by omega)) ?_
   refine QQ (Yld.load p4 rfl (at1 (hg2.cell (hc4 k _ (bls_get hy)) (fun h=>h)))) ?_
   refine RL.p rfl rfl ?_
   refine QQ (Yld.indexAddrN u257 i4 rfl rfl (by omega)) ?_
   refine OQ (Does.store i4 rfl rfl rfl hB (setAt_of (by simp [hjl];omega))) ?_
   rintro _ w3 ⟨hb3,hm3,_⟩
   refine RL.done ?_
   refine RK.inBlock ?_
   refine RK.region ?_
   iterate 2 refine RL.p rfl rfl ?_
   refine RL.re (d:=15) rfl rfl (succ_i64 (by omega)) ?_
   refine GG ?_
   exact RK.back (ih (k + 1) _ ⟨by omega,by rw [Nat.zero_add,Nat.mul_one,← List.map_set,set_take_bool (by simp [hjl]) hzt] at hb3;exact hb3,hm.trans hm3⟩ (by omega)) ⟨rfl,rfl,rfl,rfl,trivial⟩
 ·have hke:k=xs.length:=by omega
  rw [hke,List.take_of_length_le (by omega),List.drop_eq_nil_of_le (by simp),List.append_nil] at hB
  refine RK.exit rfl ?_
  refine GG ?_
  refine RK.ret_of Tryz.func229 (res1 rfl rfl) ?_ _
  exact ⟨_,rfl,⟨by simp [hjl],by omega,_,_,by rw [hjl],fun _=>⟨b,0,rfl,fun h=>h,fun j u hj=>by rw [Nat.zero_add];exact hB.cell' hj⟩⟩,hg2⟩
theorem sameL_ok (M:Nat→Prop) (xs ys:List Bool) (hl:xs.length=ys.length) (v u:Value) (w:World) (hv:SlB M w v xs) (hu:SlB M w u ys):Fx Tryz.prog 230 [v,u] w (fun z w'=>z=.bool (decide (xs=ys))∧Grow w w'):=by
  obtain ⟨ad,c,rfl⟩:=hv.shape
  obtain ⟨ad2,c2,rfl⟩:=hu.shape
  have hbig:=hv.big
  refine enter Tryz.func230 rfl rfl rfl _ (Pick.sub (l:=[0,1]) (.cons rfl (.cons rfl .nil))) ?_
  refine RK.seq ?_
  refine RK.region ?_
  refine RL.p rfl rfl ?_
  refine RL.done ?_
  iterate 2 refine RK.seq ?_
  refine RK.region ?_
  refine RL.p rfl rfl ?_
  refine RL.done ?_
  refine RK.block ?_
  refine RK.loop (fun k:Nat=>[(0,.slice ad xs.length c),(1,.slice ad2 ys.length c2),(5,.int .i64 (k:Int))]) (fun k w'=>k≤xs.length∧Grow w w'∧xs.take k=ys.take k) (fun k=>xs.length - k) 0 ⟨rfl,rfl,rfl,trivial⟩ ⟨by omega,Mod.refl _ _,by simp⟩ (fun k w2 hI ih=>?_)
  obtain ⟨hk,hg2,he⟩:=hI
  iterate 2 refine RK.seq ?_
  refine RK.region ?_
  iterate 2 refine RL.p rfl rfl ?_
  refine RL.q (.free rfl) rfl rfl (Yld.lenSl u257 rfl) ?_
  refine RL.p rfl rfl ?_
  refine RL.done ?_
  first | refine RK.condD rfl (fun h9=>?_) (fun h9=>?_) | refine RK.condN rfl (fun h9=>?_) (fun h9=>?_) | refine RK.cond rfl (fun h9=>?_) (fun h9=>?_)
  · obtain ⟨x,hx⟩:∃ x,xs[k]?=some x:=⟨xs[k]'(by omega),List.getElem?_eq_getElem (by omega)⟩
    obtain ⟨y,hy⟩:∃ y,ys[k]?=some y:=⟨ys[k]'(by omega),List.getElem?_eq_getElem (by omega)⟩
    obtain ⟨b3,o3,c3,he3,_,_,hc3⟩:=hv.elem1 (bls_get hx)
    cases he3
    obtain ⟨b4,o4,c4,he4,_,_,hc4⟩:=hu.elem1 (bls_get hy)
    cases he4
    refine RK.skip ?_
    refine RK.seq ?_
    refine RK.block ?_
    refine RK.seq ?_
    refine RK.drawM No [(0,false),(1,false),(2,false),(3,false),(4,false),(5,false),(6,false),(7,false),(8,false)] [] mixed (by kernel_rfl) ?_
    iterate 2 refine DL.p rfl rfl rfl ?_
    refine DL.qf rfl (.free rfl) rfl rfl (Yld.indexAddrN u257 i4 rfl rfl (by omega)) ?_
    refine DL.q rfl (.free rfl) rfl rfl rfl (Yld.load p4 rfl (atM (hg2.cell (hc3 k _ (bls_get hx)) (fun h=>h)) (fun h=>h))) (Mod.drew _ _) ?_
    iterate 2 refine DL.p rfl rfl rfl ?_
    refine DL.qf rfl (.free rfl) rfl rfl (Yld.indexAddrN u257 i4 rfl rfl (by omega)) ?_
    refine DL.q rfl (.free rfl) rfl rfl rfl (Yld.load p4 rfl (atM (hg2.cell (hc4 k _ (bls_get hy)) (fun h=>h)) (fun h=>h))) (Mod.drew _ _) ?_
    refine DL.qf rfl (.free rfl) rfl rfl (Yld.neqBool u4 rfl rfl) ?_
    refine DL.done ?_
    first | refine RK.condD rfl (fun h20=>?_) (fun h20=>?_) | refine RK.condN rfl (fun h20=>?_) (fun h20=>?_) | refine RK.cond rfl (fun h20=>?_) (fun h20=>?_)
    · have hne:x≠y:=by have h:=h20;simpa using h
      refine RK.seq ?_
      refine RK.region ?_
      refine RL.p rfl rfl ?_
      refine RL.done ?_
      refine RK.ret_of Tryz.func230 (res1 rfl rfl) ?_ _
      exact ⟨_,rfl,congrArg _ (decide_eq_false (fun e=>by subst e;rw [hx] at hy;cases hy;exact hne rfl)).symm,hg2.trans (Mod.drew _ _)⟩
    · have hxy:x=y:=by have h:=h20;simpa using h
      subst hxy
      refine RK.skip ?_
      refine RK.inBlock ?_
      refine RK.region ?_
      iterate 2 refine RL.p rfl rfl ?_
      refine RL.re (d:=11) rfl rfl (succ_i64 (by omega)) ?_
      refine RL.p rfl rfl ?_
      refine RL.done ?_
      exact RK.back (ih (k + 1) _ ⟨by omega,hg2.trans (Mod.drew _ _),by rw [List.take_succ_eq_append_getElem (by omega),List.take_succ_eq_append_getElem (by omega),he,(List.getElem?_eq_some_iff.1 hx).2,(List.getElem?_eq_some_iff.1 hy).2]⟩ (by omega)) ⟨rfl,rfl,rfl,trivial⟩
  · refine RK.exit rfl ?_
    refine RK.seq ?_
    refine RK.region ?_
    refine RL.p rfl rfl ?_
    refine RL.done ?_
    refine RK.ret_of Tryz.func230 (res1 rfl rfl) ?_ _
    exact ⟨_,rfl,congrArg _ (decide_eq_true (by rw [List.take_of_length_le (by omega),List.take_of_length_le (by omega)] at he;exact he)).symm,hg2⟩
theorem setHas_ok (t:List Nat) (hw:W4 t) (c:Nat) (hc:c < 256) (w:World):Fx Tryz.prog 228 [.agg (wds t).toArray,.int .u8 (c:Int)] w (fun u w'=>u=.bool (inB t c)∧Grow w w'):=by
 obtain ⟨x0,x1,x2,x3,rfl⟩:=W4.four hw
 have e1:IntKind.u8.wrap ((c:Int).tdiv 64)=((c / 64:Nat):Int):=by
  have e2:(c:Int).tdiv 64=((c / 64:Nat):Int):=by rw [Int.tdiv_eq_ediv_of_nonneg (by omega)];omega
  rw [e2];exact Go.X.wrap_u8 (by omega)
 have e3:(c:Int).tmod 64=((c % 64:Nat):Int):=by rw [Int.tmod_eq_emod_of_nonneg (by omega)];omega
 obtain ⟨y,hy⟩:∃ y,[x0,x1,x2,x3][c / 64]?=some y:=⟨_,List.getElem?_eq_getElem (by show c / 64 < 4;omega)⟩
 have hyl:=hw.2 y (List.mem_of_getElem? hy)
 have hin:inB [x0,x1,x2,x3] c=y.testBit (c % 64):=by unfold inB;rw [hy];rfl
 refine enter Tryz.func228 rfl rfl rfl _ (Pick.sub (l:=[0,1]) (.cons rfl (.cons rfl .nil))) ?_
 refine GG ?_
 refine OP (Does.box rfl) ?_
 rintro _ w1 ⟨b1,rfl,hn1⟩
 have hB1:Blk w1 b1 177 (wds [x0,x1,x2,x3]):=hn1.blk
 refine GG ?_
 refine QQ (Yld.quo rfl rfl (by omega)) ?_
 refine RL.re (d:=6) rfl rfl (congrArg (Value.int .u8) e1) ?_
 refine QQ (Yld.indexArr Tryz.underlying177 i22 rfl rfl (by omega)) ?_
 refine QQ (Yld.load p22 rfl (at1 (hB1.at1 (v:=.int .u64 (y:Int)) (by rw [List.getElem?_map,hy];rfl)))) ?_
 refine RL.p rfl rfl ?_
 refine QQ (Yld.rem rfl rfl (by omega)) ?_
 refine RL.re (d:=10) rfl rfl (congrArg (Value.int .u8) e3) ?_
 refine QQ (Yld.convI Tryz.underlying5 Tryz.underlying198 rfl) ?_
 refine RL.re (d:=11) rfl rfl (congrArg (Value.int .u64) (Go.X.wrap_u64 (x:=c % 64) (by omega))) ?_
 refine QQ (Yld.shr rfl rfl (by simp [IntKind.bits];omega)) ?_
 refine RL.p rfl rfl ?_
 refine RL.re (d:=13) rfl rfl (congrArg (Value.int .u64) (Go.X.u64_and (b:=1) (shr64 hyl (c % 64)) (by decide))) ?_
 refine GG ?_
 refine RK.ret_of Tryz.func228 (res1 rfl rfl) ?_ _
 exact ⟨_,rfl,congrArg _ (by rw [hin,Bool.eq_iff_iff,decide_eq_true_eq];exact bit1I y (c % 64)),hn1.grow⟩
def setO (s:ByteArray) (t:List Nat) (f:List Bool):List Bool:=false :: (List.range s.size).map fun i=>(f[i]?).getD false && inB t (b8 s i)
theorem setO_ends (s:ByteArray) (t:List Nat) (f:List Bool) (hf:f.length=s.size + 1):Endz (Lg (HS s) (.set t) true) s.size f (setO s t f):=by
 refine ⟨by simp [setO],fun j=>?_⟩
 unfold setO
 cases j with
 | zero=>
  simp only [List.getElem?_cons_zero,Option.some.injEq,Bool.false_eq_true,false_iff,Lg,not_and,not_exists]
  rintro _ i _ _ h
  omega
 | succ j=>
  simp only [List.getElem?_cons_succ,List.getElem?_map,Lg]
  constructor
  ·intro h
   obtain ⟨i,hi,h2⟩:=Option.map_eq_some_iff.1 h
   have hj:=(List.getElem?_eq_some_iff.1 hi).1
   simp at hj
   rw [List.getElem?_range hj] at hi
   cases hi
   simp only [Bool.and_eq_true] at h2
   refine ⟨by omega,j,?_,⟨hj,h2.2⟩,rfl⟩
   cases hq:f[j]? with
   | none=>rw [hq] at h2;simp at h2
   | some q=>rw [hq] at h2;simpa using h2.1
  ·rintro ⟨_,i,hi,⟨h1,h2⟩,h3⟩
   have:i=j:=by omega
   subst this
   rw [List.getElem?_range h1]
   simp [hi,h2]
theorem rt_iff {R S:Nat→Nat→Prop} (h:∀ i j,R i j→S i j) {i j:Nat} (hr:Rt R i j):Rt S i j:=by
 induction hr with
 | refl=>exact .refl _
 | step h1 _ ih=>exact .step (h _ _ h1) ih
def afterC (s:ByteArray) (x:Rx):Prop:=∀ (M:Nat→Prop) (c:Cel) (v:Value) (f:List Bool) (w:World),RxV M w x [c]→SlB No w v f→f.length=s.size + 1→Fx Tryz.prog 210 [.agg (celC c).toArray,.string s,v] w (fun u w'=>(∃ o,Endz (Lg (HS s) x true) s.size f o∧SlB No w' u o)∧Grow w w')
theorem lg_fwd {s:ByteArray} (x:Rx):∀ i j,Lg (HS s) x true i j→i≤j:=fun i j h=>Lg.fwd x true i j h
theorem after_ok (s:ByteArray) (hs:s.size≤100000):∀ (m:Nat) (x:Rx),hiR x≤m→Tr false x→afterC s x
  | 0,.set _,h,_=>by simp [hiR] at h
  | 0,.node _ _,h,_=>by simp [hiR] at h
  | 0,.nil,_,ht=>ht.elim
  | 0,.cons _ _,_,ht=>ht.elim
  | m + 1,x,hx,ht=>by
    intro M k v f w hxv hv hf
    obtain ⟨op,a,b,c,d,ad,n,cap,l,kss,rfl,h⟩:=hxv.open ht
    have hkind:=h.kind
    have hn:=h.n
    have hlen:=h.len
    have hbig:=h.sl.big
    obtain ⟨adv,cv,rfl⟩:=hv.shape
    have hkl:(kidsR l).length=n:=by rw [kids_len];omega
    have hgood:=kids_tr h.tr
    refine enter Tryz.func210 rfl rfl rfl _ (Pick.sub (l:=[0,1,2]) (.cons rfl (.cons rfl (.cons rfl .nil)))) ?_
    refine RK.seq ?_
    refine RK.region ?_
    refine RL.op (.free rfl) rfl rfl (Does.box rfl) ?_
    rintro _ w1 ⟨b3,rfl,hn3⟩
    have hb3:=hn3.at_
    have hB3:Blk w1 b3 180 [.int .i64 op,.int .u64 (a:Int),.int .u64 (b:Int),.int .u64 (c:Int),.int .u64 (d:Int),.slice ad n cap]:=hn3.blk
    refine RL.p rfl rfl ?_
    refine RL.done ?_
    refine RK.seq ?_
    refine RK.region ?_
    refine RL.p rfl rfl ?_
    refine RL.q (.free rfl) rfl rfl (Yld.lenStr u9 rfl) ?_
    refine RL.p rfl rfl ?_
    refine RL.re (d:=16) rfl rfl (succ_i64 (by omega)) ?_
    refine RL.op (.free rfl) rfl rfl (Does.mkSlice u257 i4 rfl rfl rfl (by omega) (by omega)) ?_
    rintro _ w2 ⟨b7,rfl,hn7⟩
    have hb7:=hn7.at_
    have hs1:=hn3.size
    have hg2:=hn3.grow.trans hn7.grow
    have hB2:=hB3.mod hn7.grow (fun h=>h)
    have hv2:=hv.mod hg2
    have hb37:b3≠b7:=by omega
    refine RL.p rfl rfl ?_
    refine RL.done ?_
    iterate 2 refine RK.seq ?_
    refine RK.region ?_
    refine RL.q (.free rfl) rfl rfl (Yld.fieldAddr fo180_0 rfl) ?_
    refine RL.q (.free rfl) rfl rfl (Yld.load p3 rfl (at1 (hB2.cell rfl))) ?_
    refine RL.done ?_
    refine RK.cutS (fun u:Value=>[(1,.string s),(3,pp b3),(7,u)]) (fun u w'=>∃ (y:Rx) (o0:List Bool),l=.cons y .nil∧o0.length=s.size + 1∧SlB No w' u o0∧Grow w w'∧Blk w' b3 180 [.int .i64 op,.int .u64 (a:Int),.int .u64 (b:Int),.int .u64 (c:Int),.int .u64 (d:Int),.slice ad n cap]∧(∀ res,Endz (Rt (Lg (HS s) y true)) s.size o0 res→Endz (Lg (HS s) x true) s.size f res)∧afterC s y) (fun u w3 hQ=>?_) (fun hj=>?_)
    · obtain ⟨y,o0,rfl,ho0,hu,hg3,hBx,hfin,hay⟩:=hQ
      have hn1:n=1:=by rw [hn,hlen];rfl
      have hR:=lg_fwd (s:=s) y
      iterate 2 refine RK.seq ?_
      refine RK.region ?_
      refine RL.p rfl rfl ?_
      refine RL.done ?_
      refine RK.block ?_
      refine RK.loop (fun t:Nat×Value=>[(1,.string s),(3,pp b3),(7,t.2),(12,.int .i64 (t.1:Int))]) (fun t w'=>t.1≤s.size + 1∧Grow w3 w'∧∃ o,Endz (RtLe (Lg (HS s) y true) t.1) s.size o0 o∧SlB No w' t.2 o) (fun t=>s.size + 1 - t.1) (0,u) ⟨rfl,rfl,rfl,rfl,trivial⟩ ⟨by simp,Mod.refl _ _,o0,(Endz.id ho0).iff (fun i j=>⟨fun e=>⟨0,Nat.le_refl _,e ▸ .zero _⟩,fun ⟨q,hq,hr⟩=>by have hq0:q=0:=(by simpa using hq);subst hq0;cases hr;rfl⟩),hu⟩ (fun t w4 hI ih=>?_)
      obtain ⟨r,u4⟩:=t
      obtain ⟨hr,hg4,o,hE,hu4⟩:=hI
      simp only at hr hE hu4
      obtain ⟨ad4,c4,rfl⟩:=hu4.shape
      iterate 2 refine RK.seq ?_
      refine RK.region ?_
      iterate 2 refine RL.p rfl rfl ?_
      refine RL.q (.free rfl) rfl rfl (Yld.lenStr u9 rfl) ?_
      refine RL.p rfl rfl ?_
      refine RL.done ?_
      first | refine RK.condD rfl (fun h113=>?_) (fun h113=>?_) | refine RK.condN rfl (fun h113=>?_) (fun h113=>?_) | refine RK.cond rfl (fun h113=>?_) (fun h113=>?_)
      · obtain ⟨ck,y',b5,o5,rfl,hyk,_,hyt,hyv,_,hcl⟩:=h.kid (k:=0) (by omega)
        have hyy:y'=y:=by simpa [kidsR] using hyk.symm
        subst hyy
        have hgw:=hg3.trans hg4
        refine RK.skip ?_
        refine RK.seq ?_
        refine RK.block ?_
        refine RK.seq ?_
        refine RK.region ?_
        refine RL.p rfl rfl ?_
        refine RL.q (.free rfl) rfl rfl (Yld.fieldAddr fo180_2 rfl) ?_
        refine RL.q (.free rfl) rfl rfl (Yld.load p178 rfl (at1 ((hBx.mod hg4 (fun h=>h)).cell rfl))) ?_
        refine RL.q (.free rfl) rfl rfl (Yld.indexAddr u178 i180 rfl rfl (by omega) (by omega)) ?_
        refine RL.q (.free rfl) rfl rfl (Yld.loadN (cs:=celC ck) a180 rfl (atN (hcl _ hgw))) ?_
        iterate 2 refine RL.p rfl rfl ?_
        refine RL.op (.free rfl) rfl rfl (Does.call rfl e210 (hay M ck _ o _ (RxV.grow hgw _ hyv) hu4 hE.1)) ?_
        rintro u5 w5 ⟨⟨o1,hE1,hu5⟩,hg5⟩
        obtain ⟨ad5,c5,rfl⟩:=hu5.shape
        have hol:o.length=o1.length:=by rw [hE.1,hE1.1]
        refine RL.op (.free rfl) rfl rfl (Does.call rfl e229 (joinL_ok No o o1 hol (by rw [hE.1];omega) _ _ _ (hu4.mod hg5) hu5)) ?_
        rintro u6 w6 ⟨hu6,hg6⟩
        have hjl:=joinS_len hol
        refine RL.p rfl rfl ?_
        refine RL.done ?_
        iterate 2 refine RK.seq ?_
        refine RK.region ?_
        iterate 2 refine RL.p rfl rfl ?_
        refine RL.op (.free rfl) rfl rfl (Does.call rfl e230 (sameL_ok No (joinS o o1) o hjl _ _ _ hu6 ((hu4.mod hg5).mod hg6))) ?_
        rintro _ w7 ⟨rfl,hg7⟩
        have hg47:=(hg5.trans hg6).trans hg7
        refine RL.done ?_
        first | refine RK.condD rfl (fun h127=>?_) (fun h127=>?_) | refine RK.condN rfl (fun h127=>?_) (fun h127=>?_) | refine RK.cond rfl (fun h127=>?_) (fun h127=>?_)
        · refine RK.exit rfl ?_
          refine RK.seq ?_
          refine RK.region ?_
          iterate 2 refine RL.p rfl rfl ?_
          refine RL.done ?_
          refine RK.ret_of Tryz.func210 (res1 rfl rfl) ?_ _
          exact ⟨_,rfl,⟨o,hfin o (hE.still hR hE1 h127),hu4.mod hg47⟩,(hg3.trans hg4).trans hg47⟩
        · refine RK.skip ?_
          refine RK.region ?_
          iterate 2 refine RL.p rfl rfl ?_
          refine RL.done ?_
          refine RK.inBlock ?_
          refine RK.region ?_
          iterate 2 refine RL.p rfl rfl ?_
          refine RL.re (d:=115) rfl rfl (succ_i64 (by omega)) ?_
          refine RL.p rfl rfl ?_
          refine RL.done ?_
          exact RK.back (ih (r + 1,u6) _ ⟨by simp only at h113 ⊢;omega,hg4.trans hg47,joinS o o1,hE.round hR hE1,hu6.mod hg7⟩ (by simp only at h113 ⊢;omega)) ⟨rfl,rfl,rfl,rfl,trivial⟩
      · refine RK.exit rfl ?_
        refine RK.seq ?_
        refine RK.region ?_
        iterate 2 refine RL.p rfl rfl ?_
        refine RL.done ?_
        refine RK.ret_of Tryz.func210 (res1 rfl rfl) ?_ _
        exact ⟨_,rfl,⟨o,hfin o (hE.enough hR (by simp only at h113;omega)),hu4⟩,hg3.trans hg4⟩
    · refine RK.block ?_
      refine RK.seq ?_
      refine RK.region ?_
      iterate 2 refine RL.p rfl rfl ?_
      refine RL.done ?_
      first | refine RK.condD rfl (fun h23=>?_) (fun h23=>?_) | refine RK.condN rfl (fun h23=>?_) (fun h23=>?_) | refine RK.cond rfl (fun h23=>?_) (fun h23=>?_)
      · obtain ⟨hxe, hW⟩ : x = .set [a, b, c, d] ∧ W4 [a, b, c, d] := by
            rcases hkind with ⟨h1,_,_,h2⟩ | ⟨o,_,h5,_,_,_,_,h6⟩
            · exact ⟨h1,h2⟩
            · omega
        subst hxe
        clear hkind
        obtain ⟨tg,htg⟩:∃ tg,setO s [a,b,c,d] f=tg:=⟨_,rfl⟩
        have hE:=setO_ends s [a,b,c,d] f hf
        rw [htg] at hE
        have hB7 : Blk w2 b7 4 (bls (tg.take (0 + 1) ++ (List.replicate (s.size + 1) false).drop (0 + 1))) := by
            have h9:=hn7.blk
            rw [← htg]
            simpa [setO,List.replicate_succ] using h9
        iterate 2 refine RK.seq ?_
        refine RK.region ?_
        refine RL.p rfl rfl ?_
        refine RL.done ?_
        refine RK.block ?_
        refine RK.loop (fun q:Nat=>[(1,.string s),(2,.slice adv f.length cv),(3,pp b3),(7,.slice (some ⟨b7,0,none⟩) (s.size + 1) (s.size + 1)),(8,.int .i64 (q:Int))]) (fun q w'=>q≤s.size∧Blk w' b7 4 (bls (tg.take (q + 1) ++ (List.replicate (s.size + 1) false).drop (q + 1)))∧Mod (·=b7) w2 w') (fun q=>s.size - q) 0 ⟨rfl,rfl,rfl,rfl,rfl,trivial⟩ ⟨by omega,hB7,Mod.refl _ _⟩ (fun q w3 hI ih=>?_)
        obtain ⟨hq,hB,hm⟩:=hI
        have hgw3:Grow w w3:=hg2.then hm (fun y hy e=>by have e' : y=b7:=e;omega)
        have hB3q:=hB2.mod hm hb37
        iterate 2 refine RK.seq ?_
        refine RK.region ?_
        iterate 2 refine RL.p rfl rfl ?_
        refine RL.q (.free rfl) rfl rfl (Yld.lenStr u9 rfl) ?_
        refine RL.p rfl rfl ?_
        refine RL.done ?_
        first | refine RK.condD rfl (fun h28=>?_) (fun h28=>?_) | refine RK.condN rfl (fun h28=>?_) (fun h28=>?_) | refine RK.cond rfl (fun h28=>?_) (fun h28=>?_)
        · obtain ⟨x,hxq⟩:∃ x,f[q]?=some x:=⟨f[q]'(by omega),List.getElem?_eq_getElem (by omega)⟩
          obtain ⟨b5,o5,c5,he5,_,_,hc5⟩:=hv.elem1 (bls_get hxq)
          cases he5
          have hb5l:=World.block_lt_of_cell? w _ (hc5 q _ (bls_get hxq))
          have hb57:¬ b5=b7:=by simp only at hb5l;omega
          have htq : tg[q + 1]? = some (x && inB [a, b, c, d] (b8 s q)) := by
              rw [← htg];unfold setO
              rw [List.getElem?_cons_succ,List.getElem?_map,List.getElem?_range (by omega)]
              simp [hxq]
          refine RK.skip ?_
          refine RK.seq ?_
          refine RK.block ?_
          refine RK.drawM (·=b7) [(0,false),(1,false),(2,false),(3,false),(4,false),(5,false),(6,false),(7,false),(8,false),(9,false),(10,false),(11,false),(12,false),(13,true),(14,false),(15,false),(16,true)] [16] mixed (by kernel_rfl) ?_
          iterate 3 refine DL.p rfl rfl rfl ?_
          refine DL.re (d:=33) rfl rfl (succ_i64 (by omega)) ?_
          iterate 2 refine DL.p rfl rfl rfl ?_
          refine DL.qf rfl (.free rfl) rfl rfl (Yld.indexAddrN u257 i4 rfl rfl (by omega)) ?_
          refine DL.q rfl (.free rfl) rfl rfl rfl (Yld.load p4 rfl (atM (hgw3.cell (hc5 q _ (bls_get hxq)) (fun h=>h)) (hb57))) (Mod.drew _ _) ?_
          refine DL.p rfl rfl rfl ?_
          first | refine DL.splitD (d:=38) rfl rfl (fun h38=>?_) (fun h38=>?_) | refine DL.splitN (d:=38) rfl rfl (fun h38=>?_) (fun h38=>?_) | refine DL.split (d:=38) rfl rfl (fun h38=>?_) (fun h38=>?_)
          · have htq1:tg[q + 1]?=some (inB [a,b,c,d] (b8 s q)):=by rw [htq,h38];rfl
            refine DL.qf rfl (.yes rfl rfl rfl) rfl rfl (Yld.fieldAddr fo180_1 rfl) ?_
            refine DL.q rfl (.yes rfl rfl rfl) rfl rfl rfl (Yld.loadN (cs:=wds [a,b,c,d]) a177 rfl (atNM (blk_set4 hB3q) (hb37))) (Mod.drew _ _) ?_
            iterate 2 refine DL.qf rfl (.yes rfl rfl rfl) rfl rfl (Yld.pure rfl) ?_
            refine DL.qf rfl (.yes rfl rfl rfl) rfl rfl (Yld.idxStrN u9 rfl rfl (by omega)) ?_
            refine DL.op rfl (.yes rfl rfl rfl) rfl rfl (Does.call rfl e228 (setHas_ok [a,b,c,d] hW (b8 s q) (b8_lt s q) _)) ?_
            rintro _ w4 ⟨rfl,hg4⟩
            have hm34:Mod (·=b7) w3 w4:=(Mod.drew _ _).trans (Mod.any' hg4)
            refine ⟨hm34,?_⟩
            have hB4:=(hB.mod (Mod.drew No _) (fun h=>h)).mod hg4 (fun h=>h)
            refine DL.p rfl rfl rfl ?_
            refine DL.qf rfl (.free rfl) rfl rfl (Yld.indexAddrN u257 i4 rfl rfl (by omega)) ?_
            refine DL.opT rfl (.free rfl) rfl rfl (Does.store i4 rfl rfl rfl hB4 (setAt_of (by simp [hE.1];omega))) ?_
            rintro _ w5 ⟨hb5,hm5,_⟩
            refine DL.done ?_
            refine RK.inBlock ?_
            refine RK.region ?_
            iterate 2 refine RL.p rfl rfl ?_
            refine RL.re (d:=30) rfl rfl (succ_i64 (by omega)) ?_
            refine RL.p rfl rfl ?_
            refine RL.done ?_
            exact RK.back (ih (q + 1) _ ⟨by omega,by rw [Nat.zero_add,Nat.mul_one,← List.map_set,set_take_bool (by simp [hE.1]) htq1] at hb5;exact hb5,(hm.trans hm34).trans hm5⟩ (by omega)) ⟨rfl,rfl,rfl,rfl,rfl,trivial⟩
          · have htq1:tg[q + 1]?=some false:=by rw [htq,h38];rfl
            have hB4:=hB.mod (Mod.drew No _) (fun h=>h)
            iterate 5 refine DL.no rfl (.no rfl rfl rfl rfl) rfl rfl ?_
            refine DL.lno rfl (.no rfl rfl rfl rfl) rfl rfl ?_
            refine DL.p rfl rfl rfl ?_
            refine DL.qf rfl (.free rfl) rfl rfl (Yld.indexAddrN u257 i4 rfl rfl (by omega)) ?_
            refine DL.opT rfl (.free rfl) rfl rfl (Does.store i4 rfl rfl rfl hB4 (setAt_of (by simp [hE.1];omega))) ?_
            rintro _ w5 ⟨hb5,hm5,_⟩
            refine DL.done ?_
            refine RK.inBlock ?_
            refine RK.region ?_
            iterate 2 refine RL.p rfl rfl ?_
            refine RL.re (d:=30) rfl rfl (succ_i64 (by omega)) ?_
            refine RL.p rfl rfl ?_
            refine RL.done ?_
            exact RK.back (ih (q + 1) _ ⟨by omega,by rw [Nat.zero_add,Nat.mul_one,← List.map_set,set_take_bool (by simp [hE.1]) htq1] at hb5;exact hb5,(hm.trans (Mod.drew _ _)).trans hm5⟩ (by omega)) ⟨rfl,rfl,rfl,rfl,rfl,trivial⟩
        · have hqe:q=s.size:=by omega
          rw [hqe,List.take_of_length_le (by rw [hE.1];omega),List.drop_eq_nil_of_le (by simp),List.append_nil] at hB
          refine RK.exit rfl ?_
          refine RK.seq ?_
          refine RK.region ?_
          iterate 2 refine RL.p rfl rfl ?_
          refine RL.done ?_
          refine RK.ret_of Tryz.func210 (res1 rfl rfl) ?_ _
          exact ⟨_,rfl,⟨tg,hE,⟨by simp [hE.1],by rw [hE.1];omega,_,_,by rw [hE.1],fun _=>⟨b7,0,rfl,fun h=>h,fun j u hj=>by rw [Nat.zero_add];exact hB.cell' hj⟩⟩⟩,hg2.then hm (fun y hy e=>by have e' : y=b7:=e;omega)⟩
      · obtain ⟨o, rfl, rfl, h3⟩ : ∃ o : Nat, x = .node o l ∧ op = o ∧ (o = 2 ∨ o = 3 ∧ cnt l ≠ 0 ∨ (o = 4 ∨ o = 5 ∨ o = 6) ∧ cnt l = 1) := by
            rcases hkind with ⟨_,_,h2,_⟩ | ⟨o,h4,h5,_,_,_,_,h6⟩
            · omega
            · exact ⟨o,h4,h5,h6⟩
        clear hkind
        have hk:∀ y∈kidsR l,afterC s y:=fun y hy=>after_ok s hs m y (by have:=hiR_kid hy;simp only [hiR] at hx;omega) (hgood y hy)
        have hlgn:∀ i j,Lg (HS s) (.node o l) true i j↔(if o=2 then Lg (HS s) l true i j else if o=3 then Lg (HS s) l false i j else if o=4 then Rt (Lg (HS s) l true) i j else if o=5 then ∃ k,Lg (HS s) l true i k∧Rt (Lg (HS s) l true) k j else i=j∨Lg (HS s) l true i j):=fun i j=>Iff.rfl
        have hid:=Endz.id hf
        refine RK.seq ?_
        refine RK.region ?_
        iterate 2 refine RL.p rfl rfl ?_
        refine RL.done ?_
        first | refine RK.condD rfl (fun h48=>?_) (fun h48=>?_) | refine RK.condN rfl (fun h48=>?_) (fun h48=>?_) | refine RK.cond rfl (fun h48=>?_) (fun h48=>?_)
        · have ho:o=2:=by omega
          subst ho
          refine RK.seq ?_
          refine RK.region ?_
          iterate 2 refine RL.p rfl rfl ?_
          refine RL.done ?_
          iterate 2 refine RK.seq ?_
          refine RK.region ?_
          refine RL.p rfl rfl ?_
          refine RL.done ?_
          refine RK.block ?_
          refine RK.loop (fun t:Nat×Value=>[(1,.string s),(2,.slice adv f.length cv),(3,pp b3),(7,.slice (some ⟨b7,0,none⟩) (s.size + 1) (s.size + 1)),(9,t.2),(10,.int .i64 (t.1:Int))]) (fun t w'=>t.1≤n∧Grow w2 w'∧∃ g,Endz (LgS (HS s) ((kidsR l).take t.1)) s.size f g∧SlB No w' t.2 g) (fun t=>n - t.1) (0,.slice adv f.length cv) ⟨rfl,rfl,rfl,rfl,rfl,rfl,trivial⟩ ⟨by simp,Mod.refl _ _,f,hid.iff (fun i j=>by simp [LgS]),hv2⟩ (fun t w3 hI ih=>?_)
          obtain ⟨q,u⟩:=t
          obtain ⟨hq,hg3,g,hE,hu⟩:=hI
          simp only at hq hE hu
          have hB3q:=hB2.mod hg3 (fun h=>h)
          iterate 2 refine RK.seq ?_
          refine RK.region ?_
          refine RL.p rfl rfl ?_
          refine RL.q (.free rfl) rfl rfl (Yld.fieldAddr fo180_2 rfl) ?_
          refine RL.q (.free rfl) rfl rfl (Yld.load p178 rfl (at1 (hB3q.cell rfl))) ?_
          refine RL.q (.free rfl) rfl rfl (Yld.lenSl u178 rfl) ?_
          refine RL.p rfl rfl ?_
          refine RL.done ?_
          first | refine RK.condD rfl (fun h55=>?_) (fun h55=>?_) | refine RK.condN rfl (fun h55=>?_) (fun h55=>?_) | refine RK.cond rfl (fun h55=>?_) (fun h55=>?_)
          · obtain ⟨ck,y,b5,o5,rfl,hyk,hym,hyt,hyv,_,hcl⟩:=h.kid (k:=q) (by simp only at h55;omega)
            refine RK.skip ?_
            refine RK.seq ?_
            refine RK.block ?_
            refine RK.region ?_
            refine RL.q (.free rfl) rfl rfl (Yld.fieldAddr fo180_2 rfl) ?_
            refine RL.q (.free rfl) rfl rfl (Yld.load p178 rfl (at1 (hB3q.cell rfl))) ?_
            refine RL.p rfl rfl ?_
            refine RL.q (.free rfl) rfl rfl (Yld.indexAddrN u178 i180 rfl rfl (by simp only at h55;omega)) ?_
            refine RL.q (.free rfl) rfl rfl (Yld.loadN (cs:=celC ck) a180 rfl (atN (hcl _ (hg2.trans hg3)))) ?_
            iterate 2 refine RL.p rfl rfl ?_
            refine RL.op (.free rfl) rfl rfl (Does.call rfl e210 (hk y hym M ck u g _ (RxV.grow (hg2.trans hg3) y hyv) hu hE.1)) ?_
            rintro u4 w4 ⟨⟨o1,hE1,hu4⟩,hg4⟩
            refine RL.p rfl rfl ?_
            refine RL.done ?_
            refine RK.inBlock ?_
            refine RK.region ?_
            iterate 2 refine RL.p rfl rfl ?_
            refine RL.re (d:=57) rfl rfl (succ_i64 (by simp only at h55;omega)) ?_
            refine RL.p rfl rfl ?_
            refine RL.done ?_
            exact RK.back (ih (q + 1,u4) _ ⟨by simp only at h55 ⊢;omega,hg3.trans hg4,o1,(hE.seq hE1 (lg_fwd y)).iff (fun i j=>by rw [take_snoc hyk,lgS_snoc]),hu4⟩ (by simp only at h55 ⊢;omega)) ⟨rfl,rfl,rfl,rfl,rfl,rfl,trivial⟩
          · have ek:(kidsR l).take q=kidsR l:=List.take_of_length_le (by simp only at h55;omega)
            rw [ek] at hE
            have hEf:Endz (Lg (HS s) (.node 2 l) true) s.size f g:=hE.iff (fun i j=>by rw [hlgn,if_pos rfl];exact (lgS_iff (HS s) h.tr i j).symm)
            refine RK.exit rfl ?_
            refine RK.seq ?_
            refine RK.region ?_
            iterate 2 refine RL.p rfl rfl ?_
            refine RL.op (.free rfl) rfl rfl (Does.copyN u257 i4 rfl rfl (hn7.blk.mod hg3 (fun h=>h)) hu (by rw [hE.1];omega) (by rw [hE.1];simp) (by simp [Value.oneCell'])) ?_
            rintro _ w4 ⟨rfl,hb4,hm4,_⟩
            refine RL.done ?_
            refine RK.seq ?_
            refine RK.region ?_
            iterate 2 refine RL.p rfl rfl ?_
            refine RL.done ?_
            refine RK.ret_of Tryz.func210 (res1 rfl rfl) ?_ _
            exact ⟨_, rfl, ⟨g, hEf, ⟨by simp [hE.1], by rw [hE.1]; omega, _, _, by rw [hE.1], fun _ => ⟨b7, 0, rfl, fun h => h, fun j u hj => by
                rw [Nat.zero_add]
                refine hb4.cell' ?_
                rw [List.take_zero,List.nil_append,List.getElem?_append_left (List.getElem?_eq_some_iff.1 hj).1]
                exact hj⟩⟩⟩,(hg2.trans hg3).then hm4 (fun y hy e=>by have e' : y=b7:=e;omega)⟩
        · refine RK.seq ?_
          refine RK.region ?_
          iterate 2 refine RL.p rfl rfl ?_
          refine RL.done ?_
          first | refine RK.condD rfl (fun h70=>?_) (fun h70=>?_) | refine RK.condN rfl (fun h70=>?_) (fun h70=>?_) | refine RK.cond rfl (fun h70=>?_) (fun h70=>?_)
          · have ho:o=3:=by omega
            subst ho
            have hE0:Endz (fun i j=>∃ x∈(kidsR l).take 0,Lg (HS s) x true i j) s.size f (List.replicate (s.size + 1) false):=⟨by simp,fun j=>by simp [List.getElem?_replicate]⟩
            have hu0:SlB No w2 (.slice (some ⟨b7,0,none⟩) (s.size + 1) (s.size + 1)) (List.replicate (s.size + 1) false):=⟨by simp,by simp;omega,some ⟨b7,0,none⟩,s.size + 1,by simp,fun _=>⟨b7,0,rfl,fun h=>h,fun j u hj=>by rw [Nat.zero_add];exact hn7.blk.cell' (by simpa using hj)⟩⟩
            iterate 2 refine RK.seq ?_
            refine RK.region ?_
            refine RL.p rfl rfl ?_
            refine RL.done ?_
            refine RK.block ?_
            refine RK.loop (fun t:Nat×Value=>[(1,.string s),(2,.slice adv f.length cv),(3,pp b3),(7,t.2),(11,.int .i64 (t.1:Int))]) (fun t w'=>t.1≤n∧Grow w2 w'∧∃ g,Endz (fun i j=>∃ x∈(kidsR l).take t.1,Lg (HS s) x true i j) s.size f g∧SlB No w' t.2 g) (fun t=>n - t.1) (0,.slice (some ⟨b7,0,none⟩) (s.size + 1) (s.size + 1)) ⟨rfl,rfl,rfl,rfl,rfl,trivial⟩ ⟨by simp,Mod.refl _ _,_,hE0,hu0⟩ (fun t w3 hI ih=>?_)
            obtain ⟨q,u⟩:=t
            obtain ⟨hq,hg3,g,hE,hu⟩:=hI
            simp only at hq hE hu
            have hB3q:=hB2.mod hg3 (fun h=>h)
            iterate 2 refine RK.seq ?_
            refine RK.region ?_
            refine RL.p rfl rfl ?_
            refine RL.q (.free rfl) rfl rfl (Yld.fieldAddr fo180_2 rfl) ?_
            refine RL.q (.free rfl) rfl rfl (Yld.load p178 rfl (at1 (hB3q.cell rfl))) ?_
            refine RL.q (.free rfl) rfl rfl (Yld.lenSl u178 rfl) ?_
            refine RL.p rfl rfl ?_
            refine RL.done ?_
            first | refine RK.condD rfl (fun h76=>?_) (fun h76=>?_) | refine RK.condN rfl (fun h76=>?_) (fun h76=>?_) | refine RK.cond rfl (fun h76=>?_) (fun h76=>?_)
            · obtain ⟨ck,y,b5,o5,rfl,hyk,hym,hyt,hyv,_,hcl⟩:=h.kid (k:=q) (by simp only at h76;omega)
              refine RK.skip ?_
              refine RK.seq ?_
              refine RK.block ?_
              refine RK.region ?_
              refine RL.p rfl rfl ?_
              refine RL.q (.free rfl) rfl rfl (Yld.fieldAddr fo180_2 rfl) ?_
              refine RL.q (.free rfl) rfl rfl (Yld.load p178 rfl (at1 (hB3q.cell rfl))) ?_
              refine RL.p rfl rfl ?_
              refine RL.q (.free rfl) rfl rfl (Yld.indexAddrN u178 i180 rfl rfl (by simp only at h76;omega)) ?_
              refine RL.q (.free rfl) rfl rfl (Yld.loadN (cs:=celC ck) a180 rfl (atN (hcl _ (hg2.trans hg3)))) ?_
              iterate 2 refine RL.p rfl rfl ?_
              refine RL.op (.free rfl) rfl rfl (Does.call rfl e210 (hk y hym M ck _ f _ (RxV.grow (hg2.trans hg3) y hyv) (hv2.mod hg3) hf)) ?_
              rintro u4 w4 ⟨⟨o1,hE1,hu4⟩,hg4⟩
              have hol:g.length=o1.length:=by rw [hE.1,hE1.1]
              refine RL.op (.free rfl) rfl rfl (Does.call rfl e229 (joinL_ok No g o1 hol (by rw [hE.1];omega) _ _ _ (hu.mod hg4) hu4)) ?_
              rintro u6 w6 ⟨hu6,hg6⟩
              refine RL.p rfl rfl ?_
              refine RL.done ?_
              refine RK.inBlock ?_
              refine RK.region ?_
              iterate 2 refine RL.p rfl rfl ?_
              refine RL.re (d:=78) rfl rfl (succ_i64 (by simp only at h76;omega)) ?_
              refine RL.p rfl rfl ?_
              refine RL.done ?_
              exact RK.back (ih (q + 1, u6) _ ⟨by simp only at h76 ⊢; omega, (hg3.trans hg4).trans hg6, joinS g o1, (hE.or hE1).iff (fun i j => by
                  rw [take_snoc hyk]
                  constructor
                  · rintro (⟨z,hz,hz2⟩ | hz)
                    · exact ⟨z,List.mem_append_left _ hz,hz2⟩
                    · exact ⟨y,by simp,hz⟩
                  · rintro ⟨z,hz,hz2⟩
                    rcases List.mem_append.1 hz with h1 | h1
                    · exact .inl ⟨z,h1,hz2⟩
                    · simp at h1;subst h1;exact .inr hz2),hu6⟩ (by simp only at h76 ⊢;omega)) ⟨rfl,rfl,rfl,rfl,rfl,trivial⟩
            · have ek:(kidsR l).take q=kidsR l:=List.take_of_length_le (by simp only at h76;omega)
              rw [ek] at hE
              have hEf:Endz (Lg (HS s) (.node 3 l) true) s.size f g:=hE.iff (fun i j=>by rw [hlgn,if_neg (by omega),if_pos rfl];exact (lgA_iff (HS s) h.tr i j).symm)
              refine RK.exit rfl ?_
              refine RK.seq ?_
              refine RK.region ?_
              iterate 2 refine RL.p rfl rfl ?_
              refine RL.done ?_
              refine RK.ret_of Tryz.func210 (res1 rfl rfl) ?_ _
              exact ⟨_,rfl,⟨g,hEf,hu⟩,hg2.trans hg3⟩
          · obtain ⟨y,hly⟩:=only_kid h.tr (by omega)
            subst hly
            have hn1:n=1:=by rw [hn,hlen];rfl
            obtain ⟨ck,y',b5,o5,rfl,hyk,hym,hyt,hyv,_,hcl⟩:=h.kid (k:=0) (by omega)
            have hyy:y'=y:=by simpa [kidsR] using hyk.symm
            subst hyy
            have hay:=hk y' hym
            have hlo:∀ i j,Lg (HS s) (.cons y' .nil) true i j↔Lg (HS s) y' true i j:=lg_only (HS s)
            have hrt:∀ i j,Rt (Lg (HS s) (.cons y' .nil) true) i j↔Rt (Lg (HS s) y' true) i j:=fun i j=>⟨fun h=>rt_iff (fun i j=>(hlo i j).1) h,fun h=>rt_iff (fun i j=>(hlo i j).2) h⟩
            refine RK.seq ?_
            refine RK.region ?_
            iterate 2 refine RL.p rfl rfl ?_
            refine RL.done ?_
            first | refine RK.condD rfl (fun h90=>?_) (fun h90=>?_) | refine RK.condN rfl (fun h90=>?_) (fun h90=>?_) | refine RK.cond rfl (fun h90=>?_) (fun h90=>?_)
            · have ho:o=6:=by omega
              subst ho
              refine RK.seq ?_
              refine RK.region ?_
              refine RL.p rfl rfl ?_
              refine RL.q (.free rfl) rfl rfl (Yld.fieldAddr fo180_2 rfl) ?_
              refine RL.q (.free rfl) rfl rfl (Yld.load p178 rfl (at1 (hB2.cell rfl))) ?_
              refine RL.q (.free rfl) rfl rfl (Yld.indexAddr u178 i180 rfl rfl (by omega) (by omega)) ?_
              refine RL.q (.free rfl) rfl rfl (Yld.loadN (cs:=celC ck) a180 rfl (atN (hcl _ hg2))) ?_
              iterate 2 refine RL.p rfl rfl ?_
              refine RL.op (.free rfl) rfl rfl (Does.call rfl e210 (hay M ck _ f _ (RxV.grow hg2 _ hyv) hv2 hf)) ?_
              rintro u4 w4 ⟨⟨o1,hE1,hu4⟩,hg4⟩
              have hol:f.length=o1.length:=by rw [hf,hE1.1]
              refine RL.op (.free rfl) rfl rfl (Does.call rfl e229 (joinL_ok No f o1 hol (by omega) _ _ _ (hv2.mod hg4) hu4)) ?_
              rintro u6 w6 ⟨hu6,hg6⟩
              refine RL.p rfl rfl ?_
              refine RL.done ?_
              refine RK.ret_of Tryz.func210 (res1 rfl rfl) ?_ _
              exact ⟨_,rfl,⟨joinS f o1,(hid.or hE1).iff (fun i j=>by rw [hlgn,if_neg (by omega),if_neg (by omega),if_neg (by omega),if_neg (by omega),hlo]),hu6⟩,(hg2.trans hg4).trans hg6⟩
            · refine RK.seq ?_
              refine RK.region ?_
              iterate 2 refine RL.p rfl rfl ?_
              refine RL.done ?_
              first | refine RK.condD rfl (fun h101=>?_) (fun h101=>?_) | refine RK.condN rfl (fun h101=>?_) (fun h101=>?_) | refine RK.cond rfl (fun h101=>?_) (fun h101=>?_)
              · have ho:o=5:=by omega
                subst ho
                refine RK.region ?_
                refine RL.q (.free rfl) rfl rfl (Yld.fieldAddr fo180_2 rfl) ?_
                refine RL.q (.free rfl) rfl rfl (Yld.load p178 rfl (at1 (hB2.cell rfl))) ?_
                refine RL.q (.free rfl) rfl rfl (Yld.indexAddr u178 i180 rfl rfl (by omega) (by omega)) ?_
                refine RL.q (.free rfl) rfl rfl (Yld.loadN (cs:=celC ck) a180 rfl (atN (hcl _ hg2))) ?_
                iterate 2 refine RL.p rfl rfl ?_
                refine RL.op (.free rfl) rfl rfl (Does.call rfl e210 (hay M ck _ f _ (RxV.grow hg2 _ hyv) hv2 hf)) ?_
                rintro u4 w4 ⟨⟨o1,hE1,hu4⟩,hg4⟩
                refine RL.p rfl rfl ?_
                refine RL.done ?_
                refine RK.inBlock ?_
                exact RK.back (hj u4 _ ⟨y', o1, rfl, hE1.1, hu4, hg2.trans hg4, hB2.mod hg4 (fun h => h), fun res hres => (hE1.seq hres (fun i j h => (rt_rounds (lg_fwd y') h).1)).iff (fun i j => by
                    rw [hlgn,if_neg (by omega),if_neg (by omega),if_neg (by omega),if_pos rfl]
                    constructor
                    · rintro ⟨k,h1,h2⟩;exact ⟨k,(hlo _ _).2 h1,(hrt _ _).2 h2⟩
                    · rintro ⟨k,h1,h2⟩;exact ⟨k,(hlo _ _).1 h1,(hrt _ _).1 h2⟩),hay⟩) ⟨rfl,rfl,rfl,trivial⟩
              · have ho:o=4:=by omega
                subst ho
                refine RK.region ?_
                iterate 2 refine RL.p rfl rfl ?_
                refine RL.op (.free rfl) rfl rfl (Does.copyN u257 i4 rfl rfl hn7.blk hv2 (by omega) (by rw [hf];simp) (by simp [Value.oneCell'])) ?_
                rintro _ w4 ⟨rfl,hb4,hm4,_⟩
                have hu4 : SlB No w4 (.slice (some ⟨b7, 0, none⟩) (s.size + 1) (s.size + 1)) f := ⟨by simp, by omega, _, _, by rw [hf], fun _ => ⟨b7, 0, rfl, fun h => h, fun j u hj => by
                    rw [Nat.zero_add]
                    refine hb4.cell' ?_
                    rw [List.take_zero,List.nil_append,List.getElem?_append_left (List.getElem?_eq_some_iff.1 hj).1]
                    exact hj⟩⟩
                refine RL.done ?_
                refine RK.inBlock ?_
                exact RK.back (hj _ _ ⟨y',f,rfl,hf,hu4,hg2.then hm4 (fun y hy e=>by have e' : y=b7:=e;omega),hB2.mod hm4 hb37,fun res hres=>hres.iff (fun i j=>by rw [hlgn,if_neg (by omega),if_neg (by omega),if_pos rfl,hrt]),hay⟩) ⟨rfl,rfl,rfl,trivial⟩
end Go.Proofs.YtbcbfjnlnmhpbaaGreat
set_option linter.unusedVariables false
set_option linter.unusedSimpArgs false
set_option maxHeartbeats 800000
set_option maxRecDepth 100000
namespace Go.Proofs.YtbcbfjnlnmhpbaaGreat
open Go Go.X
def withinS (n lo hi:Int):Int:=lo + (if n.tmod (hi - lo + 1) < 0 then n.tmod (hi - lo + 1) + hi - lo + 1 else n.tmod (hi - lo + 1))
theorem tmod_range (n:Int) {b:Int} (hb:0 < b):-b < n.tmod b∧n.tmod b < b:=⟨Int.lt_tmod_of_pos n hb,Int.tmod_lt_of_pos n hb⟩
theorem within_range (n:Int) {lo hi:Int} (h:lo≤hi):lo≤withinS n lo hi∧withinS n lo hi≤hi:=by
 have:=tmod_range n (b:=hi - lo + 1) (by omega)
 unfold withinS
 split <;> omega
theorem within_ok (n lo hi:Int) (h:lo≤hi) (h1:-1000≤lo) (h2:hi≤1000) (w:World):Fx Tryz.prog 68 [.int .i64 n,.int .i64 lo,.int .i64 hi] w (fun u w'=>u=.int .i64 (withinS n lo hi)∧w=w'):=by
 have hr:=tmod_range n (b:=hi - lo + 1) (by omega)
 have hw:=within_range n h
 refine enter Tryz.func68 rfl rfl rfl _ (Pick.sub (l:=[0,1,2]) (.cons rfl (.cons rfl (.cons rfl .nil)))) ?_
 refine RK.seq ?_
 refine RK.region ?_
 refine RL.p rfl rfl ?_
 refine RL.done ?_
 refine RK.seq ?_
 refine RK.region ?_
 iterate 4 refine RL.p rfl rfl ?_
 refine RL.re (d:=10) rfl rfl (sub_i64 (z:=hi - lo) rfl (by omega) (by omega)) ?_
 refine RL.p rfl rfl ?_
 refine RL.re (d:=11) rfl rfl (add_i64 (z:=hi - lo + 1) rfl (by omega) (by omega)) ?_
 refine QQ (Yld.rem rfl rfl (by omega)) ?_
 refine GG ?_
 refine CD (fun h14=>?_) (fun h14=>?_)
 ·refine RK.region ?_
  iterate 3 refine RL.p rfl rfl ?_
  refine RL.re (d:=17) rfl rfl (add_i64 (z:=n.tmod (hi - lo + 1) + hi) rfl (by omega) (by omega)) ?_
  iterate 2 refine RL.p rfl rfl ?_
  refine RL.re (d:=19) rfl rfl (sub_i64 (z:=n.tmod (hi - lo + 1) + hi - lo) rfl (by omega) (by omega)) ?_
  refine RL.p rfl rfl ?_
  refine RL.re (d:=20) rfl rfl (add_i64 (z:=n.tmod (hi - lo + 1) + hi - lo + 1) rfl (by omega) (by omega)) ?_
  refine RL.p rfl rfl ?_
  refine RL.done ?_
  refine RK.seq ?_
  refine RK.region ?_
  iterate 3 refine RL.p rfl rfl ?_
  refine RL.re (d:=23) rfl rfl (add_i64 rfl (by omega) (by omega)) ?_
  refine GG ?_
  refine RK.ret_of Tryz.func68 (res1 rfl rfl) ?_ _
  exact ⟨_,rfl,by unfold withinS;rw [if_pos h14],rfl⟩
 ·refine RK.skip ?_
  refine RK.seq ?_
  refine RK.region ?_
  iterate 3 refine RL.p rfl rfl ?_
  refine RL.re (d:=23) rfl rfl (add_i64 rfl (by omega) (by omega)) ?_
  refine GG ?_
  refine RK.ret_of Tryz.func68 (res1 rfl rfl) ?_ _
  exact ⟨_,rfl,by unfold withinS;rw [if_neg h14],rfl⟩
def inS (n lo hi:Int):Int:=if lo≤n∧n≤hi then n else withinS n lo hi
theorem in_range (n:Int) {lo hi:Int} (h:lo≤hi):lo≤inS n lo hi∧inS n lo hi≤hi:=by
 unfold inS
 split
 ·assumption
 ·exact within_range n h
theorem in_ok (n lo hi:Int) (h:lo≤hi) (h1:-1000≤lo) (h2:hi≤1000) (w:World):Fx Tryz.prog 115 [.int .i64 n,.int .i64 lo,.int .i64 hi] w (fun u w'=>u=.int .i64 (inS n lo hi)∧w=w'):=by
 refine enter Tryz.func115 rfl rfl rfl _ (Pick.sub (l:=[0,1,2]) (.cons rfl (.cons rfl (.cons rfl .nil)))) ?_
 refine GG ?_
 refine SP 10 (fun h10=>?_) (fun h10=>?_)
 ·iterate 3 refine QQ (Yld.pure rfl) ?_
  refine GG ?_
  refine CD (fun h14=>?_) (fun h14=>?_)
  ·refine GG ?_
   refine RK.ret_of Tryz.func115 (res1 rfl rfl) ?_ _
   exact ⟨_,rfl,by unfold inS;first | rw [if_pos (by omega)] | rw [if_neg (by omega)],rfl⟩
  ·refine GG ?_
   refine OP (Does.call rfl e68 (within_ok n lo hi h h1 h2 _)) ?_
   rintro _ _ ⟨rfl,rfl⟩
   refine GG ?_
   refine RK.ret_of Tryz.func115 (res1 rfl rfl) ?_ _
   exact ⟨_,rfl,by unfold inS;first | rw [if_pos (by omega)] | rw [if_neg (by omega)],rfl⟩
 ·iterate 3 refine RL.no (.no rfl rfl rfl rfl) rfl rfl ?_
  refine GG ?_
  refine RK.condF rfl ?_
  refine GG ?_
  refine OP (Does.call rfl e68 (within_ok n lo hi h h1 h2 _)) ?_
  rintro _ _ ⟨rfl,rfl⟩
  refine GG ?_
  refine RK.ret_of Tryz.func115 (res1 rfl rfl) ?_ _
  exact ⟨_,rfl,by unfold inS;first | rw [if_pos (by omega)] | rw [if_neg (by omega)],rfl⟩
def nmL:List ByteArray:=[⟨#[115,101,118]⟩,⟨#[106,111,98]⟩,⟨#[104,111,115,116]⟩,⟨#[95,120]⟩,⟨#[90,111,110,101,57]⟩]
def vlL:List ByteArray:=[⟨#[97]⟩,⟨#[98]⟩,⟨#[99,114,105,116]⟩,⟨#[119,97,114,110]⟩,⟨#[97,98]⟩,⟨#[0,255]⟩,⟨#[97,98,97,98,97,98,97,98,97,98,97,98,97,98,97,98,97,98,97,98,97,98,97,98]⟩]
def nmS (n:Int):ByteArray:=nmL.getD (inS n 0 4).toNat ByteArray.empty
def vlS (n:Int):ByteArray:=vlL.getD (inS n 0 6).toNat ByteArray.empty
theorem nm_get:∀ q,q < 5→(nmL.map Value.string).toArray[q]?=some (.string (nmL.getD q ByteArray.empty)):=by
 intro q hq
 rcases q with _ | _ | _ | _ | _ | q <;> first | rfl | omega
theorem vl_get:∀ q,q < 7→(vlL.map Value.string).toArray[q]?=some (.string (vlL.getD q ByteArray.empty)):=by
 intro q hq
 rcases q with _ | _ | _ | _ | _ | _ | _ | q <;> first | rfl | omega
theorem nm_mem (n:Int):nmS n∈nmL:=by
 have:=in_range n (lo:=0) (hi:=4) (by omega)
 unfold nmS
 have h:(inS n 0 4).toNat < nmL.length:=by show _ < 5;omega
 rw [List.getD_eq_getElem?_getD,List.getElem?_eq_getElem h]
 exact List.getElem_mem _
theorem vl_mem (n:Int):vlS n∈vlL:=by
 have:=in_range n (lo:=0) (hi:=6) (by omega)
 unfold vlS
 have h:(inS n 0 6).toNat < vlL.length:=by show _ < 7;omega
 rw [List.getD_eq_getElem?_getD,List.getElem?_eq_getElem h]
 exact List.getElem_mem _
theorem nmK_ok (n:Int) (w:World):Fx Tryz.prog 67 [.int .i64 n] w (fun u w'=>u=.string (nmS n)∧w=w'):=by
 have hr:=in_range n (lo:=0) (hi:=4) (by omega)
 refine enter Tryz.func67 rfl rfl rfl _ (Pick.sub (l:=[0]) (.cons rfl .nil)) ?_
 refine GG ?_
 refine QQ (Yld.build (v:=.agg (nmL.map Value.string).toArray) rfl (fun w=>by kernel_rfl)) ?_
 refine RL.p rfl rfl ?_
 refine OP (Does.call rfl e115 (in_ok n 0 4 (by omega) (by omega) (by omega) _)) ?_
 rintro _ _ ⟨rfl,rfl⟩
 have hq:inS n 0 4=(((inS n 0 4).toNat:Nat):Int):=by omega
 rw [hq]
 refine QQ (Yld.idxArr Tryz.underlying173 i9 p9 rfl rfl (by omega) (nm_get _ (by omega))) ?_
 refine GG ?_
 refine RK.ret_of Tryz.func67 (res1 rfl rfl) ?_ _
 exact ⟨_,rfl,rfl,rfl⟩
theorem vlK_ok (n:Int) (w:World):Fx Tryz.prog 69 [.int .i64 n] w (fun u w'=>u=.string (vlS n)∧w=w'):=by
 have hr:=in_range n (lo:=0) (hi:=6) (by omega)
 refine enter Tryz.func69 rfl rfl rfl _ (Pick.sub (l:=[0]) (.cons rfl .nil)) ?_
 refine GG ?_
 refine QQ (Yld.build (v:=.agg (vlL.map Value.string).toArray) rfl (fun w=>by kernel_rfl)) ?_
 refine RL.p rfl rfl ?_
 refine OP (Does.call rfl e115 (in_ok n 0 6 (by omega) (by omega) (by omega) _)) ?_
 rintro _ _ ⟨rfl,rfl⟩
 have hq:inS n 0 6=(((inS n 0 6).toNat:Nat):Int):=by omega
 rw [hq]
 refine QQ (Yld.idxArr Tryz.underlying174 i9 p9 rfl rfl (by omega) (vl_get _ (by omega))) ?_
 refine GG ?_
 refine RK.ret_of Tryz.func69 (res1 rfl rfl) ?_ _
 exact ⟨_,rfl,rfl,rfl⟩
end Go.Proofs.YtbcbfjnlnmhpbaaGreat
set_option linter.unusedVariables false
set_option linter.unusedSimpArgs false
set_option maxHeartbeats 800000
set_option maxRecDepth 100000
namespace Go.Proofs.YtbcbfjnlnmhpbaaGreat
open Go Go.X
def getL (ls:List Lab) (nm:ByteArray):ByteArray:=((ls.find? fun x=>decide (x.name=nm)).map (·.value)).getD ByteArray.empty
theorem getL_at {ls:List Lab} {nm:ByteArray} {k:Nat} {x:Lab} (hx:ls[k]?=some x) (h:x.name=nm) (hno:∀ i y,i < k→ls[i]?=some y→y.name≠nm):getL ls nm=x.value:=by
 unfold getL
 have:ls.find? (fun x=>decide (x.name=nm))=some x:=by
  rw [List.find?_eq_some_iff_getElem]
  obtain ⟨hk,e⟩:=List.getElem?_eq_some_iff.1 hx
  exact ⟨by simp [h],k,hk,e,fun j hj=>by simpa using hno j _ hj (List.getElem?_eq_getElem (by omega))⟩
 rw [this];rfl
theorem getL_none {ls:List Lab} {nm:ByteArray} (hno:∀ y∈ls,y.name≠nm):getL ls nm=ByteArray.empty:=by
 unfold getL
 rw [List.find?_eq_none.2 fun y hy=>by simpa using hno y hy]
 rfl
theorem getLabel_ok (M:Nat→Prop) (ls:List Lab) (v:Value) (nm:ByteArray) (w:World) (hv:SlL M w v ls):Fx Tryz.prog 70 [v,.string nm] w (fun u w'=>u=.string (getL ls nm)∧w=w'):=by
 obtain ⟨ad,c,rfl⟩:=hv.shape
 have hbig:=hv.big
 refine enter Tryz.func70 rfl rfl rfl _ (Pick.sub (l:=[0,1]) (.cons rfl (.cons rfl .nil))) ?_
 refine GG ?_
 refine RK.loop (fun k:Nat=>[(0,.slice ad ls.length c),(1,.string nm),(5,.int .i64 k)]) (fun k w'=>w=w'∧k≤ls.length∧∀ i y,i < k→ls[i]?=some y→y.name≠nm) (fun k=>ls.length - k) 0 ⟨rfl,rfl,rfl,trivial⟩ ⟨rfl,by omega,fun i y h=>by omega⟩ (fun k w' hI ih=>?_)
 obtain ⟨rfl,hk,hno⟩:=hI
 refine GG ?_
 refine QQ (Yld.lenSl u39 rfl) ?_
 refine GG ?_
 refine CD (fun h9=>?_) (fun h9=>?_)
 ·obtain ⟨x,hx⟩:∃ x,ls[k]?=some x:=⟨ls[k]'(by omega),List.getElem?_eq_getElem (by omega)⟩
  obtain ⟨b,o,c',he,_,_,hcell⟩:=hv.elem labC_len hx
  cases he
  refine GG ?_
  refine QQ (Yld.indexAddrN u39 i38 rfl rfl (by omega)) ?_
  refine QQ (Yld.fieldAddr fo38_0 rfl) ?_
  refine QQ (Yld.load p9 rfl (at1 (hcell 0 _ rfl))) ?_
  refine GG ?_
  refine CD (fun h18=>?_) (fun h18=>?_)
  ·refine GG ?_
   refine QQ (Yld.indexAddrN u39 i38 rfl rfl (by omega)) ?_
   refine QQ (Yld.fieldAddr fo38_1 rfl) ?_
   refine QQ (Yld.load p9 rfl (at1 (hcell 1 _ rfl))) ?_
   refine GG ?_
   refine RK.ret_of Tryz.func70 (res1 rfl rfl) ?_ _
   exact ⟨_,rfl,congrArg _ (getL_at hx h18 hno).symm,rfl⟩
  ·refine RK.skip ?_
   refine RK.inBlock ?_
   refine RK.region ?_
   iterate 2 refine RL.p rfl rfl ?_
   refine RL.re (d:=11) rfl rfl (succ_i64 (by omega)) ?_
   refine GG ?_
   exact RK.back (ih (k + 1) _ ⟨rfl,by omega,fun i y hi hy=>by by_cases e:i=k;(subst e;rw [hx] at hy;cases hy;exact h18);exact hno i y (by omega) hy⟩ (by omega)) ⟨rfl,rfl,rfl,trivial⟩
 ·refine RK.exit rfl ?_
  refine GG ?_
  refine RK.ret_of Tryz.func70 (res1 rfl rfl) ?_ _
  exact ⟨_,rfl,congrArg _ (getL_none fun y hy=>by
    obtain ⟨i,hi⟩:=List.getElem?_of_mem hy
    exact hno i y (by have:=(List.getElem?_eq_some_iff.1 hi).1;omega) hi).symm,rfl⟩
def byName (x y:Lab):Bool:=slt x.name y.name
def sortS (ls:List Lab):List Lab:=isort byName ls
theorem mem_insE {α:Type} {lt:α→α→Bool} {L:List α} {x y:α}:y∈insE lt L x↔y∈L∨y=x:=by
 unfold insE
 have:y∈L↔y∈L.take (pos lt x L)∨y∈L.drop (pos lt x L):=by rw [← List.mem_append,List.take_append_drop]
 rw [this,List.mem_append,List.mem_cons]
 constructor
 ·rintro (h | h | h) <;> simp [h]
 ·rintro ((h | h) | h) <;> simp [h]
theorem mem_isort {α:Type} {lt:α→α→Bool} {xs:List α} {y:α}:y∈isort lt xs↔y∈xs:=by
 have key:∀ (xs L:List α),y∈xs.foldl (insE lt) L↔y∈L∨y∈xs:=by
  intro xs
  induction xs with
  | nil=>intro L;simp
  | cons x xs ih=>
   intro L
   rw [List.foldl_cons,ih,mem_insE,List.mem_cons]
   constructor
   ·rintro ((h | h) | h) <;> simp [h]
   ·rintro (h | h | h) <;> simp [h]
 rw [show isort lt xs=xs.foldl (insE lt) [] from rfl,key]
 simp
theorem pos_splitG {α:Type} {lt:α→α→Bool} {x:α} {L:List α} {j:Nat} (hj:j≤L.length) (hD:∀ y∈L.drop j,lt x y=true) (hA:∀ y,0 < j→L[j - 1]?=some y→lt x y=false):pos lt x L=j:=by
 have h1:L.reverse.takeWhile (lt x)=(L.drop j).reverse:=by
  have e:L.reverse=(L.drop j).reverse ++ (L.take j).reverse:=by rw [← List.reverse_append,List.take_append_drop]
  rw [e,List.takeWhile_append_of_pos (by intro y hy;exact hD y (by simpa using hy))]
  have:(L.take j).reverse.takeWhile (lt x)=[]:=by
   cases hr:(L.take j).reverse with
   | nil=>rfl
   | cons y l=>
    have e2:L.take j=l.reverse ++ [y]:=by have:=congrArg List.reverse hr;simpa using this
    have hjl:j=l.length + 1:=by have:=congrArg List.length e2;simp at this;omega
    have hy:L[j - 1]?=some y:=by
     have h3:(L.take j)[l.length]?=some y:=by rw [e2];simp
     rw [List.getElem?_take_of_lt (by omega)] at h3
     rw [hjl];exact h3
    simp [List.takeWhile,hA y (by omega) hy]
  rw [this,List.append_nil]
 unfold pos
 rw [h1]
 simp;omega
theorem laidF {α:Type} {f:α→List Value} {w:World} {t:TypeId} {sz:Nat} {u:Value} {L:List α} {j:Nat} {x:α} {R:List α} {xc:List Value} (hxc:xc=f x) (hj:j≤L.length) (hI:R=L.take j ++ x :: L.drop j) (h:Row w t sz u (0 + j + 1 + (L.length - j)) (([] ++ (L.take j).flatMap f) ++ xc ++ (L.drop j).flatMap f)):Row w t sz u R.length (R.flatMap f):=by
 subst hI
 subst hxc
 have e1:([] ++ (L.take j).flatMap f) ++ f x ++ (L.drop j).flatMap f=(L.take j ++ x :: L.drop j).flatMap f:=by simp
 have e2:0 + j + 1 + (L.length - j)=(L.take j ++ x :: L.drop j).length:=by simp;omega
 rw [e1,e2] at h
 exact h
theorem makeSet_ok (M : Nat → Prop) (xs : List Lab) (hsz : ∀ x ∈ xs, x.name.size ≤ 9223372036854775807) (v : Value) (w : World) (hv : SlL M w v xs) (hb : xs.length ≤ 1000000000000) :
    Fx Tryz.prog 71 [v] w (fun u w'=>(∃ v',u=.tuple #[v',.bool (isS (sortS xs))]∧(isS (sortS xs)=true→Row w' 38 2 v' (sortS xs).length ((sortS xs).flatMap labC)∧Fresh w.heap.size v'))∧Grow w w'):=by
  obtain ⟨ad,c,rfl⟩:=hv.shape
  refine enter Tryz.func71 rfl rfl rfl _ (Pick.sub (l:=[0]) (.cons rfl .nil)) ?_
  refine RK.seq ?_
  refine RK.region ?_
  iterate 2 refine RL.p rfl rfl ?_
  refine RL.done ?_
  refine RK.seq ?_
  refine RK.region ?_
  refine RL.p rfl rfl ?_
  refine RL.done ?_
  iterate 2 refine RK.seq ?_
  refine RK.region ?_
  refine RL.p rfl rfl ?_
  refine RL.done ?_
  refine RK.block ?_
  refine RK.loop (fun s:Nat×Value=>[(0,.slice ad xs.length c),(4,s.2),(5,.int .i64 (s.1:Int))]) (fun s w'=>Row w' 38 2 s.2 (sortS (xs.take s.1)).length ((sortS (xs.take s.1)).flatMap labC)∧Fresh w.heap.size s.2∧Grow w w'∧s.1≤xs.length) (fun s=>xs.length - s.1) (0,.slice none 0 0) ⟨rfl,rfl,rfl,trivial⟩ ⟨by simpa [sortS,isort] using Row.nil _ _ _,fun b hb=>by simp [Value.ownBlock] at hb,Mod.refl _ _,by simp⟩ (fun s w' hI ih=>?_)
  obtain ⟨i,u⟩:=s
  obtain ⟨hr,hfr,hg,hi⟩:=hI
  simp only at hr hfr hi
  iterate 2 refine RK.seq ?_
  refine RK.region ?_
  iterate 2 refine RL.p rfl rfl ?_
  refine RL.q (.free rfl) rfl rfl (Yld.lenSl u39 rfl) ?_
  refine RL.p rfl rfl ?_
  refine RL.done ?_
  first | refine RK.condD rfl (fun h10=>?_) (fun h10=>?_) | refine RK.condN rfl (fun h10=>?_) (fun h10=>?_) | refine RK.cond rfl (fun h10=>?_) (fun h10=>?_)
  · obtain ⟨x,hx⟩:∃ x,xs[i]?=some x:=⟨xs[i]'(by omega),List.getElem?_eq_getElem (by omega)⟩
    have htk:xs.take (i + 1)=xs.take i ++ [x]:=by rw [List.take_succ_eq_append_getElem (by omega)];congr 2;exact (List.getElem?_eq_some_iff.1 hx).2
    obtain ⟨b1,o1,c1',he1,_,_,hc1⟩:=hv.elem labC_len hx
    cases he1
    have hLle:(sortS (xs.take i)).length≤i:=by unfold sortS;rw [isort_len];simp;omega
    generalize hLe:sortS (xs.take i)=L at *
    obtain ⟨adu,cu,rfl,hcu⟩:=hr.cap
    have hsu:Sl No w' (.slice adu L.length cu) 2 L.length (L.flatMap labC):=Sl.own hr (fun _ _ h=>h)
    refine RK.skip ?_
    refine RK.seq ?_
    refine RK.block ?_
    refine RK.seq ?_
    refine RK.region ?_
    refine RL.p rfl rfl ?_
    refine RL.q (.free rfl) rfl rfl (Yld.lenSl u39 rfl) ?_
    refine RL.p rfl rfl ?_
    refine RL.done ?_
    refine RK.seq ?_
    refine RK.block ?_
    refine RK.loop (fun j:Nat=>[(0,.slice (some ⟨b1,o1,none⟩) xs.length c),(4,.slice adu L.length cu),(5,.int .i64 (i:Int)),(6,.int .i64 (j:Int))]) (fun j w2=>Grow w' w2∧j≤L.length∧∀ y∈L.drop j,byName x y=true) (fun j=>j) L.length ⟨rfl,rfl,rfl,rfl,trivial⟩ ⟨Mod.refl _ _,Nat.le_refl _,by simp⟩ (fun j w2 hI2 ih2=>?_)
    obtain ⟨hg2,hj,hD⟩:=hI2
    have hin:∀ w3,Grow w' w3→∀ q z,(labC x)[q]?=some z→w3.cell? ⟨b1,o1 + i * 2 + q,none⟩=some z:=fun w3 h3 q z hq=>(hg.trans h3).cell (hc1 q z hq) (fun h=>h)
    have hhi:∀ w3,Grow w' w3→Sl No w3 (.slice adu j cu) 2 j ((L.take j).flatMap labC):=fun w3 h3=>(hsu.mod h3).takeF labC_len hj
    have hlo:∀ w3,Grow w' w3→Sl No w3 (.slice (fromAt adu cu j 2) (L.length - j) (cu - j)) 2 (L.length - j) ((L.drop j).flatMap labC):=fun w3 h3=>(hsu.mod h3).fromF labC_len hj hcu
    iterate 2 refine RK.seq ?_
    refine RK.drawM No [(0,false),(1,false),(2,false),(3,false),(4,false),(5,false),(6,false),(7,false),(8,false),(9,false),(10,false),(11,false),(12,false),(13,false),(14,false),(15,false)] [] mixed (by kernel_rfl) ?_
    iterate 3 refine DL.p rfl rfl rfl ?_
    first | refine DL.splitD (d:=17) rfl rfl (fun h17=>?_) (fun h17=>?_) | refine DL.splitN (d:=17) rfl rfl (fun h17=>?_) (fun h17=>?_) | refine DL.split (d:=17) rfl rfl (fun h17=>?_) (fun h17=>?_)
    · obtain ⟨y,hy⟩:∃ y,L[j - 1]?=some y:=⟨L[j - 1]'(by omega),List.getElem?_eq_getElem (by omega)⟩
      obtain ⟨b2,o2,c2',he2,_,_,hc2⟩:=hsu.elem labC_len hy
      cases he2
      iterate 2 refine DL.qf rfl (.yes rfl rfl rfl) rfl rfl (Yld.pure rfl) ?_
      refine DL.qf rfl (.yes rfl rfl rfl) rfl rfl (Yld.indexAddrN u39 i38 rfl rfl (by omega)) ?_
      refine DL.qf rfl (.yes rfl rfl rfl) rfl rfl (Yld.fieldAddr fo38_0 rfl) ?_
      refine DL.q rfl (.yes rfl rfl rfl) rfl rfl rfl (Yld.load p9 rfl (atM (hin _ hg2 0 _ rfl) (fun h=>h))) (Mod.drew _ _) ?_
      iterate 3 refine DL.qf rfl (.yes rfl rfl rfl) rfl rfl (Yld.pure rfl) ?_
      refine DL.re (d:=25) rfl rfl (sub_i64 (z:=((j - 1:Nat):Int)) (by omega) (by omega) (by omega)) ?_
      refine DL.qf rfl (.yes rfl rfl rfl) rfl rfl (Yld.indexAddrN u39 i38 rfl rfl (by omega)) ?_
      refine DL.qf rfl (.yes rfl rfl rfl) rfl rfl (Yld.fieldAddr fo38_0 rfl) ?_
      refine DL.q rfl (.yes rfl rfl rfl) rfl rfl rfl (Yld.load p9 rfl (atM (hg2.cell (hc2 0 _ rfl) (fun h=>h)) (fun h=>h))) (Mod.drew _ _) ?_
      refine DL.qf rfl (.yes rfl rfl rfl) rfl rfl (Yld.pure rfl) ?_
      refine DL.p rfl rfl rfl ?_
      refine DL.done ?_
      first | refine RK.condD rfl (fun h30=>?_) (fun h30=>?_) | refine RK.condN rfl (fun h30=>?_) (fun h30=>?_) | refine RK.cond rfl (fun h30=>?_) (fun h30=>?_)
      · refine RK.skip ?_
        refine RK.block ?_
        refine RK.region ?_
        iterate 2 refine RL.p rfl rfl ?_
        refine RL.re (d:=32) rfl rfl (sub_i64 (z:=((j - 1:Nat):Int)) (by omega) (by omega) (by omega)) ?_
        refine RL.p rfl rfl ?_
        refine RL.done ?_
        refine RK.inBlock ?_
        exact RK.back (ih2 (j - 1) _ ⟨hg2.trans (Mod.drew _ _), by omega, fun z hz => by
            rw [show L.drop (j - 1)=y :: L.drop j by rw [List.drop_eq_getElem_cons (by omega:j - 1 < L.length),show j - 1 + 1=j by omega,(List.getElem?_eq_some_iff.1 hy).2]] at hz
            rcases List.mem_cons.1 hz with rfl | hz
            · exact h30
            · exact hD z hz
          ⟩ (by omega)) ⟨rfl,rfl,rfl,rfl,trivial⟩
      · have hpos:pos byName x L=j:=pos_splitG hj hD (fun z _ hz=>by rw [hy] at hz;cases hz;simpa [byName] using h30)
        have hI:sortS (xs.take (i + 1))=L.take j ++ x :: L.drop j:=by rw [htk];unfold sortS;rw [isort_snoc];unfold sortS at hLe;rw [hLe,insE,hpos]
        obtain ⟨w9,hw9⟩:∃ w9,w9=w2.drew:=⟨_,rfl⟩
        rw [← hw9]
        have hgr:Grow w' w9:=hw9 ▸ (hg2.trans (Mod.drew _ _))
        have hgd:Grow w' w9.drew:=hgr.trans (Mod.drew _ _)
        refine RK.exit rfl ?_
        refine RK.drawF No [(0,false),(1,false),(2,false),(4,false),(5,false),(6,false),(7,false),(10,false),(11,false),(12,false)] 3 8 [(8,true),(9,true),(13,true),(14,false)] [(3,true),(9,true),(13,true),(14,false)] [] mixed (by kernel_rfl) ?_
        iterate 2 refine DL.p rfl rfl rfl ?_
        refine DL.qf rfl (.free rfl) rfl rfl (Yld.sliceHi u39 i38 (m:=j) rfl rfl (by omega)) ?_
        iterate 2 refine DL.p rfl rfl rfl ?_
        refine DL.qf rfl (.free rfl) rfl rfl (Yld.indexAddrN u39 i38 rfl rfl (by omega)) ?_
        refine DL.q rfl (.free rfl) rfl rfl rfl (Yld.loadN (cs:=[.string x.name,.string x.value]) a38 rfl (atNM (hin _ hgr) (fun h=>h))) (Mod.drew _ _) ?_
        iterate 2 refine DL.p rfl rfl rfl ?_
        refine DL.qf rfl (.free rfl) rfl rfl (Yld.sliceFrom u39 i38 (m:=j) rfl rfl hj) ?_
        refine DL.fork ?_ ?_
        · refine DL.op rfl (.free rfl) rfl rfl (Does.append u39 i38 rfl rfl rfl rfl rfl (Row.nil _ _ _) (hhi _ hgd) (allOne_labs _) (by omega)) ?_
          rintro u1 v1 ⟨hr1,hm1,hu1⟩
          have hg1:Grow w9.drew v1:=hm1.mono (fun b _ e=>by simp [Value.ownBlock] at e)
          refine ⟨(Mod.drew _ _).trans hg1,?_⟩
          refine DL.op rfl (.free rfl) rfl rfl (Does.slice1 u39 i38 rfl rfl rfl rfl rfl) ?_
          rintro _ v2 ⟨b2,rfl,hn2⟩
          refine ⟨((Mod.drew _ _).trans hg1).trans hn2.grow,?_⟩
          refine DL.op rfl (.free rfl) rfl rfl (Does.append u39 i38 rfl rfl rfl rfl rfl (hr1.mod hn2.grow (fun _ _ h=>h)) (Sl.new hn2 2 1 rfl (by omega) (fun h=>h)) (rfl) (by omega)) ?_
          rintro u3 v3 ⟨hr3,hm3,hu3⟩
          have hf1 : Fresh w9.drew.heap.size u1 := fun b e => by
              rcases hu1 with h | h <;> rw [h] at e
              · simp [Value.ownBlock] at e
              · cases e;omega
          have hf3 : Fresh w9.drew.heap.size u3 := fun b e => by
              have h1:=hg1.size;have h2:=hn2.size
              rcases hu3 with h | h <;> rw [h] at e
              · exact hf1 b e
              · cases e;omega
          have hg13:Grow w9.drew v3:=(hg1.trans hn2.grow).then hm3 (fun b hb e=>by have:=hf1 b e;omega)
          refine ⟨(Mod.drew _ _).trans hg13,?_⟩
          refine DL.op rfl (.free rfl) rfl rfl (Does.append u39 i38 rfl rfl rfl rfl rfl (hr3) (hlo _ (hgd.trans hg13)) (allOne_labs _) (by omega)) ?_
          rintro u4 v4 ⟨hr4,hm4,hu4⟩
          have hg14:Grow w9.drew v4:=hg13.then hm4 (fun b hb e=>by have:=hf3 b e;omega)
          have hf4 : Fresh w.heap.size u4 := fun b e => by
              have h1:=hg13.size;have h2:=(hg.trans hgd).size
              rcases hu4 with h | h <;> rw [h] at e
              · have:=hf3 b e;omega
              · cases e;omega
          refine ⟨(Mod.drew _ _).trans hg14,?_⟩
          refine DL.p rfl rfl rfl ?_
          refine DL.done ?_
          refine RK.inBlock ?_
          refine RK.region ?_
          iterate 2 refine RL.p rfl rfl ?_
          refine RL.re (d:=12) rfl rfl (succ_i64 (by have:=hv.big;omega)) ?_
          refine RL.p rfl rfl ?_
          refine RL.done ?_
          exact RK.back (ih (i + 1,u4) _ ⟨laidF (x:=x) rfl hj hI hr4,hf4,(hg.trans hgd).trans hg14,by simp only;omega⟩ (by simp only;omega)) ⟨rfl,rfl,rfl,trivial⟩
        · refine DL.op rfl (.free rfl) rfl rfl (Does.slice1 u39 i38 rfl rfl rfl rfl rfl) ?_
          rintro _ v2 ⟨b2,rfl,hn2⟩
          refine ⟨(Mod.drew _ _).trans hn2.grow,?_⟩
          refine DL.op rfl (.free rfl) rfl rfl (Does.append u39 i38 rfl rfl rfl rfl rfl (Row.nil _ _ _) (hhi _ (hgd.trans hn2.grow)) (allOne_labs _) (by omega)) ?_
          rintro u1 v1 ⟨hr1,hm1,hu1⟩
          have hg1' : Grow v2 v1:=hm1.mono (fun b _ e=>by simp [Value.ownBlock] at e)
          have hg1:Grow w9.drew v1:=hn2.grow.trans hg1'
          refine ⟨(Mod.drew _ _).trans hg1,?_⟩
          refine DL.op rfl (.free rfl) rfl rfl (Does.append u39 i38 rfl rfl rfl rfl rfl (hr1) ((Sl.new hn2 2 1 rfl (by omega) (fun h=>h)).mod hg1') (rfl) (by omega)) ?_
          rintro u3 v3 ⟨hr3,hm3,hu3⟩
          have hf1 : Fresh w9.drew.heap.size u1 := fun b e => by
              have h2:=hn2.size
              rcases hu1 with h | h <;> rw [h] at e
              · simp [Value.ownBlock] at e
              · cases e;omega
          have hf3 : Fresh w9.drew.heap.size u3 := fun b e => by
              have h1:=hg1.size
              rcases hu3 with h | h <;> rw [h] at e
              · exact hf1 b e
              · cases e;omega
          have hg13:Grow w9.drew v3:=hg1.then hm3 (fun b hb e=>by have:=hf1 b e;omega)
          refine ⟨(Mod.drew _ _).trans hg13,?_⟩
          refine DL.op rfl (.free rfl) rfl rfl (Does.append u39 i38 rfl rfl rfl rfl rfl (hr3) (hlo _ (hgd.trans hg13)) (allOne_labs _) (by omega)) ?_
          rintro u4 v4 ⟨hr4,hm4,hu4⟩
          have hg14:Grow w9.drew v4:=hg13.then hm4 (fun b hb e=>by have:=hf3 b e;omega)
          have hf4 : Fresh w.heap.size u4 := fun b e => by
              have h1:=hg13.size;have h2:=(hg.trans hgd).size
              rcases hu4 with h | h <;> rw [h] at e
              · have:=hf3 b e;omega
              · cases e;omega
          refine ⟨(Mod.drew _ _).trans hg14,?_⟩
          refine DL.p rfl rfl rfl ?_
          refine DL.done ?_
          refine RK.inBlock ?_
          refine RK.region ?_
          iterate 2 refine RL.p rfl rfl ?_
          refine RL.re (d:=12) rfl rfl (succ_i64 (by have:=hv.big;omega)) ?_
          refine RL.p rfl rfl ?_
          refine RL.done ?_
          exact RK.back (ih (i + 1,u4) _ ⟨laidF (x:=x) rfl hj hI hr4,hf4,(hg.trans hgd).trans hg14,by simp only;omega⟩ (by simp only;omega)) ⟨rfl,rfl,rfl,trivial⟩
    · have hj0:j=0:=by omega
      have hpos:pos byName x L=j:=pos_splitG hj hD (fun z h0 _=>by omega)
      have hI:sortS (xs.take (i + 1))=L.take j ++ x :: L.drop j:=by rw [htk];unfold sortS;rw [isort_snoc];unfold sortS at hLe;rw [hLe,insE,hpos]
      obtain ⟨w9,hw9⟩:∃ w9,w9=w2.drew:=⟨_,rfl⟩
      rw [← hw9]
      have hgr:Grow w' w9:=hw9 ▸ (hg2.trans (Mod.drew _ _))
      have hgd:Grow w' w9.drew:=hgr.trans (Mod.drew _ _)
      iterate 12 refine DL.no rfl (.no rfl rfl rfl rfl) rfl rfl ?_
      refine DL.p rfl rfl rfl ?_
      refine DL.done ?_
      refine RK.condF rfl ?_
      refine RK.exit rfl ?_
      refine RK.drawF No [(0,false),(1,false),(2,false),(4,false),(5,false),(6,false),(7,false),(10,false),(11,false),(12,false)] 3 8 [(8,true),(9,true),(13,true),(14,false)] [(3,true),(9,true),(13,true),(14,false)] [] mixed (by kernel_rfl) ?_
      iterate 2 refine DL.p rfl rfl rfl ?_
      refine DL.qf rfl (.free rfl) rfl rfl (Yld.sliceHi u39 i38 (m:=j) rfl rfl (by omega)) ?_
      iterate 2 refine DL.p rfl rfl rfl ?_
      refine DL.qf rfl (.free rfl) rfl rfl (Yld.indexAddrN u39 i38 rfl rfl (by omega)) ?_
      refine DL.q rfl (.free rfl) rfl rfl rfl (Yld.loadN (cs:=[.string x.name,.string x.value]) a38 rfl (atNM (hin _ hgr) (fun h=>h))) (Mod.drew _ _) ?_
      iterate 2 refine DL.p rfl rfl rfl ?_
      refine DL.qf rfl (.free rfl) rfl rfl (Yld.sliceFrom u39 i38 (m:=j) rfl rfl hj) ?_
      refine DL.fork ?_ ?_
      · refine DL.op rfl (.free rfl) rfl rfl (Does.append u39 i38 rfl rfl rfl rfl rfl (Row.nil _ _ _) (hhi _ hgd) (allOne_labs _) (by omega)) ?_
        rintro u1 v1 ⟨hr1,hm1,hu1⟩
        have hg1:Grow w9.drew v1:=hm1.mono (fun b _ e=>by simp [Value.ownBlock] at e)
        refine ⟨(Mod.drew _ _).trans hg1,?_⟩
        refine DL.op rfl (.free rfl) rfl rfl (Does.slice1 u39 i38 rfl rfl rfl rfl rfl) ?_
        rintro _ v2 ⟨b2,rfl,hn2⟩
        refine ⟨((Mod.drew _ _).trans hg1).trans hn2.grow,?_⟩
        refine DL.op rfl (.free rfl) rfl rfl (Does.append u39 i38 rfl rfl rfl rfl rfl (hr1.mod hn2.grow (fun _ _ h=>h)) (Sl.new hn2 2 1 rfl (by omega) (fun h=>h)) (rfl) (by omega)) ?_
        rintro u3 v3 ⟨hr3,hm3,hu3⟩
        have hf1 : Fresh w9.drew.heap.size u1 := fun b e => by
            rcases hu1 with h | h <;> rw [h] at e
            · simp [Value.ownBlock] at e
            · cases e;omega
        have hf3 : Fresh w9.drew.heap.size u3 := fun b e => by
            have h1:=hg1.size;have h2:=hn2.size
            rcases hu3 with h | h <;> rw [h] at e
            · exact hf1 b e
            · cases e;omega
        have hg13:Grow w9.drew v3:=(hg1.trans hn2.grow).then hm3 (fun b hb e=>by have:=hf1 b e;omega)
        refine ⟨(Mod.drew _ _).trans hg13,?_⟩
        refine DL.op rfl (.free rfl) rfl rfl (Does.append u39 i38 rfl rfl rfl rfl rfl (hr3) (hlo _ (hgd.trans hg13)) (allOne_labs _) (by omega)) ?_
        rintro u4 v4 ⟨hr4,hm4,hu4⟩
        have hg14:Grow w9.drew v4:=hg13.then hm4 (fun b hb e=>by have:=hf3 b e;omega)
        have hf4 : Fresh w.heap.size u4 := fun b e => by
            have h1:=hg13.size;have h2:=(hg.trans hgd).size
            rcases hu4 with h | h <;> rw [h] at e
            · have:=hf3 b e;omega
            · cases e;omega
        refine ⟨(Mod.drew _ _).trans hg14,?_⟩
        refine DL.p rfl rfl rfl ?_
        refine DL.done ?_
        refine RK.inBlock ?_
        refine RK.region ?_
        iterate 2 refine RL.p rfl rfl ?_
        refine RL.re (d:=12) rfl rfl (succ_i64 (by have:=hv.big;omega)) ?_
        refine RL.p rfl rfl ?_
        refine RL.done ?_
        exact RK.back (ih (i + 1,u4) _ ⟨laidF (x:=x) rfl hj hI hr4,hf4,(hg.trans hgd).trans hg14,by simp only;omega⟩ (by simp only;omega)) ⟨rfl,rfl,rfl,trivial⟩
      · refine DL.op rfl (.free rfl) rfl rfl (Does.slice1 u39 i38 rfl rfl rfl rfl rfl) ?_
        rintro _ v2 ⟨b2,rfl,hn2⟩
        refine ⟨(Mod.drew _ _).trans hn2.grow,?_⟩
        refine DL.op rfl (.free rfl) rfl rfl (Does.append u39 i38 rfl rfl rfl rfl rfl (Row.nil _ _ _) (hhi _ (hgd.trans hn2.grow)) (allOne_labs _) (by omega)) ?_
        rintro u1 v1 ⟨hr1,hm1,hu1⟩
        have hg1' : Grow v2 v1:=hm1.mono (fun b _ e=>by simp [Value.ownBlock] at e)
        have hg1:Grow w9.drew v1:=hn2.grow.trans hg1'
        refine ⟨(Mod.drew _ _).trans hg1,?_⟩
        refine DL.op rfl (.free rfl) rfl rfl (Does.append u39 i38 rfl rfl rfl rfl rfl (hr1) ((Sl.new hn2 2 1 rfl (by omega) (fun h=>h)).mod hg1') (rfl) (by omega)) ?_
        rintro u3 v3 ⟨hr3,hm3,hu3⟩
        have hf1 : Fresh w9.drew.heap.size u1 := fun b e => by
            have h2:=hn2.size
            rcases hu1 with h | h <;> rw [h] at e
            · simp [Value.ownBlock] at e
            · cases e;omega
        have hf3 : Fresh w9.drew.heap.size u3 := fun b e => by
            have h1:=hg1.size
            rcases hu3 with h | h <;> rw [h] at e
            · exact hf1 b e
            · cases e;omega
        have hg13:Grow w9.drew v3:=hg1.then hm3 (fun b hb e=>by have:=hf1 b e;omega)
        refine ⟨(Mod.drew _ _).trans hg13,?_⟩
        refine DL.op rfl (.free rfl) rfl rfl (Does.append u39 i38 rfl rfl rfl rfl rfl (hr3) (hlo _ (hgd.trans hg13)) (allOne_labs _) (by omega)) ?_
        rintro u4 v4 ⟨hr4,hm4,hu4⟩
        have hg14:Grow w9.drew v4:=hg13.then hm4 (fun b hb e=>by have:=hf3 b e;omega)
        have hf4 : Fresh w.heap.size u4 := fun b e => by
            have h1:=hg13.size;have h2:=(hg.trans hgd).size
            rcases hu4 with h | h <;> rw [h] at e
            · have:=hf3 b e;omega
            · cases e;omega
        refine ⟨(Mod.drew _ _).trans hg14,?_⟩
        refine DL.p rfl rfl rfl ?_
        refine DL.done ?_
        refine RK.inBlock ?_
        refine RK.region ?_
        iterate 2 refine RL.p rfl rfl ?_
        refine RL.re (d:=12) rfl rfl (succ_i64 (by have:=hv.big;omega)) ?_
        refine RL.p rfl rfl ?_
        refine RL.done ?_
        exact RK.back (ih (i + 1,u4) _ ⟨laidF (x:=x) rfl hj hI hr4,hf4,(hg.trans hgd).trans hg14,by simp only;omega⟩ (by simp only;omega)) ⟨rfl,rfl,rfl,trivial⟩
  · have ek:xs.take i=xs:=List.take_of_length_le (by omega)
    rw [ek] at hr
    obtain ⟨ad9,c9,rfl⟩:=hr.slice
    refine RK.exit rfl ?_
    iterate 2 refine RK.seq ?_
    refine RK.region ?_
    refine RL.p rfl rfl ?_
    refine RL.op (.free rfl) rfl rfl (Does.call rfl e116 (isSet_ok No (sortS xs) (fun x hx=>hsz x (mem_isort.1 hx)) _ _ (Sl.own hr (fun _ _ h=>h)))) ?_
    rintro _ w5 ⟨rfl,hg5⟩
    refine RL.p rfl rfl ?_
    refine RL.done ?_
    first | refine RK.condD rfl (fun h49=>?_) (fun h49=>?_) | refine RK.condN rfl (fun h49=>?_) (fun h49=>?_) | refine RK.cond rfl (fun h49=>?_) (fun h49=>?_)
    · have his:isS (sortS xs)=false:=by simpa using h49
      refine RK.seq ?_
      refine RK.region ?_
      iterate 2 refine RL.p rfl rfl ?_
      refine RL.done ?_
      refine RK.ret_of Tryz.func71 (res2 rfl rfl rfl) ?_ _
      exact ⟨_,rfl,⟨_,by rw [his],fun h=>by rw [his] at h;cases h⟩,hg.trans hg5⟩
    · have his:isS (sortS xs)=true:=by simpa using h49
      refine RK.skip ?_
      refine RK.seq ?_
      refine RK.region ?_
      iterate 3 refine RL.p rfl rfl ?_
      refine RL.done ?_
      refine RK.ret_of Tryz.func71 (res2 rfl rfl rfl) ?_ _
      exact ⟨_,rfl,⟨_,by rw [his],fun _=>⟨hr.mod hg5 (fun _ _ h=>h),hfr⟩⟩,hg.trans hg5⟩
def labOf (n:Int):Lab:=⟨nmS (withinS n 0 4),vlS (withinS (n.tdiv 5) 0 6)⟩
def labStep (out:List Lab) (n:Int):List Lab:=if getL out (labOf n).name=ByteArray.empty then out ++ [labOf n] else out
def sevA:Lab:=⟨⟨#[115,101,118]⟩,⟨#[97]⟩⟩
def rawS (l:List Int):List Lab:=(l.take 5).foldl labStep []
def rawS' (l:List Int):List Lab:=if rawS l=[] then [sevA] else rawS l
def labelsS (l:List Int):List Lab:=sortS (rawS' l)
theorem nmL_ok:∀ s∈nmL,nameS s=true∧s≠ByteArray.empty∧s.size≤12:=by
 intro s hs
 simp only [nmL,List.mem_cons,List.not_mem_nil,or_false] at hs
 rcases hs with rfl | rfl | rfl | rfl | rfl <;> exact ⟨by kernel_rfl,by decide,by decide⟩
theorem vlL_ok:∀ s∈vlL,valS s=true∧s≠ByteArray.empty:=by
 intro s hs
 simp only [vlL,List.mem_cons,List.not_mem_nil,or_false] at hs
 rcases hs with rfl | rfl | rfl | rfl | rfl | rfl | rfl <;> exact ⟨by kernel_rfl,by decide⟩
structure Raw (ls:List Lab):Prop where
 nd:(ls.map (·.name)).Nodup
 nm:∀ x∈ls,x.name∈nmL
 vl:∀ x∈ls,x.value∈vlL
theorem labOf_ok (n:Int):(labOf n).name∈nmL∧(labOf n).value∈vlL:=⟨nm_mem _,vl_mem _⟩
theorem getL_empty {ls:List Lab} (h:Raw ls) {nm:ByteArray} (he:getL ls nm=ByteArray.empty):nm∉ls.map (·.name):=by
 intro hm
 obtain ⟨x,hx,rfl⟩:=List.mem_map.1 hm
 unfold getL at he
 cases hf:ls.find? (fun y=>decide (y.name=x.name)) with
 | none=>have:=List.find?_eq_none.1 hf x hx;simp at this
 | some y=>
  rw [hf] at he
  have hy:=List.mem_of_find?_eq_some hf
  exact (vlL_ok _ (h.vl y hy)).2 he
theorem Raw.step {ls:List Lab} (h:Raw ls) (n:Int):Raw (labStep ls n):=by
 unfold labStep
 split
 ·rename_i he
  have hn:=getL_empty h he
  refine ⟨?_,fun x hx=>?_,fun x hx=>?_⟩
  ·rw [List.map_append,List.nodup_append]
   exact ⟨h.nd,by simp,fun a ha b hb e=>hn (by simp at hb;subst hb;exact e ▸ ha)⟩
  ·rcases List.mem_append.1 hx with h1 | h1
   ·exact h.nm x h1
   ·simp at h1;subst h1;exact (labOf_ok n).1
  ·rcases List.mem_append.1 hx with h1 | h1
   ·exact h.vl x h1
   ·simp at h1;subst h1;exact (labOf_ok n).2
 ·exact h
theorem Raw.nil:Raw []:=⟨by simp,by simp,by simp⟩
theorem raw_fold:∀ (l:List Int) (ls:List Lab),Raw ls→Raw (l.foldl labStep ls)
 | [],ls,h=>h
 | n :: l,ls,h=>raw_fold l _ (h.step n)
theorem labStep_len (ls:List Lab) (n:Int):(labStep ls n).length≤ls.length + 1:=by unfold labStep;split <;> simp
theorem fold_len:∀ (l:List Int) (ls:List Lab),(l.foldl labStep ls).length≤ls.length + l.length
 | [],ls=>by simp
 | n :: l,ls=>by have h1:=fold_len l (labStep ls n);have h2:=labStep_len ls n;simp only [List.foldl_cons,List.length_cons];omega
theorem raw_ok (l:List Int):Raw (rawS' l)∧1≤(rawS' l).length∧(rawS' l).length≤5:=by
 unfold rawS'
 split
 ·exact ⟨⟨by simp,by simp [sevA,nmL],by simp [sevA,vlL]⟩,by simp,by simp⟩
 ·rename_i h
  have:=fold_len (l.take 5) []
  refine ⟨raw_fold _ _ Raw.nil,by cases hr:rawS l with | nil=>exact absurd hr h | cons=>simp,?_⟩
  simp only [List.length_nil,List.length_take] at this
  unfold rawS
  omega
theorem insE_sorted {ls:List Lab} {x:Lab} (h:ls.Pairwise fun a b=>slt a.name b.name=true) (hx:x.name∉ls.map (·.name)):(insE byName ls x).Pairwise fun a b=>slt a.name b.name=true:=by
 obtain ⟨A,D,rfl,hD,hA⟩:∃ A D,ls=A ++ D∧(∀ y∈D,byName x y=true)∧(∀ A' y,A=A' ++ [y]→byName x y=false):=by
  refine ⟨(ls.reverse.dropWhile (byName x)).reverse,(ls.reverse.takeWhile (byName x)).reverse,?_,?_,?_⟩
  ·rw [← List.reverse_append,List.takeWhile_append_dropWhile,List.reverse_reverse]
  ·intro y hy
   exact List.all_eq_true.1 (List.all_takeWhile (p:=byName x) (l:=ls.reverse)) y (by simpa using hy)
  ·intro A' y h
   have h2:ls.reverse.dropWhile (byName x)=y :: A'.reverse:=by have:=congrArg List.reverse h;simpa using this
   have:=List.head_dropWhile_not (byName x) (l:=ls.reverse) (by rw [h2];simp)
   simpa [h2] using this
 rw [insE_split hD hA]
 obtain ⟨h1,h2,h3⟩:=List.pairwise_append.1 h
 refine List.pairwise_append.2 ⟨h1,List.pairwise_cons.2 ⟨hD,h2⟩,fun a ha b hb=>?_⟩
 rcases List.mem_cons.1 hb with rfl | hb
 ·rcases List.eq_nil_or_concat A with rfl | ⟨A',y,rfl⟩
  ·simp at ha
  ·rw [List.concat_eq_append] at *
   have hyx:slt b.name y.name=false:=hA A' y rfl
   have hne:b.name≠y.name:=fun e=>hx (List.mem_map.2 ⟨y,by simp,e.symm⟩)
   have hlt:=slt_total hyx hne
   rcases List.mem_append.1 ha with ha | ha
   ·exact slt_trans ((List.pairwise_append.1 h1).2.2 a ha y (by simp)) hlt
   ·simp at ha;subst ha;exact hlt
 ·exact h3 a ha b hb
theorem sortS_sorted (ls:List Lab) (h:(ls.map (·.name)).Nodup):(sortS ls).Pairwise fun a b=>slt a.name b.name=true:=by
 have key:∀ (xs L:List Lab),(xs.map (·.name)).Nodup→(∀ x∈xs,x.name∉L.map (·.name))→(L.Pairwise fun a b=>slt a.name b.name=true)→(xs.foldl (insE byName) L).Pairwise fun a b=>slt a.name b.name=true:=by
  intro xs
  induction xs with
  | nil=>intro L _ _ h;exact h
  | cons x xs ih=>
   intro L hn hd hL
   rw [List.map_cons,List.nodup_cons] at hn
   refine ih _ hn.2 (fun y hy hm=>?_) (insE_sorted hL (hd x (by simp)))
   obtain ⟨z,hz,e⟩:=List.mem_map.1 hm
   rcases mem_insE.1 hz with h1 | rfl
   ·exact hd y (by simp [hy]) (List.mem_map.2 ⟨z,h1,e⟩)
   ·exact hn.1 (List.mem_map.2 ⟨y,hy,e.symm⟩)
 exact key ls [] h (by simp) List.Pairwise.nil
theorem isS_of {ls:List Lab} (h1:1≤ls.length) (h2:ls.length≤6) (hs:ls.Pairwise fun a b=>slt a.name b.name=true) (hn:∀ x∈ls,nameS x.name=true) (hv:∀ x∈ls,valS x.value=true):isS ls=true:=by
 refine is_yes h1 h2 fun i hi=>?_
 unfold okAt
 rw [List.getElem?_eq_getElem hi]
 have hm:=List.getElem_mem hi
 simp only [hn _ hm,hv _ hm,Bool.true_and]
 cases i with
 | zero=>rfl
 | succ j=>
  simp only
  rw [List.getElem?_eq_getElem (by omega)]
  exact List.pairwise_iff_getElem.1 hs j (j + 1) (by omega) hi (by omega)
theorem labels_ok (M:Nat→Prop) (xs:List Int) (v:Value) (w:World) (hv:Sl M w v 1 xs.length (ints xs)) (hi64:∀ x∈xs,-9223372036854775808≤x∧x≤9223372036854775807) :
  Fx Tryz.prog 26 [v] w (fun u w'=>∃ ad c,u=.slice ad (labelsS xs).length c∧Row w' 38 2 u (labelsS xs).length ((labelsS xs).flatMap labC)∧Fresh w.heap.size u∧Grow w w'):=by
 obtain ⟨ad,c,rfl⟩:=hv.shape
 have hbig:=hv.big
 refine enter Tryz.func26 rfl rfl rfl _ (Pick.sub (l:=[0]) (.cons rfl .nil)) ?_
 refine GG ?_
 refine RK.loop (fun s:Nat×Value=>[(0,.slice ad xs.length c),(3,s.2),(4,.int .i64 (s.1:Int))]) (fun s w'=>Row w' 38 2 s.2 ((xs.take s.1).foldl labStep []).length (((xs.take s.1).foldl labStep []).flatMap labC)∧Fresh w.heap.size s.2∧Grow w w'∧s.1≤xs.length∧s.1≤5) (fun s=>xs.length - s.1) (0,.slice none 0 0) ⟨rfl,rfl,rfl,trivial⟩ ⟨by simpa using Row.nil _ _ _,fun b hb=>by simp [Value.ownBlock] at hb,Mod.refl _ _,by simp,by simp⟩ (fun s w' hI ih=>?_)
 obtain ⟨i,u⟩:=s
 obtain ⟨hr,hfr,hg,hi,hi5⟩:=hI
 simp only at hr hfr hi hi5
 obtain ⟨adu,cu,rfl⟩:=hr.slice
 have hdone:¬ ((i:Int) < xs.length∧(i:Int) < 5)→(xs.take i).foldl labStep []=rawS xs:=fun h=>by
   unfold rawS
   by_cases h5:i=5
   ·rw [h5]
   ·have:i=xs.length:=by omega
    rw [List.take_of_length_le (by omega),List.take_of_length_le (by omega)]
 have hLle:((xs.take i).foldl labStep []).length≤5:=by have:=fold_len (xs.take i) [];simp at this;omega
 have hfin:∀ (u' : Value) (w5:World) (ls:List Lab),Row w5 38 2 u' ls.length (ls.flatMap labC)→Raw ls→1≤ls.length→ls.length≤5→Fx Tryz.prog 71 [u'] w5 (fun u2 w6=>∃ ad2 c2,u2=.tuple #[.slice ad2 (sortS ls).length c2,.bool true]∧Row w6 38 2 (.slice ad2 (sortS ls).length c2) (sortS ls).length ((sortS ls).flatMap labC)∧Fresh w5.heap.size (.slice ad2 (sortS ls).length c2)∧Grow w5 w6):=fun u' w5 ls h1 h2 h3 h4=>by
   have his:isS (sortS ls)=true:=by
    have hl:(sortS ls).length=ls.length:=isort_len _ _
    exact isS_of (by omega) (by omega) (sortS_sorted _ h2.nd) (fun x hx=>(nmL_ok _ (h2.nm x (mem_isort.1 hx))).1) (fun x hx=>(vlL_ok _ (h2.vl x (mem_isort.1 hx))).1)
   refine Fx.mono (makeSet_ok No ls (fun x hx=>by have:=(nmL_ok _ (h2.nm x hx)).2.2;omega) u' w5 (Sl.own h1 (fun _ _ h=>h)) (by omega)) ?_
   rintro u2 w6 ⟨⟨v',rfl,h5⟩,h6⟩
   obtain ⟨h7,h8⟩:=h5 his
   obtain ⟨ad2,c2,rfl⟩:=h7.slice
   exact ⟨ad2,c2,by rw [his],h7,h8,h6⟩
 refine GG ?_
 refine QQ (Yld.lenSl u35 rfl) ?_
 refine GG ?_
 refine SP 12 (fun h12=>?_) (fun h12=>?_)
 ·iterate 2 refine QQ (Yld.pure rfl) ?_
  refine GG ?_
  refine CD (fun h15=>?_) (fun h15=>?_)
  ·obtain ⟨n,hx⟩:∃ n,xs[i]?=some n:=⟨xs[i]'(by omega),List.getElem?_eq_getElem (by omega)⟩
   have hn64:=hi64 n (List.mem_of_getElem? hx)
   have hstep:(xs.take (i + 1)).foldl labStep []=labStep ((xs.take i).foldl labStep []) n:=by
     rw [List.take_succ_eq_append_getElem (by omega),List.foldl_append,(List.getElem?_eq_some_iff.1 hx).2];rfl
   generalize hL:(xs.take i).foldl labStep []=L at *
   obtain ⟨b1,o1,c1',he1,_,_,hc1⟩:=hv.elem1 (k:=i) (u:=.int .i64 n) (by simp [hx])
   cases he1
   have hq5:n.tdiv 5≤9223372036854775807∧-9223372036854775808≤n.tdiv 5:=by
     have h1:=Int.mul_tdiv_add_tmod n 5
     have h2:=tmod_range n (b:=5) (by omega)
     omega
   refine GG ?_
   refine RK.drawT No (.op 0 false (.op 1 false (.op 2 false (.op 3 false (.op 6 false (.op 7 false (.op 8 false (.op 9 false (.op 10 false (.fork 4 (.fork 5 (.fork 11 (.fork 12 (.op 13 false (.op 14 true (.op 15 true .nil))) 14 (.op 12 true (.op 13 false (.op 15 true .nil)))) 14 (.op 11 true (.op 12 true (.op 13 false (.op 15 true .nil))))) 14 (.op 5 true (.op 11 true (.op 12 true (.op 13 false (.op 15 true .nil)))))) 14 (.op 4 true (.op 5 true (.op 11 true (.op 12 true (.op 13 false (.op 15 true .nil)))))))))))))))) [] mixed (by kernel_rfl) ?_
   iterate 2 refine DT.p rfl rfl rfl ?_
   refine DT.qf rfl (.free rfl) rfl rfl (Yld.indexAddrN u35 i3 rfl rfl (by omega)) ?_
   refine DT.q rfl (.free rfl) rfl rfl rfl (Yld.load p3 rfl (atM (hg.cell (hc1 i (.int .i64 n) (by simp [hx])) (fun h=>h)) (fun h=>h))) (Mod.drew _ _) ?_
   iterate 2 refine DT.p rfl rfl rfl ?_
   refine DT.qf rfl (.free rfl) rfl rfl (Yld.indexAddrN u35 i3 rfl rfl (by omega)) ?_
   refine DT.q rfl (.free rfl) rfl rfl rfl (Yld.load p3 rfl (atM (hg.cell (hc1 i (.int .i64 n) (by simp [hx])) (fun h=>h)) (fun h=>h))) (Mod.drew _ _) ?_
   refine DT.qf rfl (.free rfl) rfl rfl (Yld.quo rfl rfl (by omega)) ?_
   refine DT.re (d:=28) rfl rfl (congrArg (Value.int .i64) (wrap_i64 (x:=n.tdiv 5) hq5.2 hq5.1)) ?_
   refine DT.fork ?_ ?_
   ·refine DT.op rfl (.free rfl) rfl rfl (Does.call rfl e68 (within_ok n 0 4 (by omega) (by omega) (by omega) _)) ?_
    rintro _ _ ⟨rfl,rfl⟩
    refine ⟨Mod.drew _ _,?_⟩
    refine DT.fork ?_ ?_
    ·refine DT.op rfl (.free rfl) rfl rfl (Does.call rfl e67 (nmK_ok _ _)) ?_
     rintro _ _ ⟨rfl,rfl⟩
     refine ⟨Mod.drew _ _,?_⟩
     refine DT.fork ?_ ?_
     ·refine DT.op rfl (.free rfl) rfl rfl (Does.call rfl e68 (within_ok (n.tdiv 5) 0 6 (by omega) (by omega) (by omega) _)) ?_
      rintro _ _ ⟨rfl,rfl⟩
      refine ⟨Mod.drew _ _,?_⟩
      refine DT.fork ?_ ?_
      ·refine DT.op rfl (.free rfl) rfl rfl (Does.call rfl e69 (vlK_ok _ _)) ?_
       rintro _ _ ⟨rfl,rfl⟩
       refine ⟨Mod.drew _ _,?_⟩
       refine DT.qf rfl (.free rfl) rfl rfl (Yld.build (v:=.agg #[.string (labOf n).name,.string (labOf n).value]) rfl (fun w=>by kernel_rfl)) ?_
       refine DT.op rfl (.free rfl) rfl rfl (Does.alloc i38) ?_
       rintro _ w2 ⟨b2,rfl,hn2⟩
       refine ⟨(Mod.drew _ _).trans hn2.grow,?_⟩
       refine DT.op' rfl (.free rfl) rfl (Does.storeN i38 rfl rfl rfl rfl hn2.blk (Nat.le_refl 2)) ?_
       rintro _ w3 ⟨hb3,hm3,_⟩
       have hB3:Blk w3 b2 38 [.string (labOf n).name,.string (labOf n).value]:=hb3
       have hg3:Grow w' w3:=((Mod.drew No _).trans hn2.grow).then hm3 (fun y hy e=>by have e' : y=b2:=e;have:=hn2.at_;simp only [World.drew] at this;omega)
       refine ⟨hg3,?_⟩
       refine DT.done ?_
       refine GG ?_
       refine QQ (Yld.fieldAddr fo38_0 rfl) ?_
       refine QQ (Yld.load p9 rfl (at1 (hB3.cell rfl))) ?_
       refine OP (Does.call rfl e70 (getLabel_ok No L _ _ _ (Sl.own (hr.mod hg3 (fun _ _ h=>h)) (fun _ _ h=>h)))) ?_
       rintro _ _ ⟨rfl,rfl⟩
       refine GG ?_
       refine CD (fun h36=>?_) (fun h36=>?_)
       ·have hst:labStep L n=L ++ [labOf n]:=if_pos h36
        refine GG ?_
        refine QQ (Yld.loadN (cs:=[.string (labOf n).name,.string (labOf n).value]) a38 rfl (atN (fun j u hj=>by rw [Nat.zero_add];exact hB3.cell' hj))) ?_
        refine OP (Does.slice1 u39 i38 rfl rfl rfl rfl rfl) ?_
        rintro _ w4 ⟨b4,rfl,hn4⟩
        refine OP (Does.append u39 i38 rfl rfl rfl rfl rfl ((hr.mod hg3 (fun _ _ h=>h)).mod hn4.grow (fun _ _ h=>h)) (Sl.new hn4 2 1 rfl (by omega) (fun h=>h)) (rfl) (by omega)) ?_
        rintro u5 w5 ⟨hr5,hm5,hu5⟩
        have hs3:=hg3.size
        have hs0:=hg.size
        refine RL.p rfl rfl ?_
        refine RL.done ?_
        refine RK.inBlock ?_
        refine RK.region ?_
        iterate 2 refine RL.p rfl rfl ?_
        refine RL.re (d:=17) rfl rfl (succ_i64 (by omega)) ?_
        refine GG ?_
        exact RK.back (ih (i + 1,u5) _ ⟨by
          simp only
          rw [hstep,hst]
          have e1:(L ++ [labOf n]).flatMap labC=L.flatMap labC ++ (Value.agg #[.string (labOf n).name,.string (labOf n).value]).cells.toList:=by simp [labC,Value.cells]
          rw [e1,List.length_append];exact hr5,fun b e=>by
          rcases hu5 with h1 | h1
          ·exact hfr b (h1 ▸ e)
          ·simp only at e;rw [h1] at e;cases e;have:=hn4.grow.size;omega,((hg.trans hg3).trans hn4.grow).then hm5 (fun b hb e=>by have:=hfr b e;omega),by simp only;omega,by simp only;omega⟩ (by simp only;omega)) ⟨rfl,rfl,rfl,trivial⟩
       ·have hst:labStep L n=L:=if_neg h36
        refine RK.skip ?_
        refine RK.inBlock ?_
        refine RK.region ?_
        iterate 2 refine RL.p rfl rfl ?_
        refine RL.re (d:=17) rfl rfl (succ_i64 (by omega)) ?_
        refine GG ?_
        exact RK.back (ih (i + 1,_) _ ⟨by simp only;rw [hstep,hst];exact hr.mod hg3 (fun _ _ h=>h),hfr,hg.trans hg3,by simp only;omega,by simp only;omega⟩ (by simp only;omega)) ⟨rfl,rfl,rfl,trivial⟩
      ·refine DT.op rfl (.free rfl) rfl rfl (Does.alloc i38) ?_
       rintro _ w2 ⟨b2,rfl,hn2⟩
       refine ⟨(Mod.drew _ _).trans hn2.grow,?_⟩
       refine DT.op rfl (.free rfl) rfl rfl (Does.call rfl e69 (vlK_ok _ _)) ?_
       rintro _ _ ⟨rfl,rfl⟩
       refine ⟨(Mod.drew _ _).trans hn2.grow,?_⟩
       refine DT.qf rfl (.free rfl) rfl rfl (Yld.build (v:=.agg #[.string (labOf n).name,.string (labOf n).value]) rfl (fun w=>by kernel_rfl)) ?_
       refine DT.op' rfl (.free rfl) rfl (Does.storeN i38 rfl rfl rfl rfl hn2.blk (Nat.le_refl 2)) ?_
       rintro _ w3 ⟨hb3,hm3,_⟩
       have hB3:Blk w3 b2 38 [.string (labOf n).name,.string (labOf n).value]:=hb3
       have hg3:Grow w' w3:=((Mod.drew No _).trans hn2.grow).then hm3 (fun y hy e=>by have e' : y=b2:=e;have:=hn2.at_;simp only [World.drew] at this;omega)
       refine ⟨hg3,?_⟩
       refine DT.done ?_
       refine GG ?_
       refine QQ (Yld.fieldAddr fo38_0 rfl) ?_
       refine QQ (Yld.load p9 rfl (at1 (hB3.cell rfl))) ?_
       refine OP (Does.call rfl e70 (getLabel_ok No L _ _ _ (Sl.own (hr.mod hg3 (fun _ _ h=>h)) (fun _ _ h=>h)))) ?_
       rintro _ _ ⟨rfl,rfl⟩
       refine GG ?_
       refine CD (fun h36=>?_) (fun h36=>?_)
       ·have hst:labStep L n=L ++ [labOf n]:=if_pos h36
        refine GG ?_
        refine QQ (Yld.loadN (cs:=[.string (labOf n).name,.string (labOf n).value]) a38 rfl (atN (fun j u hj=>by rw [Nat.zero_add];exact hB3.cell' hj))) ?_
        refine OP (Does.slice1 u39 i38 rfl rfl rfl rfl rfl) ?_
        rintro _ w4 ⟨b4,rfl,hn4⟩
        refine OP (Does.append u39 i38 rfl rfl rfl rfl rfl ((hr.mod hg3 (fun _ _ h=>h)).mod hn4.grow (fun _ _ h=>h)) (Sl.new hn4 2 1 rfl (by omega) (fun h=>h)) (rfl) (by omega)) ?_
        rintro u5 w5 ⟨hr5,hm5,hu5⟩
        have hs3:=hg3.size
        have hs0:=hg.size
        refine RL.p rfl rfl ?_
        refine RL.done ?_
        refine RK.inBlock ?_
        refine RK.region ?_
        iterate 2 refine RL.p rfl rfl ?_
        refine RL.re (d:=17) rfl rfl (succ_i64 (by omega)) ?_
        refine GG ?_
        exact RK.back (ih (i + 1,u5) _ ⟨by
          simp only
          rw [hstep,hst]
          have e1:(L ++ [labOf n]).flatMap labC=L.flatMap labC ++ (Value.agg #[.string (labOf n).name,.string (labOf n).value]).cells.toList:=by simp [labC,Value.cells]
          rw [e1,List.length_append];exact hr5,fun b e=>by
          rcases hu5 with h1 | h1
          ·exact hfr b (h1 ▸ e)
          ·simp only at e;rw [h1] at e;cases e;have:=hn4.grow.size;omega,((hg.trans hg3).trans hn4.grow).then hm5 (fun b hb e=>by have:=hfr b e;omega),by simp only;omega,by simp only;omega⟩ (by simp only;omega)) ⟨rfl,rfl,rfl,trivial⟩
       ·have hst:labStep L n=L:=if_neg h36
        refine RK.skip ?_
        refine RK.inBlock ?_
        refine RK.region ?_
        iterate 2 refine RL.p rfl rfl ?_
        refine RL.re (d:=17) rfl rfl (succ_i64 (by omega)) ?_
        refine GG ?_
        exact RK.back (ih (i + 1,_) _ ⟨by simp only;rw [hstep,hst];exact hr.mod hg3 (fun _ _ h=>h),hfr,hg.trans hg3,by simp only;omega,by simp only;omega⟩ (by simp only;omega)) ⟨rfl,rfl,rfl,trivial⟩
     ·refine DT.op rfl (.free rfl) rfl rfl (Does.alloc i38) ?_
      rintro _ w2 ⟨b2,rfl,hn2⟩
      refine ⟨(Mod.drew _ _).trans hn2.grow,?_⟩
      refine DT.op rfl (.free rfl) rfl rfl (Does.call rfl e68 (within_ok (n.tdiv 5) 0 6 (by omega) (by omega) (by omega) _)) ?_
      rintro _ _ ⟨rfl,rfl⟩
      refine ⟨(Mod.drew _ _).trans hn2.grow,?_⟩
      refine DT.op rfl (.free rfl) rfl rfl (Does.call rfl e69 (vlK_ok _ _)) ?_
      rintro _ _ ⟨rfl,rfl⟩
      refine ⟨(Mod.drew _ _).trans hn2.grow,?_⟩
      refine DT.qf rfl (.free rfl) rfl rfl (Yld.build (v:=.agg #[.string (labOf n).name,.string (labOf n).value]) rfl (fun w=>by kernel_rfl)) ?_
      refine DT.op' rfl (.free rfl) rfl (Does.storeN i38 rfl rfl rfl rfl hn2.blk (Nat.le_refl 2)) ?_
      rintro _ w3 ⟨hb3,hm3,_⟩
      have hB3:Blk w3 b2 38 [.string (labOf n).name,.string (labOf n).value]:=hb3
      have hg3:Grow w' w3:=((Mod.drew No _).trans hn2.grow).then hm3 (fun y hy e=>by have e' : y=b2:=e;have:=hn2.at_;simp only [World.drew] at this;omega)
      refine ⟨hg3,?_⟩
      refine DT.done ?_
      refine GG ?_
      refine QQ (Yld.fieldAddr fo38_0 rfl) ?_
      refine QQ (Yld.load p9 rfl (at1 (hB3.cell rfl))) ?_
      refine OP (Does.call rfl e70 (getLabel_ok No L _ _ _ (Sl.own (hr.mod hg3 (fun _ _ h=>h)) (fun _ _ h=>h)))) ?_
      rintro _ _ ⟨rfl,rfl⟩
      refine GG ?_
      refine CD (fun h36=>?_) (fun h36=>?_)
      ·have hst:labStep L n=L ++ [labOf n]:=if_pos h36
       refine GG ?_
       refine QQ (Yld.loadN (cs:=[.string (labOf n).name,.string (labOf n).value]) a38 rfl (atN (fun j u hj=>by rw [Nat.zero_add];exact hB3.cell' hj))) ?_
       refine OP (Does.slice1 u39 i38 rfl rfl rfl rfl rfl) ?_
       rintro _ w4 ⟨b4,rfl,hn4⟩
       refine OP (Does.append u39 i38 rfl rfl rfl rfl rfl ((hr.mod hg3 (fun _ _ h=>h)).mod hn4.grow (fun _ _ h=>h)) (Sl.new hn4 2 1 rfl (by omega) (fun h=>h)) (rfl) (by omega)) ?_
       rintro u5 w5 ⟨hr5,hm5,hu5⟩
       have hs3:=hg3.size
       have hs0:=hg.size
       refine RL.p rfl rfl ?_
       refine RL.done ?_
       refine RK.inBlock ?_
       refine RK.region ?_
       iterate 2 refine RL.p rfl rfl ?_
       refine RL.re (d:=17) rfl rfl (succ_i64 (by omega)) ?_
       refine GG ?_
       exact RK.back (ih (i + 1,u5) _ ⟨by
         simp only
         rw [hstep,hst]
         have e1:(L ++ [labOf n]).flatMap labC=L.flatMap labC ++ (Value.agg #[.string (labOf n).name,.string (labOf n).value]).cells.toList:=by simp [labC,Value.cells]
         rw [e1,List.length_append];exact hr5,fun b e=>by
         rcases hu5 with h1 | h1
         ·exact hfr b (h1 ▸ e)
         ·simp only at e;rw [h1] at e;cases e;have:=hn4.grow.size;omega,((hg.trans hg3).trans hn4.grow).then hm5 (fun b hb e=>by have:=hfr b e;omega),by simp only;omega,by simp only;omega⟩ (by simp only;omega)) ⟨rfl,rfl,rfl,trivial⟩
      ·have hst:labStep L n=L:=if_neg h36
       refine RK.skip ?_
       refine RK.inBlock ?_
       refine RK.region ?_
       iterate 2 refine RL.p rfl rfl ?_
       refine RL.re (d:=17) rfl rfl (succ_i64 (by omega)) ?_
       refine GG ?_
       exact RK.back (ih (i + 1,_) _ ⟨by simp only;rw [hstep,hst];exact hr.mod hg3 (fun _ _ h=>h),hfr,hg.trans hg3,by simp only;omega,by simp only;omega⟩ (by simp only;omega)) ⟨rfl,rfl,rfl,trivial⟩
    ·refine DT.op rfl (.free rfl) rfl rfl (Does.alloc i38) ?_
     rintro _ w2 ⟨b2,rfl,hn2⟩
     refine ⟨(Mod.drew _ _).trans hn2.grow,?_⟩
     refine DT.op rfl (.free rfl) rfl rfl (Does.call rfl e67 (nmK_ok _ _)) ?_
     rintro _ _ ⟨rfl,rfl⟩
     refine ⟨(Mod.drew _ _).trans hn2.grow,?_⟩
     refine DT.op rfl (.free rfl) rfl rfl (Does.call rfl e68 (within_ok (n.tdiv 5) 0 6 (by omega) (by omega) (by omega) _)) ?_
     rintro _ _ ⟨rfl,rfl⟩
     refine ⟨(Mod.drew _ _).trans hn2.grow,?_⟩
     refine DT.op rfl (.free rfl) rfl rfl (Does.call rfl e69 (vlK_ok _ _)) ?_
     rintro _ _ ⟨rfl,rfl⟩
     refine ⟨(Mod.drew _ _).trans hn2.grow,?_⟩
     refine DT.qf rfl (.free rfl) rfl rfl (Yld.build (v:=.agg #[.string (labOf n).name,.string (labOf n).value]) rfl (fun w=>by kernel_rfl)) ?_
     refine DT.op' rfl (.free rfl) rfl (Does.storeN i38 rfl rfl rfl rfl hn2.blk (Nat.le_refl 2)) ?_
     rintro _ w3 ⟨hb3,hm3,_⟩
     have hB3:Blk w3 b2 38 [.string (labOf n).name,.string (labOf n).value]:=hb3
     have hg3:Grow w' w3:=((Mod.drew No _).trans hn2.grow).then hm3 (fun y hy e=>by have e' : y=b2:=e;have:=hn2.at_;simp only [World.drew] at this;omega)
     refine ⟨hg3,?_⟩
     refine DT.done ?_
     refine GG ?_
     refine QQ (Yld.fieldAddr fo38_0 rfl) ?_
     refine QQ (Yld.load p9 rfl (at1 (hB3.cell rfl))) ?_
     refine OP (Does.call rfl e70 (getLabel_ok No L _ _ _ (Sl.own (hr.mod hg3 (fun _ _ h=>h)) (fun _ _ h=>h)))) ?_
     rintro _ _ ⟨rfl,rfl⟩
     refine GG ?_
     refine CD (fun h36=>?_) (fun h36=>?_)
     ·have hst:labStep L n=L ++ [labOf n]:=if_pos h36
      refine GG ?_
      refine QQ (Yld.loadN (cs:=[.string (labOf n).name,.string (labOf n).value]) a38 rfl (atN (fun j u hj=>by rw [Nat.zero_add];exact hB3.cell' hj))) ?_
      refine OP (Does.slice1 u39 i38 rfl rfl rfl rfl rfl) ?_
      rintro _ w4 ⟨b4,rfl,hn4⟩
      refine OP (Does.append u39 i38 rfl rfl rfl rfl rfl ((hr.mod hg3 (fun _ _ h=>h)).mod hn4.grow (fun _ _ h=>h)) (Sl.new hn4 2 1 rfl (by omega) (fun h=>h)) (rfl) (by omega)) ?_
      rintro u5 w5 ⟨hr5,hm5,hu5⟩
      have hs3:=hg3.size
      have hs0:=hg.size
      refine RL.p rfl rfl ?_
      refine RL.done ?_
      refine RK.inBlock ?_
      refine RK.region ?_
      iterate 2 refine RL.p rfl rfl ?_
      refine RL.re (d:=17) rfl rfl (succ_i64 (by omega)) ?_
      refine GG ?_
      exact RK.back (ih (i + 1,u5) _ ⟨by
        simp only
        rw [hstep,hst]
        have e1:(L ++ [labOf n]).flatMap labC=L.flatMap labC ++ (Value.agg #[.string (labOf n).name,.string (labOf n).value]).cells.toList:=by simp [labC,Value.cells]
        rw [e1,List.length_append];exact hr5,fun b e=>by
        rcases hu5 with h1 | h1
        ·exact hfr b (h1 ▸ e)
        ·simp only at e;rw [h1] at e;cases e;have:=hn4.grow.size;omega,((hg.trans hg3).trans hn4.grow).then hm5 (fun b hb e=>by have:=hfr b e;omega),by simp only;omega,by simp only;omega⟩ (by simp only;omega)) ⟨rfl,rfl,rfl,trivial⟩
     ·have hst:labStep L n=L:=if_neg h36
      refine RK.skip ?_
      refine RK.inBlock ?_
      refine RK.region ?_
      iterate 2 refine RL.p rfl rfl ?_
      refine RL.re (d:=17) rfl rfl (succ_i64 (by omega)) ?_
      refine GG ?_
      exact RK.back (ih (i + 1,_) _ ⟨by simp only;rw [hstep,hst];exact hr.mod hg3 (fun _ _ h=>h),hfr,hg.trans hg3,by simp only;omega,by simp only;omega⟩ (by simp only;omega)) ⟨rfl,rfl,rfl,trivial⟩
   ·refine DT.op rfl (.free rfl) rfl rfl (Does.alloc i38) ?_
    rintro _ w2 ⟨b2,rfl,hn2⟩
    refine ⟨(Mod.drew _ _).trans hn2.grow,?_⟩
    refine DT.op rfl (.free rfl) rfl rfl (Does.call rfl e68 (within_ok n 0 4 (by omega) (by omega) (by omega) _)) ?_
    rintro _ _ ⟨rfl,rfl⟩
    refine ⟨(Mod.drew _ _).trans hn2.grow,?_⟩
    refine DT.op rfl (.free rfl) rfl rfl (Does.call rfl e67 (nmK_ok _ _)) ?_
    rintro _ _ ⟨rfl,rfl⟩
    refine ⟨(Mod.drew _ _).trans hn2.grow,?_⟩
    refine DT.op rfl (.free rfl) rfl rfl (Does.call rfl e68 (within_ok (n.tdiv 5) 0 6 (by omega) (by omega) (by omega) _)) ?_
    rintro _ _ ⟨rfl,rfl⟩
    refine ⟨(Mod.drew _ _).trans hn2.grow,?_⟩
    refine DT.op rfl (.free rfl) rfl rfl (Does.call rfl e69 (vlK_ok _ _)) ?_
    rintro _ _ ⟨rfl,rfl⟩
    refine ⟨(Mod.drew _ _).trans hn2.grow,?_⟩
    refine DT.qf rfl (.free rfl) rfl rfl (Yld.build (v:=.agg #[.string (labOf n).name,.string (labOf n).value]) rfl (fun w=>by kernel_rfl)) ?_
    refine DT.op' rfl (.free rfl) rfl (Does.storeN i38 rfl rfl rfl rfl hn2.blk (Nat.le_refl 2)) ?_
    rintro _ w3 ⟨hb3,hm3,_⟩
    have hB3:Blk w3 b2 38 [.string (labOf n).name,.string (labOf n).value]:=hb3
    have hg3:Grow w' w3:=((Mod.drew No _).trans hn2.grow).then hm3 (fun y hy e=>by have e' : y=b2:=e;have:=hn2.at_;simp only [World.drew] at this;omega)
    refine ⟨hg3,?_⟩
    refine DT.done ?_
    refine GG ?_
    refine QQ (Yld.fieldAddr fo38_0 rfl) ?_
    refine QQ (Yld.load p9 rfl (at1 (hB3.cell rfl))) ?_
    refine OP (Does.call rfl e70 (getLabel_ok No L _ _ _ (Sl.own (hr.mod hg3 (fun _ _ h=>h)) (fun _ _ h=>h)))) ?_
    rintro _ _ ⟨rfl,rfl⟩
    refine GG ?_
    refine CD (fun h36=>?_) (fun h36=>?_)
    ·have hst:labStep L n=L ++ [labOf n]:=if_pos h36
     refine GG ?_
     refine QQ (Yld.loadN (cs:=[.string (labOf n).name,.string (labOf n).value]) a38 rfl (atN (fun j u hj=>by rw [Nat.zero_add];exact hB3.cell' hj))) ?_
     refine OP (Does.slice1 u39 i38 rfl rfl rfl rfl rfl) ?_
     rintro _ w4 ⟨b4,rfl,hn4⟩
     refine OP (Does.append u39 i38 rfl rfl rfl rfl rfl ((hr.mod hg3 (fun _ _ h=>h)).mod hn4.grow (fun _ _ h=>h)) (Sl.new hn4 2 1 rfl (by omega) (fun h=>h)) (rfl) (by omega)) ?_
     rintro u5 w5 ⟨hr5,hm5,hu5⟩
     have hs3:=hg3.size
     have hs0:=hg.size
     refine RL.p rfl rfl ?_
     refine RL.done ?_
     refine RK.inBlock ?_
     refine RK.region ?_
     iterate 2 refine RL.p rfl rfl ?_
     refine RL.re (d:=17) rfl rfl (succ_i64 (by omega)) ?_
     refine GG ?_
     exact RK.back (ih (i + 1,u5) _ ⟨by
       simp only
       rw [hstep,hst]
       have e1:(L ++ [labOf n]).flatMap labC=L.flatMap labC ++ (Value.agg #[.string (labOf n).name,.string (labOf n).value]).cells.toList:=by simp [labC,Value.cells]
       rw [e1,List.length_append];exact hr5,fun b e=>by
       rcases hu5 with h1 | h1
       ·exact hfr b (h1 ▸ e)
       ·simp only at e;rw [h1] at e;cases e;have:=hn4.grow.size;omega,((hg.trans hg3).trans hn4.grow).then hm5 (fun b hb e=>by have:=hfr b e;omega),by simp only;omega,by simp only;omega⟩ (by simp only;omega)) ⟨rfl,rfl,rfl,trivial⟩
    ·have hst:labStep L n=L:=if_neg h36
     refine RK.skip ?_
     refine RK.inBlock ?_
     refine RK.region ?_
     iterate 2 refine RL.p rfl rfl ?_
     refine RL.re (d:=17) rfl rfl (succ_i64 (by omega)) ?_
     refine GG ?_
     exact RK.back (ih (i + 1,_) _ ⟨by simp only;rw [hstep,hst];exact hr.mod hg3 (fun _ _ h=>h),hfr,hg.trans hg3,by simp only;omega,by simp only;omega⟩ (by simp only;omega)) ⟨rfl,rfl,rfl,trivial⟩
  ·have hL:=hdone (by omega)
   rw [hL] at hr hLle
   obtain ⟨hraw,h1r,h5r⟩:=raw_ok xs
   refine RK.exit rfl ?_
   refine GG ?_
   refine QQ (Yld.lenSl u39 rfl) ?_
   refine GG ?_
   refine CD (fun h43=>?_) (fun h43=>?_)
   ·have hz:(rawS xs).length=0:=by rw [hL] at h43;omega
    have he:rawS xs=[]:=List.eq_nil_of_length_eq_zero hz
    have hr' : rawS' xs=[sevA]:=by unfold rawS';rw [if_pos he]
    rw [he] at hr
    rw [hr'] at hraw
    have hlab:labelsS xs=sortS [sevA]:=by unfold labelsS;rw [hr']
    refine GG ?_
    refine QQ (Yld.build (v:=.agg #[.string ⟨#[115,101,118]⟩,.string ⟨#[97]⟩]) rfl (fun w=>by kernel_rfl)) ?_
    refine OP (Does.slice1 u39 i38 rfl rfl rfl rfl rfl) ?_
    rintro _ w6 ⟨b6,rfl,hn6⟩
    have hr6:Row w6 38 2 (.slice adu ((xs.take i).foldl labStep []).length cu) ((xs.take i).foldl labStep []).length []:=by rw [hL,he];exact hr.mod hn6.grow (fun _ _ h=>h)
    refine OP (Does.append u39 i38 rfl rfl rfl rfl rfl (hr6) (Sl.new hn6 2 1 rfl (by omega) (fun h=>h)) (rfl) (by rw [hL];omega)) ?_
    rintro u7 w7 ⟨hr7,hm7,hu7⟩
    have hg7:Grow w w7:=(hg.trans hn6.grow).then hm7 (fun b hb e=>by have:=hfr b e;omega)
    refine GG ?_
    refine OP (Does.call rfl e71 (hfin u7 _ [sevA] (by have h9:=hr7;rw [hL,he] at h9;simpa [labC,sevA,Value.cells] using h9) hraw (by simp) (by simp))) ?_
    rintro _ w8 ⟨ad8,c8,rfl,hr8,hf8,hg8⟩
    refine GG ?_
    refine RK.ret_of Tryz.func26 (res1 rfl rfl) ?_ _
    exact ⟨_,rfl,ad8,c8,by rw [hlab],by rw [hlab];exact hr8,fun b e=>by have:=hf8 b e;have:=hg7.size;omega,hg7.trans hg8⟩
   ·have he:rawS xs≠[]:=fun e=>h43 (by rw [hL,e];rfl)
    have hr' : rawS' xs=rawS xs:=by unfold rawS';rw [if_neg he]
    rw [hr'] at hraw h1r h5r
    have hlab:labelsS xs=sortS (rawS xs):=by unfold labelsS;rw [hr']
    refine GG ?_
    refine OP (Does.call rfl e71 (hfin _ _ (rawS xs) (by rw [hL];exact hr) hraw h1r h5r)) ?_
    rintro _ w8 ⟨ad8,c8,rfl,hr8,hf8,hg8⟩
    refine GG ?_
    refine RK.ret_of Tryz.func26 (res1 rfl rfl) ?_ _
    exact ⟨_,rfl,ad8,c8,by rw [hlab],by rw [hlab];exact hr8,fun b e=>by have:=hf8 b e;have:=hg.size;omega,hg.trans hg8⟩
 ·iterate 2 refine RL.no (.no rfl rfl rfl rfl) rfl rfl ?_
  refine GG ?_
  refine RK.condF rfl ?_
  have hL:=hdone (by omega)
  rw [hL] at hr hLle
  obtain ⟨hraw,h1r,h5r⟩:=raw_ok xs
  refine RK.exit rfl ?_
  refine GG ?_
  refine QQ (Yld.lenSl u39 rfl) ?_
  refine GG ?_
  refine CD (fun h43=>?_) (fun h43=>?_)
  ·have hz:(rawS xs).length=0:=by rw [hL] at h43;omega
   have he:rawS xs=[]:=List.eq_nil_of_length_eq_zero hz
   have hr' : rawS' xs=[sevA]:=by unfold rawS';rw [if_pos he]
   rw [he] at hr
   rw [hr'] at hraw
   have hlab:labelsS xs=sortS [sevA]:=by unfold labelsS;rw [hr']
   refine GG ?_
   refine QQ (Yld.build (v:=.agg #[.string ⟨#[115,101,118]⟩,.string ⟨#[97]⟩]) rfl (fun w=>by kernel_rfl)) ?_
   refine OP (Does.slice1 u39 i38 rfl rfl rfl rfl rfl) ?_
   rintro _ w6 ⟨b6,rfl,hn6⟩
   have hr6:Row w6 38 2 (.slice adu ((xs.take i).foldl labStep []).length cu) ((xs.take i).foldl labStep []).length []:=by rw [hL,he];exact hr.mod hn6.grow (fun _ _ h=>h)
   refine OP (Does.append u39 i38 rfl rfl rfl rfl rfl (hr6) (Sl.new hn6 2 1 rfl (by omega) (fun h=>h)) (rfl) (by rw [hL];omega)) ?_
   rintro u7 w7 ⟨hr7,hm7,hu7⟩
   have hg7:Grow w w7:=(hg.trans hn6.grow).then hm7 (fun b hb e=>by have:=hfr b e;omega)
   refine GG ?_
   refine OP (Does.call rfl e71 (hfin u7 _ [sevA] (by have h9:=hr7;rw [hL,he] at h9;simpa [labC,sevA,Value.cells] using h9) hraw (by simp) (by simp))) ?_
   rintro _ w8 ⟨ad8,c8,rfl,hr8,hf8,hg8⟩
   refine GG ?_
   refine RK.ret_of Tryz.func26 (res1 rfl rfl) ?_ _
   exact ⟨_,rfl,ad8,c8,by rw [hlab],by rw [hlab];exact hr8,fun b e=>by have:=hf8 b e;have:=hg7.size;omega,hg7.trans hg8⟩
  ·have he:rawS xs≠[]:=fun e=>h43 (by rw [hL,e];rfl)
   have hr' : rawS' xs=rawS xs:=by unfold rawS';rw [if_neg he]
   rw [hr'] at hraw h1r h5r
   have hlab:labelsS xs=sortS (rawS xs):=by unfold labelsS;rw [hr']
   refine GG ?_
   refine OP (Does.call rfl e71 (hfin _ _ (rawS xs) (by rw [hL];exact hr) hraw h1r h5r)) ?_
   rintro _ w8 ⟨ad8,c8,rfl,hr8,hf8,hg8⟩
   refine GG ?_
   refine RK.ret_of Tryz.func26 (res1 rfl rfl) ?_ _
   exact ⟨_,rfl,ad8,c8,by rw [hlab],by rw [hlab];exact hr8,fun b e=>by have:=hf8 b e;have:=hg.size;omega,hg.trans hg8⟩
end Go.Proofs.YtbcbfjnlnmhpbaaGreat
set_option linter.unusedVariables false
set_option linter.unusedSimpArgs false
set_option maxHeartbeats 800000
set_option maxRecDepth 100000
namespace Go.Proofs.YtbcbfjnlnmhpbaaGreat
open Go Go.X
theorem bits1_ok (b:Nat) (w:World):Fx Tryz.prog 79 [.float .f64 b] w (fun v w'=>v=.int .u64 (bitsS b)∧w=w'):=by
 refine enter Tryz.func79 rfl rfl rfl _ (Pick.sub (l:=[0]) (.cons rfl .nil)) ?_
 refine GG ?_
 refine CD (fun h5=>?_) (fun h5=>?_)
 ·refine GG ?_
  refine RK.ret_of Tryz.func79 (res1 rfl rfl) ?_ _
  exact ⟨_,rfl,by unfold bitsS nanS;rw [show Ieee.double.order b b=FloatKind.f64.format.order b b from rfl];simp_all,rfl⟩
 ·refine GG ?_
  refine QQ (Yld.callx rfl (fun w=>x122 _ w)) ?_
  refine GG ?_
  refine RK.ret_of Tryz.func79 (res1 rfl rfl) ?_ _
  exact ⟨_,rfl,by unfold bitsS nanS;rw [show Ieee.double.order b b=FloatKind.f64.format.order b b from rfl];simp_all,rfl⟩
theorem find_self (ls:List Lab):findS [ls] ls=some 0:=by simp [findS]
section
variable (ls : List Lab) (his : isS ls = true) (u v : Nat)
def vS1:St:=(postS (St.new 3) ls u).1
def vS2:St:=(postS (vS1 ls u) ls v).1
def vS3:St:=(resolveS (vS2 ls u v) 1).1
def vS4:St:=(postS (vS3 ls u v) ls u).1
include his
theorem v1:postS (St.new 3) ls u=(vS1 ls u,1,true,0)∧(vS1 ls u).al=[(1,ls,canS u)]∧(vS1 ls u).last=1∧(vS1 ls u).out=[1]∧(vS1 ls u).most=3:=by
 have hf:fullS (St.new 3).most (St.new 3).last (St.new 3).out=false:=by decide
 have hn:findS ((St.new 3).al.map (·.2.1)) ls=none:=rfl
 have e:postS (St.new 3) ls u=(⟨(St.new 3).most,(St.new 3).last + 1,(St.new 3).out ++ [(St.new 3).last + 1],(St.new 3).al ++ [((St.new 3).last + 1,ls,canS u)],putM (St.new 3).has ((St.new 3).last + 1) ls,addRows (St.new 3).rows ((St.new 3).last + 1) ls⟩,(St.new 3).last + 1,true,0):=by
  unfold postS;rw [if_neg (by simp [his]),hn];simp [hf]
 unfold vS1
 rw [e]
 exact ⟨rfl,rfl,rfl,rfl,rfl⟩
theorem v2:postS (vS1 ls u) ls v=(vS2 ls u v,1,false,0)∧(vS2 ls u v).al=[(1,ls,canS v)]∧(vS2 ls u v).last=1∧(vS2 ls u v).out=[1]∧(vS2 ls u v).most=3:=by
 obtain ⟨_,h1,h2,h3,h4⟩:=v1 ls his u
 have hn:findS ((vS1 ls u).al.map (·.2.1)) ls=some 0:=by rw [h1];exact find_self ls
 have e:postS (vS1 ls u) ls v=({ vS1 ls u with al:=(vS1 ls u).al.modify 0 fun a=>(a.1,a.2.1,canS v) },(((vS1 ls u).al[0]?).map (·.1)).getD 0,false,0):=by
  unfold postS;rw [if_neg (by simp [his]),hn]
 unfold vS2
 rw [e]
 refine ⟨by rw [h1];rfl,by simp only;rw [h1];rfl,h2,h3,h4⟩
theorem v3:resolveS (vS2 ls u v) 1=(vS3 ls u v,0)∧(vS3 ls u v).al=[]∧(vS3 ls u v).last=1∧(vS3 ls u v).out=[]∧(vS3 ls u v).most=3:=by
 obtain ⟨_,h1,h2,h3,h4⟩:=v2 ls his u v
 have hp:placeS (vS2 ls u v) 1=some 0:=by unfold placeS;rw [h1];rfl
 have e:resolveS (vS2 ls u v) 1=({ vS2 ls u v with al:=(vS2 ls u v).al.eraseIdx 0,out:=giveS (vS2 ls u v).out 1,has:=cutM (vS2 ls u v).has 1,rows:=dropRows (vS2 ls u v).rows 1 ((lookM (vS2 ls u v).has 1).getD []) },0):=by
  unfold resolveS;rw [hp]
 unfold vS3
 rw [e]
 refine ⟨rfl,by simp only;rw [h1];rfl,h2,?_,h4⟩
 simp only
 rw [h3]
 have:∀ x,x∉giveS [1] 1:=fun x hx=>by
  unfold giveS at hx
  rw [if_pos (by decide),mem_cutRow] at hx
  simp at hx
 exact List.eq_nil_iff_forall_not_mem.2 this
theorem v4:postS (vS3 ls u v) ls u=(vS4 ls u v,2,true,0)∧(vS4 ls u v).al=[(2,ls,canS u)]:=by
 obtain ⟨_,h1,h2,h3,h4⟩:=v3 ls his u v
 have hf:fullS (vS3 ls u v).most (vS3 ls u v).last (vS3 ls u v).out=false:=by rw [h2,h3,h4];decide
 have hn:findS ((vS3 ls u v).al.map (·.2.1)) ls=none:=by rw [h1];rfl
 have e:postS (vS3 ls u v) ls u=(⟨(vS3 ls u v).most,(vS3 ls u v).last + 1,(vS3 ls u v).out ++ [(vS3 ls u v).last + 1],(vS3 ls u v).al ++ [((vS3 ls u v).last + 1,ls,canS u)],putM (vS3 ls u v).has ((vS3 ls u v).last + 1) ls,addRows (vS3 ls u v).rows ((vS3 ls u v).last + 1) ls⟩,(vS3 ls u v).last + 1,true,0):=by
  unfold postS;rw [if_neg (by simp [his]),hn];simp [hf]
 unfold vS4
 rw [e]
 refine ⟨by rw [h2];rfl,by simp only;rw [h1,h2];rfl⟩
theorem v5:resolveS (vS4 ls u v) 1=(vS4 ls u v,5):=by
 obtain ⟨_,h1⟩:=v4 ls his u v
 have hp:placeS (vS4 ls u v) 1=none:=by unfold placeS;rw [h1];rfl
 unfold resolveS;rw [hp]
end
end Go.Proofs.YtbcbfjnlnmhpbaaGreat
