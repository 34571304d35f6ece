/- What the claim stands on, part 6. Of own lemmas only those that it reaches. -/
import Derived.Test.YtbcbfjnlnmhpbaaGreatKv5
set_option linter.unusedVariables false
set_option linter.unusedSimpArgs false
set_option maxHeartbeats 800000
set_option maxRecDepth 100000
namespace Go.Proofs.YtbcbfjnlnmhpbaaGreat
open Go Go.X
end Go.Proofs.YtbcbfjnlnmhpbaaGreat
set_option linter.unusedVariables false
set_option linter.unusedSimpArgs false
set_option maxHeartbeats 800000
set_option maxRecDepth 100000
namespace Go.Proofs.YtbcbfjnlnmhpbaaGreat
open Go Go.X
theorem get1_ok (w:World) (b:Nat) (nm:ByteArray) (hb:Blk w b 9 [.string nm]) (x:Lab):Fx Tryz.prog 168 [.agg #[.string x.name,.string x.value],pp b] w (fun u w'=>u=.bool (decide (x.name=nm))∧Grow w w'):=by
 refine enter Tryz.func168 rfl rfl rfl _ (Pick.sub (l:=[0,1]) (.cons rfl (.cons rfl .nil))) ?_
 refine GG ?_
 refine OP (Does.box rfl) ?_
 rintro _ w1 ⟨bx,rfl,hbx⟩
 refine GG ?_
 refine QQ (Yld.fieldAddr fo38_0 rfl) ?_
 refine QQ (Yld.load p9 rfl (at1 (hbx.blk.cell rfl))) ?_
 refine QQ (Yld.load p9 rfl (at1 ((hb.mod hbx.grow (fun h=>h)).cell rfl))) ?_
 refine GG ?_
 refine RK.ret_of Tryz.func168 (res1 rfl rfl) ?_ _
 exact ⟨_,rfl,rfl,hbx.grow⟩
theorem getFirst_ok (M:Nat→Prop) (ls:List Lab) (v:Value) (nm:ByteArray) (b4:Nat) (w:World) (hv:SlL M w v ls) (hb:Blk w b4 9 [.string nm]) :
  Fx Tryz.prog 167 [v,.func (.func 168) #[] #[pp b4]] w (fun u w'=>u=.int .i64 (optI (ls.findIdx? fun x=>decide (x.name=nm)))∧Grow w w'):=by
 obtain ⟨ad,c,rfl⟩:=hv.shape
 have hbig:=hv.big
 refine enter Tryz.func167 rfl rfl rfl _ (Pick.sub (l:=[0,1]) (.cons rfl (.cons rfl .nil))) ?_
 refine GG ?_
 refine QQ (Yld.lenSl u39 rfl) ?_
 refine GG ?_
 refine RK.loop (fun k:Nat=>[(0,.slice ad ls.length c),(1,.func (.func 168) #[] #[pp b4]),(7,.int .i64 ls.length),(8,.int .i64 k)]) (fun k w'=>Grow w w'∧k≤ls.length∧∀ (i:Nat) (a:Lab),i < k→ls[i]?=some a→a.name≠nm) (fun k=>ls.length - k) 0 ⟨rfl,rfl,rfl,rfl,trivial⟩ ⟨Mod.refl _ _,by omega,fun i a h=>by omega⟩ (fun k w' hI ih=>?_)
 obtain ⟨hg,hk,hno⟩:=hI
 refine GG ?_
 refine CD (fun h9=>?_) (fun h9=>?_)
 ·obtain ⟨x,hx⟩:∃ x,ls[k]?=some x:=⟨ls[k]'(by omega),List.getElem?_eq_getElem (by omega)⟩
  obtain ⟨b1,o1,c1',he1,_,_,hc1⟩:=hv.elem labC_len hx
  cases he1
  refine GG ?_
  refine QQ (Yld.indexAddrN u39 i38 rfl rfl (by omega)) ?_
  refine QQ (Yld.loadN (cs:=[.string x.name,.string x.value]) a38 rfl (atN (fun j u hj=>hg.cell (hc1 j u hj) (fun h=>h)))) ?_
  refine OP (Does.callv rfl rfl e168 (get1_ok _ b4 nm (hb.mod hg (fun h=>h)) x)) ?_
  rintro _ w2 ⟨rfl,hg2⟩
  refine RL.done ?_
  refine CD (fun h16=>?_) (fun h16=>?_)
  ·refine GG ?_
   refine RK.ret_of Tryz.func167 (res1 rfl rfl) ?_ _
   exact ⟨_,rfl,congrArg _ (by
     have:ls.findIdx? (fun x=>decide (x.name=nm))=some k:=by
      rw [List.findIdx?_eq_some_iff_getElem]
      refine ⟨by omega,?_,fun j hj=>?_⟩
      ·simp [(List.getElem?_eq_some_iff.1 hx).2,h16]
      ·simpa using hno j (ls[j]'(by omega)) hj (List.getElem?_eq_getElem (by omega))
     rw [this];rfl),hg.trans hg2⟩
  ·refine RK.skip ?_
   refine RK.inBlock ?_
   refine RK.region ?_
   refine RL.p rfl rfl ?_
   refine RL.re (d:=18) rfl rfl (succ_i64 (by omega)) ?_
   refine GG ?_
   exact RK.back (ih (k + 1) _ ⟨hg.trans hg2,by omega,fun i a' hi ha'=>by by_cases e:i=k;(subst e;rw [hx] at ha';cases ha';exact h16);exact hno i a' (by omega) ha'⟩ (by omega)) ⟨rfl,rfl,rfl,rfl,trivial⟩
 ·refine RK.exit rfl ?_
  refine GG ?_
  refine RK.ret_of Tryz.func167 (res1 rfl rfl) ?_ _
  exact ⟨_,rfl,congrArg _ (by
    have:ls.findIdx? (fun x=>decide (x.name=nm))=none:=by
     rw [List.findIdx?_eq_none_iff]
     intro x hx
     obtain ⟨i,hi⟩:=List.getElem?_of_mem hx
     have hil:=(List.getElem?_eq_some_iff.1 hi).1
     simpa using hno i x (by omega) hi
    rw [this];rfl),hg⟩
theorem labelsGet_ok (M:Nat→Prop) (ls:List Lab) (v:Value) (nm:ByteArray) (w:World) (hv:SlL M w v ls):Fx Tryz.prog 139 [v,.string nm] w (fun u w'=>u=.string (getL ls nm)∧Grow w w'):=by
 obtain ⟨ad,c,rfl⟩:=hv.shape
 have hbig:=hv.big
 cases hf:ls.findIdx? (fun x=>decide (x.name=nm)) with
 | none=>
  have e:getL ls nm=ByteArray.empty:=getL_none fun y hy=>by simpa using List.findIdx?_eq_none_iff.1 hf y hy
  refine enter Tryz.func139 rfl rfl rfl _ (Pick.sub (l:=[0,1]) (.cons rfl (.cons rfl .nil))) ?_
  refine GG ?_
  refine OP (Does.box rfl) ?_
  rintro _ w1 ⟨b1,rfl,hn1⟩
  have hcall:=getFirst_ok M ls _ nm b1 w1 (hv.mod (Mod.any' hn1.grow)) hn1.blk
  rw [hf] at hcall
  refine GG ?_
  refine OP (Does.call rfl e167 (hcall)) ?_
  rintro _ w2 ⟨rfl,hg2⟩
  refine GG ?_
  refine RK.condT (hcT rfl (rfl)) ?_
  refine GG ?_
  refine RK.ret_of Tryz.func139 (res1 rfl rfl) ?_ _
  exact ⟨_,rfl,by rw [e];rfl,hn1.grow.trans hg2⟩
 | some k=>
  obtain ⟨hk,hp,hlt⟩:=List.findIdx?_eq_some_iff_getElem.1 hf
  have hx:ls[k]?=some ls[k]:=List.getElem?_eq_getElem hk
  have e:getL ls nm=ls[k].value:=getL_at hx (by simpa using hp) fun i y hi hy=>by
   have:=hlt i hi
   rw [(List.getElem?_eq_some_iff.1 hy).2] at this
   simpa using this
  generalize ls[k]=x at *
  refine enter Tryz.func139 rfl rfl rfl _ (Pick.sub (l:=[0,1]) (.cons rfl (.cons rfl .nil))) ?_
  refine GG ?_
  refine OP (Does.box rfl) ?_
  rintro _ w1 ⟨b1,rfl,hn1⟩
  have hcall:=getFirst_ok M ls _ nm b1 w1 (hv.mod (Mod.any' hn1.grow)) hn1.blk
  rw [hf] at hcall
  obtain ⟨b2,o2,c2',he2,_,_,hc2⟩:=hv.elem labC_len hx
  cases he2
  refine GG ?_
  refine OP (Does.call rfl e167 (hcall)) ?_
  rintro _ w2 ⟨rfl,hg2⟩
  have hg02:=hn1.grow.trans hg2
  have hk' : optI (some k)=(k:Int):=rfl
  rw [hk']
  refine GG ?_
  refine RK.condF (hcF rfl (decide_eq_false (by omega))) ?_
  refine GG ?_
  refine QQ (Yld.indexAddrN u39 i38 rfl rfl (by omega)) ?_
  refine QQ (Yld.fieldAddr fo38_1 rfl) ?_
  refine QQ (Yld.load p9 rfl (at1 (hg02.cell (hc2 1 _ rfl) (fun h=>h)))) ?_
  refine GG ?_
  refine RK.ret_of Tryz.func139 (res1 rfl rfl) ?_ _
  exact ⟨_,rfl,by rw [e],hg02⟩
end Go.Proofs.YtbcbfjnlnmhpbaaGreat
set_option linter.unusedVariables false
set_option linter.unusedSimpArgs false
set_option maxHeartbeats 800000
set_option maxRecDepth 100000
namespace Go.Proofs.YtbcbfjnlnmhpbaaGreat
open Go Go.X
structure Mt where
 kind:Int
 name:ByteArray
 value:ByteArray
 deriving DecidableEq,Inhabited
def mtC (m:Mt):List Value:=[.int .i64 m.kind,.string m.name,.string m.value]
theorem mtC_len (m:Mt):(mtC m).length=3:=rfl
abbrev SlM (M:Nat→Prop) (w:World) (v:Value) (ms:List Mt):Prop:=Sl M w v 3 ms.length (ms.flatMap mtC)
def likeS (m:Mt):Bool:=decide (m.kind=3∨m.kind=4)
theorem like_ok (m:Mt) (w:World):Fx Tryz.prog 158 [.agg #[.int .i64 m.kind,.string m.name,.string m.value]] w (fun u w'=>u=.bool (likeS m)∧Grow w w'):=by
 refine enter Tryz.func158 rfl rfl rfl _ (Pick.sub (l:=[0]) (.cons rfl .nil)) ?_
 refine GG ?_
 refine OP (Does.box rfl) ?_
 rintro _ w1 ⟨b1,rfl,hn1⟩
 refine GG ?_
 refine QQ (Yld.fieldAddr fo108_0 rfl) ?_
 refine QQ (Yld.load p3 rfl (at1 (hn1.blk.cell rfl))) ?_
 refine GG ?_
 refine SP 6 (fun h6=>?_) (fun h6=>?_)
 ·iterate 3 refine RL.no (.no rfl rfl rfl rfl) rfl rfl ?_
  refine GG ?_
  refine RK.ret_of Tryz.func158 (res1 rfl rfl) ?_ _
  exact ⟨_,rfl,congrArg _ (by unfold likeS;simp_all),hn1.grow⟩
 ·refine QQ (Yld.fieldAddr fo108_0 rfl) ?_
  refine QQ (Yld.load p3 rfl (at1 (hn1.blk.cell rfl))) ?_
  refine QQ (Yld.pure rfl) ?_
  refine GG ?_
  refine RK.ret_of Tryz.func158 (res1 rfl rfl) ?_ _
  exact ⟨_,rfl,congrArg _ (by unfold likeS;simp_all),hn1.grow⟩
def isV (m:Mt):Bool:=nameS m.name && decide ((m.kind=1∨m.kind=2)∧m.value.size≤24)
theorem isV_ok (m:Mt) (hk:likeS m=false) (w:World):Fx Tryz.prog 130 [.agg #[.int .i64 m.kind,.string m.name,.string m.value]] w (fun u w'=>u=.bool (isV m)∧Grow w w'):=by
 refine enter Tryz.func130 rfl rfl rfl _ (Pick.sub (l:=[0]) (.cons rfl .nil)) ?_
 refine GG ?_
 refine OP (Does.box rfl) ?_
 rintro _ w1 ⟨b1,rfl,hn1⟩
 refine GG ?_
 refine QQ (Yld.fieldAddr fo108_1 rfl) ?_
 refine QQ (Yld.load p9 rfl (at1 (hn1.blk.cell rfl))) ?_
 refine OP (Does.call rfl e157 (name_ok _ _)) ?_
 rintro _ _ ⟨rfl,rfl⟩
 refine GG ?_
 refine CD (fun h8=>?_) (fun h8=>?_)
 ·refine GG ?_
  refine RK.ret_of Tryz.func130 (res1 rfl rfl) ?_ _
  exact ⟨_,rfl,congrArg _ (by unfold isV;simp at h8;rw [h8];rfl),hn1.grow⟩
 ·refine GG ?_
  refine QQ (Yld.loadN (cs:=[.int .i64 m.kind,.string m.name,.string m.value]) a108 rfl (atN (fun j u hj=>by rw [Nat.zero_add];exact hn1.blk.cell' hj))) ?_
  refine OP (Does.call rfl e158 (like_ok m _)) ?_
  rintro _ w2 ⟨rfl,hg2⟩
  refine RL.done ?_
  refine RK.condF (hcF rfl (hk)) ?_
  refine GG ?_
  refine QQ (Yld.fieldAddr fo108_0 rfl) ?_
  refine QQ (Yld.load p3 rfl (at1 ((hn1.blk.mod hg2 (fun h=>h)).cell rfl))) ?_
  refine GG ?_
  refine SP 21 (fun h21=>?_) (fun h21=>?_)
  ·iterate 3 refine RL.no (.no rfl rfl rfl rfl) rfl rfl ?_
   refine GG ?_
   refine QQ (Yld.fieldAddr fo108_2 rfl) ?_
   refine QQ (Yld.load p9 rfl (at1 ((hn1.blk.mod hg2 (fun h=>h)).cell rfl))) ?_
   refine QQ (Yld.lenStr u9 rfl) ?_
   refine QQ (Yld.pure rfl) ?_
   refine GG ?_
   refine RK.ret_of Tryz.func130 (res1 rfl rfl) ?_ _
   exact ⟨_,rfl,congrArg _ (by unfold isV;simp at h8;rw [h8,Bool.eq_iff_iff];simp_all <;> omega),hn1.grow.trans hg2⟩
  ·refine QQ (Yld.fieldAddr fo108_0 rfl) ?_
   refine QQ (Yld.load p3 rfl (at1 ((hn1.blk.mod hg2 (fun h=>h)).cell rfl))) ?_
   refine QQ (Yld.pure rfl) ?_
   refine GG ?_
   refine SP 26 (fun h26=>?_) (fun h26=>?_)
   ·refine QQ (Yld.fieldAddr fo108_2 rfl) ?_
    refine QQ (Yld.load p9 rfl (at1 ((hn1.blk.mod hg2 (fun h=>h)).cell rfl))) ?_
    refine QQ (Yld.lenStr u9 rfl) ?_
    refine QQ (Yld.pure rfl) ?_
    refine GG ?_
    refine RK.ret_of Tryz.func130 (res1 rfl rfl) ?_ _
    exact ⟨_,rfl,congrArg _ (by unfold isV;simp at h8;rw [h8,Bool.eq_iff_iff];simp_all <;> omega),hn1.grow.trans hg2⟩
   ·iterate 4 refine RL.no (.no rfl rfl rfl rfl) rfl rfl ?_
    refine GG ?_
    refine RK.ret_of Tryz.func130 (res1 rfl rfl) ?_ _
    exact ⟨_,rfl,congrArg _ (by unfold isV;simp at h8;rw [h8,Bool.eq_iff_iff];simp_all <;> omega),hn1.grow.trans hg2⟩
def HoldsC (h:Mt→List Lab→Bool) (m:Mt):Prop:=∀ (M:Nat→Prop) (ls:List Lab) (v:Value) (w:World),(∀ x∈ls,x.value.size≤100000)→SlL M w v ls→Fx Tryz.prog 103 [.agg #[.int .i64 m.kind,.string m.name,.string m.value],v] w (fun u w'=>u=.bool (h m ls)∧Grow w w')
theorem all1_ok (h:Mt→List Lab→Bool) (m:Mt) (hh:HoldsC h m) (M:Nat→Prop) (ls:List Lab) (hz:∀ x∈ls,x.value.size≤100000) (vl:Value) (b4:Nat) (w:World) (hl:SlL M w vl ls) (hb:Blk w b4 39 [vl]):Fx Tryz.prog 102 [.agg #[.int .i64 m.kind,.string m.name,.string m.value],pp b4] w (fun u w'=>u=.bool (!h m ls)∧Grow w w'):=by
 obtain ⟨ad,c,rfl⟩:=hl.shape
 refine enter Tryz.func102 rfl rfl rfl _ (Pick.sub (l:=[0,1]) (.cons rfl (.cons rfl .nil))) ?_
 refine GG ?_
 refine OP (Does.box rfl) ?_
 rintro _ w1 ⟨b1,rfl,hn1⟩
 refine GG ?_
 refine QQ (Yld.loadN (cs:=[.int .i64 m.kind,.string m.name,.string m.value]) a108 rfl (atN (fun j u hj=>by rw [Nat.zero_add];exact hn1.blk.cell' hj))) ?_
 refine QQ (Yld.load p39 rfl (at1 ((hb.mod hn1.grow (fun h=>h)).cell rfl))) ?_
 refine OP (Does.call rfl e103 (hh M ls _ _ hz (hl.mod (Mod.any' hn1.grow)))) ?_
 rintro _ w2 ⟨rfl,hg2⟩
 refine GG ?_
 refine RK.ret_of Tryz.func102 (res1 rfl rfl) ?_ _
 exact ⟨_,rfl,rfl,hn1.grow.trans hg2⟩
theorem indexM_ok (h:Mt→List Lab→Bool) (ms:List Mt) (hh:∀ m∈ms,HoldsC h m) (M M' : Nat→Prop) (ls:List Lab) (hz:∀ x∈ls,x.value.size≤100000) (v vl:Value) (b4:Nat) (w:World) (hv:SlM M' w v ms) (hl:SlL M w vl ls) (hb:Blk w b4 39 [vl]) :
  Fx Tryz.prog 138 [v,.func (.func 102) #[] #[pp b4]] w (fun u w'=>u=.int .i64 (optI (ms.findIdx? fun m=>!h m ls))∧Grow w w'):=by
 obtain ⟨ad,c,rfl⟩:=hv.shape
 have hbig:=hv.big
 refine enter Tryz.func138 rfl rfl rfl _ (Pick.sub (l:=[0,1]) (.cons rfl (.cons rfl .nil))) ?_
 refine GG ?_
 refine QQ (Yld.lenSl u28 rfl) ?_
 refine GG ?_
 refine RK.loop (fun k:Nat=>[(0,.slice ad ms.length c),(1,.func (.func 102) #[] #[pp b4]),(7,.int .i64 ms.length),(8,.int .i64 k)]) (fun k w'=>Grow w w'∧k≤ms.length∧∀ (i:Nat) (a:Mt),i < k→ms[i]?=some a→h a ls=true) (fun k=>ms.length - k) 0 ⟨rfl,rfl,rfl,rfl,trivial⟩ ⟨Mod.refl _ _,by omega,fun i a h=>by omega⟩ (fun k w' hI ih=>?_)
 obtain ⟨hg,hk,hno⟩:=hI
 refine GG ?_
 refine CD (fun h9=>?_) (fun h9=>?_)
 ·obtain ⟨x,hx⟩:∃ x,ms[k]?=some x:=⟨ms[k]'(by omega),List.getElem?_eq_getElem (by omega)⟩
  obtain ⟨b1,o1,c1',he1,_,_,hc1⟩:=hv.elem mtC_len hx
  cases he1
  refine GG ?_
  refine QQ (Yld.indexAddrN u28 i108 rfl rfl (by omega)) ?_
  refine QQ (Yld.loadN (cs:=[.int .i64 x.kind,.string x.name,.string x.value]) a108 rfl (atN (fun j u hj=>hg.cell (hc1 j u hj) (fun h=>h)))) ?_
  refine OP (Does.callv rfl rfl e102 (all1_ok h x (hh x (List.mem_of_getElem? hx)) M ls hz vl b4 _ (hl.mod (Mod.any' hg)) (hb.mod hg (fun h=>h)))) ?_
  rintro _ w2 ⟨rfl,hg2⟩
  refine RL.done ?_
  refine CD (fun h16=>?_) (fun h16=>?_)
  ·refine GG ?_
   refine RK.ret_of Tryz.func138 (res1 rfl rfl) ?_ _
   exact ⟨_,rfl,congrArg _ (by
     have:ms.findIdx? (fun m=>!h m ls)=some k:=by
      rw [List.findIdx?_eq_some_iff_getElem]
      refine ⟨by omega,?_,fun j hj=>?_⟩
      ·rw [(List.getElem?_eq_some_iff.1 hx).2];exact h16
      ·simpa using hno j (ms[j]'(by omega)) hj (List.getElem?_eq_getElem (by omega))
     rw [this];rfl),hg.trans hg2⟩
  ·refine RK.skip ?_
   refine RK.inBlock ?_
   refine RK.region ?_
   refine RL.p rfl rfl ?_
   refine RL.re (d:=18) rfl rfl (succ_i64 (by omega)) ?_
   refine GG ?_
   exact RK.back (ih (k + 1) _ ⟨hg.trans hg2,by omega,fun i a' hi ha'=>by by_cases e:i=k;(subst e;rw [hx] at ha';cases ha';simpa using h16);exact hno i a' (by omega) ha'⟩ (by omega)) ⟨rfl,rfl,rfl,rfl,trivial⟩
 ·refine RK.exit rfl ?_
  refine GG ?_
  refine RK.ret_of Tryz.func138 (res1 rfl rfl) ?_ _
  exact ⟨_,rfl,congrArg _ (by
    have:ms.findIdx? (fun m=>!h m ls)=none:=by
     rw [List.findIdx?_eq_none_iff]
     intro x hx
     obtain ⟨i,hi⟩:=List.getElem?_of_mem hx
     have hil:=(List.getElem?_eq_some_iff.1 hi).1
     simpa using hno i x (by omega) hi
    rw [this];rfl),hg⟩
theorem allM_ok (h:Mt→List Lab→Bool) (ms:List Mt) (hh:∀ m∈ms,HoldsC h m) (M M' : Nat→Prop) (ls:List Lab) (hz:∀ x∈ls,x.value.size≤100000) (v vl:Value) (w:World) (hv:SlM M' w v ms) (hl:SlL M w vl ls) :
  Fx Tryz.prog 52 [v,vl] w (fun u w'=>u=.bool (ms.all fun m=>h m ls)∧Grow w w'):=by
 obtain ⟨ad,c,rfl⟩:=hl.shape
 have hcont:∀ (b4:Nat) (w1:World),Grow w w1→Blk w1 b4 39 [.slice ad ls.length c]→Fx Tryz.prog 101 [v,.func (.func 102) #[] #[pp b4]] w1 (fun u w'=>u=.bool (!ms.all fun m=>h m ls)∧Grow w1 w'):=fun b4 w1 hg1 hb=>by
  have hcall:=indexM_ok h ms hh M M' ls hz v _ b4 w1 (hv.mod (Mod.any' hg1)) (hl.mod (Mod.any' hg1)) hb
  obtain ⟨ad2,c2,rfl⟩:=hv.shape
  refine enter Tryz.func101 rfl rfl rfl _ (Pick.sub (l:=[0,1]) (.cons rfl (.cons rfl .nil))) ?_
  refine GG ?_
  refine OP (Does.call rfl e138 (hcall)) ?_
  rintro _ w2 ⟨rfl,hg2⟩
  refine GG ?_
  refine RK.ret_of Tryz.func101 (res1 rfl rfl) ?_ _
  exact ⟨_,rfl,congrArg _ (by
    cases hf:ms.findIdx? (fun m=>!h m ls) with
    | none=>
     have:(ms.all fun m=>h m ls)=true:=List.all_eq_true.2 fun m hm=>by simpa using List.findIdx?_eq_none_iff.1 hf m hm
     rw [this];rfl
    | some k=>
     obtain ⟨hk,hp,_⟩:=List.findIdx?_eq_some_iff_getElem.1 hf
     have:(ms.all fun m=>h m ls)=false:=List.all_eq_false.2 ⟨_,List.getElem_mem hk,by simpa using hp⟩
     rw [this]
     show decide ((0:Int)≤(k:Int))=true
     simp),hg2⟩
 refine enter Tryz.func52 rfl rfl rfl _ (Pick.sub (l:=[0,1]) (.cons rfl (.cons rfl .nil))) ?_
 refine GG ?_
 refine OP (Does.box rfl) ?_
 rintro _ w1 ⟨b1,rfl,hn1⟩
 refine GG ?_
 refine OP (Does.call rfl e101 (hcont b1 _ hn1.grow hn1.blk)) ?_
 rintro _ w2 ⟨rfl,hg2⟩
 refine GG ?_
 refine RK.ret_of Tryz.func52 (res1 rfl rfl) ?_ _
 exact ⟨_,rfl,by simp,hn1.grow.trans hg2⟩
end Go.Proofs.YtbcbfjnlnmhpbaaGreat
set_option linter.unusedVariables false
set_option linter.unusedSimpArgs false
set_option maxHeartbeats 800000
set_option maxRecDepth 100000
namespace Go.Proofs.YtbcbfjnlnmhpbaaGreat
open Go Go.X
end Go.Proofs.YtbcbfjnlnmhpbaaGreat
set_option linter.unusedVariables false
set_option linter.unusedSimpArgs false
set_option maxHeartbeats 800000
set_option maxRecDepth 100000
namespace Go.Proofs.YtbcbfjnlnmhpbaaGreat
open Go Go.X
end Go.Proofs.YtbcbfjnlnmhpbaaGreat
set_option linter.unusedVariables false
set_option linter.unusedSimpArgs false
set_option maxHeartbeats 1000000
set_option maxRecDepth 100000
namespace Go.Proofs.YtbcbfjnlnmhpbaaGreat
open Go Go.X Go.Rex
@[irreducible] def fitS (s:ByteArray):Bool:=match parseS s with
 | some x=>decide (sz x + 1≤40)
 | none=>false
@[irreducible] def patS (s:ByteArray):Bool:=(parseS s).isSome
@[irreducible] def isM (m:Mt):Bool:=nameS m.name && (if likeS m then patS m.value else decide ((m.kind=1∨m.kind=2)∧m.value.size≤24))
@[irreducible] def largeM (m:Mt):Bool:=isM m && likeS m && !fitS m.value
@[irreducible] noncomputable def takesS (s v:ByteArray):Bool:=match parseS s with
 | some x=>takes x v
 | none=>false
@[irreducible] noncomputable def holdsM (m:Mt) (ls:List Lab):Bool:=isM m && !largeM m && (if m.kind=1 then decide (getL ls m.name=m.value) else if m.kind=2 then !decide (getL ls m.name=m.value) else takesS m.value (getL ls m.name) == decide (m.kind=3))
theorem getL_size {ls:List Lab} (hz:∀ x∈ls,x.value.size≤100000) (nm:ByteArray):(getL ls nm).size≤100000:=by
 unfold getL
 cases hf:ls.find? fun x=>decide (x.name=nm) with
 | none=>show (0:Nat)≤100000;omega
 | some x=>exact hz x (List.mem_of_find?_eq_some hf)
theorem like_kind {m:Mt} (h:likeS m=true):m.kind=3∨m.kind=4:=by unfold likeS at h;simpa using h
theorem isM_kind {m:Mt} (h:isM m=true):m.kind=1∨m.kind=2∨m.kind=3∨m.kind=4:=by
 unfold isM at h
 simp only [Bool.and_eq_true] at h
 cases hl:likeS m with
 | true=>have:=like_kind hl;omega
 | false=>rw [hl] at h;simp at h;omega
theorem isM_pat {m:Mt} (h:isM m=true) (hl:likeS m=true):patS m.value=true:=by
 unfold isM at h
 rw [hl] at h
 simp only [Bool.and_eq_true,if_true] at h
 exact h.2
theorem pat_parse {s:ByteArray} (h:patS s=true):∃ x,parseS s=some x:=by unfold patS at h;exact Option.isSome_iff_exists.1 h
theorem parse_sz' {s:ByteArray} {x:Rx} (h:parseS s=some x):sz x≤80:=parse_sz (fun x j h=>(par_adv s 8 0 x j (Nat.zero_le _) h).2) h
theorem matchIs_ok (m:Mt) (w:World):Fx Tryz.prog 130 [.agg #[.int .i64 m.kind,.string m.name,.string m.value]] w (fun u w'=>u=.bool (isM m)∧Grow w w'):=by
 cases hlk:likeS m with
 | false=>
  refine Fx.mono (isV_ok m hlk w) ?_
  rintro u w' ⟨rfl,hg⟩
  refine ⟨congrArg _ ?_,hg⟩
  unfold isM isV
  rw [hlk];rfl
 | true=>
  refine enter Tryz.func130 rfl rfl rfl _ (Pick.sub (l:=[0]) (.cons rfl .nil)) ?_
  refine GG ?_
  refine OP (Does.box rfl) ?_
  rintro _ w1 ⟨b1,rfl,hn1⟩
  refine GG ?_
  refine QQ (Yld.fieldAddr fo108_1 rfl) ?_
  refine QQ (Yld.load p9 rfl (at1 (hn1.blk.cell rfl))) ?_
  refine OP (Does.call rfl e157 (name_ok _ _)) ?_
  rintro _ _ ⟨rfl,rfl⟩
  refine GG ?_
  refine CD (fun h8=>?_) (fun h8=>?_)
  ·refine GG ?_
   refine RK.ret_of Tryz.func130 (res1 rfl rfl) ?_ _
   exact ⟨_,rfl,congrArg _ (by unfold isM;simp at h8;rw [h8];rfl),hn1.grow⟩
  ·refine GG ?_
   refine QQ (Yld.loadN (cs:=[.int .i64 m.kind,.string m.name,.string m.value]) a108 rfl (atN (blk0' hn1.blk))) ?_
   refine OP (Does.call rfl e158 (like_ok m _)) ?_
   rintro _ w2 ⟨rfl,hg2⟩
   refine RL.done ?_
   refine RK.condT (hcT rfl (hlk)) ?_
   refine GG ?_
   refine QQ (Yld.fieldAddr fo108_2 rfl) ?_
   refine QQ (Yld.load p9 rfl (at1 ((hn1.blk.mod hg2 (fun h=>h)).cell rfl))) ?_
   refine OP (Does.call rfl e159 (parse_ok m.value _)) ?_
   rintro _ w3 ⟨c,rfl,hg3,hx⟩
   refine GG ?_
   refine OP (Does.alloc i180) ?_
   rintro _ w4 ⟨b3,rfl,hn3⟩
   refine OQ (Does.storeN i180 rfl rfl rfl rfl hn3.blk (Nat.le_refl 6)) ?_
   rintro _ w5 ⟨hb5,hm5,_⟩
   refine GG ?_
   refine RK.ret_of Tryz.func130 (res1 rfl rfl) ?_ _
   exact ⟨_,rfl,congrArg _ (by unfold isM patS;simp at h8;rw [h8,hlk];rfl),(((hn1.grow.trans hg2).trans hg3).trans hn3.grow).then hm5 (fun y hy e=>by have e' : y=b3:=e;have:=hn3.at_;have:=((hn1.grow.trans hg2).trans hg3).size;omega)⟩
theorem program_ok (m:Mt) (hp:patS m.value=true) (w:World):Fx Tryz.prog 140 [.agg #[.int .i64 m.kind,.string m.name,.string m.value]] w (fun u w'=>(∃ v,u=.tuple #[v,.bool (fitS m.value)]∧(fitS m.value=true→∃ x,parseS m.value=some x∧sz x + 1≤40∧RowS w' v (whole x)))∧Grow w w'):=by
 obtain ⟨x,hx⟩:=pat_parse hp
 have ht:=parse_tr hx
 have hsz:=parse_sz' hx
 have hfit:fitS m.value=decide (sz x + 1≤40):=by unfold fitS;rw [hx]
 refine enter Tryz.func140 rfl rfl rfl _ (Pick.sub (l:=[0]) (.cons rfl .nil)) ?_
 refine GG ?_
 refine OP (Does.box rfl) ?_
 rintro _ w1 ⟨b1,rfl,hn1⟩
 refine GG ?_
 refine QQ (Yld.fieldAddr fo108_2 rfl) ?_
 refine QQ (Yld.load p9 rfl (at1 (hn1.blk.cell rfl))) ?_
 refine OP (Does.call rfl e159 (parse_ok m.value _)) ?_
 rintro _ w3 ⟨c,rfl,hg3,hxx⟩
 have hv3:=hxx x hx
 have hsm:(parseS m.value).isSome=true:=by rw [hx];rfl
 rw [hsm]
 refine GG ?_
 refine OP (Does.alloc i180) ?_
 rintro _ w4 ⟨b3,rfl,hn3⟩
 refine OQ (Does.storeN i180 rfl rfl rfl rfl hn3.blk (Nat.le_refl 6)) ?_
 rintro _ w5 ⟨hb5,hm5,_⟩
 have hB5:Blk w5 b3 180 (celC c):=hb5
 have hg5:Grow w3 w5:=hn3.grow.then hm5 (fun y hy e=>by have e' : y=b3:=e;have:=hn3.at_;omega)
 refine GG ?_
 refine RK.condF (hcF rfl (rfl)) ?_
 refine GG ?_
 refine QQ (Yld.loadN (cs:=celC c) a180 rfl (atN (blk0' hB5))) ?_
 refine OP (Does.call rfl e169 (progMake_ok x ht (by omega) _ c _ (RxV.grow hg5 x hv3))) ?_
 rintro _ w6 ⟨⟨v,rfl,hrow⟩,hg6⟩
 refine GG ?_
 refine RK.ret_of Tryz.func140 (res2 rfl rfl rfl) ?_ _
 exact ⟨_,rfl,⟨v,by rw [hfit],fun hf=>⟨x,hx,by rw [hfit] at hf;simpa using hf,hrow (by rw [hfit] at hf;simpa using hf)⟩⟩,((hn1.grow.trans hg3).trans hg5).trans hg6⟩
theorem large_no {m:Mt} (h:isM m=false):largeM m=false:=by unfold largeM;rw [h];rfl
theorem large_no2 {m:Mt} (h:likeS m=false):largeM m=false:=by unfold largeM;rw [h];simp
theorem large_yes {m:Mt} (h1:isM m=true) (h2:likeS m=true):largeM m=!fitS m.value:=by unfold largeM;rw [h1,h2];rfl
theorem matchLarge_ok (m:Mt) (w:World):Fx Tryz.prog 133 [.agg #[.int .i64 m.kind,.string m.name,.string m.value]] w (fun u w'=>u=.bool (largeM m)∧Grow w w'):=by
 refine enter Tryz.func133 rfl rfl rfl _ (Pick.sub (l:=[0]) (.cons rfl .nil)) ?_
 refine GG ?_
 refine OP (Does.box rfl) ?_
 rintro _ w1 ⟨b1,rfl,hn1⟩
 have hB1:Blk w1 b1 108 [.int .i64 m.kind,.string m.name,.string m.value]:=hn1.blk
 refine GG ?_
 refine QQ (Yld.loadN (cs:=[.int .i64 m.kind,.string m.name,.string m.value]) a108 rfl (atN (blk0' hB1))) ?_
 refine OP (Does.call rfl e158 (like_ok m _)) ?_
 rintro _ w2 ⟨rfl,hg2⟩
 have hB2:=hB1.mod hg2 (fun h=>h)
 refine GG ?_
 refine SP 8 (fun h8=>?_) (fun h8=>?_)
 ·have hl:likeS m=false:=by unfold likeS;simpa using h8
  iterate 3 refine RL.no (.no rfl rfl rfl rfl) rfl rfl ?_
  refine GG ?_
  refine RK.condT (hcT rfl (rfl)) ?_
  refine GG ?_
  refine RK.ret_of Tryz.func133 (res1 rfl rfl) ?_ _
  exact ⟨_,rfl,by rw [large_no2 hl],hn1.grow.trans hg2⟩
 ·have hl:likeS m=true:=by unfold likeS;simpa using h8
  refine QQ (Yld.loadN (cs:=[.int .i64 m.kind,.string m.name,.string m.value]) a108 rfl (atN (blk0' hB2))) ?_
  refine OP (Does.call rfl e130 (matchIs_ok m _)) ?_
  rintro _ w3 ⟨rfl,hg3⟩
  have hB3:=hB2.mod hg3 (fun h=>h)
  refine QQ (Yld.pure rfl) ?_
  refine GG ?_
  refine CD (fun h12=>?_) (fun h12=>?_)
  ·have his:isM m=false:=by simpa using h12
   refine GG ?_
   refine RK.ret_of Tryz.func133 (res1 rfl rfl) ?_ _
   exact ⟨_,rfl,by rw [large_no his],(hn1.grow.trans hg2).trans hg3⟩
  ·have his:isM m=true:=by simpa using h12
   refine GG ?_
   refine QQ (Yld.loadN (cs:=[.int .i64 m.kind,.string m.name,.string m.value]) a108 rfl (atN (blk0' hB3))) ?_
   refine OP (Does.call rfl e140 (program_ok m (isM_pat his hl) _)) ?_
   rintro _ w4 ⟨⟨v,rfl,_⟩,hg4⟩
   refine GG ?_
   refine RK.ret_of Tryz.func133 (res1 rfl rfl) ?_ _
   exact ⟨_,rfl,by rw [large_yes his hl],((hn1.grow.trans hg2).trans hg3).trans hg4⟩
theorem matchHolds_ok (m:Mt):HoldsC holdsM m:=by
 intro M ls v w hz hv
 obtain ⟨ad,c,rfl⟩:=hv.shape
 have hgz:=getL_size hz m.name
 refine enter Tryz.func103 rfl rfl rfl _ (Pick.sub (l:=[0,1]) (.cons rfl (.cons rfl .nil))) ?_
 refine GG ?_
 refine OP (Does.box rfl) ?_
 rintro _ w1 ⟨b1,rfl,hn1⟩
 have hB1:Blk w1 b1 108 [.int .i64 m.kind,.string m.name,.string m.value]:=hn1.blk
 refine GG ?_
 refine QQ (Yld.loadN (cs:=[.int .i64 m.kind,.string m.name,.string m.value]) a108 rfl (atN (blk0' hB1))) ?_
 refine OP (Does.call rfl e130 (matchIs_ok m _)) ?_
 rintro _ w2 ⟨rfl,hg2⟩
 have hg02:=hn1.grow.trans hg2
 refine GG ?_
 refine CD (fun h10=>?_) (fun h10=>?_)
 ·refine GG ?_
  refine RK.ret_of Tryz.func103 (res1 rfl rfl) ?_ _
  exact ⟨_,rfl,congrArg _ (by simp at h10;unfold holdsM;rw [h10];rfl),hg02⟩
 ·have his:isM m=true:=by simpa using h10
  have hk:=isM_kind his
  refine GG ?_
  refine QQ (Yld.fieldAddr fo108_1 rfl) ?_
  refine QQ (Yld.load p9 rfl (at1 ((hB1.mod hg2 (fun h=>h)).cell rfl))) ?_
  refine OP (Does.call rfl e139 (labelsGet_ok M ls _ m.name _ (hv.mod (Mod.any' hg02)))) ?_
  rintro _ w3 ⟨rfl,hg3⟩
  have hB3:=(hB1.mod hg2 (fun h=>h)).mod hg3 (fun h=>h)
  have hg03:=hg02.trans hg3
  refine GG ?_
  refine QQ (Yld.fieldAddr fo108_0 rfl) ?_
  refine QQ (Yld.load p3 rfl (at1 (hB3.cell rfl))) ?_
  refine GG ?_
  refine CD (fun h17=>?_) (fun h17=>?_)
  ·have hnl:largeM m=false:=large_no2 (by unfold likeS;simp;omega)
   refine GG ?_
   refine QQ (Yld.fieldAddr fo108_2 rfl) ?_
   refine QQ (Yld.load p9 rfl (at1 (hB3.cell rfl))) ?_
   refine GG ?_
   refine RK.ret_of Tryz.func103 (res1 rfl rfl) ?_ _
   exact ⟨_,rfl,congrArg _ (by unfold holdsM;rw [his,hnl,if_pos h17];rfl),hg03⟩
  ·refine GG ?_
   refine CD (fun h23=>?_) (fun h23=>?_)
   ·have hnl:largeM m=false:=large_no2 (by unfold likeS;simp;omega)
    refine GG ?_
    refine QQ (Yld.fieldAddr fo108_2 rfl) ?_
    refine QQ (Yld.load p9 rfl (at1 (hB3.cell rfl))) ?_
    refine GG ?_
    refine RK.ret_of Tryz.func103 (res1 rfl rfl) ?_ _
    exact ⟨_,rfl,congrArg _ (by unfold holdsM;rw [his,hnl,if_neg h17,if_pos h23];rfl),hg03⟩
   ·have hl:likeS m=true:=by unfold likeS;simp;omega
    have hlg:=large_yes his hl
    refine GG ?_
    refine QQ (Yld.loadN (cs:=[.int .i64 m.kind,.string m.name,.string m.value]) a108 rfl (atN (blk0' hB3))) ?_
    refine OP (Does.call rfl e140 (program_ok m (isM_pat his hl) _)) ?_
    rintro _ w4 ⟨⟨v4,rfl,hrow⟩,hg4⟩
    have hB4:=hB3.mod hg4 (fun h=>h)
    have hg04:=hg03.trans hg4
    refine GG ?_
    refine RK.drawM No [(0,false),(1,false),(2,false),(3,false),(5,false),(6,false),(7,false),(4,true),(8,false),(9,false),(10,false)] [] mixed (by kernel_rfl) ?_
    refine GG ?_
    refine SD 35 (fun h34=>?_) (fun h34=>?_)
    ·obtain ⟨x,hx,hsz,hr⟩:=hrow h34
     obtain ⟨ad4,c4,rfl,hc4⟩:=hr.cap
     have hnl:largeM m=false:=by rw [hlg,h34];rfl
     have htk:takesS m.value (getL ls m.name)=takes x (getL ls m.name):=by unfold takesS;rw [hx]
     iterate 2 refine DF (Yld.pure rfl) ?_
     refine DF (Yld.fieldAddr fo108_0 rfl) ?_
     refine DQ (Yld.load p3 rfl (atM (hB4.cell rfl) (fun h=>h))) (Mod.drew _ _) ?_
     refine DF (Yld.pure rfl) ?_
     refine OD (Does.call rfl e141 (scanMatch_ok x (parse_tr hx) hsz _ (getL ls m.name) (by omega) _ ((Sl.own hr (fun _ _ h=>h)).mod (Mod.drew _ _)) ⟨ad4,c4,rfl,hc4⟩)) ?_
     rintro _ w5 ⟨rfl,hg5⟩
     have hgd:Grow w4 w5:=(Mod.drew _ _).trans hg5
     refine ⟨hgd,?_⟩
     refine DF (Yld.eqBool u4 rfl rfl) ?_
     refine GG ?_
     refine RK.ret_of Tryz.func103 (res1 rfl rfl) ?_ _
     exact ⟨_,rfl,congrArg _ (by
       unfold holdsM
       rw [his,hnl,if_neg h17,if_neg h23,htk]
       cases takes x (getL ls m.name) <;> simp),hg04.trans hgd⟩
    ·have hnl:largeM m=true:=by rw [hlg,h34];rfl
     iterate 5 refine DL.no rfl (.no rfl rfl rfl rfl) rfl rfl ?_
     refine DL.lno rfl (.no rfl rfl rfl rfl) rfl rfl ?_
     refine DL.no rfl (.no rfl rfl rfl rfl) rfl rfl ?_
     refine GG ?_
     refine RK.ret_of Tryz.func103 (res1 rfl rfl) ?_ _
     exact ⟨_,rfl,congrArg _ (by unfold holdsM;rw [his,hnl];rfl),hg04.trans (Mod.drew _ _)⟩
end Go.Proofs.YtbcbfjnlnmhpbaaGreat
set_option linter.unusedVariables false
set_option linter.unusedSimpArgs false
set_option maxHeartbeats 1000000
set_option maxRecDepth 100000
namespace Go.Proofs.YtbcbfjnlnmhpbaaGreat
open Go Go.X Go.Rex
def idxT (o:List Bool) (k:Nat):List Int:=((List.range k).filter fun i=>decide (o[i]?=some true)).map fun (i:Nat)=>(i:Int)
theorem idxT_snoc (o:List Bool) (k:Nat):idxT o (k + 1)=if o[k]?=some true then idxT o k ++ [(k:Int)] else idxT o k:=by
 unfold idxT
 rw [List.range_succ,List.filter_append,List.map_append]
 by_cases h:o[k]?=some true <;> simp [h]
theorem idxT_lt {o:List Bool} {k:Nat} {z:Int} (h:z∈idxT o k):0≤z∧z < k:=by
 unfold idxT at h
 obtain ⟨i,hi,rfl⟩:=List.mem_map.1 h
 have:=List.mem_range.1 (List.mem_filter.1 hi).1
 omega
theorem idxT_last (o:List Bool) (n:Nat):(0 < (idxT o (n + 1)).length∧(idxT o (n + 1))[(idxT o (n + 1)).length - 1]?=some (n:Int))↔o[n]?=some true:=by
 rw [idxT_snoc]
 by_cases h:o[n]?=some true
 ·rw [if_pos h];simp [h]
 ·rw [if_neg h]
  simp only [h,iff_false,not_and]
  intro _ he
  have:=idxT_lt (List.mem_of_getElem? he)
  omega
theorem idxT_len (o:List Bool) (k:Nat):(idxT o k).length≤k:=by
 unfold idxT
 rw [List.length_map]
 exact Nat.le_trans (List.length_filter_le _ _) (by simp)
theorem endsT_ok (x:Rx) (ht:Tr false x) (s:ByteArray) (hs:s.size≤100000) (M:Nat→Prop) (k:Cel) (w:World) (hv:RxV M w x [k]):Fx Tryz.prog 178 [.agg (celC k).toArray,.string s,.int .i64 0] w (fun u w'=>(∃ o,o.length=s.size + 1∧(o[s.size]?=some true↔Lg (HS s) x true 0 s.size)∧Row w' 3 1 u (idxT o (s.size + 1)).length (ints (idxT o (s.size + 1))))∧Grow w w'):=by
 refine enter Tryz.func178 rfl rfl rfl _ (Pick.sub (l:=[0,1,2]) (.cons rfl (.cons rfl (.cons rfl .nil)))) ?_
 refine GG ?_
 refine OP (Does.box rfl) ?_
 rintro _ w1 ⟨b3,rfl,hn3⟩
 refine GG ?_
 refine QQ (Yld.loadN (cs:=celC k) a180 rfl (atN (blk0' hn3.blk))) ?_
 refine OP (Does.call rfl e179 (isRex_ok _ x (Nat.le_refl _) ht M k _ (RxV.grow hn3.grow x hv))) ?_
 rintro _ w2 ⟨rfl,hg2⟩
 have hB2:=hn3.blk.mod hg2 (fun h=>h)
 refine GG ?_
 refine RL.knownF (d:=14) rfl rfl (rfl) ?_
 iterate 2 refine QQ (Yld.pure rfl) ?_
 refine GG ?_
 refine RL.knownF (d:=18) rfl rfl (rfl) ?_
 iterate 2 refine QQ (Yld.pure rfl) ?_
 refine QQ (Yld.lenStr u9 rfl) ?_
 refine QQ (Yld.pure rfl) ?_
 refine GG ?_
 refine RK.condF (hcF rfl (decide_eq_false (by omega))) ?_
 refine GG ?_
 refine QQ (Yld.lenStr u9 rfl) ?_
 refine RL.p rfl rfl ?_
 refine RL.re (d:=26) rfl rfl (succ_i64 (by omega)) ?_
 refine OP (Does.mkSlice u257 i4 rfl rfl rfl (by omega) (by omega)) ?_
 rintro _ w3 ⟨b7,rfl,hn7⟩
 refine GG ?_
 refine QQ (Yld.indexAddr u257 i4 rfl rfl (by omega) (by omega)) ?_
 refine OQ (Does.store i4 rfl rfl rfl hn7.blk (setAt_of (by simp))) ?_
 rintro _ w4 ⟨hb4,hm4,_⟩
 have hb7:=hn7.at_
 have hg4:Grow w2 w4:=hn7.grow.then hm4 (fun y hy e=>by have e' : y=b7:=e;omega)
 obtain ⟨f0,hf0⟩:∃ f0,(List.replicate (s.size + 1) false).set 0 true=f0:=⟨_,rfl⟩
 have hB4:Blk w4 b7 4 (bls f0):=by rw [← hf0];have h9:=hb4;rw [show bls ((List.replicate (s.size + 1) false).set 0 true)=(List.replicate (s.size + 1) (Value.bool false)).set 0 (.bool true) by simp [bls,List.map_set]];simpa using h9
 have hfl:f0.length=s.size + 1:=by rw [← hf0];simp
 have hv4:SlB No w4 (.slice (some ⟨b7,0,none⟩) (s.size + 1) (s.size + 1)) f0:=⟨by simp,by rw [hfl];omega,some ⟨b7,0,none⟩,s.size + 1,by rw [hfl],fun _=>⟨b7,0,rfl,fun h=>h,fun j u hj=>by rw [Nat.zero_add];exact hB4.cell' hj⟩⟩
 have hg04:=(hn3.grow.trans hg2).trans hg4
 refine GG ?_
 refine QQ (Yld.loadN (cs:=celC k) a180 rfl (atN (blk0' (hB2.mod hg4 (fun h=>h))))) ?_
 refine GG ?_
 refine OP (Does.call rfl e210 (after_ok s hs _ x (Nat.le_refl _) ht M k _ f0 _ (RxV.grow hg04 x hv) hv4 hfl)) ?_
 rintro u8 w5 ⟨⟨o,hE,hu8⟩,hg5⟩
 have hends:o[s.size]?=some true↔Lg (HS s) x true 0 s.size:=by
   rw [hE.2]
   constructor
   ·rintro ⟨_,i,h1,h2⟩
    have:i=0:=by
     rw [← hf0] at h1
     cases i with
     | zero=>rfl
     | succ i=>rw [List.getElem?_set_ne (by omega)] at h1;simp [List.getElem?_replicate] at h1
    subst this;exact h2
   ·intro h;exact ⟨Nat.le_refl _,0,by rw [← hf0];simp,h⟩
 obtain ⟨ad8,c8,rfl⟩:=hu8.shape
 have hol:=hE.1
 refine GG ?_
 refine RK.loop (fun t:Nat×Value=>[(1,.string s),(8,.slice ad8 o.length c8),(9,t.2),(10,.int .i64 (t.1:Int))]) (fun t w'=>t.1≤s.size + 1∧Row w' 3 1 t.2 (idxT o t.1).length (ints (idxT o t.1))∧Fresh w5.heap.size t.2∧Grow w5 w') (fun t=>s.size + 1 - t.1) (0,.slice none 0 0) ⟨rfl,rfl,rfl,rfl,trivial⟩ ⟨by simp,by simpa [idxT] using Row.nil _ _ _,fun b hb=>by simp [Value.ownBlock] at hb,Mod.refl _ _⟩ (fun t w6 hI ih=>?_)
 obtain ⟨q,u⟩:=t
 obtain ⟨hq,hr,hf,hg6⟩:=hI
 simp only at hq hr hf
 have hil:=idxT_len o q
 refine GG ?_
 refine QQ (Yld.lenStr u9 rfl) ?_
 refine GG ?_
 refine CD (fun h38=>?_) (fun h38=>?_)
 ·have hqs:q < s.size + 1:=by simp only at h38;omega
  obtain ⟨bb,hbb⟩:∃ bb,o[q]?=some bb:=⟨o[q]'(by omega),List.getElem?_eq_getElem (by omega)⟩
  obtain ⟨b9,o9,c9,he9,_,_,hc9⟩:=hu8.elem1 (bls_get hbb)
  cases he9
  have hsn:=idxT_snoc o q
  refine GG ?_
  refine QQ (Yld.indexAddrN u257 i4 rfl rfl (by omega)) ?_
  refine QQ (Yld.load p4 rfl (at1 (hg6.cell (hc9 q _ (bls_get hbb)) (fun h=>h)))) ?_
  refine RL.done ?_
  refine CD (fun h44=>?_) (fun h44=>?_)
  ·rw [if_pos (by rw [hbb,h44])] at hsn
   refine GG ?_
   refine OP (Does.slice1 u35 i3 rfl rfl rfl rfl rfl) ?_
   rintro _ w7 ⟨b10,rfl,hn10⟩
   refine OP (Does.append u35 i3 rfl rfl rfl rfl rfl (hr.mod hn10.grow (fun _ _ h=>h)) (Sl.new hn10 1 1 rfl (by omega) (fun h=>h)) (rfl) (by omega)) ?_
   rintro u11 w8 ⟨hr8,hm8,hu11⟩
   have hs6:=hg6.size
   have hs7:=hn10.grow.size
   refine RL.p rfl rfl ?_
   refine RL.done ?_
   refine RK.inBlock ?_
   refine RK.region ?_
   iterate 2 refine RL.p rfl rfl ?_
   refine RL.re (d:=40) rfl rfl (succ_i64 (by omega)) ?_
   refine GG ?_
   exact RK.back (ih (q + 1,u11) _ ⟨by simp only;omega,by simp only;rw [hsn,show ints (idxT o q ++ [(q:Int)])=ints (idxT o q) ++ [.int .i64 (q:Int)] by simp [ints],List.length_append];exact hr8,fun b e=>by
     rcases hu11 with h1 | h1
     ·exact hf b (h1 ▸ e)
     ·simp only at e;rw [h1] at e;cases e;omega,(hg6.trans hn10.grow).then hm8 (fun b hb e=>by have:=hf b e;omega)⟩ (by simp only;omega)) ⟨rfl,rfl,rfl,rfl,trivial⟩
  ·rw [if_neg (by rw [hbb,h44];simp)] at hsn
   refine RK.skip ?_
   refine RK.inBlock ?_
   refine RK.region ?_
   iterate 2 refine RL.p rfl rfl ?_
   refine RL.re (d:=40) rfl rfl (succ_i64 (by omega)) ?_
   refine GG ?_
   exact RK.back (ih (q + 1,u) _ ⟨by simp only;omega,by simp only;rw [hsn];exact hr,hf,hg6⟩ (by simp only;omega)) ⟨rfl,rfl,rfl,rfl,trivial⟩
 ·have hqe:q=s.size + 1:=by simp only at h38;omega
  subst hqe
  refine RK.exit rfl ?_
  refine GG ?_
  refine RK.ret_of Tryz.func178 (res1 rfl rfl) ?_ _
  exact ⟨_,rfl,⟨o,hol,hends,hr⟩,(hg04.trans hg5).trans hg6⟩
theorem takesR_ok (x:Rx) (ht:Tr false x) (s:ByteArray) (hs:s.size≤100000) (M:Nat→Prop) (k:Cel) (w:World) (hv:RxV M w x [k]):Fx Tryz.prog 148 [.agg (celC k).toArray,.string s] w (fun u w'=>u=.bool (takes x s)∧Grow w w'):=by
 refine enter Tryz.func148 rfl rfl rfl _ (Pick.sub (l:=[0,1]) (.cons rfl (.cons rfl .nil))) ?_
 refine GG ?_
 refine OP (Does.box rfl) ?_
 rintro _ w1 ⟨b3,rfl,hn3⟩
 refine GG ?_
 refine QQ (Yld.loadN (cs:=celC k) a180 rfl (atN (blk0' hn3.blk))) ?_
 refine RL.p rfl rfl ?_
 refine OP (Does.call rfl e178 (endsT_ok x ht s hs M k _ (RxV.grow hn3.grow x hv))) ?_
 rintro u2 w2 ⟨⟨o,hol,hends,hr⟩,hg2⟩
 have hlast:=idxT_last o s.size
 have hil:=idxT_len o (s.size + 1)
 obtain ⟨ad,c,rfl⟩:=hr.slice
 have hg02:=hn3.grow.trans hg2
 refine GG ?_
 refine QQ (Yld.lenSl u35 rfl) ?_
 refine GG ?_
 refine SP 12 (fun h12=>?_) (fun h12=>?_)
 ·have hpos:0 < (idxT o (s.size + 1)).length:=by omega
  obtain ⟨z,hz⟩:∃ z,(idxT o (s.size + 1))[(idxT o (s.size + 1)).length - 1]?=some z:=⟨_,List.getElem?_eq_getElem (by omega)⟩
  have hsl:Sl No w2 (.slice ad (idxT o (s.size + 1)).length c) 1 (idxT o (s.size + 1)).length (ints (idxT o (s.size + 1))):=Sl.own hr (fun _ _ h=>h)
  obtain ⟨b9,o9,c9,he9,_,_,hc9⟩:=hsl.elem1 (k:=(idxT o (s.size + 1)).length - 1) (u:=.int .i64 z) (by simp [hz])
  cases he9
  iterate 2 refine QQ (Yld.pure rfl) ?_
  refine QQ (Yld.lenSl u35 rfl) ?_
  refine QQ (Yld.pure rfl) ?_
  refine RL.re (d:=16) rfl rfl (sub_i64 (z:=(((idxT o (s.size + 1)).length - 1:Nat):Int)) (by omega) (by omega) (by omega)) ?_
  refine QQ (Yld.indexAddrN u35 i3 rfl rfl (by omega)) ?_
  refine QQ (Yld.load p3 rfl (at1 (hc9 _ (.int .i64 z) (by simp [hz])))) ?_
  refine QQ (Yld.pure rfl) ?_
  refine QQ (Yld.lenStr u9 rfl) ?_
  refine QQ (Yld.pure rfl) ?_
  refine GG ?_
  refine RK.ret_of Tryz.func148 (res1 rfl rfl) ?_ _
  exact ⟨_,rfl,congrArg _ (by
    rw [Bool.eq_iff_iff,decide_eq_true_eq,takes_iff,← hends,← hlast,hz]
    simp [hpos]),hg02⟩
 ·have hpos:¬ 0 < (idxT o (s.size + 1)).length:=by omega
  iterate 9 refine RL.no (.no rfl rfl rfl rfl) rfl rfl ?_
  refine GG ?_
  refine RK.ret_of Tryz.func148 (res1 rfl rfl) ?_ _
  exact ⟨_,rfl,congrArg _ (by
    have h9:¬ takes x s=true:=by rw [takes_iff,← hends,← hlast];exact fun h=>hpos h.1
    cases hx:takes x s with
    | false=>rfl
    | true=>exact absurd hx h9),hg02⟩
theorem pattern_ok (m:Mt) (w:World):Fx Tryz.prog 120 [.agg #[.int .i64 m.kind,.string m.name,.string m.value]] w (fun u w'=>u=.bool (likeS m)∧Grow w w'):=by
 refine enter Tryz.func120 rfl rfl rfl _ (Pick.sub (l:=[0]) (.cons rfl .nil)) ?_
 refine GG ?_
 refine OP (Does.box rfl) ?_
 rintro _ w1 ⟨b1,rfl,hn1⟩
 refine GG ?_
 refine QQ (Yld.fieldAddr fo108_0 rfl) ?_
 refine QQ (Yld.load p3 rfl (at1 (hn1.blk.cell rfl))) ?_
 refine GG ?_
 refine SP 6 (fun h6=>?_) (fun h6=>?_)
 ·iterate 3 refine RL.no (.no rfl rfl rfl rfl) rfl rfl ?_
  refine GG ?_
  refine RK.ret_of Tryz.func120 (res1 rfl rfl) ?_ _
  exact ⟨_,rfl,congrArg _ (by unfold likeS;simp_all),hn1.grow⟩
 ·refine QQ (Yld.fieldAddr fo108_0 rfl) ?_
  refine QQ (Yld.load p3 rfl (at1 (hn1.blk.cell rfl))) ?_
  refine QQ (Yld.pure rfl) ?_
  refine GG ?_
  refine RK.ret_of Tryz.func120 (res1 rfl rfl) ?_ _
  exact ⟨_,rfl,congrArg _ (by unfold likeS;simp_all),hn1.grow⟩
theorem isMatcher_ok (m:Mt) (hsz:m.name.size≤9223372036854775807) (w:World):Fx Tryz.prog 77 [.agg #[.int .i64 m.kind,.string m.name,.string m.value]] w (fun u w'=>u=.bool (isM m)∧Grow w w'):=by
 refine enter Tryz.func77 rfl rfl rfl _ (Pick.sub (l:=[0]) (.cons rfl .nil)) ?_
 refine GG ?_
 refine OP (Does.box rfl) ?_
 rintro _ w1 ⟨b1,rfl,hn1⟩
 have hB1:Blk w1 b1 108 [.int .i64 m.kind,.string m.name,.string m.value]:=hn1.blk
 refine GG ?_
 refine QQ (Yld.fieldAddr fo108_1 rfl) ?_
 refine QQ (Yld.load p9 rfl (at1 (hB1.cell rfl))) ?_
 refine OP (Does.call rfl e119 (name2_ok _ hsz _)) ?_
 rintro _ _ ⟨rfl,rfl⟩
 refine GG ?_
 refine CD (fun h8=>?_) (fun h8=>?_)
 ·refine GG ?_
  refine RK.ret_of Tryz.func77 (res1 rfl rfl) ?_ _
  exact ⟨_,rfl,congrArg _ (by unfold isM;simp at h8;rw [h8];rfl),hn1.grow⟩
 ·have hnm:nameS m.name=true:=by simpa using h8
  refine GG ?_
  refine QQ (Yld.loadN (cs:=[.int .i64 m.kind,.string m.name,.string m.value]) a108 rfl (atN (blk0' hB1))) ?_
  refine OP (Does.call rfl e120 (pattern_ok m _)) ?_
  rintro _ w2 ⟨rfl,hg2⟩
  have hB2:=hB1.mod hg2 (fun h=>h)
  have hg02:=hn1.grow.trans hg2
  refine RL.done ?_
  refine CD (fun h10=>?_) (fun h10=>?_)
  ·have hl:likeS m=true:=by first | exact h10 | (unfold likeS;simpa using h10)
   refine GG ?_
   refine QQ (Yld.fieldAddr fo108_2 rfl) ?_
   refine QQ (Yld.load p9 rfl (at1 (hB2.cell rfl))) ?_
   refine OP (Does.call rfl e121 (rparse_ok m.value _)) ?_
   rintro _ w3 ⟨c,rfl,hg3,hx⟩
   refine GG ?_
   refine OP (Does.alloc i180) ?_
   rintro _ w4 ⟨b3,rfl,hn3⟩
   refine OQ (Does.storeN i180 rfl rfl rfl rfl hn3.blk (Nat.le_refl 6)) ?_
   rintro _ w5 ⟨hb5,hm5,_⟩
   refine GG ?_
   refine RK.ret_of Tryz.func77 (res1 rfl rfl) ?_ _
   exact ⟨_,rfl,congrArg _ (by unfold isM patS;rw [hnm,hl];rfl),((hg02.trans hg3).trans hn3.grow).then hm5 (fun y hy e=>by have e' : y=b3:=e;have:=hn3.at_;have:=(hg02.trans hg3).size;omega)⟩
  ·have hl:likeS m=false:=by unfold likeS;simpa using h10
   refine GG ?_
   refine QQ (Yld.fieldAddr fo108_0 rfl) ?_
   refine QQ (Yld.load p3 rfl (at1 (hB2.cell rfl))) ?_
   refine GG ?_
   refine SP 21 (fun h21=>?_) (fun h21=>?_)
   ·iterate 3 refine RL.no (.no rfl rfl rfl rfl) rfl rfl ?_
    refine GG ?_
    refine QQ (Yld.fieldAddr fo108_2 rfl) ?_
    refine QQ (Yld.load p9 rfl (at1 (hB2.cell rfl))) ?_
    refine QQ (Yld.lenStr u9 rfl) ?_
    refine QQ (Yld.pure rfl) ?_
    refine GG ?_
    refine RK.ret_of Tryz.func77 (res1 rfl rfl) ?_ _
    exact ⟨_,rfl,congrArg _ (by unfold isM;rw [hnm,hl,Bool.eq_iff_iff];simp_all <;> omega),hg02⟩
   ·refine QQ (Yld.fieldAddr fo108_0 rfl) ?_
    refine QQ (Yld.load p3 rfl (at1 (hB2.cell rfl))) ?_
    refine QQ (Yld.pure rfl) ?_
    refine GG ?_
    refine SP 26 (fun h26=>?_) (fun h26=>?_)
    ·refine QQ (Yld.fieldAddr fo108_2 rfl) ?_
     refine QQ (Yld.load p9 rfl (at1 (hB2.cell rfl))) ?_
     refine QQ (Yld.lenStr u9 rfl) ?_
     refine QQ (Yld.pure rfl) ?_
     refine GG ?_
     refine RK.ret_of Tryz.func77 (res1 rfl rfl) ?_ _
     exact ⟨_,rfl,congrArg _ (by unfold isM;rw [hnm,hl,Bool.eq_iff_iff];simp_all <;> omega),hg02⟩
    ·iterate 4 refine RL.no (.no rfl rfl rfl rfl) rfl rfl ?_
     refine GG ?_
     refine RK.ret_of Tryz.func77 (res1 rfl rfl) ?_ _
     exact ⟨_,rfl,congrArg _ (by unfold isM;rw [hnm,hl,Bool.eq_iff_iff];simp_all <;> omega),hg02⟩
theorem fit_sz {s:ByteArray} {x:Rx} (h:parseS s=some x):(!fitS s)=decide (40 < sz x + 1):=by
 unfold fitS
 rw [h,Bool.eq_iff_iff]
 simp
 omega
theorem largeR_ok (m:Mt) (hsz:m.name.size≤9223372036854775807) (w:World):Fx Tryz.prog 118 [.agg #[.int .i64 m.kind,.string m.name,.string m.value]] w (fun u w'=>u=.bool (largeM m)∧Grow w w'):=by
 refine enter Tryz.func118 rfl rfl rfl _ (Pick.sub (l:=[0]) (.cons rfl .nil)) ?_
 refine GG ?_
 refine OP (Does.box rfl) ?_
 rintro _ w1 ⟨b1,rfl,hn1⟩
 have hB1:Blk w1 b1 108 [.int .i64 m.kind,.string m.name,.string m.value]:=hn1.blk
 refine GG ?_
 refine QQ (Yld.loadN (cs:=[.int .i64 m.kind,.string m.name,.string m.value]) a108 rfl (atN (blk0' hB1))) ?_
 refine OP (Does.call rfl e77 (isMatcher_ok m hsz _)) ?_
 rintro _ w2 ⟨rfl,hg2⟩
 have hB2:=hB1.mod hg2 (fun h=>h)
 refine GG ?_
 refine SP 8 (fun h8=>?_) (fun h8=>?_)
 ·have his:isM m=false:=by simpa using h8
  iterate 3 refine RL.no (.no rfl rfl rfl rfl) rfl rfl ?_
  refine GG ?_
  refine RK.condT (hcT rfl (rfl)) ?_
  refine GG ?_
  refine RK.ret_of Tryz.func118 (res1 rfl rfl) ?_ _
  exact ⟨_,rfl,by rw [large_no his],hn1.grow.trans hg2⟩
 ·have his:isM m=true:=by simpa using h8
  refine QQ (Yld.loadN (cs:=[.int .i64 m.kind,.string m.name,.string m.value]) a108 rfl (atN (blk0' hB2))) ?_
  refine OP (Does.call rfl e120 (pattern_ok m _)) ?_
  rintro _ w3 ⟨rfl,hg3⟩
  have hB3:=hB2.mod hg3 (fun h=>h)
  have hg03:=(hn1.grow.trans hg2).trans hg3
  refine QQ (Yld.pure rfl) ?_
  refine GG ?_
  refine CD (fun h12=>?_) (fun h12=>?_)
  ·have hl:likeS m=false:=by unfold likeS;simpa using h12
   refine GG ?_
   refine RK.ret_of Tryz.func118 (res1 rfl rfl) ?_ _
   exact ⟨_,rfl,by rw [large_no2 hl],hg03⟩
  ·have hl:likeS m=true:=by unfold likeS;simpa using h12
   obtain ⟨x,hx⟩:=pat_parse (isM_pat his hl)
   refine GG ?_
   refine QQ (Yld.fieldAddr fo108_2 rfl) ?_
   refine QQ (Yld.load p9 rfl (at1 (hB3.cell rfl))) ?_
   refine OP (Does.call rfl e121 (rparse_ok m.value _)) ?_
   rintro _ w4 ⟨c,rfl,hg4,hxx⟩
   have hv4:=hxx x hx
   refine GG ?_
   refine OP (Does.alloc i180) ?_
   rintro _ w5 ⟨b3,rfl,hn3⟩
   refine OQ (Does.storeN i180 rfl rfl rfl rfl hn3.blk (Nat.le_refl 6)) ?_
   rintro _ w6 ⟨hb6,hm6,_⟩
   have hB6:Blk w6 b3 180 (celC c):=hb6
   have hg6:Grow w4 w6:=hn3.grow.then hm6 (fun y hy e=>by have e' : y=b3:=e;have:=hn3.at_;omega)
   refine GG ?_
   refine QQ (Yld.loadN (cs:=celC c) a180 rfl (atN (blk0' hB6))) ?_
   refine OP (Does.call rfl e149 (rsizeM_ok x (parse_tr hx) (by have:=parse_sz' hx;omega) _ c _ (RxV.grow hg6 x hv4))) ?_
   rintro _ w7 ⟨rfl,hg7⟩
   refine GG ?_
   refine RK.ret_of Tryz.func118 (res1 rfl rfl) ?_ _
   exact ⟨_,rfl,congrArg _ (by rw [large_yes his hl,fit_sz hx,Bool.eq_iff_iff];simp;omega),((hg03.trans hg4).trans hg6).trans hg7⟩
theorem holdsR_ok (m:Mt) (hsz:m.name.size≤9223372036854775807) (M:Nat→Prop) (ls:List Lab) (v:Value) (w:World) (hz:∀ x∈ls,x.value.size≤100000) (hv:SlL M w v ls):Fx Tryz.prog 117 [.agg #[.int .i64 m.kind,.string m.name,.string m.value],v] w (fun u w'=>u=.bool (holdsM m ls)∧Grow w w'):=by
 obtain ⟨ad,c,rfl⟩:=hv.shape
 have hgz:=getL_size hz m.name
 refine enter Tryz.func117 rfl rfl rfl _ (Pick.sub (l:=[0,1]) (.cons rfl (.cons rfl .nil))) ?_
 refine GG ?_
 refine OP (Does.box rfl) ?_
 rintro _ w1 ⟨b1,rfl,hn1⟩
 have hB1:Blk w1 b1 108 [.int .i64 m.kind,.string m.name,.string m.value]:=hn1.blk
 refine GG ?_
 refine QQ (Yld.loadN (cs:=[.int .i64 m.kind,.string m.name,.string m.value]) a108 rfl (atN (blk0' hB1))) ?_
 refine OP (Does.call rfl e77 (isMatcher_ok m hsz _)) ?_
 rintro _ w2 ⟨rfl,hg2⟩
 have hB2:=hB1.mod hg2 (fun h=>h)
 have hg02:=hn1.grow.trans hg2
 refine GG ?_
 refine SP 11 (fun h11=>?_) (fun h11=>?_)
 ·have his:isM m=false:=by simpa using h11
  iterate 2 refine RL.no (.no rfl rfl rfl rfl) rfl rfl ?_
  refine GG ?_
  refine RK.condT (hcT rfl (rfl)) ?_
  refine GG ?_
  refine RK.ret_of Tryz.func117 (res1 rfl rfl) ?_ _
  exact ⟨_,rfl,congrArg _ (by unfold holdsM;rw [his];rfl),hg02⟩
 ·have his:isM m=true:=by simpa using h11
  have hk:=isM_kind his
  refine QQ (Yld.loadN (cs:=[.int .i64 m.kind,.string m.name,.string m.value]) a108 rfl (atN (blk0' hB2))) ?_
  refine OP (Does.call rfl e118 (largeR_ok m hsz _)) ?_
  rintro _ w3 ⟨rfl,hg3⟩
  have hB3:=hB2.mod hg3 (fun h=>h)
  have hg03:=hg02.trans hg3
  refine GG ?_
  refine CD (fun h14=>?_) (fun h14=>?_)
  ·refine GG ?_
   refine RK.ret_of Tryz.func117 (res1 rfl rfl) ?_ _
   exact ⟨_,rfl,congrArg _ (by unfold holdsM;rw [his,h14];rfl),hg03⟩
  ·have hnl:largeM m=false:=by simpa using h14
   refine GG ?_
   refine QQ (Yld.fieldAddr fo108_1 rfl) ?_
   refine QQ (Yld.load p9 rfl (at1 (hB3.cell rfl))) ?_
   refine OP (Does.call rfl e70 (getLabel_ok M ls _ m.name _ (hv.mod (Mod.any' hg03)))) ?_
   rintro _ _ ⟨rfl,rfl⟩
   refine GG ?_
   refine QQ (Yld.fieldAddr fo108_0 rfl) ?_
   refine QQ (Yld.load p3 rfl (at1 (hB3.cell rfl))) ?_
   refine GG ?_
   refine CD (fun h21=>?_) (fun h21=>?_)
   ·refine GG ?_
    refine QQ (Yld.fieldAddr fo108_2 rfl) ?_
    refine QQ (Yld.load p9 rfl (at1 (hB3.cell rfl))) ?_
    refine GG ?_
    refine RK.ret_of Tryz.func117 (res1 rfl rfl) ?_ _
    exact ⟨_,rfl,congrArg _ (by unfold holdsM;rw [his,hnl,if_pos h21];rfl),hg03⟩
   ·refine GG ?_
    refine CD (fun h27=>?_) (fun h27=>?_)
    ·refine GG ?_
     refine QQ (Yld.fieldAddr fo108_2 rfl) ?_
     refine QQ (Yld.load p9 rfl (at1 (hB3.cell rfl))) ?_
     refine GG ?_
     refine RK.ret_of Tryz.func117 (res1 rfl rfl) ?_ _
     exact ⟨_,rfl,congrArg _ (by unfold holdsM;rw [his,hnl,if_neg h21,if_pos h27];rfl),hg03⟩
    ·have hl:likeS m=true:=by unfold likeS;simp;omega
     obtain ⟨x,hx⟩:=pat_parse (isM_pat his hl)
     have htk:takesS m.value (getL ls m.name)=takes x (getL ls m.name):=by unfold takesS;rw [hx]
     refine GG ?_
     refine QQ (Yld.fieldAddr fo108_2 rfl) ?_
     refine QQ (Yld.load p9 rfl (at1 (hB3.cell rfl))) ?_
     refine OP (Does.call rfl e121 (rparse_ok m.value _)) ?_
     rintro _ w4 ⟨k,rfl,hg4,hxx⟩
     have hv4:=hxx x hx
     refine GG ?_
     refine OP (Does.alloc i180) ?_
     rintro _ w5 ⟨b3,rfl,hn3⟩
     refine OQ (Does.storeN i180 rfl rfl rfl rfl hn3.blk (Nat.le_refl 6)) ?_
     rintro _ w6 ⟨hb6,hm6,_⟩
     have hB6:Blk w6 b3 180 (celC k):=hb6
     have hg6:Grow w4 w6:=hn3.grow.then hm6 (fun y hy e=>by have e' : y=b3:=e;have:=hn3.at_;omega)
     have hB36:=(hB3.mod hg4 (fun h=>h)).mod hg6 (fun h=>h)
     refine GG ?_
     refine RK.drawM No [(0,false),(1,false),(3,false),(4,false),(5,false),(2,true),(6,false),(7,false)] [] mixed (by kernel_rfl) ?_
     refine DQ (Yld.loadN (cs:=celC k) a180 rfl (atNM (blk0' hB6) (fun h=>h))) (Mod.drew _ _) ?_
     refine DL.p rfl rfl rfl ?_
     refine DF (Yld.fieldAddr fo108_0 rfl) ?_
     refine DQ (Yld.load p3 rfl (atM (hB36.cell rfl) (fun h=>h))) (Mod.drew _ _) ?_
     refine DL.p rfl rfl rfl ?_
     refine OD (Does.call rfl e148 (takesR_ok x (parse_tr hx) (getL ls m.name) (by omega) _ k _ (RxV.grow (hg6.trans (Mod.drew _ _)) x hv4))) ?_
     rintro _ w7 ⟨rfl,hg7⟩
     have hgd:Grow w6 w7:=(Mod.drew _ _).trans hg7
     refine ⟨hgd,?_⟩
     refine DF (Yld.eqBool u4 rfl rfl) ?_
     refine GG ?_
     refine RK.ret_of Tryz.func117 (res1 rfl rfl) ?_ _
     exact ⟨_,rfl,congrArg _ (by
       unfold holdsM
       rw [his,hnl,if_neg h21,if_neg h27,htk]
       cases takes x (getL ls m.name) <;> simp),((hg03.trans hg4).trans hg6).trans hgd⟩
theorem allR_ok (ms:List Mt) (hn:∀ m∈ms,m.name.size≤9223372036854775807) (M M' : Nat→Prop) (ls:List Lab) (hz:∀ x∈ls,x.value.size≤100000) (v vl:Value) (w:World) (hv:SlM M' w v ms) (hl:SlL M w vl ls) :
  Fx Tryz.prog 72 [v,vl] w (fun u w'=>u=.bool (ms.all fun m=>holdsM m ls)∧Grow w w'):=by
 obtain ⟨ad,c,rfl⟩:=hv.shape
 obtain ⟨ad2,c2,rfl⟩:=hl.shape
 have hbig:=hv.big
 refine enter Tryz.func72 rfl rfl rfl _ (Pick.sub (l:=[0,1]) (.cons rfl (.cons rfl .nil))) ?_
 refine GG ?_
 refine RK.loop (fun k:Nat=>[(0,.slice ad ms.length c),(1,.slice ad2 ls.length c2),(5,.int .i64 (k:Int))]) (fun k w'=>k≤ms.length∧Grow w w'∧∀ i m,i < k→ms[i]?=some m→holdsM m ls=true) (fun k=>ms.length - k) 0 ⟨rfl,rfl,rfl,trivial⟩ ⟨by omega,Mod.refl _ _,fun i m h=>by omega⟩ (fun k w2 hI ih=>?_)
 obtain ⟨hk,hg,hall⟩:=hI
 refine GG ?_
 refine QQ (Yld.lenSl u28 rfl) ?_
 refine GG ?_
 refine CD (fun h9=>?_) (fun h9=>?_)
 ·obtain ⟨x,hx⟩:∃ x,ms[k]?=some x:=⟨ms[k]'(by omega),List.getElem?_eq_getElem (by omega)⟩
  obtain ⟨b1,o1,c1',he1,_,_,hc1⟩:=hv.elem mtC_len hx
  cases he1
  refine GG ?_
  refine QQ (Yld.indexAddrN u28 i108 rfl rfl (by omega)) ?_
  refine QQ (Yld.loadN (cs:=[.int .i64 x.kind,.string x.name,.string x.value]) a108 rfl (atN (fun j u hj=>hg.cell (hc1 j u hj) (fun h=>h)))) ?_
  refine RL.p rfl rfl ?_
  refine OP (Does.call rfl e117 (holdsR_ok x (hn x (List.mem_of_getElem? hx)) M ls _ _ hz (hl.mod (Mod.any' hg)))) ?_
  rintro _ w3 ⟨rfl,hg3⟩
  refine GG ?_
  refine CD (fun h18=>?_) (fun h18=>?_)
  ·have hno:holdsM x ls=false:=by simpa using h18
   refine GG ?_
   refine RK.ret_of Tryz.func72 (res1 rfl rfl) ?_ _
   exact ⟨_,rfl,congrArg _ (List.all_eq_false.2 ⟨x,List.mem_of_getElem? hx,by rw [hno];simp⟩).symm,hg.trans hg3⟩
  ·have hyes:holdsM x ls=true:=by simpa using h18
   refine RK.skip ?_
   refine RK.inBlock ?_
   refine RK.region ?_
   iterate 2 refine RL.p rfl rfl ?_
   refine RL.re (d:=11) rfl rfl (succ_i64 (by omega)) ?_
   refine GG ?_
   exact RK.back (ih (k + 1) _ ⟨by omega,hg.trans hg3,fun i m hi hm=>by by_cases e:i=k;(subst e;rw [hx] at hm;cases hm;exact hyes);exact hall i m (by omega) hm⟩ (by omega)) ⟨rfl,rfl,rfl,trivial⟩
 ·refine RK.exit rfl ?_
  refine GG ?_
  refine RK.ret_of Tryz.func72 (res1 rfl rfl) ?_ _
  exact ⟨_,rfl,congrArg _ (List.all_eq_true.2 fun m hm=>by
    obtain ⟨i,hi⟩:=List.getElem?_of_mem hm
    exact hall i m (by have:=(List.getElem?_eq_some_iff.1 hi).1;omega) hi).symm,hg⟩
end Go.Proofs.YtbcbfjnlnmhpbaaGreat
set_option linter.unusedVariables false
set_option linter.unusedSimpArgs false
set_option maxHeartbeats 1000000
set_option maxRecDepth 100000
namespace Go.Proofs.YtbcbfjnlnmhpbaaGreat
open Go Go.X Go.Rex
structure Dm where
 k:Int
 n:Int
 v:Int
def dmC (d:Dm):List Value:=[.int .i64 d.k,.int .i64 d.n,.int .i64 d.v]
theorem dmC_len (d:Dm):(dmC d).length=3:=rfl
def ptL:List ByteArray:=[⟨#[97,124,98]⟩,⟨#[]⟩,⟨#[40,99,114,105,116,124,119,97,114,110,41]⟩,⟨#[91,97,45,99,93,43,46,42]⟩,⟨#[46,43]⟩,⟨#[40,97,98,41,42]⟩,⟨#[97,63,98,63]⟩,⟨#[91,94,97,93,42]⟩,⟨#[97,42,97,42,97,42,97,42,97,42,97,42,97,42,97,42,97,42,97,42,97,42,97,42,97,42,97,42]⟩]
def ptS (n:Int):ByteArray:=ptL.getD (inS n 0 8).toNat ByteArray.empty
theorem pt_get:∀ q,q < 9→(ptL.map Value.string).toArray[q]?=some (.string (ptL.getD q ByteArray.empty)):=by
 intro q hq
 rcases q with _ | _ | _ | _ | _ | _ | _ | _ | _ | q <;> first | rfl | omega
theorem ptK_ok (n:Int) (w:World):Fx Tryz.prog 145 [.int .i64 n] w (fun u w'=>u=.string (ptS n)∧w=w'):=by
 have hr:=in_range n (lo:=0) (hi:=8) (by omega)
 refine enter Tryz.func145 rfl rfl rfl _ (Pick.sub (l:=[0]) (.cons rfl .nil)) ?_
 refine GG ?_
 refine QQ (Yld.build (v:=.agg (ptL.map Value.string).toArray) rfl (fun w=>by kernel_rfl)) ?_
 refine RL.p rfl rfl ?_
 refine OP (Does.call rfl e115 (in_ok n 0 8 (by omega) (by omega) (by omega) _)) ?_
 rintro _ _ ⟨rfl,rfl⟩
 have hq:inS n 0 8=(((inS n 0 8).toNat:Nat):Int):=by omega
 rw [hq]
 refine QQ (Yld.idxArr Tryz.underlying229 i9 p9 rfl rfl (by omega) (pt_get _ (by omega))) ?_
 refine GG ?_
 refine RK.ret_of Tryz.func145 (res1 rfl rfl) ?_ _
 exact ⟨_,rfl,rfl,rfl⟩
def matOf (d:Dm):Mt:=⟨inS d.k 1 4,nmS d.n,if inS d.k 1 4 < 3 then (if d.v < 0 then ⟨#[]⟩ else vlS d.v) else ptS d.v⟩
theorem matK_ok (d:Dm) (w:World):Fx Tryz.prog 110 [.agg (dmC d).toArray] w (fun u w'=>u=.agg (mtC (matOf d)).toArray∧Grow w w'):=by
 refine enter Tryz.func110 rfl rfl rfl _ (Pick.sub (l:=[0]) (.cons rfl .nil)) ?_
 refine GG ?_
 refine OP (Does.box rfl) ?_
 rintro _ w1 ⟨b1,rfl,hn1⟩
 have hB1:Blk w1 b1 167 [.int .i64 d.k,.int .i64 d.n,.int .i64 d.v]:=hn1.blk
 refine OP (Does.alloc i108) ?_
 rintro _ w2 ⟨b2,rfl,hn2⟩
 have hB2:=hB1.mod hn2.grow (fun h=>h)
 have hb2:=hn2.at_
 have hs1:=hn1.size
 have hs2:=hn2.size
 refine RL.done ?_
 refine RK.seq ?_
 refine RK.cutS (fun b3:Nat=>[(1,pp b1),(2,pp b2),(3,pp b3)]) (fun b3 w'=>w2.heap.size≤b3∧Blk w' b3 108 [.int .i64 (inS d.k 1 4),.string (nmS d.n),.string (ptS d.v)]∧Grow w2 w') (fun b3 w3 hQ=>?_) (fun hj=>?_)
 ·obtain ⟨hb3,hB3,hg3⟩:=hQ
  have hb13:b1≠b3:=by have:=hB2.lt;omega
  have hBd:=hB2.mod hg3 (fun h=>h)
  have hR:=hn2.blk.mod hg3 (fun h=>h)
  refine RK.seq ?_
  refine RK.cut [(2,pp b2),(3,pp b3)] (fun w'=>Blk w' b3 108 (mtC (matOf d))∧Mod (·=b3) w3 w') (fun w4 hQ4=>?_) (fun hj4=>?_)
  ·obtain ⟨hB4,hm4⟩:=hQ4
   refine GG ?_
   refine QQ (Yld.loadN (cs:=mtC (matOf d)) a108 rfl (atN (blk0' hB4))) ?_
   refine OQ (Does.storeN i108 rfl rfl rfl rfl (hR.mod hm4 (by omega)) (Nat.le_refl 3)) ?_
   rintro _ w5 ⟨hb5,hm5,_⟩
   refine RL.done ?_
   refine RK.ret_of Tryz.func110 (resC (cs:=mtC (matOf d)) rfl rfl a108 hb5) ?_ _
   exact ⟨_,rfl,rfl,(((hn1.grow.trans hn2.grow).trans hg3).then hm4 (fun y hy e=>by have e' : y=b3:=e;omega)).then hm5 (fun y hy e=>by have e' : y=b2:=e;omega)⟩
  ·refine GG ?_
   refine QQ (Yld.fieldAddr fo108_0 rfl) ?_
   refine QQ (Yld.load p3 rfl (at1 (hB3.cell rfl))) ?_
   refine GG ?_
   refine CD (fun h16=>?_) (fun h16=>?_)
   ·refine GG ?_
    refine QQ (Yld.fieldAddr fo167_2 rfl) ?_
    refine QQ (Yld.load p3 rfl (at1 (hBd.cell rfl))) ?_
    refine OP (Does.call rfl e69 (vlK_ok _ _)) ?_
    rintro _ _ ⟨rfl,rfl⟩
    refine QQ (Yld.fieldAddr fo108_2 rfl) ?_
    refine OQ (Does.store i9 rfl rfl rfl hB3 (.s (.s .z))) ?_
    rintro _ w4 ⟨hb4,hm4,_⟩
    refine GG ?_
    refine QQ (Yld.fieldAddr fo167_2 rfl) ?_
    refine QQ (Yld.load p3 rfl (at1 ((hBd.mod hm4 hb13).cell rfl))) ?_
    refine GG ?_
    refine CD (fun h23=>?_) (fun h23=>?_)
    ·refine RK.region ?_
     refine QQ (Yld.fieldAddr fo108_2 rfl) ?_
     refine OQ (Does.store i9 rfl rfl rfl hb4 (.s (.s .z))) ?_
     rintro _ w5 ⟨hb5,hm5,_⟩
     refine RL.done ?_
     exact RK.back (hj4 _ ⟨by unfold matOf;rw [if_pos h16,if_pos h23];exact hb5,hm4.trans hm5⟩) ⟨rfl,rfl,trivial⟩
    ·refine RK.skip ?_
     exact RK.back (hj4 _ ⟨by unfold matOf;rw [if_pos h16,if_neg h23];exact hb4,hm4⟩) ⟨rfl,rfl,trivial⟩
   ·refine RK.skip ?_
    exact RK.back (hj4 _ ⟨by unfold matOf;rw [if_neg h16];exact hB3,Mod.refl _ _⟩) ⟨rfl,rfl,trivial⟩
 ·refine RK.drawT No (.op 0 false (.op 1 false (.op 3 false (.op 4 false (.op 6 false (.op 7 false (.fork 2 (.fork 5 (.fork 8 (.op 9 false (.op 10 true (.op 11 true .nil))) 10 (.op 8 true (.op 9 false (.op 11 true .nil)))) 10 (.op 5 true (.op 8 true (.op 9 false (.op 11 true .nil))))) 10 (.op 2 true (.op 5 true (.op 8 true (.op 9 false (.op 11 true .nil)))))))))))) [] mixed (by kernel_rfl) ?_
  refine DT.qf rfl (.free rfl) rfl rfl (Yld.fieldAddr fo167_0 rfl) ?_
  refine DT.q rfl (.free rfl) rfl rfl rfl (Yld.load p3 rfl (atM (hB2.cell rfl) (fun h=>h))) (Mod.drew _ _) ?_
  refine DT.qf rfl (.free rfl) rfl rfl (Yld.fieldAddr fo167_1 rfl) ?_
  refine DT.q rfl (.free rfl) rfl rfl rfl (Yld.load p3 rfl (atM (hB2.cell rfl) (fun h=>h))) (Mod.drew _ _) ?_
  refine DT.qf rfl (.free rfl) rfl rfl (Yld.fieldAddr fo167_2 rfl) ?_
  refine DT.q rfl (.free rfl) rfl rfl rfl (Yld.load p3 rfl (atM (hB2.cell rfl) (fun h=>h))) (Mod.drew _ _) ?_
  refine DT.fork ?_ ?_
  ·refine DT.op rfl (.free rfl) rfl rfl (Does.call rfl e115 (in_ok d.k 1 4 (by omega) (by omega) (by omega) _)) ?_
   rintro _ _ ⟨rfl,rfl⟩
   refine ⟨Mod.drew _ _,?_⟩
   refine DT.fork ?_ ?_
   ·refine DT.op rfl (.free rfl) rfl rfl (Does.call rfl e67 (nmK_ok _ _)) ?_
    rintro _ _ ⟨rfl,rfl⟩
    refine ⟨Mod.drew _ _,?_⟩
    refine DT.fork ?_ ?_
    ·refine DT.op rfl (.free rfl) rfl rfl (Does.call rfl e145 (ptK_ok _ _)) ?_
     rintro _ _ ⟨rfl,rfl⟩
     refine ⟨Mod.drew _ _,?_⟩
     refine DT.qf rfl (.free rfl) rfl rfl (Yld.build (v:=.agg #[.int .i64 (inS d.k 1 4),.string (nmS d.n),.string (ptS d.v)]) rfl (fun w=>by kernel_rfl)) ?_
     refine DT.op rfl (.free rfl) rfl rfl (Does.alloc i108) ?_
     rintro _ w3 ⟨b3,rfl,hn3⟩
     refine ⟨(Mod.drew _ _).trans hn3.grow,?_⟩
     refine DT.op' rfl (.free rfl) rfl (Does.storeN i108 rfl rfl rfl rfl hn3.blk (Nat.le_refl 3)) ?_
     rintro _ w4 ⟨hb4,hm4,_⟩
     have hg4:=((Mod.drew No _).trans hn3.grow).then hm4 (fun y hy e=>by have e' : y=b3:=e;have hb3:=hn3.at_;simp only [World.drew] at hb3;omega)
     have hle3:w2.heap.size≤b3:=by have hb3:=hn3.at_;simp only [World.drew] at hb3;omega
     refine ⟨hg4,?_⟩
     refine DT.done ?_
     exact RK.back (hj b3 _ ⟨hle3,hb4,hg4⟩) ⟨rfl,rfl,rfl,trivial⟩
    ·refine DT.op rfl (.free rfl) rfl rfl (Does.alloc i108) ?_
     rintro _ w3 ⟨b3,rfl,hn3⟩
     refine ⟨(Mod.drew _ _).trans hn3.grow,?_⟩
     refine DT.op rfl (.free rfl) rfl rfl (Does.call rfl e145 (ptK_ok _ _)) ?_
     rintro _ _ ⟨rfl,rfl⟩
     refine ⟨(Mod.drew _ _).trans hn3.grow,?_⟩
     refine DT.qf rfl (.free rfl) rfl rfl (Yld.build (v:=.agg #[.int .i64 (inS d.k 1 4),.string (nmS d.n),.string (ptS d.v)]) rfl (fun w=>by kernel_rfl)) ?_
     refine DT.op' rfl (.free rfl) rfl (Does.storeN i108 rfl rfl rfl rfl hn3.blk (Nat.le_refl 3)) ?_
     rintro _ w4 ⟨hb4,hm4,_⟩
     have hg4:=((Mod.drew No _).trans hn3.grow).then hm4 (fun y hy e=>by have e' : y=b3:=e;have hb3:=hn3.at_;simp only [World.drew] at hb3;omega)
     have hle3:w2.heap.size≤b3:=by have hb3:=hn3.at_;simp only [World.drew] at hb3;omega
     refine ⟨hg4,?_⟩
     refine DT.done ?_
     exact RK.back (hj b3 _ ⟨hle3,hb4,hg4⟩) ⟨rfl,rfl,rfl,trivial⟩
   ·refine DT.op rfl (.free rfl) rfl rfl (Does.alloc i108) ?_
    rintro _ w3 ⟨b3,rfl,hn3⟩
    refine ⟨(Mod.drew _ _).trans hn3.grow,?_⟩
    refine DT.op rfl (.free rfl) rfl rfl (Does.call rfl e67 (nmK_ok _ _)) ?_
    rintro _ _ ⟨rfl,rfl⟩
    refine ⟨(Mod.drew _ _).trans hn3.grow,?_⟩
    refine DT.op rfl (.free rfl) rfl rfl (Does.call rfl e145 (ptK_ok _ _)) ?_
    rintro _ _ ⟨rfl,rfl⟩
    refine ⟨(Mod.drew _ _).trans hn3.grow,?_⟩
    refine DT.qf rfl (.free rfl) rfl rfl (Yld.build (v:=.agg #[.int .i64 (inS d.k 1 4),.string (nmS d.n),.string (ptS d.v)]) rfl (fun w=>by kernel_rfl)) ?_
    refine DT.op' rfl (.free rfl) rfl (Does.storeN i108 rfl rfl rfl rfl hn3.blk (Nat.le_refl 3)) ?_
    rintro _ w4 ⟨hb4,hm4,_⟩
    have hg4:=((Mod.drew No _).trans hn3.grow).then hm4 (fun y hy e=>by have e' : y=b3:=e;have hb3:=hn3.at_;simp only [World.drew] at hb3;omega)
    have hle3:w2.heap.size≤b3:=by have hb3:=hn3.at_;simp only [World.drew] at hb3;omega
    refine ⟨hg4,?_⟩
    refine DT.done ?_
    exact RK.back (hj b3 _ ⟨hle3,hb4,hg4⟩) ⟨rfl,rfl,rfl,trivial⟩
  ·refine DT.op rfl (.free rfl) rfl rfl (Does.alloc i108) ?_
   rintro _ w3 ⟨b3,rfl,hn3⟩
   refine ⟨(Mod.drew _ _).trans hn3.grow,?_⟩
   refine DT.op rfl (.free rfl) rfl rfl (Does.call rfl e115 (in_ok d.k 1 4 (by omega) (by omega) (by omega) _)) ?_
   rintro _ _ ⟨rfl,rfl⟩
   refine ⟨(Mod.drew _ _).trans hn3.grow,?_⟩
   refine DT.op rfl (.free rfl) rfl rfl (Does.call rfl e67 (nmK_ok _ _)) ?_
   rintro _ _ ⟨rfl,rfl⟩
   refine ⟨(Mod.drew _ _).trans hn3.grow,?_⟩
   refine DT.op rfl (.free rfl) rfl rfl (Does.call rfl e145 (ptK_ok _ _)) ?_
   rintro _ _ ⟨rfl,rfl⟩
   refine ⟨(Mod.drew _ _).trans hn3.grow,?_⟩
   refine DT.qf rfl (.free rfl) rfl rfl (Yld.build (v:=.agg #[.int .i64 (inS d.k 1 4),.string (nmS d.n),.string (ptS d.v)]) rfl (fun w=>by kernel_rfl)) ?_
   refine DT.op' rfl (.free rfl) rfl (Does.storeN i108 rfl rfl rfl rfl hn3.blk (Nat.le_refl 3)) ?_
   rintro _ w4 ⟨hb4,hm4,_⟩
   have hg4:=((Mod.drew No _).trans hn3.grow).then hm4 (fun y hy e=>by have e' : y=b3:=e;have hb3:=hn3.at_;simp only [World.drew] at hb3;omega)
   have hle3:w2.heap.size≤b3:=by have hb3:=hn3.at_;simp only [World.drew] at hb3;omega
   refine ⟨hg4,?_⟩
   refine DT.done ?_
   exact RK.back (hj b3 _ ⟨hle3,hb4,hg4⟩) ⟨rfl,rfl,rfl,trivial⟩
@[irreducible] def aheadM (x y:Mt):Bool:=if x.name≠y.name then slt x.name y.name else if x.kind≠y.kind then decide (x.kind < y.kind) else slt x.value y.value
theorem ahead_ok (x y:Mt) (w:World):Fx Tryz.prog 111 [.agg (mtC x).toArray,.agg (mtC y).toArray] w (fun u w'=>u=.bool (aheadM x y)∧Grow w w'):=by
 refine enter Tryz.func111 rfl rfl rfl _ (Pick.sub (l:=[0,1]) (.cons rfl (.cons rfl .nil))) ?_
 refine GG ?_
 refine OP (Does.box rfl) ?_
 rintro _ w1 ⟨b1,rfl,hn1⟩
 refine OP (Does.box rfl) ?_
 rintro _ w2 ⟨b2,rfl,hn2⟩
 have hB1:Blk w2 b1 108 [.int .i64 x.kind,.string x.name,.string x.value]:=hn1.blk.mod hn2.grow (fun h=>h)
 have hB2:Blk w2 b2 108 [.int .i64 y.kind,.string y.name,.string y.value]:=hn2.blk
 have hg2:=hn1.grow.trans hn2.grow
 refine GG ?_
 refine QQ (Yld.fieldAddr fo108_1 rfl) ?_
 refine QQ (Yld.load p9 rfl (at1 (hB1.cell rfl))) ?_
 refine QQ (Yld.fieldAddr fo108_1 rfl) ?_
 refine QQ (Yld.load p9 rfl (at1 (hB2.cell rfl))) ?_
 refine GG ?_
 refine CD (fun h9=>?_) (fun h9=>?_)
 ·refine GG ?_
  refine QQ (Yld.fieldAddr fo108_1 rfl) ?_
  refine QQ (Yld.load p9 rfl (at1 (hB1.cell rfl))) ?_
  refine QQ (Yld.fieldAddr fo108_1 rfl) ?_
  refine QQ (Yld.load p9 rfl (at1 (hB2.cell rfl))) ?_
  refine GG ?_
  refine RK.ret_of Tryz.func111 (res1 rfl rfl) ?_ _
  exact ⟨_,rfl,by unfold aheadM;rw [if_pos h9],hg2⟩
 ·refine GG ?_
  refine QQ (Yld.fieldAddr fo108_0 rfl) ?_
  refine QQ (Yld.load p3 rfl (at1 (hB1.cell rfl))) ?_
  refine QQ (Yld.fieldAddr fo108_0 rfl) ?_
  refine QQ (Yld.load p3 rfl (at1 (hB2.cell rfl))) ?_
  refine GG ?_
  refine CD (fun h19=>?_) (fun h19=>?_)
  ·refine GG ?_
   refine QQ (Yld.fieldAddr fo108_0 rfl) ?_
   refine QQ (Yld.load p3 rfl (at1 (hB1.cell rfl))) ?_
   refine QQ (Yld.fieldAddr fo108_0 rfl) ?_
   refine QQ (Yld.load p3 rfl (at1 (hB2.cell rfl))) ?_
   refine GG ?_
   refine RK.ret_of Tryz.func111 (res1 rfl rfl) ?_ _
   exact ⟨_,rfl,by unfold aheadM;rw [if_neg (fun h=>h h9),if_pos h19],hg2⟩
  ·refine GG ?_
   refine QQ (Yld.fieldAddr fo108_2 rfl) ?_
   refine QQ (Yld.load p9 rfl (at1 (hB1.cell rfl))) ?_
   refine QQ (Yld.fieldAddr fo108_2 rfl) ?_
   refine QQ (Yld.load p9 rfl (at1 (hB2.cell rfl))) ?_
   refine GG ?_
   refine RK.ret_of Tryz.func111 (res1 rfl rfl) ?_ _
   exact ⟨_,rfl,by unfold aheadM;rw [if_neg (fun h=>h h9),if_neg h19],hg2⟩
theorem before_ok (x y:Mt) (w:World):Fx Tryz.prog 78 [.agg (mtC x).toArray,.agg (mtC y).toArray] w (fun u w'=>u=.bool (aheadM x y)∧Grow w w'):=by
 refine enter Tryz.func78 rfl rfl rfl _ (Pick.sub (l:=[0,1]) (.cons rfl (.cons rfl .nil))) ?_
 refine GG ?_
 refine OP (Does.box rfl) ?_
 rintro _ w1 ⟨b1,rfl,hn1⟩
 refine OP (Does.box rfl) ?_
 rintro _ w2 ⟨b2,rfl,hn2⟩
 have hB1:Blk w2 b1 108 [.int .i64 x.kind,.string x.name,.string x.value]:=hn1.blk.mod hn2.grow (fun h=>h)
 have hB2:Blk w2 b2 108 [.int .i64 y.kind,.string y.name,.string y.value]:=hn2.blk
 have hg2:=hn1.grow.trans hn2.grow
 refine GG ?_
 refine QQ (Yld.fieldAddr fo108_1 rfl) ?_
 refine QQ (Yld.load p9 rfl (at1 (hB1.cell rfl))) ?_
 refine QQ (Yld.fieldAddr fo108_1 rfl) ?_
 refine QQ (Yld.load p9 rfl (at1 (hB2.cell rfl))) ?_
 refine GG ?_
 refine CD (fun h9=>?_) (fun h9=>?_)
 ·refine GG ?_
  refine QQ (Yld.fieldAddr fo108_1 rfl) ?_
  refine QQ (Yld.load p9 rfl (at1 (hB1.cell rfl))) ?_
  refine QQ (Yld.fieldAddr fo108_1 rfl) ?_
  refine QQ (Yld.load p9 rfl (at1 (hB2.cell rfl))) ?_
  refine GG ?_
  refine RK.ret_of Tryz.func78 (res1 rfl rfl) ?_ _
  exact ⟨_,rfl,by unfold aheadM;rw [if_pos h9],hg2⟩
 ·refine GG ?_
  refine QQ (Yld.fieldAddr fo108_0 rfl) ?_
  refine QQ (Yld.load p3 rfl (at1 (hB1.cell rfl))) ?_
  refine QQ (Yld.fieldAddr fo108_0 rfl) ?_
  refine QQ (Yld.load p3 rfl (at1 (hB2.cell rfl))) ?_
  refine GG ?_
  refine CD (fun h19=>?_) (fun h19=>?_)
  ·refine GG ?_
   refine QQ (Yld.fieldAddr fo108_0 rfl) ?_
   refine QQ (Yld.load p3 rfl (at1 (hB1.cell rfl))) ?_
   refine QQ (Yld.fieldAddr fo108_0 rfl) ?_
   refine QQ (Yld.load p3 rfl (at1 (hB2.cell rfl))) ?_
   refine GG ?_
   refine RK.ret_of Tryz.func78 (res1 rfl rfl) ?_ _
   exact ⟨_,rfl,by unfold aheadM;rw [if_neg (fun h=>h h9),if_pos h19],hg2⟩
  ·refine GG ?_
   refine QQ (Yld.fieldAddr fo108_2 rfl) ?_
   refine QQ (Yld.load p9 rfl (at1 (hB1.cell rfl))) ?_
   refine QQ (Yld.fieldAddr fo108_2 rfl) ?_
   refine QQ (Yld.load p9 rfl (at1 (hB2.cell rfl))) ?_
   refine GG ?_
   refine RK.ret_of Tryz.func78 (res1 rfl rfl) ?_ _
   exact ⟨_,rfl,by unfold aheadM;rw [if_neg (fun h=>h h9),if_neg h19],hg2⟩
theorem mt_ext {x y:Mt} (h:y.kind=x.kind∧y.name=x.name∧y.value=x.value):y=x:=by cases x;cases y;obtain ⟨rfl,rfl,rfl⟩:=h;rfl
theorem mt_eqs {x y:Mt} (h:y=x):y.kind=x.kind∧y.name=x.name∧y.value=x.value:=by subst h;exact ⟨rfl,rfl,rfl⟩
def insM (L:List Mt) (x:Mt):List Mt:=if 0 < pos aheadM x L∧L[pos aheadM x L - 1]?=some x then L else insE aheadM L x
def matF:List Dm→List Mt→List Mt
 | [],out=>out
 | d :: l,out=>if out.length < 5 then matF l (insM out (matOf d)) else out
def sevM:Mt:=⟨1,⟨#[115,101,118]⟩,⟨#[97]⟩⟩
def matsS (l:List Dm) (must:Bool):List Mt:=if must=true∧matF l []=[] then [sevM] else matF l []
theorem pos_le {α:Type} (lt:α→α→Bool) (x:α) (L:List α):pos lt x L≤L.length:=by unfold pos;omega
theorem insM_len (L:List Mt) (x:Mt):(insM L x).length≤L.length + 1:=by
 unfold insM
 have:=pos_le aheadM x L
 split
 ·omega
 ·unfold insE;simp;omega
theorem matF_len:∀ (l:List Dm) (out:List Mt),out.length≤5→(matF l out).length≤5
 | [],out,h=>h
 | d :: l,out,h=>by
  unfold matF
  split
  ·exact matF_len l _ (by have:=insM_len out (matOf d);omega)
  ·exact h
theorem matsS_len (l:List Dm) (must:Bool):(matsS l must).length≤5:=by
 unfold matsS
 split
 ·simp
 ·exact matF_len l [] (by simp)
theorem allOne_mts (xs:List Mt):((xs.flatMap mtC).all fun x=>x.oneCell')=true:=by
 rw [List.all_eq_true]
 intro u hu
 obtain ⟨x,_,hx⟩:=List.mem_flatMap.1 hu
 simp only [mtC,List.mem_cons,List.not_mem_nil,or_false] at hx
 rcases hx with rfl | rfl | rfl <;> rfl
theorem matOf_name (d:Dm):(matOf d).name∈nmL:=nm_mem _
theorem matF_name:∀ (l:List Dm) (out:List Mt),(∀ m∈out,m.name∈nmL)→∀ m∈matF l out,m.name∈nmL
 | [],out,h=>h
 | d :: l,out,h=>by
  unfold matF
  split
  ·refine matF_name l _ fun m hm=>?_
   unfold insM at hm
   split at hm
   ·exact h m hm
   ·rcases mem_insE.1 hm with h1 | rfl
    ·exact h m h1
    ·exact matOf_name d
  ·exact h
theorem matsS_name (l:List Dm) (must:Bool):∀ m∈matsS l must,m.name.size≤9223372036854775807:=by
 intro m hm
 have h1:m.name∈nmL:=by
  unfold matsS at hm
  split at hm
  ·simp at hm;subst hm;simp [sevM,nmL]
  ·exact matF_name l [] (by simp) m hm
 have:=(nmL_ok _ h1).2.2
 omega
theorem mats_ok (M : Nat → Prop) (ds : List Dm) (must : Bool) (v : Value) (w : World) (hv : Sl M w v 3 ds.length (ds.flatMap dmC)) :
    Fx Tryz.prog 60 [v,.bool must] w (fun u w'=>Row w' 108 3 u (matsS ds must).length ((matsS ds must).flatMap mtC)∧Fresh w.heap.size u∧Grow w w'):=by
  obtain ⟨ad,c,rfl⟩:=hv.shape
  have hbig:=hv.big
  refine enter Tryz.func60 rfl rfl rfl _ (Pick.sub (l:=[0,1]) (.cons rfl (.cons rfl .nil))) ?_
  refine RK.seq ?_
  refine RK.region ?_
  refine RL.p rfl rfl ?_
  refine RL.done ?_
  refine RK.seq ?_
  refine RK.region ?_
  refine RL.p rfl rfl ?_
  refine RL.done ?_
  iterate 2 refine RK.seq ?_
  refine RK.region ?_
  refine RL.p rfl rfl ?_
  refine RL.done ?_
  refine RK.block ?_
  refine RK.loop (fun s:Nat×List Mt×Value=>[(0,.slice ad ds.length c),(1,.bool must),(5,s.2.2),(6,.int .i64 (s.1:Int))]) (fun s w'=>Row w' 108 3 s.2.2 s.2.1.length (s.2.1.flatMap mtC)∧Fresh w.heap.size s.2.2∧Grow w w'∧s.1≤ds.length∧s.2.1.length≤5∧matF (ds.drop s.1) s.2.1=matF ds []) (fun s=>ds.length - s.1) (0,[],.slice none 0 0) ⟨rfl,rfl,rfl,rfl,trivial⟩ ⟨by simpa using Row.nil _ _ _,fun b hb=>by simp [Value.ownBlock] at hb,Mod.refl _ _,by simp,by simp,by simp⟩ (fun s w0 hI ih=>?_)
  obtain ⟨i,L,u⟩:=s
  obtain ⟨hr,hfr,hg0,hi,hL,hst⟩:=hI
  simp only at hr hfr hi hL hst
  obtain ⟨adu,cu,rfl,hcu⟩:=hr.cap
  iterate 2 refine RK.seq ?_
  refine RK.region ?_
  iterate 2 refine RL.p rfl rfl ?_
  refine RL.q (.free rfl) rfl rfl (Yld.lenSl u58 rfl) ?_
  iterate 2 refine RL.p rfl rfl ?_
  first | refine RL.splitD (d:=13) rfl rfl (fun h12=>?_) (fun h12=>?_) | refine RL.splitN (d:=13) rfl rfl (fun h12=>?_) (fun h12=>?_) | refine RL.split (d:=13) rfl rfl (fun h12=>?_) (fun h12=>?_)
  · refine RL.q (.yes rfl rfl rfl) rfl rfl (Yld.pure rfl) ?_
    refine RL.q (.yes rfl rfl rfl) rfl rfl (Yld.lenSl u28 rfl) ?_
    refine RL.q (.yes rfl rfl rfl) rfl rfl (Yld.pure rfl) ?_
    refine RL.p rfl rfl ?_
    refine RL.done ?_
    first | refine RK.condD rfl (fun h16=>?_) (fun h16=>?_) | refine RK.condN rfl (fun h16=>?_) (fun h16=>?_) | refine RK.cond rfl (fun h16=>?_) (fun h16=>?_)
    · obtain ⟨d,hd⟩:∃ d,ds[i]?=some d:=⟨ds[i]'(by omega),List.getElem?_eq_getElem (by omega)⟩
      have hstep : matF (ds.drop (i + 1)) (insM L (matOf d)) = matF ds [] := by
          rw [← hst,List.drop_eq_getElem_cons (by omega:i < ds.length),(List.getElem?_eq_some_iff.1 hd).2]
          simp only [matF]
          rw [if_pos (by omega)]
      obtain ⟨b1,o1,c1',he1,_,_,hc1⟩:=hv.elem dmC_len hd
      cases he1
      refine RK.skip ?_
      refine RK.seq ?_
      refine RK.block ?_
      refine RK.seq ?_
      refine RK.region ?_
      iterate 2 refine RL.p rfl rfl ?_
      refine RL.q (.free rfl) rfl rfl (Yld.indexAddrN u58 i167 rfl rfl (by omega)) ?_
      refine RL.q (.free rfl) rfl rfl (Yld.loadN (cs:=dmC d) a167 rfl (atN (fun q z hq=>hg0.cell (hc1 q z hq) (fun h=>h)))) ?_
      refine RL.op (.free rfl) rfl rfl (Does.call rfl e110 (matK_ok d _)) ?_
      rintro _ w1 ⟨rfl,hg1⟩
      refine RL.op (.free rfl) rfl rfl (Does.alloc i108) ?_
      rintro _ w7 ⟨b7,rfl,hn7⟩
      refine RL.op' (.free rfl) rfl (Does.storeN i108 rfl rfl rfl rfl hn7.blk (Nat.le_refl 3)) ?_
      rintro _ w8 ⟨hb7,hm8,_⟩
      have hg8:Grow w0 w8:=hg1.trans (hn7.grow.then hm8 (fun y hy e=>by have e' : y=b7:=e;have:=hn7.at_;omega))
      generalize hx:matOf d=x at *
      have hru:=hr.mod hg8 (fun _ _ h=>h)
      have hsu:Sl No w8 (.slice adu L.length cu) 3 L.length (L.flatMap mtC):=Sl.own hru (fun _ _ h=>h)
      refine RL.done ?_
      refine RK.seq ?_
      refine RK.region ?_
      refine RL.p rfl rfl ?_
      refine RL.q (.free rfl) rfl rfl (Yld.lenSl u28 rfl) ?_
      refine RL.p rfl rfl ?_
      refine RL.done ?_
      refine RK.seq ?_
      refine RK.block ?_
      refine RK.loop (fun j:Nat=>[(0,.slice (some ⟨b1,o1,none⟩) ds.length c),(1,.bool must),(5,.slice adu L.length cu),(6,.int .i64 (i:Int)),(7,pp b7),(8,.int .i64 (j:Int))]) (fun j w2=>Grow w8 w2∧j≤L.length∧∀ y∈L.drop j,aheadM x y=true) (fun j=>j) L.length ⟨rfl,rfl,rfl,rfl,rfl,rfl,trivial⟩ ⟨Mod.refl _ _,Nat.le_refl _,by simp⟩ (fun j w2 hI2 ih2=>?_)
      obtain ⟨hg2,hj,hD⟩:=hI2
      have hB7:=hb7.mod hg2 (fun h=>h)
      have hhi:∀ w3,Grow w8 w3→Sl No w3 (.slice adu j cu) 3 j ((L.take j).flatMap mtC):=fun w3 h3=>(hsu.mod h3).takeF mtC_len hj
      have hlo:∀ w3,Grow w8 w3→Sl No w3 (.slice (fromAt adu cu j 3) (L.length - j) (cu - j)) 3 (L.length - j) ((L.drop j).flatMap mtC):=fun w3 h3=>(hsu.mod h3).fromF mtC_len hj hcu
      iterate 2 refine RK.seq ?_
      refine RK.drawM No [(0,false),(1,false),(2,false),(3,false),(4,false),(5,false),(6,false),(7,false),(8,false),(9,true),(10,false)] [] mixed (by kernel_rfl) ?_
      iterate 3 refine DL.p rfl rfl rfl ?_
      first | refine DL.splitD (d:=29) rfl rfl (fun h28=>?_) (fun h28=>?_) | refine DL.splitN (d:=29) rfl rfl (fun h28=>?_) (fun h28=>?_) | refine DL.split (d:=29) rfl rfl (fun h28=>?_) (fun h28=>?_)
      · obtain ⟨y,hy⟩:∃ y,L[j - 1]?=some y:=⟨L[j - 1]'(by omega),List.getElem?_eq_getElem (by omega)⟩
        obtain ⟨b2,o2,c2',he2,_,_,hc2⟩:=hsu.elem mtC_len hy
        cases he2
        refine DL.q rfl (.yes rfl rfl rfl) rfl rfl rfl (Yld.loadN (cs:=mtC x) a108 rfl (atNM (blk0' hB7) (fun h=>h))) (Mod.drew _ _) ?_
        iterate 3 refine DL.qf rfl (.yes rfl rfl rfl) rfl rfl (Yld.pure rfl) ?_
        refine DL.re (d:=33) rfl rfl (sub_i64 (z:=((j - 1:Nat):Int)) (by omega) (by omega) (by omega)) ?_
        refine DL.qf rfl (.yes rfl rfl rfl) rfl rfl (Yld.indexAddrN u28 i108 rfl rfl (by omega)) ?_
        refine DL.q rfl (.yes rfl rfl rfl) rfl rfl rfl (Yld.loadN (cs:=mtC y) a108 rfl (atNM (fun q z hq=>hg2.cell (hc2 q z hq) (fun h=>h)) (fun h=>h))) (Mod.drew _ _) ?_
        refine DL.op rfl (.yes rfl rfl rfl) rfl rfl (Does.call rfl e111 (ahead_ok x y _)) ?_
        rintro _ w3 ⟨rfl,hg3⟩
        refine ⟨(Mod.drew No _).trans hg3,?_⟩
        have hg4:=hg2.trans ((Mod.drew No _).trans hg3)
        refine DL.p rfl rfl rfl ?_
        refine DL.done ?_
        first | refine RK.condD rfl (fun h36=>?_) (fun h36=>?_) | refine RK.condN rfl (fun h36=>?_) (fun h36=>?_) | refine RK.cond rfl (fun h36=>?_) (fun h36=>?_)
        · refine RK.skip ?_
          refine RK.block ?_
          refine RK.region ?_
          iterate 2 refine RL.p rfl rfl ?_
          refine RL.re (d:=39) rfl rfl (sub_i64 (z:=((j - 1:Nat):Int)) (by omega) (by omega) (by omega)) ?_
          refine RL.p rfl rfl ?_
          refine RL.done ?_
          refine RK.inBlock ?_
          exact RK.back (ih2 (j - 1) _ ⟨hg4, by omega, fun z hz => by
              rw [show L.drop (j - 1)=y :: L.drop j by rw [List.drop_eq_getElem_cons (by omega:j - 1 < L.length),show j - 1 + 1=j by omega,(List.getElem?_eq_some_iff.1 hy).2]] at hz
              rcases List.mem_cons.1 hz with rfl | hz
              · exact h36
              · exact hD z hz
            ⟩ (by omega)) ⟨rfl,rfl,rfl,rfl,rfl,rfl,trivial⟩
        · have hpos:pos aheadM x L=j:=pos_splitG hj hD (fun z _ hz=>by rw [hy] at hz;cases hz;simpa using h36)
          have hB7':=hB7.mod ((Mod.drew No _).trans hg3) (fun h=>h)
          refine RK.exit rfl ?_
          iterate 2 refine RK.seq ?_
          refine RK.drawM No [(0,false),(1,false),(2,false),(3,false),(4,false),(5,false),(6,false),(7,false),(8,false),(9,false),(10,false)] [] mixed (by kernel_rfl) ?_
          iterate 3 refine DL.p rfl rfl rfl ?_
          first | refine DL.splitD (d:=42) rfl rfl (fun h41=>?_) (fun h41=>?_) | refine DL.splitN (d:=42) rfl rfl (fun h41=>?_) (fun h41=>?_) | refine DL.split (d:=42) rfl rfl (fun h41=>?_) (fun h41=>?_)
          · obtain ⟨b3,o3,c3',he3,_,_,hc3⟩:=hsu.elem mtC_len hy
            cases he3
            iterate 3 refine DL.qf rfl (.yes rfl rfl rfl) rfl rfl (Yld.pure rfl) ?_
            refine DL.re (d:=45) rfl rfl (sub_i64 (z:=((j - 1:Nat):Int)) (by omega) (by omega) (by omega)) ?_
            refine DL.qf rfl (.yes rfl rfl rfl) rfl rfl (Yld.indexAddrN u28 i108 rfl rfl (by omega)) ?_
            refine DL.q rfl (.yes rfl rfl rfl) rfl rfl rfl (Yld.loadN (cs:=mtC y) a108 rfl (atNM (fun q z hq=>hg4.cell (hc2 q z hq) (fun h=>h)) (fun h=>h))) (Mod.drew _ _) ?_
            refine DL.q rfl (.yes rfl rfl rfl) rfl rfl rfl (Yld.loadN (cs:=mtC x) a108 rfl (atNM (blk0' hB7') (fun h=>h))) (Mod.drew _ _) ?_
            refine DL.qf rfl (.yes rfl rfl rfl) rfl rfl (Yld.eqTrip trip108 rfl rfl) ?_
            refine DL.p rfl rfl rfl ?_
            refine DL.done ?_
            first | refine RK.condD rfl (fun h49=>?_) (fun h49=>?_) | refine RK.condN rfl (fun h49=>?_) (fun h49=>?_) | refine RK.cond rfl (fun h49=>?_) (fun h49=>?_)
            · have hsame:insM L x=L:=by unfold insM;rw [hpos,if_pos ⟨by omega,by rw [hy,mt_ext h49]⟩]
              refine RK.exit rfl ?_
              refine RK.region ?_
              iterate 2 refine RL.p rfl rfl ?_
              refine RL.re (d:=19) rfl rfl (succ_i64 (by omega)) ?_
              refine RL.p rfl rfl ?_
              refine RL.done ?_
              exact RK.back (ih (i + 1,L,_) _ ⟨hr.mod (hg8.trans (hg4.trans (Mod.drew _ _))) (fun _ _ h=>h),hfr,hg0.trans (hg8.trans (hg4.trans (Mod.drew _ _))),by simp only;omega,hL,by simp only;rw [← hsame];exact hstep⟩ (by simp only;omega)) ⟨rfl,rfl,rfl,rfl,trivial⟩
            · have hne:¬ (0 < j∧L[j - 1]?=some x):=fun h=>h49 (by have h2:=h.2;rw [hy] at h2;exact mt_eqs (Option.some.inj h2))
              obtain ⟨w9,hw9⟩:∃ w9,w9=w3.drew:=⟨_,rfl⟩
              rw [← hw9]
              have hgr:Grow w8 w9:=by rw [hw9];exact hg4.trans (Mod.drew _ _)
              have hB9:=hb7.mod hgr (fun h=>h)
              have hg:Grow w w8:=hg0.trans hg8
              have hgd:Grow w8 w9.drew:=hgr.trans (Mod.drew _ _)
              refine RK.skip ?_
              refine RK.drawF No [(0,false),(1,false),(2,false),(4,false),(7,false),(8,false),(9,false)] 3 5 [(5,true),(6,true),(10,true),(11,false)] [(3,true),(6,true),(10,true),(11,false)] [] mixed (by kernel_rfl) ?_
              iterate 2 refine DL.p rfl rfl rfl ?_
              refine DL.qf rfl (.free rfl) rfl rfl (Yld.sliceHi u28 i108 (m:=j) rfl rfl (by omega)) ?_
              refine DL.q rfl (.free rfl) rfl rfl rfl (Yld.loadN (cs:=mtC x) a108 rfl (atNM (blk0' hB9) (fun h=>h))) (Mod.drew _ _) ?_
              iterate 2 refine DL.p rfl rfl rfl ?_
              refine DL.qf rfl (.free rfl) rfl rfl (Yld.sliceFrom u28 i108 (m:=j) rfl rfl hj) ?_
              refine DL.fork ?_ ?_
              · refine DL.op rfl (.free rfl) rfl rfl (Does.append u28 i108 rfl rfl rfl rfl rfl (Row.nil _ _ _) (hhi _ hgd) (allOne_mts _) (by omega)) ?_
                rintro u1 v1 ⟨hr1,hm1,hu1⟩
                have hg1:Grow w9.drew v1:=hm1.mono (fun b _ e=>by simp [Value.ownBlock] at e)
                refine ⟨(Mod.drew _ _).trans hg1,?_⟩
                refine DL.op rfl (.free rfl) rfl rfl (Does.slice1 u28 i108 rfl rfl rfl rfl rfl) ?_
                rintro _ v2 ⟨b2,rfl,hn2⟩
                refine ⟨((Mod.drew _ _).trans hg1).trans hn2.grow,?_⟩
                refine DL.op rfl (.free rfl) rfl rfl (Does.append u28 i108 rfl rfl rfl rfl rfl (hr1.mod hn2.grow (fun _ _ h=>h)) (Sl.new hn2 3 1 rfl (by omega) (fun h=>h)) (rfl) (by omega)) ?_
                rintro u3 v3 ⟨hr3,hm3,hu3⟩
                have hf1 : Fresh w9.drew.heap.size u1 := fun b e => by
                    rcases hu1 with h | h <;> rw [h] at e
                    · simp [Value.ownBlock] at e
                    · cases e;omega
                have hf3 : Fresh w9.drew.heap.size u3 := fun b e => by
                    have h1:=hg1.size;have h2:=hn2.size
                    rcases hu3 with h | h <;> rw [h] at e
                    · exact hf1 b e
                    · cases e;omega
                have hg13:Grow w9.drew v3:=(hg1.trans hn2.grow).then hm3 (fun b hb e=>by have:=hf1 b e;omega)
                refine ⟨(Mod.drew _ _).trans hg13,?_⟩
                refine DL.op rfl (.free rfl) rfl rfl (Does.append u28 i108 rfl rfl rfl rfl rfl (hr3) (hlo _ (hgd.trans hg13)) (allOne_mts _) (by omega)) ?_
                rintro u4 v4 ⟨hr4,hm4,hu4⟩
                have hg14:Grow w9.drew v4:=hg13.then hm4 (fun b hb e=>by have:=hf3 b e;omega)
                have hf4 : Fresh w.heap.size u4 := fun b e => by
                    have h1:=hg13.size;have h2:=(hg.trans hgd).size
                    rcases hu4 with h | h <;> rw [h] at e
                    · have:=hf3 b e;omega
                    · cases e;omega
                refine ⟨(Mod.drew _ _).trans hg14,?_⟩
                have hfin:insM L x=L.take j ++ x :: L.drop j:=by unfold insM;rw [if_neg (by rw [hpos];exact hne),insE,hpos]
                refine DL.p rfl rfl rfl ?_
                refine DL.done ?_
                refine RK.inBlock ?_
                refine RK.region ?_
                iterate 2 refine RL.p rfl rfl ?_
                refine RL.re (d:=19) rfl rfl (succ_i64 (by omega)) ?_
                refine RL.p rfl rfl ?_
                refine RL.done ?_
                exact RK.back (ih (i + 1,insM L x,u4) _ ⟨laidF (f:=mtC) (x:=x) rfl hj hfin hr4,hf4,(hg.trans hgd).trans hg14,by simp only;omega,by simp only;have:=insM_len L x;omega,hstep⟩ (by simp only;omega)) ⟨rfl,rfl,rfl,rfl,trivial⟩
              · refine DL.op rfl (.free rfl) rfl rfl (Does.slice1 u28 i108 rfl rfl rfl rfl rfl) ?_
                rintro _ v2 ⟨b2,rfl,hn2⟩
                refine ⟨(Mod.drew _ _).trans hn2.grow,?_⟩
                refine DL.op rfl (.free rfl) rfl rfl (Does.append u28 i108 rfl rfl rfl rfl rfl (Row.nil _ _ _) (hhi _ (hgd.trans hn2.grow)) (allOne_mts _) (by omega)) ?_
                rintro u1 v1 ⟨hr1,hm1,hu1⟩
                have hg1' : Grow v2 v1:=hm1.mono (fun b _ e=>by simp [Value.ownBlock] at e)
                have hg1:Grow w9.drew v1:=hn2.grow.trans hg1'
                refine ⟨(Mod.drew _ _).trans hg1,?_⟩
                refine DL.op rfl (.free rfl) rfl rfl (Does.append u28 i108 rfl rfl rfl rfl rfl (hr1) ((Sl.new hn2 3 1 rfl (by omega) (fun h=>h)).mod hg1') (rfl) (by omega)) ?_
                rintro u3 v3 ⟨hr3,hm3,hu3⟩
                have hf1 : Fresh w9.drew.heap.size u1 := fun b e => by
                    have h2:=hn2.size
                    rcases hu1 with h | h <;> rw [h] at e
                    · simp [Value.ownBlock] at e
                    · cases e;omega
                have hf3 : Fresh w9.drew.heap.size u3 := fun b e => by
                    have h1:=hg1.size
                    rcases hu3 with h | h <;> rw [h] at e
                    · exact hf1 b e
                    · cases e;omega
                have hg13:Grow w9.drew v3:=hg1.then hm3 (fun b hb e=>by have:=hf1 b e;omega)
                refine ⟨(Mod.drew _ _).trans hg13,?_⟩
                refine DL.op rfl (.free rfl) rfl rfl (Does.append u28 i108 rfl rfl rfl rfl rfl (hr3) (hlo _ (hgd.trans hg13)) (allOne_mts _) (by omega)) ?_
                rintro u4 v4 ⟨hr4,hm4,hu4⟩
                have hg14:Grow w9.drew v4:=hg13.then hm4 (fun b hb e=>by have:=hf3 b e;omega)
                have hf4 : Fresh w.heap.size u4 := fun b e => by
                    have h1:=hg13.size;have h2:=(hg.trans hgd).size
                    rcases hu4 with h | h <;> rw [h] at e
                    · have:=hf3 b e;omega
                    · cases e;omega
                refine ⟨(Mod.drew _ _).trans hg14,?_⟩
                have hfin:insM L x=L.take j ++ x :: L.drop j:=by unfold insM;rw [if_neg (by rw [hpos];exact hne),insE,hpos]
                refine DL.p rfl rfl rfl ?_
                refine DL.done ?_
                refine RK.inBlock ?_
                refine RK.region ?_
                iterate 2 refine RL.p rfl rfl ?_
                refine RL.re (d:=19) rfl rfl (succ_i64 (by omega)) ?_
                refine RL.p rfl rfl ?_
                refine RL.done ?_
                exact RK.back (ih (i + 1,insM L x,u4) _ ⟨laidF (f:=mtC) (x:=x) rfl hj hfin hr4,hf4,(hg.trans hgd).trans hg14,by simp only;omega,by simp only;have:=insM_len L x;omega,hstep⟩ (by simp only;omega)) ⟨rfl,rfl,rfl,rfl,trivial⟩
          · have hne:¬ (0 < j∧L[j - 1]?=some x):=fun h=>by omega
            obtain ⟨w9,hw9⟩:∃ w9,w9=w3.drew:=⟨_,rfl⟩
            rw [← hw9]
            have hgr:Grow w8 w9:=by rw [hw9];exact hg4.trans (Mod.drew _ _)
            have hB9:=hb7.mod hgr (fun h=>h)
            have hg:Grow w w8:=hg0.trans hg8
            have hgd:Grow w8 w9.drew:=hgr.trans (Mod.drew _ _)
            iterate 7 refine DL.no rfl (.no rfl rfl rfl rfl) rfl rfl ?_
            refine DL.p rfl rfl rfl ?_
            refine DL.done ?_
            refine RK.condF rfl ?_
            refine RK.skip ?_
            refine RK.drawF No [(0,false),(1,false),(2,false),(4,false),(7,false),(8,false),(9,false)] 3 5 [(5,true),(6,true),(10,true),(11,false)] [(3,true),(6,true),(10,true),(11,false)] [] mixed (by kernel_rfl) ?_
            iterate 2 refine DL.p rfl rfl rfl ?_
            refine DL.qf rfl (.free rfl) rfl rfl (Yld.sliceHi u28 i108 (m:=j) rfl rfl (by omega)) ?_
            refine DL.q rfl (.free rfl) rfl rfl rfl (Yld.loadN (cs:=mtC x) a108 rfl (atNM (blk0' hB9) (fun h=>h))) (Mod.drew _ _) ?_
            iterate 2 refine DL.p rfl rfl rfl ?_
            refine DL.qf rfl (.free rfl) rfl rfl (Yld.sliceFrom u28 i108 (m:=j) rfl rfl hj) ?_
            refine DL.fork ?_ ?_
            · refine DL.op rfl (.free rfl) rfl rfl (Does.append u28 i108 rfl rfl rfl rfl rfl (Row.nil _ _ _) (hhi _ hgd) (allOne_mts _) (by omega)) ?_
              rintro u1 v1 ⟨hr1,hm1,hu1⟩
              have hg1:Grow w9.drew v1:=hm1.mono (fun b _ e=>by simp [Value.ownBlock] at e)
              refine ⟨(Mod.drew _ _).trans hg1,?_⟩
              refine DL.op rfl (.free rfl) rfl rfl (Does.slice1 u28 i108 rfl rfl rfl rfl rfl) ?_
              rintro _ v2 ⟨b2,rfl,hn2⟩
              refine ⟨((Mod.drew _ _).trans hg1).trans hn2.grow,?_⟩
              refine DL.op rfl (.free rfl) rfl rfl (Does.append u28 i108 rfl rfl rfl rfl rfl (hr1.mod hn2.grow (fun _ _ h=>h)) (Sl.new hn2 3 1 rfl (by omega) (fun h=>h)) (rfl) (by omega)) ?_
              rintro u3 v3 ⟨hr3,hm3,hu3⟩
              have hf1 : Fresh w9.drew.heap.size u1 := fun b e => by
                  rcases hu1 with h | h <;> rw [h] at e
                  · simp [Value.ownBlock] at e
                  · cases e;omega
              have hf3 : Fresh w9.drew.heap.size u3 := fun b e => by
                  have h1:=hg1.size;have h2:=hn2.size
                  rcases hu3 with h | h <;> rw [h] at e
                  · exact hf1 b e
                  · cases e;omega
              have hg13:Grow w9.drew v3:=(hg1.trans hn2.grow).then hm3 (fun b hb e=>by have:=hf1 b e;omega)
              refine ⟨(Mod.drew _ _).trans hg13,?_⟩
              refine DL.op rfl (.free rfl) rfl rfl (Does.append u28 i108 rfl rfl rfl rfl rfl (hr3) (hlo _ (hgd.trans hg13)) (allOne_mts _) (by omega)) ?_
              rintro u4 v4 ⟨hr4,hm4,hu4⟩
              have hg14:Grow w9.drew v4:=hg13.then hm4 (fun b hb e=>by have:=hf3 b e;omega)
              have hf4 : Fresh w.heap.size u4 := fun b e => by
                  have h1:=hg13.size;have h2:=(hg.trans hgd).size
                  rcases hu4 with h | h <;> rw [h] at e
                  · have:=hf3 b e;omega
                  · cases e;omega
              refine ⟨(Mod.drew _ _).trans hg14,?_⟩
              have hfin:insM L x=L.take j ++ x :: L.drop j:=by unfold insM;rw [if_neg (by rw [hpos];exact hne),insE,hpos]
              refine DL.p rfl rfl rfl ?_
              refine DL.done ?_
              refine RK.inBlock ?_
              refine RK.region ?_
              iterate 2 refine RL.p rfl rfl ?_
              refine RL.re (d:=19) rfl rfl (succ_i64 (by omega)) ?_
              refine RL.p rfl rfl ?_
              refine RL.done ?_
              exact RK.back (ih (i + 1,insM L x,u4) _ ⟨laidF (f:=mtC) (x:=x) rfl hj hfin hr4,hf4,(hg.trans hgd).trans hg14,by simp only;omega,by simp only;have:=insM_len L x;omega,hstep⟩ (by simp only;omega)) ⟨rfl,rfl,rfl,rfl,trivial⟩
            · refine DL.op rfl (.free rfl) rfl rfl (Does.slice1 u28 i108 rfl rfl rfl rfl rfl) ?_
              rintro _ v2 ⟨b2,rfl,hn2⟩
              refine ⟨(Mod.drew _ _).trans hn2.grow,?_⟩
              refine DL.op rfl (.free rfl) rfl rfl (Does.append u28 i108 rfl rfl rfl rfl rfl (Row.nil _ _ _) (hhi _ (hgd.trans hn2.grow)) (allOne_mts _) (by omega)) ?_
              rintro u1 v1 ⟨hr1,hm1,hu1⟩
              have hg1' : Grow v2 v1:=hm1.mono (fun b _ e=>by simp [Value.ownBlock] at e)
              have hg1:Grow w9.drew v1:=hn2.grow.trans hg1'
              refine ⟨(Mod.drew _ _).trans hg1,?_⟩
              refine DL.op rfl (.free rfl) rfl rfl (Does.append u28 i108 rfl rfl rfl rfl rfl (hr1) ((Sl.new hn2 3 1 rfl (by omega) (fun h=>h)).mod hg1') (rfl) (by omega)) ?_
              rintro u3 v3 ⟨hr3,hm3,hu3⟩
              have hf1 : Fresh w9.drew.heap.size u1 := fun b e => by
                  have h2:=hn2.size
                  rcases hu1 with h | h <;> rw [h] at e
                  · simp [Value.ownBlock] at e
                  · cases e;omega
              have hf3 : Fresh w9.drew.heap.size u3 := fun b e => by
                  have h1:=hg1.size
                  rcases hu3 with h | h <;> rw [h] at e
                  · exact hf1 b e
                  · cases e;omega
              have hg13:Grow w9.drew v3:=hg1.then hm3 (fun b hb e=>by have:=hf1 b e;omega)
              refine ⟨(Mod.drew _ _).trans hg13,?_⟩
              refine DL.op rfl (.free rfl) rfl rfl (Does.append u28 i108 rfl rfl rfl rfl rfl (hr3) (hlo _ (hgd.trans hg13)) (allOne_mts _) (by omega)) ?_
              rintro u4 v4 ⟨hr4,hm4,hu4⟩
              have hg14:Grow w9.drew v4:=hg13.then hm4 (fun b hb e=>by have:=hf3 b e;omega)
              have hf4 : Fresh w.heap.size u4 := fun b e => by
                  have h1:=hg13.size;have h2:=(hg.trans hgd).size
                  rcases hu4 with h | h <;> rw [h] at e
                  · have:=hf3 b e;omega
                  · cases e;omega
              refine ⟨(Mod.drew _ _).trans hg14,?_⟩
              have hfin:insM L x=L.take j ++ x :: L.drop j:=by unfold insM;rw [if_neg (by rw [hpos];exact hne),insE,hpos]
              refine DL.p rfl rfl rfl ?_
              refine DL.done ?_
              refine RK.inBlock ?_
              refine RK.region ?_
              iterate 2 refine RL.p rfl rfl ?_
              refine RL.re (d:=19) rfl rfl (succ_i64 (by omega)) ?_
              refine RL.p rfl rfl ?_
              refine RL.done ?_
              exact RK.back (ih (i + 1,insM L x,u4) _ ⟨laidF (f:=mtC) (x:=x) rfl hj hfin hr4,hf4,(hg.trans hgd).trans hg14,by simp only;omega,by simp only;have:=insM_len L x;omega,hstep⟩ (by simp only;omega)) ⟨rfl,rfl,rfl,rfl,trivial⟩
      · have hpos:pos aheadM x L=j:=pos_splitG hj hD (fun z h0 _=>by omega)
        have hne:¬ (0 < j∧L[j - 1]?=some x):=fun h=>by omega
        iterate 6 refine DL.no rfl (.no rfl rfl rfl rfl) rfl rfl ?_
        refine DL.lno rfl (.no rfl rfl rfl rfl) rfl rfl ?_
        refine DL.p rfl rfl rfl ?_
        refine DL.done ?_
        refine RK.condF rfl ?_
        refine RK.exit rfl ?_
        iterate 2 refine RK.seq ?_
        refine RK.drawM No [(0,false),(1,false),(2,false),(3,false),(4,false),(5,false),(6,false),(7,false),(8,false),(9,false),(10,false)] [] mixed (by kernel_rfl) ?_
        iterate 3 refine DL.p rfl rfl rfl ?_
        refine DL.knownF (d:=42) rfl rfl (decide_eq_false (by omega)) ?_
        iterate 7 refine DL.no rfl (.no rfl rfl rfl rfl) rfl rfl ?_
        refine DL.p rfl rfl rfl ?_
        refine DL.done ?_
        obtain ⟨w9,hw9⟩:∃ w9,w9=w2.drew.drew:=⟨_,rfl⟩
        rw [← hw9]
        have hgr:Grow w8 w9:=by rw [hw9];exact (hg2.trans (Mod.drew _ _)).trans (Mod.drew _ _)
        have hB9:=hb7.mod hgr (fun h=>h)
        have hg:Grow w w8:=hg0.trans hg8
        have hgd:Grow w8 w9.drew:=hgr.trans (Mod.drew _ _)
        refine RK.condF rfl ?_
        refine RK.skip ?_
        refine RK.drawF No [(0,false),(1,false),(2,false),(4,false),(7,false),(8,false),(9,false)] 3 5 [(5,true),(6,true),(10,true),(11,false)] [(3,true),(6,true),(10,true),(11,false)] [] mixed (by kernel_rfl) ?_
        iterate 2 refine DL.p rfl rfl rfl ?_
        refine DL.qf rfl (.free rfl) rfl rfl (Yld.sliceHi u28 i108 (m:=j) rfl rfl (by omega)) ?_
        refine DL.q rfl (.free rfl) rfl rfl rfl (Yld.loadN (cs:=mtC x) a108 rfl (atNM (blk0' hB9) (fun h=>h))) (Mod.drew _ _) ?_
        iterate 2 refine DL.p rfl rfl rfl ?_
        refine DL.qf rfl (.free rfl) rfl rfl (Yld.sliceFrom u28 i108 (m:=j) rfl rfl hj) ?_
        refine DL.fork ?_ ?_
        · refine DL.op rfl (.free rfl) rfl rfl (Does.append u28 i108 rfl rfl rfl rfl rfl (Row.nil _ _ _) (hhi _ hgd) (allOne_mts _) (by omega)) ?_
          rintro u1 v1 ⟨hr1,hm1,hu1⟩
          have hg1:Grow w9.drew v1:=hm1.mono (fun b _ e=>by simp [Value.ownBlock] at e)
          refine ⟨(Mod.drew _ _).trans hg1,?_⟩
          refine DL.op rfl (.free rfl) rfl rfl (Does.slice1 u28 i108 rfl rfl rfl rfl rfl) ?_
          rintro _ v2 ⟨b2,rfl,hn2⟩
          refine ⟨((Mod.drew _ _).trans hg1).trans hn2.grow,?_⟩
          refine DL.op rfl (.free rfl) rfl rfl (Does.append u28 i108 rfl rfl rfl rfl rfl (hr1.mod hn2.grow (fun _ _ h=>h)) (Sl.new hn2 3 1 rfl (by omega) (fun h=>h)) (rfl) (by omega)) ?_
          rintro u3 v3 ⟨hr3,hm3,hu3⟩
          have hf1 : Fresh w9.drew.heap.size u1 := fun b e => by
              rcases hu1 with h | h <;> rw [h] at e
              · simp [Value.ownBlock] at e
              · cases e;omega
          have hf3 : Fresh w9.drew.heap.size u3 := fun b e => by
              have h1:=hg1.size;have h2:=hn2.size
              rcases hu3 with h | h <;> rw [h] at e
              · exact hf1 b e
              · cases e;omega
          have hg13:Grow w9.drew v3:=(hg1.trans hn2.grow).then hm3 (fun b hb e=>by have:=hf1 b e;omega)
          refine ⟨(Mod.drew _ _).trans hg13,?_⟩
          refine DL.op rfl (.free rfl) rfl rfl (Does.append u28 i108 rfl rfl rfl rfl rfl (hr3) (hlo _ (hgd.trans hg13)) (allOne_mts _) (by omega)) ?_
          rintro u4 v4 ⟨hr4,hm4,hu4⟩
          have hg14:Grow w9.drew v4:=hg13.then hm4 (fun b hb e=>by have:=hf3 b e;omega)
          have hf4 : Fresh w.heap.size u4 := fun b e => by
              have h1:=hg13.size;have h2:=(hg.trans hgd).size
              rcases hu4 with h | h <;> rw [h] at e
              · have:=hf3 b e;omega
              · cases e;omega
          refine ⟨(Mod.drew _ _).trans hg14,?_⟩
          have hfin:insM L x=L.take j ++ x :: L.drop j:=by unfold insM;rw [if_neg (by rw [hpos];exact hne),insE,hpos]
          refine DL.p rfl rfl rfl ?_
          refine DL.done ?_
          refine RK.inBlock ?_
          refine RK.region ?_
          iterate 2 refine RL.p rfl rfl ?_
          refine RL.re (d:=19) rfl rfl (succ_i64 (by omega)) ?_
          refine RL.p rfl rfl ?_
          refine RL.done ?_
          exact RK.back (ih (i + 1,insM L x,u4) _ ⟨laidF (f:=mtC) (x:=x) rfl hj hfin hr4,hf4,(hg.trans hgd).trans hg14,by simp only;omega,by simp only;have:=insM_len L x;omega,hstep⟩ (by simp only;omega)) ⟨rfl,rfl,rfl,rfl,trivial⟩
        · refine DL.op rfl (.free rfl) rfl rfl (Does.slice1 u28 i108 rfl rfl rfl rfl rfl) ?_
          rintro _ v2 ⟨b2,rfl,hn2⟩
          refine ⟨(Mod.drew _ _).trans hn2.grow,?_⟩
          refine DL.op rfl (.free rfl) rfl rfl (Does.append u28 i108 rfl rfl rfl rfl rfl (Row.nil _ _ _) (hhi _ (hgd.trans hn2.grow)) (allOne_mts _) (by omega)) ?_
          rintro u1 v1 ⟨hr1,hm1,hu1⟩
          have hg1' : Grow v2 v1:=hm1.mono (fun b _ e=>by simp [Value.ownBlock] at e)
          have hg1:Grow w9.drew v1:=hn2.grow.trans hg1'
          refine ⟨(Mod.drew _ _).trans hg1,?_⟩
          refine DL.op rfl (.free rfl) rfl rfl (Does.append u28 i108 rfl rfl rfl rfl rfl (hr1) ((Sl.new hn2 3 1 rfl (by omega) (fun h=>h)).mod hg1') (rfl) (by omega)) ?_
          rintro u3 v3 ⟨hr3,hm3,hu3⟩
          have hf1 : Fresh w9.drew.heap.size u1 := fun b e => by
              have h2:=hn2.size
              rcases hu1 with h | h <;> rw [h] at e
              · simp [Value.ownBlock] at e
              · cases e;omega
          have hf3 : Fresh w9.drew.heap.size u3 := fun b e => by
              have h1:=hg1.size
              rcases hu3 with h | h <;> rw [h] at e
              · exact hf1 b e
              · cases e;omega
          have hg13:Grow w9.drew v3:=hg1.then hm3 (fun b hb e=>by have:=hf1 b e;omega)
          refine ⟨(Mod.drew _ _).trans hg13,?_⟩
          refine DL.op rfl (.free rfl) rfl rfl (Does.append u28 i108 rfl rfl rfl rfl rfl (hr3) (hlo _ (hgd.trans hg13)) (allOne_mts _) (by omega)) ?_
          rintro u4 v4 ⟨hr4,hm4,hu4⟩
          have hg14:Grow w9.drew v4:=hg13.then hm4 (fun b hb e=>by have:=hf3 b e;omega)
          have hf4 : Fresh w.heap.size u4 := fun b e => by
              have h1:=hg13.size;have h2:=(hg.trans hgd).size
              rcases hu4 with h | h <;> rw [h] at e
              · have:=hf3 b e;omega
              · cases e;omega
          refine ⟨(Mod.drew _ _).trans hg14,?_⟩
          have hfin:insM L x=L.take j ++ x :: L.drop j:=by unfold insM;rw [if_neg (by rw [hpos];exact hne),insE,hpos]
          refine DL.p rfl rfl rfl ?_
          refine DL.done ?_
          refine RK.inBlock ?_
          refine RK.region ?_
          iterate 2 refine RL.p rfl rfl ?_
          refine RL.re (d:=19) rfl rfl (succ_i64 (by omega)) ?_
          refine RL.p rfl rfl ?_
          refine RL.done ?_
          exact RK.back (ih (i + 1,insM L x,u4) _ ⟨laidF (f:=mtC) (x:=x) rfl hj hfin hr4,hf4,(hg.trans hgd).trans hg14,by simp only;omega,by simp only;have:=insM_len L x;omega,hstep⟩ (by simp only;omega)) ⟨rfl,rfl,rfl,rfl,trivial⟩
    · have hm : matF ds [] = L := by
          rw [← hst]
          cases hc:ds.drop i with
          | nil=>rfl
          | cons d l=>simp only [matF];rw [if_neg (by omega)]
      refine RK.exit rfl ?_
      iterate 2 refine RK.seq ?_
      refine RK.region ?_
      iterate 2 refine RL.p rfl rfl ?_
      first | refine RL.splitD (d:=63) rfl rfl (fun h63=>?_) (fun h63=>?_) | refine RL.splitN (d:=63) rfl rfl (fun h63=>?_) (fun h63=>?_) | refine RL.split (d:=63) rfl rfl (fun h63=>?_) (fun h63=>?_)
      · refine RL.q (.yes rfl rfl rfl) rfl rfl (Yld.pure rfl) ?_
        refine RL.q (.yes rfl rfl rfl) rfl rfl (Yld.lenSl u28 rfl) ?_
        refine RL.q (.yes rfl rfl rfl) rfl rfl (Yld.pure rfl) ?_
        refine RL.p rfl rfl ?_
        refine RL.done ?_
        first | refine RK.condD rfl (fun h66=>?_) (fun h66=>?_) | refine RK.condN rfl (fun h66=>?_) (fun h66=>?_) | refine RK.cond rfl (fun h66=>?_) (fun h66=>?_)
        · have hnil:L=[]:=List.length_eq_zero_iff.1 (by omega)
          subst hnil
          refine RK.region ?_
          refine RL.p rfl rfl ?_
          refine RL.q (.free rfl) rfl rfl (Yld.build (v:=.agg (mtC sevM).toArray) rfl (fun w=>by kernel_rfl)) ?_
          refine RL.op (.free rfl) rfl rfl (Does.slice1 u28 i108 rfl rfl rfl rfl rfl) ?_
          rintro _ v9 ⟨b9,rfl,hn9⟩
          refine RL.op (.free rfl) rfl rfl (Does.append u28 i108 rfl rfl rfl rfl rfl (hr.mod hn9.grow (fun _ _ h=>h)) (Sl.new hn9 3 1 rfl (by omega) (fun h=>h)) (rfl) (by omega)) ?_
          rintro u5 w5 ⟨hr5,hm5,hu5⟩
          have hres:matsS ds must=[sevM]:=by unfold matsS;rw [if_pos ⟨h63,hm⟩]
          have hs0:=hg0.size
          refine RL.p rfl rfl ?_
          refine RL.done ?_
          refine RK.seq ?_
          refine RK.region ?_
          iterate 2 refine RL.p rfl rfl ?_
          refine RL.done ?_
          refine RK.ret_of Tryz.func60 (res1 rfl rfl) ?_ _
          exact ⟨_, rfl, by rw [hres]; exact hr5, fun b e => by
              rcases hu5 with h1 | h1
              · exact hfr b (h1 ▸ e)
              · rw [h1] at e;cases e;have:=hn9.grow.size;omega,(hg0.trans hn9.grow).then hm5 (fun b hb e=>by have:=hfr b e;omega)⟩
        · have hres:matsS ds must=L:=by unfold matsS;rw [if_neg (fun h=>by rw [hm] at h;rw [h.2] at h66;exact h66 rfl)];exact hm
          refine RK.skip ?_
          refine RK.seq ?_
          refine RK.region ?_
          iterate 2 refine RL.p rfl rfl ?_
          refine RL.done ?_
          refine RK.ret_of Tryz.func60 (res1 rfl rfl) ?_ _
          exact ⟨_,rfl,by rw [hres];exact hr,hfr,hg0⟩
      · have hres:matsS ds must=L:=by unfold matsS;rw [if_neg (fun h=>by rw [h63] at h;cases h.1)];exact hm
        iterate 3 refine RL.no (.no rfl rfl rfl rfl) rfl rfl ?_
        refine RL.p rfl rfl ?_
        refine RL.done ?_
        refine RK.condF rfl ?_
        refine RK.skip ?_
        refine RK.seq ?_
        refine RK.region ?_
        iterate 2 refine RL.p rfl rfl ?_
        refine RL.done ?_
        refine RK.ret_of Tryz.func60 (res1 rfl rfl) ?_ _
        exact ⟨_,rfl,by rw [hres];exact hr,hfr,hg0⟩
  · have hm:matF ds []=L:=by rw [← hst,List.drop_eq_nil_of_le (by omega)];rfl
    iterate 3 refine RL.no (.no rfl rfl rfl rfl) rfl rfl ?_
    refine RL.p rfl rfl ?_
    refine RL.done ?_
    refine RK.condF rfl ?_
    refine RK.exit rfl ?_
    iterate 2 refine RK.seq ?_
    refine RK.region ?_
    iterate 2 refine RL.p rfl rfl ?_
    first | refine RL.splitD (d:=63) rfl rfl (fun h63=>?_) (fun h63=>?_) | refine RL.splitN (d:=63) rfl rfl (fun h63=>?_) (fun h63=>?_) | refine RL.split (d:=63) rfl rfl (fun h63=>?_) (fun h63=>?_)
    · refine RL.q (.yes rfl rfl rfl) rfl rfl (Yld.pure rfl) ?_
      refine RL.q (.yes rfl rfl rfl) rfl rfl (Yld.lenSl u28 rfl) ?_
      refine RL.q (.yes rfl rfl rfl) rfl rfl (Yld.pure rfl) ?_
      refine RL.p rfl rfl ?_
      refine RL.done ?_
      first | refine RK.condD rfl (fun h66=>?_) (fun h66=>?_) | refine RK.condN rfl (fun h66=>?_) (fun h66=>?_) | refine RK.cond rfl (fun h66=>?_) (fun h66=>?_)
      · have hnil:L=[]:=List.length_eq_zero_iff.1 (by omega)
        subst hnil
        refine RK.region ?_
        refine RL.p rfl rfl ?_
        refine RL.q (.free rfl) rfl rfl (Yld.build (v:=.agg (mtC sevM).toArray) rfl (fun w=>by kernel_rfl)) ?_
        refine RL.op (.free rfl) rfl rfl (Does.slice1 u28 i108 rfl rfl rfl rfl rfl) ?_
        rintro _ v9 ⟨b9,rfl,hn9⟩
        refine RL.op (.free rfl) rfl rfl (Does.append u28 i108 rfl rfl rfl rfl rfl (hr.mod hn9.grow (fun _ _ h=>h)) (Sl.new hn9 3 1 rfl (by omega) (fun h=>h)) (rfl) (by omega)) ?_
        rintro u5 w5 ⟨hr5,hm5,hu5⟩
        have hres:matsS ds must=[sevM]:=by unfold matsS;rw [if_pos ⟨h63,hm⟩]
        have hs0:=hg0.size
        refine RL.p rfl rfl ?_
        refine RL.done ?_
        refine RK.seq ?_
        refine RK.region ?_
        iterate 2 refine RL.p rfl rfl ?_
        refine RL.done ?_
        refine RK.ret_of Tryz.func60 (res1 rfl rfl) ?_ _
        exact ⟨_, rfl, by rw [hres]; exact hr5, fun b e => by
            rcases hu5 with h1 | h1
            · exact hfr b (h1 ▸ e)
            · rw [h1] at e;cases e;have:=hn9.grow.size;omega,(hg0.trans hn9.grow).then hm5 (fun b hb e=>by have:=hfr b e;omega)⟩
      · have hres:matsS ds must=L:=by unfold matsS;rw [if_neg (fun h=>by rw [hm] at h;rw [h.2] at h66;exact h66 rfl)];exact hm
        refine RK.skip ?_
        refine RK.seq ?_
        refine RK.region ?_
        iterate 2 refine RL.p rfl rfl ?_
        refine RL.done ?_
        refine RK.ret_of Tryz.func60 (res1 rfl rfl) ?_ _
        exact ⟨_,rfl,by rw [hres];exact hr,hfr,hg0⟩
    · have hres:matsS ds must=L:=by unfold matsS;rw [if_neg (fun h=>by rw [h63] at h;cases h.1)];exact hm
      iterate 3 refine RL.no (.no rfl rfl rfl rfl) rfl rfl ?_
      refine RL.p rfl rfl ?_
      refine RL.done ?_
      refine RK.condF rfl ?_
      refine RK.skip ?_
      refine RK.seq ?_
      refine RK.region ?_
      iterate 2 refine RL.p rfl rfl ?_
      refine RL.done ?_
      refine RK.ret_of Tryz.func60 (res1 rfl rfl) ?_ _
      exact ⟨_,rfl,by rw [hres];exact hr,hfr,hg0⟩
end Go.Proofs.YtbcbfjnlnmhpbaaGreat
set_option linter.unusedVariables false
set_option linter.unusedSimpArgs false
set_option maxHeartbeats 1000000
set_option maxRecDepth 100000
namespace Go.Proofs.YtbcbfjnlnmhpbaaGreat
open Go Go.X Go.Rex
theorem cmpB:∀ (a b:List UInt8),Lib.compareBytes a b=if Op.bytesLess a b=true then -1 else if a=b then 0 else 1
 | [],[]=>by simp [Lib.compareBytes,Op.bytesLess]
 | [],_ :: _=>by simp [Lib.compareBytes,Op.bytesLess]
 | _ :: _,[]=>by simp [Lib.compareBytes,Op.bytesLess]
 | a :: xs,b :: ys=>by
  rw [Lib.compareBytes,cmpB xs ys,show Op.bytesLess (a :: xs) (b :: ys)=(decide (a < b) || (a == b && Op.bytesLess xs ys)) from rfl]
  by_cases h1:a < b
  ·simp [h1]
  ·by_cases h2:b < a
   ·have:a≠b:=by rintro rfl;exact h1 h2
    simp [h1,h2,this]
   ·have:a=b:=UInt8.le_antisymm (UInt8.not_lt.1 h2) (UInt8.not_lt.1 h1)
    subst this
    simp [h1]
theorem cmpS_ok (a b:ByteArray) (w:World):Fx Tryz.prog 161 [.string a,.string b] w (fun u w'=>u=.int .i64 (if slt a b=true then -1 else if a=b then 0 else 1)∧w=w'):=by
 refine Calls.mono (Tryz.strings_Compare a b w) ?_
 rintro e w' ⟨rfl,rfl⟩
 refine ⟨_,rfl,?_,rfl⟩
 rw [cmpB]
 unfold slt
 by_cases h:a=b
 ·subst h;rw [bl_irrefl];simp
 ·rw [if_neg h,if_neg (fun e=>h (data_inj e))]
def orS:List Int→Int
 | []=>0
 | z :: l=>if z≠0 then z else orS l
theorem orI_ok (M:Nat→Prop) (l:List Int) (v:Value) (w:World) (hv:Sl M w v 1 l.length (ints l)):Fx Tryz.prog 160 [v] w (fun u w'=>u=.int .i64 (orS l)∧w=w'):=by
 obtain ⟨ad,c,rfl⟩:=hv.shape
 have hbig:=hv.big
 refine enter Tryz.func160 rfl rfl rfl _ (Pick.sub (l:=[0]) (.cons rfl .nil)) ?_
 refine GG ?_
 refine QQ (Yld.lenSl u35 rfl) ?_
 refine GG ?_
 refine RK.loop (fun k:Nat=>[(3,.int .i64 0),(6,.slice ad l.length c),(7,.int .i64 (l.length:Int)),(8,.int .i64 (k:Int))]) (fun k w'=>w=w'∧k≤l.length∧orS (l.drop k)=orS l) (fun k=>l.length - k) 0 ⟨rfl,rfl,rfl,rfl,trivial⟩ ⟨rfl,by omega,rfl⟩ (fun k w' hI ih=>?_)
 obtain ⟨rfl,hk,hst⟩:=hI
 refine GG ?_
 refine CD (fun h9=>?_) (fun h9=>?_)
 ·obtain ⟨z,hz⟩:∃ z,l[k]?=some z:=⟨l[k]'(by omega),List.getElem?_eq_getElem (by omega)⟩
  obtain ⟨b1,o1,c1',he1,_,_,hc1⟩:=hv.elem1 (k:=k) (u:=.int .i64 z) (by simp [hz])
  cases he1
  have hdr:l.drop k=z :: l.drop (k + 1):=by rw [List.drop_eq_getElem_cons (by omega),(List.getElem?_eq_some_iff.1 hz).2]
  rw [hdr] at hst
  refine GG ?_
  refine QQ (Yld.indexAddrN u35 i3 rfl rfl (by omega)) ?_
  refine QQ (Yld.load p3 rfl (at1 (hc1 k (.int .i64 z) (by simp [hz])))) ?_
  refine GG ?_
  refine CD (fun h14=>?_) (fun h14=>?_)
  ·refine GG ?_
   refine RK.ret_of Tryz.func160 (res1 rfl rfl) ?_ _
   exact ⟨_,rfl,by rw [← hst];unfold orS;rw [if_pos h14],rfl⟩
  ·have hst2:orS (l.drop (k + 1))=orS l:=by rw [← hst];conv=>rhs;unfold orS;rw [if_neg h14]
   refine RK.skip ?_
   refine RK.inBlock ?_
   refine RK.region ?_
   refine RL.p rfl rfl ?_
   refine RL.re (d:=16) rfl rfl (succ_i64 (by omega)) ?_
   refine GG ?_
   exact RK.back (ih (k + 1) _ ⟨rfl,by omega,hst2⟩ (by omega)) ⟨rfl,rfl,rfl,rfl,trivial⟩
 ·rw [List.drop_eq_nil_of_le (by omega)] at hst
  refine RK.exit rfl ?_
  refine GG ?_
  refine RK.ret_of Tryz.func160 (res1 rfl rfl) ?_ _
  exact ⟨_,rfl,by rw [← hst];rfl,rfl⟩
theorem ahead_or (x y:Mt):(0≤orS [if slt x.name y.name=true then -1 else if x.name=y.name then 0 else 1,Lib.compareInt x.kind y.kind,if slt x.value y.value=true then -1 else if x.value=y.value then 0 else 1])↔aheadM x y=false:=by
 obtain ⟨xk,xn,xv⟩:=x
 obtain ⟨yk,yn,yv⟩:=y
 unfold aheadM Lib.compareInt
 simp only
 by_cases h2:xn=yn
 ·subst h2
  simp only [slt_irrefl,Bool.false_eq_true,if_false,if_true,ne_eq,not_true_eq_false]
  by_cases h3:xk < yk
  ·have hne:xk≠yk:=by omega
   simp [orS,h3,hne]
  ·by_cases h4:xk=yk
   ·subst h4
    by_cases h5:slt xv yv=true
    ·simp [orS,h5]
    ·by_cases h6:xv=yv
     ·subst h6;simp [orS,slt_irrefl]
     ·simp [orS,h5,h6]
   ·have h5:yk < xk:=by omega
    simp [orS,h3,h4,h5]
 ·by_cases h1:slt xn yn=true
  ·simp [orS,h1,h2]
  ·simp [orS,h1,h2]
theorem cmpM_ok (x y:Mt) (w:World):Fx Tryz.prog 131 [.agg (mtC x).toArray,.agg (mtC y).toArray] w (fun u w'=>(∃ c:Int,u=.int .i64 c∧(0≤c↔aheadM x y=false))∧Grow w w'):=by
 refine enter Tryz.func131 rfl rfl rfl _ (Pick.sub (l:=[0,1]) (.cons rfl (.cons rfl .nil))) ?_
 refine GG ?_
 refine OP (Does.box rfl) ?_
 rintro _ w1 ⟨b1,rfl,hn1⟩
 refine OP (Does.box rfl) ?_
 rintro _ w2 ⟨b2,rfl,hn2⟩
 have hB1:Blk w2 b1 108 [.int .i64 x.kind,.string x.name,.string x.value]:=hn1.blk.mod hn2.grow (fun h=>h)
 have hB2:Blk w2 b2 108 [.int .i64 y.kind,.string y.name,.string y.value]:=hn2.blk
 have hg2:=hn1.grow.trans hn2.grow
 refine GG ?_
 refine RK.drawM No [(0,false),(1,false),(2,false),(3,false),(5,false),(6,false),(7,false),(8,false),(10,false),(11,false),(12,false),(13,false),(4,true),(9,true),(14,true),(15,true),(16,true),(17,false)] [] mixed (by kernel_rfl) ?_
 refine DF (Yld.fieldAddr fo108_1 rfl) ?_
 refine DQ (Yld.load p9 rfl (atM (hB1.cell rfl) (fun h=>h))) (Mod.drew _ _) ?_
 refine DF (Yld.fieldAddr fo108_1 rfl) ?_
 refine DQ (Yld.load p9 rfl (atM (hB2.cell rfl) (fun h=>h))) (Mod.drew _ _) ?_
 refine DF (Yld.fieldAddr fo108_0 rfl) ?_
 refine DQ (Yld.load p3 rfl (atM (hB1.cell rfl) (fun h=>h))) (Mod.drew _ _) ?_
 refine DF (Yld.fieldAddr fo108_0 rfl) ?_
 refine DQ (Yld.load p3 rfl (atM (hB2.cell rfl) (fun h=>h))) (Mod.drew _ _) ?_
 refine DF (Yld.fieldAddr fo108_2 rfl) ?_
 refine DQ (Yld.load p9 rfl (atM (hB1.cell rfl) (fun h=>h))) (Mod.drew _ _) ?_
 refine DF (Yld.fieldAddr fo108_2 rfl) ?_
 refine DQ (Yld.load p9 rfl (atM (hB2.cell rfl) (fun h=>h))) (Mod.drew _ _) ?_
 refine OD (Does.call rfl e161 (cmpS_ok _ _ _)) ?_
 rintro _ _ ⟨rfl,rfl⟩
 refine ⟨Mod.drew _ _,?_⟩
 refine OD (Does.call rfl e106 (cmpInt_ok _ _ _)) ?_
 rintro _ _ ⟨rfl,rfl⟩
 refine ⟨Mod.drew _ _,?_⟩
 refine OD (Does.call rfl e161 (cmpS_ok _ _ _)) ?_
 rintro _ _ ⟨rfl,rfl⟩
 refine ⟨Mod.drew _ _,?_⟩
 refine OD (Does.bslice (el:=3) ([.int .i64 (if slt x.name y.name=true then -1 else if x.name=y.name then 0 else 1),.int .i64 (Lib.compareInt x.kind y.kind),.int .i64 (if slt x.value y.value=true then -1 else if x.value=y.value then 0 else 1)]) rfl (fun w=>by kernel_rfl)) ?_
 rintro _ w3 ⟨b3,rfl,hn3⟩
 refine ⟨(Mod.drew _ _).trans hn3.grow,?_⟩
 refine OD (Does.call rfl e160 (orI_ok No [_,_,_] _ _ (Sl.new hn3 1 3 rfl (by omega) (fun h=>h)))) ?_
 rintro _ _ ⟨rfl,rfl⟩
 refine ⟨(Mod.drew _ _).trans hn3.grow,?_⟩
 refine GG ?_
 refine RK.ret_of Tryz.func131 (res1 rfl rfl) ?_ _
 exact ⟨_,rfl,⟨_,rfl,ahead_or x y⟩,hg2.trans ((Mod.drew _ _).trans hn3.grow)⟩
@[irreducible] def okM (ms:List Mt) (i:Nat):Bool:=match ms[i]? with
 | none=>true
 | some x=>isM x && (match i with
  | 0=>true
  | j + 1=>match ms[j]? with
   | none=>true
   | some y=>aheadM y x)
@[irreducible] def listM (ms:List Mt):Bool:=decide (ms.length≤5) && (List.range ms.length).all (okM ms)
theorem okM_0 {ms:List Mt} {x:Mt} (hx:ms[0]?=some x):okM ms 0=isM x:=by unfold okM;rw [hx];simp
theorem okM_s {ms:List Mt} {j:Nat} {x y:Mt} (hx:ms[j + 1]?=some x) (hy:ms[j]?=some y):okM ms (j + 1)=(isM x && aheadM y x):=by unfold okM;rw [hx];simp only;rw [hy]
theorem listM_big {ms:List Mt} (h:5 < ms.length):listM ms=false:=by unfold listM;rw [decide_eq_false (by omega)];rfl
theorem listM_no {ms:List Mt} {i:Nat} (hi:i < ms.length) (h:okM ms i=false):listM ms=false:=by
 unfold listM
 rw [Bool.and_eq_false_iff];right
 exact List.all_eq_false.2 ⟨i,List.mem_range.2 hi,by simp [h]⟩
theorem listM_yes {ms:List Mt} (h5:ms.length≤5) (h:∀ i,i < ms.length→okM ms i=true):listM ms=true:=by
 unfold listM
 rw [decide_eq_true h5,Bool.true_and]
 exact List.all_eq_true.2 fun i hi=>h i (List.mem_range.1 hi)
theorem matchList_ok (M:Nat→Prop) (ms:List Mt) (v:Value) (w:World) (hv:SlM M w v ms):Fx Tryz.prog 95 [v] w (fun u w'=>u=.bool (listM ms)∧Grow w w'):=by
 obtain ⟨ad,c,rfl⟩:=hv.shape
 have hbig:=hv.big
 refine enter Tryz.func95 rfl rfl rfl _ (Pick.sub (l:=[0]) (.cons rfl .nil)) ?_
 refine GG ?_
 refine QQ (Yld.lenSl u28 rfl) ?_
 refine GG ?_
 refine CD (fun h7=>?_) (fun h7=>?_)
 ·refine GG ?_
  refine RK.ret_of Tryz.func95 (res1 rfl rfl) ?_ _
  exact ⟨_,rfl,by rw [listM_big (by omega)],Mod.refl _ _⟩
 ·refine GG ?_
  refine QQ (Yld.lenSl u28 rfl) ?_
  refine GG ?_
  refine RK.loop (fun k:Nat=>[(0,.slice ad ms.length c),(8,.slice ad ms.length c),(9,.int .i64 (ms.length:Int)),(10,.int .i64 (k:Int))]) (fun k w'=>Grow w w'∧k≤ms.length∧∀ i,i < k→okM ms i=true) (fun k=>ms.length - k) 0 ⟨rfl,rfl,rfl,rfl,trivial⟩ ⟨Mod.refl _ _,by omega,fun i hi=>by omega⟩ (fun k w' hI ih=>?_)
  obtain ⟨hg,hk,hall⟩:=hI
  refine GG ?_
  refine CD (fun h11=>?_) (fun h11=>?_)
  ·obtain ⟨x,hx⟩:∃ x,ms[k]?=some x:=⟨ms[k]'(by omega),List.getElem?_eq_getElem (by omega)⟩
   obtain ⟨b1,o1,c1',he1,_,_,hc1⟩:=hv.elem mtC_len hx
   cases he1
   refine GG ?_
   refine QQ (Yld.indexAddrN u28 i108 rfl rfl (by omega)) ?_
   refine QQ (Yld.loadN (cs:=mtC x) a108 rfl (atN (fun q z hq=>hg.cell (hc1 q z hq) (fun h=>h)))) ?_
   refine OP (Does.alloc i108) ?_
   rintro _ w4 ⟨b4,rfl,hn4⟩
   refine RL.p rfl rfl ?_
   refine OQ (Does.storeN i108 rfl rfl rfl rfl hn4.blk (Nat.le_refl 3)) ?_
   rintro _ w5 ⟨hb5,hm5,_⟩
   have hg5:Grow w w5:=hg.trans (hn4.grow.then hm5 (fun y hy e=>by have e' : y=b4:=e;have:=hn4.at_;omega))
   refine GG ?_
   refine RK.drawM No [(0,false),(1,true),(2,false),(3,false),(4,false),(5,false),(6,false),(7,false),(8,false),(9,false),(10,false),(11,false),(12,false),(13,true),(14,false),(15,false),(16,false)] [] mixed (by kernel_rfl) ?_
   refine DQ (Yld.loadN (cs:=mtC x) a108 rfl (atNM (blk0' hb5) (fun h=>h))) (Mod.drew _ _) ?_
   refine OD (Does.call rfl e130 (matchIs_ok x _)) ?_
   rintro _ w6 ⟨rfl,hg6⟩
   refine ⟨(Mod.drew No _).trans hg6,?_⟩
   refine GG ?_
   refine SD 18 (fun h17=>?_) (fun h17=>?_)
   ·iterate 9 refine DL.no rfl (.no rfl rfl rfl rfl) rfl rfl ?_
    refine DL.lno rfl (.no rfl rfl rfl rfl) rfl rfl ?_
    iterate 2 refine DL.no rfl (.no rfl rfl rfl rfl) rfl rfl ?_
    refine GG ?_
    refine RK.condT rfl ?_
    refine GG ?_
    refine RK.ret_of Tryz.func95 (res1 rfl rfl) ?_ _
    exact ⟨_,rfl,by rw [listM_no (i:=k) (by omega) (by
      have hf:isM x=false:=by simpa using h17
      cases k with
      | zero=>rw [okM_0 hx];exact hf
      | succ j=>rw [okM_s hx (List.getElem?_eq_getElem (by omega)),hf];rfl)],hg5.trans ((Mod.drew No _).trans hg6)⟩
   ·have hix:isM x=true:=by simpa using h17
    iterate 3 refine DF (Yld.pure rfl) ?_
    refine SD 21 (fun h20=>?_) (fun h20=>?_)
    ·obtain ⟨j,rfl⟩:∃ j,k=j + 1:=⟨k - 1,by omega⟩
     obtain ⟨y,hy⟩:∃ y,ms[j]?=some y:=⟨ms[j]'(by omega),List.getElem?_eq_getElem (by omega)⟩
     obtain ⟨b2,o2,c2',he2,_,_,hc2⟩:=hv.elem mtC_len hy
     cases he2
     iterate 3 refine DF (Yld.pure rfl) ?_
     refine DL.re (d:=24) rfl rfl (sub_i64 (z:=(j:Int)) (by omega) (by omega) (by omega)) ?_
     refine DF (Yld.indexAddrN u28 i108 rfl rfl (by omega)) ?_
     refine DQ (Yld.loadN (cs:=mtC y) a108 rfl (atNM (fun q z hq=>hg5.cell (hc2 q z hq) (fun h=>h)) (fun h=>h))) ((Mod.drew No _).trans hg6) ?_
     refine DQ (Yld.loadN (cs:=mtC x) a108 rfl (atNM (blk0' hb5) (fun h=>h))) ((Mod.drew No _).trans hg6) ?_
     refine OD (Does.call rfl e131 (cmpM_ok y x _)) ?_
     rintro _ w7 ⟨⟨cc,rfl,hcc⟩,hg7⟩
     have hg8:=hg5.trans (((Mod.drew No _).trans hg6).trans hg7)
     refine ⟨((Mod.drew No _).trans hg6).trans hg7,?_⟩
     iterate 2 refine DF (Yld.pure rfl) ?_
     refine GG ?_
     refine CD (fun h29=>?_) (fun h29=>?_)
     ·refine GG ?_
      refine RK.ret_of Tryz.func95 (res1 rfl rfl) ?_ _
      exact ⟨_,rfl,by rw [listM_no (i:=j + 1) (by omega) (by rw [okM_s hx hy,hix,hcc.1 h29];rfl)],hg8⟩
     ·have hay:aheadM y x=true:=eq_true_of_ne_false fun hq=>h29 (hcc.2 hq)
      refine RK.skip ?_
      refine RK.inBlock ?_
      refine RK.region ?_
      refine RL.p rfl rfl ?_
      refine RL.re (d:=32) rfl rfl (succ_i64 (by omega)) ?_
      refine GG ?_
      exact RK.back (ih (j + 1 + 1) _ ⟨hg8,by omega,fun i hi=>by by_cases e:i=j + 1;(subst e;rw [okM_s hx hy,hix,hay];rfl);exact hall i (by omega)⟩ (by omega)) ⟨rfl,rfl,rfl,rfl,trivial⟩
    ·have hk0:k=0:=by omega
     subst hk0
     iterate 6 refine DL.no rfl (.no rfl rfl rfl rfl) rfl rfl ?_
     refine DL.lno rfl (.no rfl rfl rfl rfl) rfl rfl ?_
     refine DL.no rfl (.no rfl rfl rfl rfl) rfl rfl ?_
     refine DF (Yld.pure rfl) ?_
     refine GG ?_
     refine RK.condF rfl ?_
     refine RK.skip ?_
     refine RK.inBlock ?_
     refine RK.region ?_
     refine RL.p rfl rfl ?_
     refine RL.re (d:=32) rfl rfl (succ_i64 (by omega)) ?_
     refine GG ?_
     exact RK.back (ih (0 + 1) _ ⟨hg5.trans ((Mod.drew No _).trans hg6),by omega,fun i hi=>by by_cases e:i=0;(subst e;rw [okM_0 hx];exact hix);omega⟩ (by omega)) ⟨rfl,rfl,rfl,rfl,trivial⟩
  ·refine RK.exit rfl ?_
   refine GG ?_
   refine RK.ret_of Tryz.func95 (res1 rfl rfl) ?_ _
   exact ⟨_,rfl,by rw [listM_yes (by omega) (fun i hi=>hall i (by omega))],hg⟩
end Go.Proofs.YtbcbfjnlnmhpbaaGreat
set_option linter.unusedVariables false
set_option linter.unusedSimpArgs false
namespace Go.X
open Go Go.RowKit
section
variable {P : Program} {n : Nat} {e : Env} {w : World}
theorem run_copyS (w:World) (dT sT ty elem:TypeId) (sz g o dLen dCap:Nat) (a:Addr) (sLen sCap:Nat) (cur:Array Value) (t:TypeId) (cs:List Value) (m:Nat)
  (hu:P.underlying dT=some (.slice elem)) (hs:(P.info? elem).map (·.size)=some sz)
  (hg:w.heap[g]?=some (.cells cur t (0,0))) (hm:m=Nat.min sLen dLen) (hn:cs.length=m * sz)
  (hsrc:∀ j v,cs[j]?=some v→w.cell? (a.add j)=some v) (hfit:o + cs.length≤cur.size) (h1:∀ v∈cs,v.oneCell'=true) :
  (Builtin.copy_ #[dT,sT] ty #[.slice (some ⟨g,o,none⟩) dLen dCap,.slice (some a) sLen sCap]).run P w=
   .ok (goInt m) (w.setRow g (cur.toList.take o ++ cs ++ cur.toList.drop (o + cs.length)).toArray):=by
 have hl:=run_loadCells_list (P:=P) w a cs hsrc
 have hst:=run_storeCells_at P g o t cs 0 cur w hg (by simpa using hfit) h1
 cases hq:P.info? elem with
 | none=>simp [hq] at hs
 | some i=>
  have hi:i.size=sz:=by simpa [hq] using hs
  rw [hn] at hl
  subst hm
  simp [Builtin.copy_,run_underlying hu,Builtin.lenOf,Builtin.firstCells,sizeOf,typeInfo,hq,hi,hl,hst]
theorem Does.appendZG {d : Option Tmp} {t it el : Nat} {s x : Operand} {ty : TypeId} {pos : String} {af : Array Edge} {g : Option (Nat × Bool)} {ik : IntKind} (ht : SlT P t el) (hi : P.underlying it = some (.int ik)) {z : Value} {sz by' : Nat} (hT : TI P el z sz by') (hz : z.cells.size = sz) (hsz : Nat.ble 1 sz = true) (hb' : Nat.ble 1 by' = true)
    {b k m c:Nat} {olds:List Value} (hs:ev e s=some (.slice (some ⟨b,0,none⟩) k c)) (hx:ev e x=some (.int .i64 (m:Int))) (ho:Sl No w (.slice (some ⟨b,0,none⟩) k c) sz k olds) (hm:0 < m) (hc:c < k + m) (hb:(k + m) * by'≤140737488355328) :
    Does P n e w ⟨d,.call { callee:=.builtin .append,args:=#[s,x],argTypes:=#[t,it] },ty,pos,af,g⟩
      (fun v w'=>∃ cap zs,v=.slice (some ⟨w.heap.size,0,none⟩) (k + m) cap∧New w.drew w' w.heap.size el (olds ++ zs)∧k + m≤cap∧cap≤maxLen∧zs.length=(cap - k) * sz∧Grow w w'):=by
  obtain ⟨i,hi',hz',hs',hby'⟩:=hT.out
  have hby:1≤by':=by simpa using hb'
  have hkb:k + m≤140737488355328:=Nat.le_trans (Nat.le_mul_of_pos_right _ hby) hb
  have hw:IntKind.i64.wrap (m:Int)=m:=wrap_i64 (by omega) (by omega)
  have hge:=grownCap_ge w (k + m) c el
  have hle:=grownCap_le_maxLen w (k + m) c el (by simp only [maxLen];omega)
  have hln:olds.length=k * sz:=ho.len
  have hold:(Builtin.firstCells i.size k (.slice (some ⟨b,0,none⟩) k c)).run P w.drew=.ok olds.toArray w.drew:=by
    have hsrc:∀ j v,olds[j]?=some v→w.drew.cell? ((⟨b,0,none⟩:Addr).add j)=some v:=fun j v hj=>by
      obtain ⟨ad,c',e1,hf⟩:=ho.form
      rcases Nat.eq_zero_or_pos k with h0 | h0
      · have:=(List.getElem?_eq_some_iff.1 hj).1;rw [hln,h0] at this;omega
      · obtain ⟨b',o',e2,_,h3⟩:=hf h0
        cases e1
        cases e2
        rw [add_none];exact h3 j v hj
    have:=run_loadCells_list (P:=P) w.drew ⟨b,0,none⟩ olds hsrc
    rw [hln] at this
    simpa [Builtin.firstCells,hs'] using this
  have n1:¬ ((m:Int) < 0):=by omega
  have n2:¬ (281474976710656 < (m:Int) * (by' : Int)):=by
    have h1:m * by'≤(k + m) * by':=Nat.mul_le_mul_right _ (by omega)
    obtain ⟨q,hq⟩:∃ q,q=m * by':=⟨_,rfl⟩
    have e1:(q:Int)=(m:Int) * (by' : Int):=by rw [hq];exact Int.natCast_mul m by'
    rw [← hq] at h1
    rw [← e1]
    omega
  have n3:¬ (k + m≤c):=by omega
  have n4:¬ (9223372036854775807 < ((k:Int) + (m:Int))):=by omega
  have n5:¬ (281474976710656 < Builtin.nextslicecap (k + m) c * by'):=by have:=growslice_fits hc hb;omega
  have n6:m≠0:=by omega
  have n7 : sz ≠ 0 := by have : 1 ≤ sz := by simpa using hsz
                         omega
  have hq:(olds.toArray ++ Builtin.zeroCells z.cells m ++ Builtin.zeroCells z.cells (grownCap w (k + m) c el - (k + m)))=(olds ++ (Builtin.zeroCells z.cells m ++ Builtin.zeroCells z.cells (grownCap w (k + m) c el - (k + m))).toList).toArray:=by
    apply Array.ext'
    simp only [Array.toList_append,List.append_assoc]
  refine Does.of_run (v:=.slice (some ⟨w.heap.size,0,none⟩) (k + m) (grownCap w (k + m) c el)) (w':=w.drew.alloc (.cells (olds.toArray ++ Builtin.zeroCells z.cells m ++ Builtin.zeroCells z.cells (grownCap w (k + m) c el - (k + m))) el)) (fun a ha=>?_)
    ⟨_,(Builtin.zeroCells z.cells m ++ Builtin.zeroCells z.cells (grownCap w (k + m) c el - (k + m))).toList,rfl,?_,hge,hle,?_,(Mod.drew No w).trans (Mod.alloc No w.drew _)⟩
  · have hold' : (Builtin.firstCells sz k (.slice (some ⟨b,0,none⟩) k c)).run P w.drew=.ok olds.toArray w.drew:=by rw [← hs'];exact hold
    simp [execOp,resolve,invoke,builtin,ha.ev hs,ha.ev hx,Builtin.append_,run_underlying ht,run_underlying hi,sizeOf,typeInfo,hi',hs',hby',hz',zeroValue,asInt,asIntOf,hw,n1,n2,n3,n4,n5,n6,n7,Question.forced,newRow,hold']
    rw [if_neg (Nat.mul_ne_zero n6 n7)]
    rfl
  · rw [hq];exact New.of w.drew el _
  · simp only [Array.toList_append,List.length_append,Array.length_toList,size_zeroCells,hz]
    rw [← Nat.add_mul]
    congr 1
    omega
theorem Does.overlapsNo {d:Option Tmp} {gf:FuncId} {args:Array Operand} {ats:Array TypeId} {ty:TypeId} {pos:String} {af:Array Edge} {g' : Option (Nat×Bool)} {t tb el:Nat} (ht:SlT P t el) {z:Value} {sz by' : Nat} (hT:TI P el z sz by')
  (hx:∀ (vs:Array Value) (w:World),(callFunc gf vs).run P w=((Extern.SlicesOverlaps.overlaps #[t,t] #[tb] vs).run P w).andThen fun v w'=>.ok (.value v) w')
  {a b oa la ca lb cb Ta Tb:Nat} {ad:Addr} {csa csb:List Value} (hv:evs e args.toList=some [.slice (some ⟨a,oa,none⟩) la ca,.slice (some ad) lb cb]) (had:ad.block=b) (ha:Blk w a Ta csa) (hb:Blk w b Tb csb) (hne:a≠b) (hn:csb≠[]) :
  Does P n e w ⟨d,.call { callee:=.value (.func gf),args:=args,argTypes:=ats },ty,pos,af,g'⟩ (fun v w'=>v=.bool false∧w=w'):=by
 refine Does.of_run (v:=.bool false) (w':=w) (fun ac hf=>?_) ⟨rfl,rfl⟩
 have h1:=hf.evs hv
 have:args.map ac.eval=#[.slice (some ⟨a,oa,none⟩) la ca,.slice (some ad) lb cb]:=by rw [← Array.toList_inj,Array.toList_map,h1]
 have hl:csb.length≠0:=fun h=>hn (List.eq_nil_of_length_eq_zero h)
 subst had
 unfold Blk at ha hb
 have hr:=Go.Lib.run_overlaps_apart (P:=P) w t tb el ht sz (fun w=>hT.sizeOf w) ⟨a,oa,none⟩ ad la ca lb cb hne Ta Tb csa.length csb.length (by simp [World.shape?,ha]) (by simp [World.shape?,hb]) hl (by simp [World.frozen?,ha]) (by simp [World.frozen?,ha])
 simp [execOp,resolve,this,Act.eval,Deferred.ofValue,invoke,hx,hr,Result.andThen]
theorem Does.copyG {d:Option Tmp} {t t2 el:Nat} {x y:Operand} {ty:TypeId} {pos:String} {af:Array Edge} {g' : Option (Nat×Bool)} (ht:SlT P t el) {z:Value} {sz by' : Nat} (hT:TI P el z sz by') {g lo cap dl dc m L T:Nat} {u:Value} {cs all:List Value}
  (hx:ev e x=some (.slice (fromAt (some ⟨g,0,none⟩) cap lo sz) dl dc)) (hy:ev e y=some u) (hb:Blk w g T cs) (hl:cs.length=cap * sz) (hu:Sl No w u sz L all) (hm0:0 < m) (hm:m=min L dl) (hroom:lo + m≤cap) (h1:(all.take (m * sz)).all (·.oneCell')=true) :
  Does P n e w ⟨d,.call { callee:=.builtin .copy,args:=#[x,y],argTypes:=#[t,t2] },ty,pos,af,g'⟩
   (fun _ w'=>Blk w' g T (cs.take (lo * sz) ++ all.take (m * sz) ++ cs.drop ((lo + m) * sz))∧Mod (·=g) w w'∧w'.heap.size=w.heap.size):=by
 obtain ⟨q,hi,hz,hs',hby⟩:=hT.out
 obtain ⟨ad,c,rfl,hf⟩:=hu.form
 have hmL:m≤L:=by omega
 have hln:(all.take (m * sz)).length=m * sz:=by
  rw [List.length_take,hu.len]
  exact Nat.min_eq_left (Nat.mul_le_mul_right _ hmL)
 have hs1:(P.info? el).map (·.size)=some sz:=by rw [hi];simp [hs']
 obtain ⟨g1,g2,g3⟩:=hb.setRow (cs':=cs.take (lo * sz) ++ all.take (m * sz) ++ cs.drop (lo * sz + m * sz))
 obtain ⟨b,o',rfl,_,h3⟩:=hf (by omega)
 have hsrc:∀ j v,(all.take (m * sz))[j]?=some v→w.cell? ((⟨b,o',none⟩:Addr).add j)=some v:=fun j v hj=>by
  rw [add_none]
  rw [List.getElem?_take] at hj
  split at hj
  ·exact h3 j v hj
  ·cases hj
 have hne:¬ cap=lo:=by omega
 have hfr:fromAt (some ⟨g,0,none⟩) cap lo sz=some ⟨g,lo * sz,none⟩:=by simp [fromAt,hne,add_none]
 rw [hfr] at hx
 have hfit:lo * sz + (all.take (m * sz)).length≤cs.length:=by
  rw [hln,hl,← Nat.add_mul]
  exact Nat.mul_le_mul_right _ hroom
 have hr:=run_copyS (P:=P) w t t2 ty el sz g (lo * sz) dl dc ⟨b,o',none⟩ L c cs.toArray T (all.take (m * sz)) m ht hs1 hb hm hln hsrc (by simpa using hfit) (List.all_eq_true.1 h1)
 rw [hln] at hr
 refine Does.of_run (w':=w.setRow g (cs.take (lo * sz) ++ all.take (m * sz) ++ cs.drop (lo * sz + m * sz)).toArray) (v:=.int .i64 (m:Int)) (fun a ha=>?_) ⟨by rw [Nat.add_mul];exact g1,g2,g3⟩
 have hr2:(Builtin.copy_ #[t,t2] ty #[.slice (some ⟨g,lo * sz,none⟩) dl dc,.slice (some ⟨b,o',none⟩) L c]).run P w=.ok (.int .i64 (m:Int)) (w.setRow g (cs.take (lo * sz) ++ all.take (m * sz) ++ cs.drop (lo * sz + m * sz)).toArray):=hr
 simp [execOp,resolve,invoke,builtin,ha.ev hx,ha.ev hy,hr2]
theorem Yld.max2k {C:World→Prop} {d:Option Tmp} {t:Array TypeId} {x y:Operand} {ty:TypeId} {pos:String} {af:Array Edge} {g:Option (Nat×Bool)} {k:IntKind} {p q:Int} (hx:ev e x=some (.int k p)) (hy:ev e y=some (.int k q)) :
  Yld P n C e ⟨d,.call { callee:=.builtin .max,args:=#[x,y],argTypes:=t },ty,pos,af,g⟩ (.int k (if q > p then q else p)):=by
 intro a ha w _
 simp [execOp,resolve,invoke,builtin,ha.ev hx,ha.ev hy,Builtin.max_,Builtin.max2]
theorem Yld.min2k {C:World→Prop} {d:Option Tmp} {t:Array TypeId} {x y:Operand} {ty:TypeId} {pos:String} {af:Array Edge} {g:Option (Nat×Bool)} {k:IntKind} {p q:Int} (hx:ev e x=some (.int k p)) (hy:ev e y=some (.int k q)) :
  Yld P n C e ⟨d,.call { callee:=.builtin .min,args:=#[x,y],argTypes:=t },ty,pos,af,g⟩ (.int k (if q < p then q else p)):=by
 intro a ha w _
 simp [execOp,resolve,invoke,builtin,ha.ev hx,ha.ev hy,Builtin.min_,Builtin.min2]
end
end Go.X
set_option linter.unusedVariables false
set_option linter.unusedSimpArgs false
set_option maxHeartbeats 800000
set_option maxRecDepth 100000
namespace Go.Proofs.YtbcbfjnlnmhpbaaGreat
open Go Go.X
structure En where
 due:Int
 id:Int
deriving DecidableEq
def enC (e:En):List Value:=[.int .u64 e.due,.int .i64 e.id]
theorem enC_len (e:En):(enC e).length=2:=rfl
def ltE (x y:En):Prop:=x.due < y.due∨(x.due=y.due∧x.id < y.id)
instance (x y:En):Decidable (ltE x y):=inferInstanceAs (Decidable (_∨_))
def cmpE (x y:En):Int:=orS [cmpI x.due y.due,Lib.compareInt x.id y.id]
theorem cmpE_lt (x y:En):cmpE x y < 0↔ltE x y:=by
 unfold cmpE ltE cmpI Lib.compareInt orS orS orS
 by_cases h1:x.due < y.due
 ·simp [h1]
 ·by_cases h2:x.due=y.due
  ·by_cases h3:x.id < y.id
   ·simp [h1,h2,h3]
   ·by_cases h4:x.id=y.id
    ·simp [h1,h2,h3,h4]
    ·have h5:y.id < x.id:=by omega
     simp [h1,h2,h3,h5]
  ·have h5:y.due < x.due:=by omega
   simp [h1,h2,h5]
theorem ltE_trans {x y z:En} (h:ltE x y) (h' : ltE y z):ltE x z:=by unfold ltE at *;omega
theorem ltE_total {x y:En} (h:¬ ltE x y):x=y∨ltE y x:=by
 rcases x with ⟨a,b⟩;rcases y with ⟨c,d⟩
 unfold ltE at *
 simp only [En.mk.injEq] at *
 omega
theorem ltE_irrefl (x:En):¬ ltE x x:=by unfold ltE;omega
theorem compareE_ok (x y:En) (w:World):Fx Tryz.prog 136 [.agg (enC x).toArray,.agg (enC y).toArray] w (fun u w'=>u=.int .i64 (cmpE x y)∧Grow w w'):=by
 refine enter Tryz.func136 rfl rfl rfl _ (Pick.sub (l:=[0,1]) (.cons rfl (.cons rfl .nil))) ?_
 refine GG ?_
 refine OP (Does.box rfl) ?_
 rintro _ w1 ⟨b1,rfl,hn1⟩
 refine OP (Does.box rfl) ?_
 rintro _ w2 ⟨b2,rfl,hn2⟩
 have hB1:Blk w2 b1 164 [.int .u64 x.due,.int .i64 x.id]:=hn1.blk.mod hn2.grow (fun h=>h)
 have hB2:Blk w2 b2 164 [.int .u64 y.due,.int .i64 y.id]:=hn2.blk
 have hg2:=hn1.grow.trans hn2.grow
 refine GG ?_
 refine RK.drawM No [(0,false),(1,false),(2,false),(3,false),(5,false),(6,false),(7,false),(8,false),(4,true),(9,true),(10,true),(11,true),(12,false)] [] mixed (by kernel_rfl) ?_
 refine DF (Yld.fieldAddr fo164_0 rfl) ?_
 refine DQ (Yld.load p22 rfl (atM (hB1.cell rfl) (fun h=>h))) (Mod.drew _ _) ?_
 refine DF (Yld.fieldAddr fo164_0 rfl) ?_
 refine DQ (Yld.load p22 rfl (atM (hB2.cell rfl) (fun h=>h))) (Mod.drew _ _) ?_
 refine DF (Yld.fieldAddr fo164_1 rfl) ?_
 refine DQ (Yld.load p3 rfl (atM (hB1.cell rfl) (fun h=>h))) (Mod.drew _ _) ?_
 refine DF (Yld.fieldAddr fo164_1 rfl) ?_
 refine DQ (Yld.load p3 rfl (atM (hB2.cell rfl) (fun h=>h))) (Mod.drew _ _) ?_
 refine OD (Does.call rfl e164 (compare_ok _ _ _)) ?_
 rintro _ _ ⟨rfl,rfl⟩
 refine ⟨Mod.drew _ _,?_⟩
 refine OD (Does.call rfl e106 (cmpInt_ok _ _ _)) ?_
 rintro _ _ ⟨rfl,rfl⟩
 refine ⟨Mod.drew _ _,?_⟩
 refine OD (Does.bslice (el:=3) ([.int .i64 (cmpI x.due y.due),.int .i64 (Lib.compareInt x.id y.id)]) rfl (fun w=>by kernel_rfl)) ?_
 rintro _ w3 ⟨b3,rfl,hn3⟩
 refine ⟨(Mod.drew _ _).trans hn3.grow,?_⟩
 refine OD (Does.call rfl e160 (orI_ok No [_,_] _ _ (Sl.new hn3 1 2 rfl (by omega) (fun h=>h)))) ?_
 rintro _ _ ⟨rfl,rfl⟩
 refine ⟨(Mod.drew _ _).trans hn3.grow,?_⟩
 refine GG ?_
 refine RK.ret_of Tryz.func136 (res1 rfl rfl) ?_ _
 exact ⟨_,rfl,rfl,hg2.trans ((Mod.drew _ _).trans hn3.grow)⟩
def SortE (q:List En):Prop:=q.Pairwise ltE
theorem bsE_ok (q : List En) (e : En) (v : Value) (w : World) (hv : Sl No w v 2 q.length (q.flatMap enC)) (hs : SortE q) (hb : q.length ≤ 1000000) :
    Fx Tryz.prog 135 [v,.agg (enC e).toArray,.func (.func 136) #[] #[]] w (fun u w'=>(∃ (i:Nat) (b:Bool),i≤q.length∧(∀ t a,t < i→q[t]?=some a→ltE a e)∧(∀ t a,i≤t→q[t]?=some a→¬ ltE a e)∧u=.tuple #[.int .i64 i,.bool b])∧Grow w w'):=by
  obtain ⟨ad,c,rfl⟩:=hv.shape
  have hris:∀ (t t' : Nat) (a a' : En),t < t'→q[t]?=some a→q[t']?=some a'→ltE a a':=fun t t' a a' h h1 h2=>by
    have h3:=(List.getElem?_eq_some_iff.1 h1).1
    have h4:=(List.getElem?_eq_some_iff.1 h2).1
    have:=List.pairwise_iff_getElem.1 hs t t' h3 h4 h
    rw [(List.getElem?_eq_some_iff.1 h1).2,(List.getElem?_eq_some_iff.1 h2).2] at this
    exact this
  refine enter Tryz.func135 rfl rfl rfl _ (Pick.sub (l:=[0,1,2]) (.cons rfl (.cons rfl (.cons rfl .nil)))) ?_
  refine RK.seq ?_
  refine RK.region ?_
  refine RL.op (.free rfl) rfl rfl (Does.box rfl) ?_
  rintro _ w0 ⟨b0,rfl,hn0⟩
  iterate 2 refine RL.p rfl rfl ?_
  refine RL.done ?_
  refine RK.seq ?_
  refine RK.region ?_
  refine RL.p rfl rfl ?_
  refine RL.q (.free rfl) rfl rfl (Yld.lenSl u153 rfl) ?_
  refine RL.p rfl rfl ?_
  refine RL.done ?_
  refine RK.seq ?_
  refine RK.region ?_
  iterate 3 refine RL.p rfl rfl ?_
  refine RL.done ?_
  refine RK.seq ?_
  refine RK.block ?_
  refine RK.loop (fun s:Nat×Nat=>[(0,.slice ad q.length c),(4,pp b0),(2,.func (.func 136) #[] #[]),(8,.int .i64 q.length),(9,.int .i64 (s.1:Int)),(10,.int .i64 (s.2:Int))]) (fun s w'=>Grow w0 w'∧s.1≤s.2∧s.2≤q.length∧(∀ t a,t < s.1→q[t]?=some a→ltE a e)∧(∀ t a,s.2≤t→q[t]?=some a→¬ ltE a e)) (fun s=>s.2 - s.1) (0,q.length) ⟨rfl,rfl,rfl,rfl,rfl,rfl,trivial⟩ ⟨Mod.refl _ _,by simp,by simp,fun t a h=>by simp only at h;omega,fun t a h h1=>by have:=(List.getElem?_eq_some_iff.1 h1).1;simp only at h;omega⟩ (fun s w' hI ih=>?_)
  obtain ⟨i,j⟩:=s
  obtain ⟨hg,hij,hj,hlo,hhi⟩:=hI
  simp only at hij hj hlo hhi
  iterate 2 refine RK.seq ?_
  refine RK.region ?_
  iterate 3 refine RL.p rfl rfl ?_
  refine RL.done ?_
  first | refine RK.condD rfl (fun h17=>?_) (fun h17=>?_) | refine RK.condN rfl (fun h17=>?_) (fun h17=>?_) | refine RK.cond rfl (fun h17=>?_) (fun h17=>?_)
  · obtain ⟨m,hm⟩:∃ m,m=(i + j) >>> 1:=⟨_,rfl⟩
    have hm2:m=(i + j) / 2:=by rw [hm,Nat.shiftRight_eq_div_pow]
    obtain ⟨a,ha⟩:∃ a,q[m]?=some a:=⟨q[m]'(by omega),List.getElem?_eq_getElem (by omega)⟩
    obtain ⟨b1,o1,c1',he1,_,_,hc1⟩:=hv.elem enC_len ha
    cases he1
    have hgw:=hn0.grow.trans hg
    have hB0:=hn0.blk.mod hg (fun h=>h)
    refine RK.skip ?_
    refine RK.block ?_
    refine RK.seq ?_
    refine RK.region ?_
    iterate 3 refine RL.p rfl rfl ?_
    refine RL.re (d:=20) rfl rfl (add_i64 (z:=((i + j:Nat):Int)) (by simp) (by omega) (by omega)) ?_
    refine RL.q (.free rfl) rfl rfl (Yld.convI Tryz.underlying3 Tryz.underlying198 rfl) ?_
    refine RL.re (d:=21) rfl rfl (congrArg (Value.int .u64) (wrap_u64 (x:=i + j) (by omega))) ?_
    refine RL.q (.free rfl) rfl rfl (Yld.shr (a:=i + j) (s:=1) rfl rfl (by decide)) ?_
    refine RL.q (.free rfl) rfl rfl (Yld.convI Tryz.underlying198 Tryz.underlying3 rfl) ?_
    refine RL.re (d:=23) rfl rfl ((congrArg (Value.int .i64) (wrap_i64 (x:=(((i + j) >>> 1:Nat):Int)) (by omega) (by rw [← hm];omega))).trans (by rw [← hm])) ?_
    refine RL.p rfl rfl ?_
    refine RL.done ?_
    refine RK.seq ?_
    refine RK.drawM No [(0,false),(1,false),(2,false),(3,false),(4,false),(5,false),(6,true),(7,false)] [] mixed (by kernel_rfl) ?_
    iterate 3 refine DL.p rfl rfl rfl ?_
    refine DL.qf rfl (.free rfl) rfl rfl (Yld.indexAddrN u153 i164 rfl rfl (by omega)) ?_
    refine DL.q rfl (.free rfl) rfl rfl rfl (Yld.loadN (cs:=enC a) a164 rfl (atNM (fun q u hq=>hgw.cell (hc1 q u hq) (fun h=>h)) (fun h=>h))) (Mod.drew _ _) ?_
    refine DL.q rfl (.free rfl) rfl rfl rfl (Yld.loadN (cs:=enC e) a164 rfl (atNM (blk0' hB0) (fun h=>h))) (Mod.drew _ _) ?_
    refine DL.op rfl (.free rfl) rfl rfl (Does.callv rfl rfl e136 (compareE_ok a e _)) ?_
    rintro _ w2 ⟨rfl,hg2'⟩
    have hg2:=(Mod.drew No w').trans hg2'
    refine ⟨hg2,?_⟩
    refine DL.p rfl rfl rfl ?_
    refine DL.done ?_
    first | refine RK.condD rfl (fun h31=>?_) (fun h31=>?_) | refine RK.condN rfl (fun h31=>?_) (fun h31=>?_) | refine RK.cond rfl (fun h31=>?_) (fun h31=>?_)
    · have hlt:=(cmpE_lt _ _).1 h31
      refine RK.region ?_
      iterate 2 refine RL.p rfl rfl ?_
      refine RL.re (d:=33) rfl rfl (succ_i64 (by omega)) ?_
      refine RL.p rfl rfl ?_
      refine RL.done ?_
      refine RK.inBlock ?_
      exact RK.back (ih (m + 1,j) _ ⟨hg.trans hg2,by simp only;omega,hj,fun t a' ht hta=>by simp only at ht;by_cases e:t=m;(subst e;rw [ha] at hta;cases hta;exact hlt);exact ltE_trans (hris t m a' a (by omega) hta ha) hlt,hhi⟩ (by simp only;omega)) ⟨rfl,rfl,rfl,rfl,rfl,rfl,trivial⟩
    · have hge:¬ ltE a e:=fun h=>h31 ((cmpE_lt _ _).2 h)
      refine RK.region ?_
      iterate 2 refine RL.p rfl rfl ?_
      refine RL.done ?_
      refine RK.inBlock ?_
      exact RK.back (ih (i,m) _ ⟨hg.trans hg2,by simp only;omega,by simp only;omega,hlo,fun t a' ht hta=>by simp only at ht;by_cases e:t=m;(subst e;rw [ha] at hta;cases hta;exact hge);exact fun hl=>hge (ltE_trans (hris m t a a' (by omega) ha hta) hl)⟩ (by simp only;omega)) ⟨rfl,rfl,rfl,rfl,rfl,rfl,trivial⟩
  · have hije:i=j:=by omega
    refine RK.exit rfl ?_
    refine RK.seq ?_
    refine RK.drawM No [(0,false),(1,false),(2,false),(3,false),(4,false),(5,false),(6,false),(7,false),(8,false),(9,false),(10,false),(11,true),(12,false),(13,false),(14,false),(15,false)] [] mixed (by kernel_rfl) ?_
    iterate 5 refine DL.p rfl rfl rfl ?_
    first | refine DL.splitD (d:=39) rfl rfl (fun h39=>?_) (fun h39=>?_) | refine DL.splitN (d:=39) rfl rfl (fun h39=>?_) (fun h39=>?_) | refine DL.split (d:=39) rfl rfl (fun h39=>?_) (fun h39=>?_)
    · obtain ⟨a,ha⟩:∃ a,q[i]?=some a:=⟨q[i]'(by omega),List.getElem?_eq_getElem (by omega)⟩
      obtain ⟨b1,o1,c1',he1,_,_,hc1⟩:=hv.elem enC_len ha
      cases he1
      have hgw:=hn0.grow.trans hg
      have hB0:=hn0.blk.mod hg (fun h=>h)
      iterate 3 refine DL.qf rfl (.yes rfl rfl rfl) rfl rfl (Yld.pure rfl) ?_
      refine DL.qf rfl (.yes rfl rfl rfl) rfl rfl (Yld.indexAddrN u153 i164 rfl rfl (by omega)) ?_
      refine DL.q rfl (.yes rfl rfl rfl) rfl rfl rfl (Yld.loadN (cs:=enC a) a164 rfl (atNM (fun q u hq=>hgw.cell (hc1 q u hq) (fun h=>h)) (fun h=>h))) (Mod.drew _ _) ?_
      refine DL.q rfl (.yes rfl rfl rfl) rfl rfl rfl (Yld.loadN (cs:=enC e) a164 rfl (atNM (blk0' hB0) (fun h=>h))) (Mod.drew _ _) ?_
      refine DL.op rfl (.yes rfl rfl rfl) rfl rfl (Does.callv rfl rfl e136 (compareE_ok a e _)) ?_
      rintro _ w2 ⟨rfl,hg2'⟩
      have hg2:=(Mod.drew No w').trans hg2'
      refine ⟨hg2,?_⟩
      refine DL.qf rfl (.yes rfl rfl rfl) rfl rfl (Yld.pure rfl) ?_
      iterate 3 refine DL.p rfl rfl rfl ?_
      refine DL.done ?_
      refine RK.ret_of Tryz.func135 (res2 rfl rfl rfl) ?_ _
      exact ⟨_,rfl,⟨i,_,by omega,hlo,by subst hije;exact hhi,rfl⟩,hgw.trans hg2⟩
    · iterate 6 refine DL.no rfl (.no rfl rfl rfl rfl) rfl rfl ?_
      refine DL.lno rfl (.no rfl rfl rfl rfl) rfl rfl ?_
      refine DL.no rfl (.no rfl rfl rfl rfl) rfl rfl ?_
      iterate 3 refine DL.p rfl rfl rfl ?_
      refine DL.done ?_
      refine RK.ret_of Tryz.func135 (res2 rfl rfl rfl) ?_ _
      exact ⟨_,rfl,⟨i,_,by omega,hlo,by subst hije;exact hhi,rfl⟩,hn0.grow.trans (hg.trans (Mod.drew _ _))⟩
end Go.Proofs.YtbcbfjnlnmhpbaaGreat
