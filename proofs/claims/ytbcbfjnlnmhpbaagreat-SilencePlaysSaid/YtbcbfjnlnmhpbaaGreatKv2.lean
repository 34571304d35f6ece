/- What the claim stands on, part 2. Of own lemmas only those that it reaches. -/
import Derived.Test.YtbcbfjnlnmhpbaaGreatKv1
set_option linter.unusedVariables false
set_option linter.unusedSimpArgs false
set_option maxHeartbeats 400000
namespace Go.Rex
inductive Rx where
 | set (s:List Nat)
 | node (op:Nat) (l:Rx)
 | nil
 | cons (x l:Rx)
 deriving DecidableEq,Inhabited
inductive Rt (R:Nat→Nat→Prop):Nat→Nat→Prop where
 | refl (i:Nat):Rt R i i
 | step {i k j:Nat}:R i k→Rt R k j→Rt R i j
theorem Rt.trans {R:Nat→Nat→Prop} {i k j:Nat} (h1:Rt R i k) (h2:Rt R k j):Rt R i j:=by
 induction h1 with
 | refl=>exact h2
 | step h _ ih=>exact .step h (ih h2)
theorem Rt.snoc {R:Nat→Nat→Prop} {i k j:Nat} (h1:Rt R i k) (h2:R k j):Rt R i j:=h1.trans (.step h2 (.refl _))
def Lg (H:List Nat→Nat→Prop):Rx→Bool→Nat→Nat→Prop
 | .set s,_,i,j=>H s i∧j=i + 1
 | .node op l,_,i,j=>if op=2 then Lg H l true i j else if op=3 then Lg H l false i j else if op=4 then Rt (Lg H l true) i j else if op=5 then ∃ k,Lg H l true i k∧Rt (Lg H l true) k j else i=j∨Lg H l true i j
 | .nil,b,i,j=>b=true∧i=j
 | .cons x l,b,i,j=>if b=true then ∃ k,Lg H x true i k∧Lg H l true k j else Lg H x true i j∨Lg H l false i j
def cnt:Rx→Nat
 | .cons _ l=>cnt l + 1
 | _=>0
def sz:Rx→Nat
 | .set _=>1
 | .node op l=>if op=2 then sz l else if op=3 then sz l + 2 * (cnt l - 1) else if op=4 then sz l + 2 else sz l + 1
 | .nil=>0
 | .cons x l=>sz x + sz l
structure Stp where
 op:Nat
 set:List Nat
 a:Nat
 b:Nat
 deriving DecidableEq,Inhabited
def byteS (s:List Nat):Stp:=⟨1,s,0,0⟩
def zero4:List Nat:=[0,0,0,0]
def splitS (a b:Nat):Stp:=⟨2,zero4,a,b⟩
def jumpS (a:Nat):Stp:=⟨3,zero4,a,0⟩
def matchS:Stp:=⟨4,zero4,0,0⟩
def code:Rx→Option Nat→Nat→List Stp
 | .set s,_,_=>[byteS s]
 | .node op l,_,p=>if op=2 then code l none p else if op=3 then code l (some (p + (sz l + 2 * (cnt l - 1)))) p else if op=4 then splitS (p + 1) (p + 2 + sz l) :: (code l none (p + 1) ++ [jumpS p]) else if op=5 then code l none p ++ [splitS p (p + sz l + 1)] else splitS (p + 1) (p + 1 + sz l) :: code l none (p + 1)
 | .nil,_,_=>[]
 | .cons x l,none,p=>code x none p ++ code l none (p + sz x)
 | .cons x l,some e,p=>if l=.nil then code x none p else splitS (p + 1) (p + 2 + sz x) :: (code x none (p + 1) ++ jumpS e :: code l (some e) (p + 2 + sz x))
def Wf:Rx→Prop
 | .set _=>True
 | .node op l=>Wf l∧(op=3→cnt l≠0)
 | .nil=>True
 | .cons x l=>Wf x∧Wf l
def Ls:Rx→Prop
 | .set _=>False
 | .node _ _=>False
 | .nil=>True
 | .cons _ l=>Ls l
def Wl:Rx→Prop
 | .set _=>True
 | .node _ l=>Ls l∧Wl l
 | .nil=>True
 | .cons x l=>Wl x∧Wl l∧Ls l
theorem ls_nil {l:Rx} (h:Ls l) (hc:cnt l=0):l=.nil:=by
 cases l with
 | set=>exact h.elim
 | node=>exact h.elim
 | nil=>rfl
 | cons=>simp [cnt] at hc
theorem code_len (x:Rx):Wf x→Wl x→∀ p,(code x none p).length=sz x∧∀ e,Ls x→cnt x≠0→(code x (some e) p).length=sz x + 2 * (cnt x - 1):=by
 induction x with
 | set s=>intro _ _ p;exact ⟨rfl,fun e h=>h.elim⟩
 | nil=>intro _ _ p;exact ⟨rfl,fun e _ h=>absurd rfl h⟩
 | node op l ih=>
  intro hw hl p
  refine ⟨?_,fun e h=>h.elim⟩
  have h1:=ih hw.1 hl.2
  simp only [code,sz]
  split
  ·exact (h1 p).1
  ·split
   ·rename_i h2 h3;exact (h1 p).2 _ hl.1 (hw.2 h3)
   ·split
    ·simp [(h1 (p + 1)).1]
    ·split
     ·simp [(h1 p).1]
     ·simp [(h1 (p + 1)).1]
 | cons x l ihx ihl=>
  intro hw hl p
  have hx:=ihx hw.1 hl.1
  have h2:=ihl hw.2 hl.2.1
  refine ⟨by simp [code,sz,(hx p).1,(h2 _).1],fun e _ _=>?_⟩
  simp only [code]
  split
  ·rename_i h;subst h;simp [sz,cnt,(hx p).1]
  ·rename_i h
   have hc:cnt l≠0:=fun hc=>h (ls_nil hl.2.2 hc)
   simp only [List.length_cons,List.length_append,(hx _).1,(h2 _).2 e hl.2.2 hc,sz,cnt]
   omega
def Seg (P:List Stp) (p:Nat) (l:List Stp):Prop:=∀ k st,l[k]?=some st→P[p + k]?=some st
theorem Seg.append {P:List Stp} {p:Nat} {l1 l2:List Stp} (h:Seg P p (l1 ++ l2)):Seg P p l1∧Seg P (p + l1.length) l2:=by
 refine ⟨fun k st hk=>h k st ?_,fun k st hk=>?_⟩
 ·rw [List.getElem?_append_left (List.getElem?_eq_some_iff.1 hk).1];exact hk
 ·have:=h (l1.length + k) st (by rw [List.getElem?_append_right (by omega),Nat.add_sub_cancel_left];exact hk)
  rwa [← Nat.add_assoc] at this
theorem Seg.cons {P:List Stp} {p:Nat} {s:Stp} {l:List Stp} (h:Seg P p (s :: l)):P[p]?=some s∧Seg P (p + 1) l:=
 ⟨h 0 s rfl,fun k st hk=>by have:=h (k + 1) st (by simpa using hk);rwa [show p + (k + 1)=p + 1 + k by omega] at this⟩
inductive Go1 (P:List Stp) (H:List Nat→Nat→Prop):Nat→Nat→Nat→Nat→Prop where
 | byte {c i:Nat} {st:Stp}:P[c]?=some st→st.op=1→H st.set i→Go1 P H c i (c + 1) (i + 1)
 | left {c i:Nat} {st:Stp}:P[c]?=some st→st.op=2→Go1 P H c i st.a i
 | right {c i:Nat} {st:Stp}:P[c]?=some st→st.op=2→Go1 P H c i st.b i
 | jump {c i:Nat} {st:Stp}:P[c]?=some st→st.op=3→Go1 P H c i st.a i
inductive Rn (P:List Stp) (H:List Nat→Nat→Prop):Nat→Nat→Nat→Nat→Nat→Prop where
 | zero (c i:Nat):Rn P H 0 c i c i
 | step {n c i c' i' d j:Nat}:Go1 P H c i c' i'→Rn P H n c' i' d j→Rn P H (n + 1) c i d j
def Re (P:List Stp) (H:List Nat→Nat→Prop) (c i d j:Nat):Prop:=∃ n,Rn P H n c i d j
section
variable {P : List Stp} {H : List Nat → Nat → Prop}
theorem Re.refl (c i:Nat):Re P H c i c i:=⟨0,.zero c i⟩
theorem Re.step {c i c' i' d j:Nat} (h:Go1 P H c i c' i') (h2:Re P H c' i' d j):Re P H c i d j:=let ⟨n,hn⟩:=h2;⟨n + 1,.step h hn⟩
theorem Re.trans {c i c' i' d j:Nat} (h:Re P H c i c' i') (h2:Re P H c' i' d j):Re P H c i d j:=by
 obtain ⟨n,hn⟩:=h
 induction hn with
 | zero=>exact h2
 | step h _ ih=>exact .step h (ih h2)
theorem fwd (x:Rx):Wf x→Wl x→∀ p i j,(Seg P p (code x none p)→Lg H x true i j→Re P H p i (p + sz x) j)∧(∀ e,Ls x→cnt x≠0→e=p + (sz x + 2 * (cnt x - 1))→Seg P p (code x (some e) p)→Lg H x false i j→Re P H p i e j):=by
 induction x with
 | set s=>
  intro _ _ p i j
  refine ⟨fun hs h=>?_,fun e h=>h.elim⟩
  obtain ⟨h1,rfl⟩:=h
  exact .step (.byte hs.cons.1 rfl h1) (.refl _ _)
 | nil=>
  intro _ _ p i j
  refine ⟨fun hs h=>?_,fun e _ h=>absurd rfl h⟩
  obtain ⟨_,rfl⟩:=h
  exact .refl _ _
 | node op l ih=>
  intro hw hl p i j
  refine ⟨fun hs h=>?_,fun e h=>h.elim⟩
  have h1:=ih hw.1 hl.2
  simp only [code] at hs
  simp only [Lg] at h
  simp only [sz]
  split at hs
  ·rename_i e
   rw [if_pos e] at h ⊢
   exact (h1 p i j).1 hs h
  ·rename_i n2
   rw [if_neg n2] at h ⊢
   split at hs
   ·rename_i e
    rw [if_pos e] at h ⊢
    exact (h1 p i j).2 _ hl.1 (hw.2 e) rfl hs h
   ·rename_i n3
    rw [if_neg n3] at h ⊢
    split at hs
    ·rename_i e
     rw [if_pos e] at h ⊢
     obtain ⟨hs1,hs2⟩:=hs.cons
     obtain ⟨hs2,hs3⟩:=hs2.append
     rw [(code_len l hw.1 hl.2 _).1] at hs3
     induction h with
     | refl i=>exact .step (.right hs1 rfl) (by show Re P H (p + 2 + sz l) i _ i;rw [show p + 2 + sz l=p + (sz l + 2) by omega];exact .refl _ _)
     | step h _ ih2=>exact .step (.left hs1 rfl) (((h1 (p + 1) _ _).1 hs2 h).trans (.step (.jump hs3.cons.1 rfl) ih2))
    ·rename_i n4
     rw [if_neg n4] at h ⊢
     split at hs
     ·rename_i e
      rw [if_pos e] at h
      obtain ⟨hs2,hs3⟩:=hs.append
      rw [(code_len l hw.1 hl.2 _).1] at hs3
      obtain ⟨k,hk,hr⟩:=h
      refine ((h1 p _ _).1 hs2 hk).trans ?_
      clear hk
      induction hr with
      | refl i=>exact .step (.right hs3.cons.1 rfl) (.refl _ _)
      | step h _ ih2=>exact .step (.left hs3.cons.1 rfl) (((h1 p _ _).1 hs2 h).trans ih2)
     ·rename_i n5
      rw [if_neg n5] at h
      obtain ⟨hs1,hs2⟩:=hs.cons
      rcases h with rfl | h
      ·exact .step (.right hs1 rfl) (by show Re P H (p + 1 + sz l) i _ i;rw [show p + 1 + sz l=p + (sz l + 1) by omega];exact .refl _ _)
      ·exact .step (.left hs1 rfl) (by have:=(h1 (p + 1) _ _).1 hs2 h;rwa [show p + 1 + sz l=p + (sz l + 1) by omega] at this)
 | cons x l ihx ihl=>
  intro hw hl p i j
  have hx:=ihx hw.1 hl.1
  have h2:=ihl hw.2 hl.2.1
  refine ⟨fun hs h=>?_,fun e _ _ he hs h=>?_⟩
  ·simp only [code] at hs
   obtain ⟨hs1,hs2⟩:=hs.append
   rw [(code_len x hw.1 hl.1 _).1] at hs2
   simp only [Lg,if_true] at h
   obtain ⟨k,ha,hb⟩:=h
   have:=((hx p i k).1 hs1 ha).trans ((h2 _ k j).1 hs2 hb)
   simpa only [sz,Nat.add_assoc] using this
  ·simp only [code] at hs
   simp only [Lg,Bool.false_eq_true,if_false] at h
   split at hs
   ·rename_i hn
    subst hn
    rcases h with h | h
    ·have:=(hx p i j).1 hs h
     rw [he]
     simpa [sz,cnt] using this
    ·exact absurd h.1 (by decide)
   ·rename_i hn
    have hc:cnt l≠0:=fun hc=>hn (ls_nil hl.2.2 hc)
    obtain ⟨hs1,hs2⟩:=hs.cons
    obtain ⟨hs2,hs3⟩:=hs2.append
    rw [(code_len x hw.1 hl.1 _).1] at hs3
    obtain ⟨hs3,hs4⟩:=hs3.cons
    rcases h with h | h
    ·exact .step (.left hs1 rfl) (((hx (p + 1) i j).1 hs2 h).trans (.step (.jump hs3 rfl) (.refl _ _)))
    ·refine .step (.right hs1 rfl) ?_
     show Re P H (p + 2 + sz x) i e j
     rw [show p + 1 + sz x + 1=p + 2 + sz x by omega] at hs4
     exact (h2 _ i j).2 e hl.2.2 hc (by simp only [sz,cnt] at he;omega) hs4 h
theorem Rn.inv {n c i d j:Nat} (h:Rn P H n c i d j) (hne:c≠d):∃ m c' i',n=m + 1∧Go1 P H c i c' i'∧Rn P H m c' i' d j:=by
 cases h with
 | zero=>exact absurd rfl hne
 | step h1 h2=>exact ⟨_,_,_,rfl,h1,h2⟩
theorem Go1.of {c i c' i' : Nat} {st:Stp} (h:Go1 P H c i c' i') (hs:P[c]?=some st):(st.op=1∧H st.set i∧c'=c + 1∧i'=i + 1)∨(st.op=2∧i'=i∧(c'=st.a∨c'=st.b))∨(st.op=3∧i'=i∧c'=st.a):=by
 cases h with
 | byte a b d=>rw [hs] at a;cases a;exact .inl ⟨b,d,rfl,rfl⟩
 | left a b=>rw [hs] at a;cases a;exact .inr (.inl ⟨b,rfl,.inl rfl⟩)
 | right a b=>rw [hs] at a;cases a;exact .inr (.inl ⟨b,rfl,.inr rfl⟩)
 | jump a b=>rw [hs] at a;cases a;exact .inr (.inr ⟨b,rfl,rfl⟩)
theorem Go1.split {c i c' i' a b:Nat} (h:Go1 P H c i c' i') (hs:P[c]?=some (splitS a b)):i'=i∧(c'=a∨c'=b):=by
 rcases h.of hs with ⟨h1,_⟩ | ⟨_,h2,h3⟩ | ⟨h1,_⟩
 ·exact absurd h1 (fun h=>by cases h)
 ·exact ⟨h2,h3⟩
 ·exact absurd h1 (fun h=>by cases h)
theorem Go1.jumped {c i c' i' a:Nat} (h:Go1 P H c i c' i') (hs:P[c]?=some (jumpS a)):i'=i∧c'=a:=by
 rcases h.of hs with ⟨h1,_⟩ | ⟨h1,_⟩ | ⟨_,h2,h3⟩
 ·exact absurd h1 (fun h=>by cases h)
 ·exact absurd h1 (fun h=>by cases h)
 ·exact ⟨h2,h3⟩
theorem bwd (x:Rx):Wf x→Wl x→∀ p n i d j,(Seg P p (code x none p)→Rn P H n p i d j→(d < p∨p + sz x≤d)→∃ m k,m≤n∧Lg H x true i k∧Rn P H m (p + sz x) k d j)∧(∀ e,Ls x→cnt x≠0→e=p + (sz x + 2 * (cnt x - 1))→Seg P p (code x (some e) p)→Rn P H n p i d j→(d < p∨e≤d)→∃ m k,m≤n∧Lg H x false i k∧Rn P H m e k d j):=by
 induction x with
 | set s=>
  intro _ _ p n i d j
  refine ⟨fun hs h hd=>?_,fun e h=>h.elim⟩
  have hd' : p≠d:=by simp only [sz] at hd;omega
  obtain ⟨m,c',i',rfl,h1,h2⟩:=h.inv hd'
  rcases h1.of hs.cons.1 with ⟨_,h3,rfl,rfl⟩ | ⟨h3,_⟩ | ⟨h3,_⟩
  ·exact ⟨m,i + 1,by omega,⟨h3,rfl⟩,h2⟩
  ·exact absurd h3 (fun h=>by cases h)
  ·exact absurd h3 (fun h=>by cases h)
 | nil=>
  intro _ _ p n i d j
  exact ⟨fun hs h hd=>⟨n,i,Nat.le_refl _,⟨rfl,rfl⟩,h⟩,fun e _ h=>absurd rfl h⟩
 | node op l ih=>
  intro hw hl p n i d j
  refine ⟨fun hs h hd=>?_,fun e h=>h.elim⟩
  have h1:=ih hw.1 hl.2
  simp only [code] at hs
  simp only [Lg]
  simp only [sz] at hd ⊢
  split at hs
  ·rename_i e
   rw [if_pos e] at hd ⊢
   simp only [if_pos e]
   exact (h1 p n i d j).1 hs h hd
  ·rename_i n2
   rw [if_neg n2] at hd ⊢
   simp only [if_neg n2]
   split at hs
   ·rename_i e
    rw [if_pos e] at hd ⊢
    simp only [if_pos e]
    exact (h1 p n i d j).2 _ hl.1 (hw.2 e) rfl hs h hd
   ·rename_i n3
    rw [if_neg n3] at hd ⊢
    simp only [if_neg n3]
    split at hs
    ·rename_i e
     rw [if_pos e] at hd ⊢
     simp only [if_pos e]
     obtain ⟨hs1,hs2⟩:=hs.cons
     obtain ⟨hs2,hs3⟩:=hs2.append
     rw [(code_len l hw.1 hl.2 _).1] at hs3
     induction n using Nat.strongRecOn generalizing i with
     | _ n ih2=>
      obtain ⟨m,c',i',rfl,g1,g2⟩:=h.inv (by omega)
      obtain ⟨rfl,rfl | rfl⟩:=g1.split hs1
      ·obtain ⟨m2,k,hm2,hk,g3⟩:=(h1 (p + 1) m i' d j).1 hs2 g2 (by omega)
       obtain ⟨m3,c3,i3,rfl,g4,g5⟩:=g3.inv (by omega)
       obtain ⟨rfl,rfl⟩:=g4.jumped hs3.cons.1
       obtain ⟨m4,k4,hm4,hk4,g6⟩:=ih2 m3 (by omega) i3 g5
       exact ⟨m4,k4,by omega,.step hk hk4,g6⟩
      ·exact ⟨m,i',by omega,.refl _,by rwa [show p + 2 + sz l=p + (sz l + 2) by omega] at g2⟩
    ·rename_i n4
     rw [if_neg n4] at hd ⊢
     simp only [if_neg n4]
     split at hs
     ·rename_i e
      simp only [if_pos e]
      obtain ⟨hs2,hs3⟩:=hs.append
      rw [(code_len l hw.1 hl.2 _).1] at hs3
      induction n using Nat.strongRecOn generalizing i with
      | _ n ih2=>
       obtain ⟨m2,k,hm2,hk,g3⟩:=(h1 p n i d j).1 hs2 h (by omega)
       obtain ⟨m3,c3,i3,rfl,g4,g5⟩:=g3.inv (by omega)
       obtain ⟨rfl,rfl | rfl⟩:=g4.split hs3.cons.1
       ·obtain ⟨m4,k4,hm4,⟨k5,hk5,hr⟩,g6⟩:=ih2 m3 (by omega) i3 g5
        exact ⟨m4,k4,by omega,⟨i3,hk,.step hk5 hr⟩,g6⟩
       ·exact ⟨m3,i3,by omega,⟨i3,hk,.refl _⟩,g5⟩
     ·rename_i n5
      simp only [if_neg n5]
      obtain ⟨hs1,hs2⟩:=hs.cons
      obtain ⟨m,c',i',rfl,g1,g2⟩:=h.inv (by omega)
      obtain ⟨rfl,rfl | rfl⟩:=g1.split hs1
      ·obtain ⟨m2,k,hm2,hk,g3⟩:=(h1 (p + 1) m i' d j).1 hs2 g2 (by omega)
       exact ⟨m2,k,by omega,.inr hk,by rwa [show p + 1 + sz l=p + (sz l + 1) by omega] at g3⟩
      ·exact ⟨m,i',by omega,.inl rfl,by rwa [show p + 1 + sz l=p + (sz l + 1) by omega] at g2⟩
 | cons x l ihx ihl=>
  intro hw hl p n i d j
  have hx:=ihx hw.1 hl.1
  have h2:=ihl hw.2 hl.2.1
  refine ⟨fun hs h hd=>?_,fun e _ _ he hs h hd=>?_⟩
  ·simp only [code] at hs
   simp only [sz] at hd ⊢
   obtain ⟨hs1,hs2⟩:=hs.append
   rw [(code_len x hw.1 hl.1 _).1] at hs2
   obtain ⟨m,k,hm,hk,g1⟩:=(hx p n i d j).1 hs1 h (by omega)
   obtain ⟨m2,k2,hm2,hk2,g2⟩:=(h2 _ m k d j).1 hs2 g1 (by omega)
   exact ⟨m2,k2,by omega,by simp only [Lg,if_true];exact ⟨k,hk,hk2⟩,by rwa [Nat.add_assoc] at g2⟩
  ·simp only [code] at hs
   simp only [Lg,Bool.false_eq_true,if_false]
   simp only [sz,cnt] at he
   split at hs
   ·rename_i hn
    subst hn
    simp only [sz,cnt] at he
    obtain ⟨m,k,hm,hk,g1⟩:=(hx p n i d j).1 hs h (by omega)
    exact ⟨m,k,hm,.inl hk,by rwa [show e=p + sz x by omega]⟩
   ·rename_i hn
    have hc:cnt l≠0:=fun hc=>hn (ls_nil hl.2.2 hc)
    obtain ⟨hs1,hs2⟩:=hs.cons
    obtain ⟨hs2,hs3⟩:=hs2.append
    rw [(code_len x hw.1 hl.1 _).1] at hs3
    obtain ⟨hs3,hs4⟩:=hs3.cons
    rw [show p + 1 + sz x + 1=p + 2 + sz x by omega] at hs4
    obtain ⟨m,c',i',rfl,g1,g2⟩:=h.inv (by omega)
    obtain ⟨rfl,rfl | rfl⟩:=g1.split hs1
    ·obtain ⟨m2,k,hm2,hk,g3⟩:=(hx (p + 1) m i' d j).1 hs2 g2 (by omega)
     obtain ⟨m3,c3,i3,rfl,g4,g5⟩:=g3.inv (by omega)
     obtain ⟨rfl,rfl⟩:=g4.jumped hs3
     exact ⟨m3,i3,by omega,.inl hk,g5⟩
    ·obtain ⟨m2,k,hm2,hk,g3⟩:=(h2 _ m i' d j).2 e hl.2.2 hc (by omega) hs4 g2 (by omega)
     exact ⟨m2,k,by omega,.inr hk,g3⟩
end
def whole (x:Rx):List Stp:=code x none 0 ++ [matchS]
theorem whole_len {x:Rx} (hw:Wf x) (hl:Wl x):(whole x).length=sz x + 1:=by simp [whole,(code_len x hw hl 0).1]
theorem accepts {H:List Nat→Nat→Prop} {x:Rx} (hw:Wf x) (hl:Wl x) (j:Nat):Re (whole x) H 0 0 (sz x) j↔Lg H x true 0 j:=by
 have hs:Seg (whole x) 0 (code x none 0):=fun k st hk=>by
  rw [Nat.zero_add];unfold whole
  rw [List.getElem?_append_left (List.getElem?_eq_some_iff.1 hk).1];exact hk
 constructor
 ·rintro ⟨n,hn⟩
  obtain ⟨m,k,_,hk,g⟩:=(bwd x hw hl 0 n 0 (sz x) j).1 hs hn (by omega)
  rw [Nat.zero_add] at g
  cases g with
  | zero=>exact hk
  | step g1 _=>
   have hm:(whole x)[sz x]?=some matchS:=by
    unfold whole
    rw [List.getElem?_append_right (by rw [(code_len x hw hl 0).1];exact Nat.le_refl _),(code_len x hw hl 0).1]
    simp
   rcases g1.of hm with ⟨h,_⟩ | ⟨h,_⟩ | ⟨h,_⟩ <;> exact absurd h (fun h=>by cases h)
 ·intro h
  have:=(fwd (P:=whole x) (H:=H) x hw hl 0 0 j).1 hs h
  rwa [Nat.zero_add] at this
end Go.Rex
set_option linter.unusedVariables false
set_option linter.unusedSimpArgs false
set_option maxHeartbeats 400000
namespace Go.Rex
def E1 (P:List Stp) (c d:Nat):Prop:=∃ st,P[c]?=some st∧(st.op=2∧(d=st.a∨d=st.b)∨st.op=3∧d=st.a)
def Leaf (P:List Stp) (c:Nat):Prop:=∃ st,P[c]?=some st∧st.op≠2∧st.op≠3
structure Come (P:List Stp) (at_ been r been' : Nat):Prop where
 sub:∀ v,been.testBit v=true→been'.testBit v=true
 here:been'.testBit at_=true
 sound:∀ v,been'.testBit v=true→been.testBit v=true∨Rt (E1 P) at_ v
 closed:∀ v,been'.testBit v=true→been.testBit v=false→∀ u,E1 P v u→been'.testBit u=true
 ret:∀ v,r.testBit v=true↔been'.testBit v=true∧been.testBit v=false∧Leaf P v
section
variable {P : List Stp}
theorem Come.there {c been:Nat} (h:been.testBit c=true):Come P c been 0 been:=
 ⟨fun _ h=>h,h,fun _ h=>.inl h,fun v h1 h2=>(by rw [h1] at h2;cases h2),fun v=>(by
  constructor
  ·intro h;simp at h
  ·rintro ⟨h1,h2,_⟩;rw [h1] at h2;cases h2)⟩
theorem bit_or {b c v:Nat}:(b ||| 1 <<< c).testBit v=true↔b.testBit v=true∨v=c:=by
 rw [Nat.testBit_or,Nat.one_shiftLeft,Nat.testBit_two_pow,Bool.or_eq_true,decide_eq_true_eq]
 constructor <;> rintro (h | h) <;> simp [h]
theorem bit_or' {b c v:Nat}:(b ||| 1 <<< c).testBit v=false↔b.testBit v=false∧v≠c:=by
 rw [← Bool.not_eq_true,bit_or,not_or,Bool.not_eq_true]
theorem bit_one {c v:Nat}:(1 <<< c).testBit v=true↔v=c:=by
 have:=bit_or (b:=0) (c:=c) (v:=v)
 simpa using this
theorem Come.leaf {c been:Nat} (h:been.testBit c=false) (hl:Leaf P c):Come P c been (1 <<< c) (been ||| 1 <<< c):=by
 obtain ⟨st,h1,h2,h3⟩:=hl
 refine ⟨fun v hv=>bit_or.2 (.inl hv),bit_or.2 (.inr rfl),fun v hv=>?_,fun v hv hn u hu=>?_,fun v=>?_⟩
 ·rcases bit_or.1 hv with h | rfl
  ·exact .inl h
  ·exact .inr (.refl _)
 ·rcases bit_or.1 hv with h' | rfl
  ·rw [h'] at hn;cases hn
  ·obtain ⟨s2,g1,g2⟩:=hu
   rw [h1] at g1;cases g1
   rcases g2 with ⟨g,_⟩ | ⟨g,_⟩
   ·exact absurd g h2
   ·exact absurd g h3
 ·rw [bit_one]
  constructor
  ·rintro rfl;exact ⟨bit_or.2 (.inr rfl),h,st,h1,h2,h3⟩
  ·rintro ⟨a,b,_⟩
   rcases bit_or.1 a with h' | h'
   ·rw [h'] at b;cases b
   ·exact h'
theorem Come.jump {c been r b' : Nat} {st:Stp} (h:been.testBit c=false) (hs:P[c]?=some st) (ho:st.op=3) (h1:Come P st.a (been ||| 1 <<< c) r b'):Come P c been r b':=by
 have he:E1 P c st.a:=⟨st,hs,.inr ⟨ho,rfl⟩⟩
 refine ⟨fun v hv=>h1.sub v (bit_or.2 (.inl hv)),h1.sub _ (bit_or.2 (.inr rfl)),fun v hv=>?_,fun v hv hn u hu=>?_,fun v=>?_⟩
 ·rcases h1.sound v hv with h' | h'
  ·rcases bit_or.1 h' with h' | rfl
   ·exact .inl h'
   ·exact .inr (.refl _)
  ·exact .inr (.step he h')
 ·by_cases e:v=c
  ·subst e
   obtain ⟨s2,g1,g2⟩:=hu
   rw [hs] at g1;cases g1
   rcases g2 with ⟨g,_⟩ | ⟨_,rfl⟩
   ·rw [ho] at g;cases g
   ·exact h1.here
  ·exact h1.closed v hv (bit_or'.2 ⟨hn,e⟩) u hu
 ·rw [h1.ret]
  constructor
  ·rintro ⟨a,b,d⟩;exact ⟨a,(bit_or'.1 b).1,d⟩
  ·rintro ⟨a,b,d⟩
   refine ⟨a,bit_or'.2 ⟨b,?_⟩,d⟩
   rintro rfl
   obtain ⟨s2,g1,g2,g3⟩:=d
   rw [hs] at g1;cases g1
   exact g3 ho
theorem Come.split {c been r1 b1 r2 b2:Nat} {st:Stp} (h:been.testBit c=false) (hs:P[c]?=some st) (ho:st.op=2) (h1:Come P st.a (been ||| 1 <<< c) r1 b1) (h2:Come P st.b b1 r2 b2):Come P c been (r1 ||| r2) b2:=by
 have hea:E1 P c st.a:=⟨st,hs,.inl ⟨ho,.inl rfl⟩⟩
 have heb:E1 P c st.b:=⟨st,hs,.inl ⟨ho,.inr rfl⟩⟩
 refine ⟨fun v hv=>h2.sub v (h1.sub v (bit_or.2 (.inl hv))),h2.sub _ (h1.sub _ (bit_or.2 (.inr rfl))),fun v hv=>?_,fun v hv hn u hu=>?_,fun v=>?_⟩
 ·rcases h2.sound v hv with h' | h'
  ·rcases h1.sound v h' with h' | h'
   ·rcases bit_or.1 h' with h' | rfl
    ·exact .inl h'
    ·exact .inr (.refl _)
   ·exact .inr (.step hea h')
  ·exact .inr (.step heb h')
 ·by_cases e:v=c
  ·subst e
   obtain ⟨s2,g1,g2⟩:=hu
   rw [hs] at g1;cases g1
   rcases g2 with ⟨_,rfl | rfl⟩ | ⟨g,_⟩
   ·exact h2.sub _ h1.here
   ·exact h2.here
   ·rw [ho] at g;cases g
  ·cases hb:b1.testBit v with
   | true=>exact h2.sub _ (h1.closed v hb (bit_or'.2 ⟨hn,e⟩) u hu)
   | false=>exact h2.closed v hv hb u hu
 ·rw [Nat.testBit_or,Bool.or_eq_true,h1.ret,h2.ret]
  constructor
  ·rintro (⟨a,b,d⟩ | ⟨a,b,d⟩)
   ·exact ⟨h2.sub _ a,(bit_or'.1 b).1,d⟩
   ·refine ⟨a,?_,d⟩
    cases hv:been.testBit v with
    | false=>rfl
    | true=>rw [h1.sub v (bit_or.2 (.inl hv))] at b;cases b
  ·rintro ⟨a,b,d⟩
   cases hb:b1.testBit v with
   | true=>
    refine .inl ⟨rfl,bit_or'.2 ⟨b,?_⟩,d⟩
    rintro rfl
    obtain ⟨s2,g1,g2,g3⟩:=d
    rw [hs] at g1;cases g1
    exact g2 ho
   | false=>exact .inr ⟨a,rfl,d⟩
def miss (n been:Nat):Nat:=((List.range n).filter fun v=>!been.testBit v).length
theorem miss_lt {n been b' c:Nat} (hc:c < n) (h:been.testBit c=false) (hs:∀ v,been.testBit v=true→b'.testBit v=true) (h' : b'.testBit c=true):miss n b' < miss n been:=by
 unfold miss
 have key:∀ l:List Nat,c∈l→(l.filter fun v=>!b'.testBit v).length < (l.filter fun v=>!been.testBit v).length:=by
  have le:∀ l:List Nat,(l.filter fun v=>!b'.testBit v).length≤(l.filter fun v=>!been.testBit v).length:=by
   intro l
   induction l with
   | nil=>exact Nat.le_refl _
   | cons x l ih=>
    rw [List.filter_cons,List.filter_cons]
    cases hx:been.testBit x with
    | true=>simp [hs x hx,ih]
    | false=>cases b'.testBit x <;> simp <;> omega
  intro l hl
  induction l with
  | nil=>cases hl
  | cons x l ih=>
   rw [List.filter_cons,List.filter_cons]
   rcases List.mem_cons.1 hl with rfl | hl
   ·simp only [h,h',Bool.not_true,Bool.not_false,Bool.false_eq_true,if_false,if_true,List.length_cons]
    have:=le l
    omega
   ·have:=ih hl
    cases hx:been.testBit x with
    | true=>simp [hs x hx];omega
    | false=>cases b'.testBit x <;> simp <;> omega
 exact key _ (List.mem_range.2 hc)
variable {H : List Nat → Nat → Prop}
def Now (P:List Stp) (H:List Nat→Nat→Prop) (k m:Nat):Prop:=∀ v,m.testBit v=true↔Leaf P v∧Re P H 0 0 v k
theorem Re.pos {c i d j:Nat} (h:Re P H c i d j):i≤j:=by
 obtain ⟨n,hn⟩:=h
 induction hn with
 | zero=>exact Nat.le_refl _
 | step h _ ih=>cases h <;> omega
theorem re_eps {c d i:Nat}:Re P H c i d i↔Rt (E1 P) c d:=by
 constructor
 ·rintro ⟨n,hn⟩
  have key:∀ n c d i j,Rn P H n c i d j→i=j→Rt (E1 P) c d:=by
   intro n
   induction n with
   | zero=>intro c d i j h e;cases h;exact .refl _
   | succ n ih=>
    intro c d i j h e
    cases h with
    | step h1 h2=>
     cases h1 with
     | byte=>have:=Re.pos ⟨n,h2⟩;omega
     | left a b=>exact .step ⟨_,a,.inl ⟨b,.inl rfl⟩⟩ (ih _ _ _ _ h2 e)
     | right a b=>exact .step ⟨_,a,.inl ⟨b,.inr rfl⟩⟩ (ih _ _ _ _ h2 e)
     | jump a b=>exact .step ⟨_,a,.inr ⟨b,rfl⟩⟩ (ih _ _ _ _ h2 e)
  exact key n c d i i hn rfl
 ·intro h
  induction h with
  | refl=>exact .refl _ _
  | step h _ ih=>
   obtain ⟨st,hs,⟨ho,rfl | rfl⟩ | ⟨ho,rfl⟩⟩:=h
   ·exact .step (.left hs ho) ih
   ·exact .step (.right hs ho) ih
   ·exact .step (.jump hs ho) ih
theorem last_byte {c i d k:Nat} (h:Re P H c i d (k + 1)) (hi:i≤k):∃ e st,P[e]?=some st∧st.op=1∧H st.set k∧Re P H c i e k∧Rt (E1 P) (e + 1) d:=by
 obtain ⟨n,hn⟩:=h
 have key:∀ n c i d j,Rn P H n c i d j→j=k + 1→i≤k→∃ e st,P[e]?=some st∧st.op=1∧H st.set k∧Re P H c i e k∧Rt (E1 P) (e + 1) d:=by
  intro n
  induction n with
  | zero=>intro c i d j h e hi;cases h;omega
  | succ n ih=>
   intro c i d j h e hi
   cases h with
   | step h1 h2=>
    cases h1 with
    | @byte st a b hh=>
     by_cases hk:i=k
     ·subst hk
      subst e
      exact ⟨c,st,a,b,hh,.refl _ _,re_eps.1 ⟨n,h2⟩⟩
     ·obtain ⟨e',st',h3,h4,h5,h6,h7⟩:=ih _ _ _ _ h2 e (by omega)
      exact ⟨e',st',h3,h4,h5,.step (.byte a b hh) h6,h7⟩
    | left a b=>obtain ⟨e',st',h3,h4,h5,h6,h7⟩:=ih _ _ _ _ h2 e hi;exact ⟨e',st',h3,h4,h5,.step (.left a b) h6,h7⟩
    | right a b=>obtain ⟨e',st',h3,h4,h5,h6,h7⟩:=ih _ _ _ _ h2 e hi;exact ⟨e',st',h3,h4,h5,.step (.right a b) h6,h7⟩
    | jump a b=>obtain ⟨e',st',h3,h4,h5,h6,h7⟩:=ih _ _ _ _ h2 e hi;exact ⟨e',st',h3,h4,h5,.step (.jump a b) h6,h7⟩
 exact key n c i d _ hn rfl hi
theorem rt_in {been:Nat} (hc:∀ v,been.testBit v=true→∀ u,E1 P v u→been.testBit u=true) {c d:Nat} (h:Rt (E1 P) c d) (h0:been.testBit c=true):been.testBit d=true:=by
 induction h with
 | refl=>exact h0
 | step h _ ih=>exact ih (hc _ h0 _ h)
theorem Now.start {r b:Nat} (h:Come P 0 0 r b):Now P H 0 r:=by
 intro v
 rw [h.ret,re_eps]
 constructor
 ·rintro ⟨a,_,d⟩
  rcases h.sound v a with h' | h'
  ·simp at h'
  ·exact ⟨d,h'⟩
 ·rintro ⟨d,h'⟩
  exact ⟨rt_in (fun v hv u hu=>h.closed v hv (by simp) u hu) h' h.here,by simp,d⟩
structure NextI (P:List Stp) (H:List Nat→Nat→Prop) (m k i been r:Nat):Prop where
 sound:∀ v,been.testBit v=true→∃ c st,m.testBit c=true∧P[c]?=some st∧st.op=1∧H st.set k∧Rt (E1 P) (c + 1) v
 has:∀ c st,c < i→m.testBit c=true→P[c]?=some st→st.op=1→H st.set k→been.testBit (c + 1)=true
 closed:∀ v,been.testBit v=true→∀ u,E1 P v u→been.testBit u=true
 ret:∀ v,r.testBit v=true↔been.testBit v=true∧Leaf P v
theorem NextI.zero {m k:Nat}:NextI P H m k 0 0 0:=⟨by simp,fun c st h=>by omega,by simp,by simp⟩
theorem NextI.no {m k i been r:Nat} (h:NextI P H m k i been r) (hn:∀ st,m.testBit i=true→P[i]?=some st→st.op=1→¬ H st.set k):NextI P H m k (i + 1) been r:=
 ⟨h.sound,fun c st hc h1 h2 h3 h4=>by
  by_cases e:c=i
  ·subst e;exact absurd h4 (hn st h1 h2 h3)
  ·exact h.has c st (by omega) h1 h2 h3 h4,h.closed,h.ret⟩
theorem NextI.yes {m k i been r r' b' : Nat} {st:Stp} (h:NextI P H m k i been r) (h1:m.testBit i=true) (h2:P[i]?=some st) (h3:st.op=1) (h4:H st.set k) (hc:Come P (i + 1) been r' b'):NextI P H m k (i + 1) b' (r ||| r'):=by
 refine ⟨fun v hv=>?_,fun c s2 hc2 g1 g2 g3 g4=>?_,fun v hv u hu=>?_,fun v=>?_⟩
 ·rcases hc.sound v hv with h' | h'
  ·exact h.sound v h'
  ·exact ⟨i,st,h1,h2,h3,h4,h'⟩
 ·by_cases e:c=i
  ·subst e;exact hc.here
  ·exact hc.sub _ (h.has c s2 (by omega) g1 g2 g3 g4)
 ·cases hb:been.testBit v with
  | true=>exact hc.sub _ (h.closed v hb u hu)
  | false=>exact hc.closed v hv hb u hu
 ·rw [Nat.testBit_or,Bool.or_eq_true,h.ret,hc.ret]
  constructor
  ·rintro (⟨a,b⟩ | ⟨a,_,b⟩)
   ·exact ⟨hc.sub _ a,b⟩
   ·exact ⟨a,b⟩
  ·rintro ⟨a,b⟩
   cases hb:been.testBit v with
   | true=>exact .inl ⟨rfl,b⟩
   | false=>exact .inr ⟨a,rfl,b⟩
theorem Now.next {m k been r:Nat} (hm:Now P H k m) (h:NextI P H m k P.length been r):Now P H (k + 1) r:=by
 intro v
 rw [h.ret]
 constructor
 ·rintro ⟨a,b⟩
  obtain ⟨c,st,h1,h2,h3,h4,h5⟩:=h.sound v a
  exact ⟨b,((hm c).1 h1).2.trans (.step (.byte h2 h3 h4) (re_eps.2 h5))⟩
 ·rintro ⟨b,g⟩
  obtain ⟨e,st,h1,h2,h3,h4,h5⟩:=last_byte g (Nat.zero_le _)
  have he:m.testBit e=true:=(hm e).2 ⟨⟨st,h1,by rw [h2];decide,by rw [h2];decide⟩,h4⟩
  exact ⟨rt_in h.closed h5 (h.has e st (List.getElem?_eq_some_iff.1 h1).1 he h1 h2 h3),b⟩
end
def okS (n:Nat) (s:Stp):Prop:=s.op=1∧s.a=0∧s.b=0∨s.op=2∧s.a < n∧s.b < n∧s.set=zero4∨s.op=3∧s.a < n∧s.b=0∧s.set=zero4
theorem okS.mono {n m:Nat} {s:Stp} (h:okS n s) (hm:n≤m):okS m s:=by
 rcases h with h | ⟨h1,h2,h3,h4⟩ | ⟨h1,h2,h3,h4⟩
 ·exact .inl h
 ·exact .inr (.inl ⟨h1,by omega,by omega,h4⟩)
 ·exact .inr (.inr ⟨h1,by omega,h3,h4⟩)
theorem code_ok (x:Rx):Wf x→Wl x→∀ p,(∀ s∈code x none p,okS (p + sz x + 1) s)∧∀ e,Ls x→cnt x≠0→e=p + (sz x + 2 * (cnt x - 1))→∀ s∈code x (some e) p,okS (e + 1) s:=by
 induction x with
 | set s=>
  intro _ _ p
  refine ⟨fun s hs=>?_,fun e h=>h.elim⟩
  simp [code] at hs;subst hs;exact .inl ⟨rfl,rfl,rfl⟩
 | nil=>intro _ _ p;exact ⟨fun s hs=>by simp [code] at hs,fun e _ h=>absurd rfl h⟩
 | node op l ih=>
  intro hw hl p
  refine ⟨fun s hs=>?_,fun e h=>h.elim⟩
  have h1:=ih hw.1 hl.2
  simp only [code] at hs
  simp only [sz]
  split at hs
  ·rename_i e;rw [if_pos e];exact (h1 p).1 s hs
  ·rename_i n2
   rw [if_neg n2]
   split at hs
   ·rename_i e;rw [if_pos e]
    exact (h1 p).2 _ hl.1 (hw.2 e) rfl s hs
   ·rename_i n3
    rw [if_neg n3]
    split at hs
    ·rename_i e;rw [if_pos e]
     rcases List.mem_cons.1 hs with rfl | hs
     ·exact .inr (.inl ⟨rfl,by simp only [splitS];omega,by simp only [splitS];omega,rfl⟩)
     ·rcases List.mem_append.1 hs with hs | hs
      ·exact ((h1 _).1 s hs).mono (by omega)
      ·simp at hs;subst hs;exact .inr (.inr ⟨rfl,by simp [jumpS];omega,rfl,rfl⟩)
    ·rename_i n4
     rw [if_neg n4]
     split at hs
     ·rcases List.mem_append.1 hs with hs | hs
      ·exact ((h1 _).1 s hs).mono (by omega)
      ·simp at hs;subst hs;exact .inr (.inl ⟨rfl,by simp only [splitS];omega,by simp only [splitS];omega,rfl⟩)
     ·rcases List.mem_cons.1 hs with rfl | hs
      ·exact .inr (.inl ⟨rfl,by simp only [splitS];omega,by simp only [splitS];omega,rfl⟩)
      ·exact ((h1 _).1 s hs).mono (by omega)
 | cons x l ihx ihl=>
  intro hw hl p
  have hx:=ihx hw.1 hl.1
  have h2:=ihl hw.2 hl.2.1
  refine ⟨fun s hs=>?_,fun e _ _ he s hs=>?_⟩
  ·simp only [code] at hs
   simp only [sz]
   rcases List.mem_append.1 hs with hs | hs
   ·exact ((hx p).1 s hs).mono (by omega)
   ·exact ((h2 _).1 s hs).mono (by omega)
  ·simp only [code] at hs
   simp only [sz,cnt] at he
   split at hs
   ·rename_i hn
    subst hn
    simp only [sz,cnt] at he
    exact ((hx p).1 s hs).mono (by omega)
   ·rename_i hn
    have hc:cnt l≠0:=fun hc=>hn (ls_nil hl.2.2 hc)
    rcases List.mem_cons.1 hs with rfl | hs
    ·exact .inr (.inl ⟨rfl,by simp only [splitS];omega,by simp only [splitS];omega,rfl⟩)
    ·rcases List.mem_append.1 hs with hs | hs
     ·exact ((hx _).1 s hs).mono (by omega)
     ·rcases List.mem_cons.1 hs with rfl | hs
      ·exact .inr (.inr ⟨rfl,by simp [jumpS],rfl,rfl⟩)
      ·exact ((h2 _).2 e hl.2.2 hc (by omega) s hs)
theorem whole_at {x:Rx} (hw:Wf x) (hl:Wl x) {c:Nat} {st:Stp} (h:(whole x)[c]?=some st):(c < sz x∧okS (sz x + 1) st)∨c=sz x∧st=matchS:=by
 unfold whole at h
 have hlen:=(code_len x hw hl 0).1
 by_cases hc:c < sz x
 ·rw [List.getElem?_append_left (by omega)] at h
  have:=(code_ok x hw hl 0).1 st (List.mem_of_getElem? h)
  rw [Nat.zero_add] at this
  exact .inl ⟨hc,this⟩
 ·rw [List.getElem?_append_right (by omega),hlen] at h
  cases hk:c - sz x with
  | zero=>rw [hk] at h;simp at h;exact .inr ⟨by omega,h.symm⟩
  | succ q=>rw [hk] at h;simp at h
theorem whole_match {x:Rx} (hw:Wf x) (hl:Wl x) {H:List Nat→Nat→Prop} {k m:Nat} (hm:Now (whole x) H k m):(∃ c st,m.testBit c=true∧(whole x)[c]?=some st∧st.op=4)↔Lg H x true 0 k:=by
 rw [← accepts hw hl]
 constructor
 ·rintro ⟨c,st,h1,h2,h3⟩
  rcases whole_at hw hl h2 with ⟨_,h4⟩ | ⟨rfl,_⟩
  ·rcases h4 with ⟨h4,_⟩ | ⟨h4,_⟩ | ⟨h4,_⟩ <;> rw [h3] at h4 <;> cases h4
  ·exact ((hm _).1 h1).2
 ·intro h
  have hlen:=(code_len x hw hl 0).1
  have hs:(whole x)[sz x]?=some matchS:=by
   unfold whole
   rw [List.getElem?_append_right (by omega),hlen];simp
  exact ⟨sz x,matchS,(hm _).2 ⟨⟨matchS,hs,by decide,by decide⟩,h⟩,hs,rfl⟩
theorem Lg.fwd {H:List Nat→Nat→Prop} (x:Rx):∀ b i j,Lg H x b i j→i≤j:=by
 induction x with
 | set s=>rintro b i j ⟨_,rfl⟩;omega
 | nil=>rintro b i j ⟨_,rfl⟩;exact Nat.le_refl _
 | node op l ih=>
  intro b i j h
  have hr:∀ i j,Rt (Lg H l true) i j→i≤j:=fun i j h=>by
   induction h with
   | refl=>exact Nat.le_refl _
   | step h _ ih2=>have:=ih _ _ _ h;omega
  simp only [Lg] at h
  split at h
  ·exact ih _ _ _ h
  ·split at h
   ·exact ih _ _ _ h
   ·split at h
    ·exact hr _ _ h
    ·split at h
     ·obtain ⟨k,h1,h2⟩:=h
      have:=ih _ _ _ h1
      have:=hr _ _ h2
      omega
     ·rcases h with rfl | h
      ·exact Nat.le_refl _
      ·exact ih _ _ _ h
 | cons x l ihx ihl=>
  intro b i j h
  simp only [Lg] at h
  split at h
  ·obtain ⟨k,h1,h2⟩:=h
   have:=ihx _ _ _ h1
   have:=ihl _ _ _ h2
   omega
  ·rcases h with h | h
   ·exact ihx _ _ _ h
   ·exact ihl _ _ _ h
inductive RtN (R:Nat→Nat→Prop):Nat→Nat→Nat→Prop where
 | zero (i:Nat):RtN R 0 i i
 | snoc {n i k j:Nat}:RtN R n i k→R k j→RtN R (n + 1) i j
theorem RtN.cons {R:Nat→Nat→Prop} {n i k j:Nat} (h:R i k) (h2:RtN R n k j):RtN R (n + 1) i j:=by
 induction h2 with
 | zero=>exact .snoc (.zero _) h
 | snoc _ h3 ih=>exact .snoc (ih h) h3
theorem RtN.rt {R:Nat→Nat→Prop} {n i j:Nat} (h:RtN R n i j):Rt R i j:=by
 induction h with
 | zero=>exact .refl _
 | snoc _ h ih=>exact ih.snoc h
theorem rt_rounds {R:Nat→Nat→Prop} (hR:∀ i j,R i j→i≤j) {i j:Nat} (h:Rt R i j):i≤j∧∃ n,n≤j - i∧RtN R n i j:=by
 induction h with
 | refl=>exact ⟨Nat.le_refl _,0,Nat.zero_le _,.zero _⟩
 | @step i k j h _ ih=>
  obtain ⟨h1,n,h2,h3⟩:=ih
  have:=hR _ _ h
  by_cases e:k=i
  ·subst e;exact ⟨h1,n,h2,h3⟩
  ·exact ⟨by omega,n + 1,by omega,.cons h h3⟩
end Go.Rex
set_option linter.unusedVariables false
set_option linter.unusedSimpArgs false
set_option maxHeartbeats 400000
namespace Go.Rex
open Go.X
def b8 (s:ByteArray) (i:Nat):Nat:=(bt s i).toNat
theorem b8_lt (s:ByteArray) (i:Nat):b8 s i < 256:=UInt8.toNat_lt _
def setBit (l:List Nat) (c:Nat):List Nat:=l.modify (c / 64) (· ||| 1 <<< (c % 64))
def addG (l:List Nat) (a b:Nat):List Nat:=(List.range' a (b + 1 - a)).foldl setBit l
def invS (l:List Nat):List Nat:=l.map (18446744073709551615 - ·)
theorem setBit_len (l:List Nat) (c:Nat):(setBit l c).length=l.length:=by simp [setBit]
theorem setBit_lt {l:List Nat} (h:∀ x∈l,x < 18446744073709551616) (c:Nat):∀ x∈setBit l c,x < 18446744073709551616:=by
 intro x hx
 unfold setBit at hx
 obtain ⟨i,hi⟩:=List.getElem?_of_mem hx
 simp only [List.getElem?_modify] at hi
 cases hl:l[i]? with
 | none=>simp [hl] at hi
 | some y=>
  have hy:=h y (List.mem_of_getElem? hl)
  simp only [hl,Option.map_some] at hi
  split at hi
  ·simp at hi
   subst hi
   have h1:(1 <<< (c % 64)) < 2 ^ 64:=by rw [Nat.shiftLeft_eq,Nat.one_mul];exact Nat.pow_lt_pow_right (by omega) (Nat.mod_lt _ (by omega))
   exact Nat.or_lt_two_pow (n:=64) hy h1
  ·simp at hi;subst hi;exact hy
theorem invS_lt (l:List Nat):∀ x∈invS l,x < 18446744073709551616:=by
 intro x hx
 obtain ⟨y,_,rfl⟩:=List.mem_map.1 hx
 omega
theorem addG_len (a b:Nat):∀ l:List Nat,(addG l a b).length=l.length:=by
 unfold addG
 generalize List.range' a (b + 1 - a)=r
 induction r with
 | nil=>intro l;rfl
 | cons x r ih=>intro l;simp only [List.foldl_cons,ih,setBit_len]
theorem addG_lt (a b:Nat):∀ {l:List Nat},(∀ x∈l,x < 18446744073709551616)→∀ x∈addG l a b,x < 18446744073709551616:=by
 unfold addG
 generalize List.range' a (b + 1 - a)=r
 induction r with
 | nil=>intro l h;exact h
 | cons x r ih=>intro l h;exact ih (setBit_lt h x)
def W4 (l:List Nat):Prop:=l.length=4∧∀ x∈l,x < 18446744073709551616
theorem W4.zero:W4 zero4:=⟨rfl,by simp [zero4]⟩
theorem W4.bit {l:List Nat} (h:W4 l) (c:Nat):W4 (setBit l c):=⟨(setBit_len l c).trans h.1,setBit_lt h.2 c⟩
theorem W4.add {l:List Nat} (h:W4 l) (a b:Nat):W4 (addG l a b):=⟨(addG_len a b l).trans h.1,addG_lt a b h.2⟩
theorem W4.inv {l:List Nat} (h:W4 l):W4 (invS l):=⟨by simpa [invS] using h.1,invS_lt l⟩
def quotedS (c:Nat):Bool:=decide (c=124∨c=42∨c=43∨c=63∨c=40∨c=41∨c=91∨c=93∨c=46∨c=92∨c=94∨c=45)
def signS (s:ByteArray) (i:Nat):Option (Nat×Nat):=if i < s.size∧quotedS (b8 s i)=true then some (b8 s i,i + 1) else none
def memS (s:ByteArray) (i:Nat):Option (Nat×Nat):=
 if i < s.size then if b8 s i=92 then signS s (i + 1) else if b8 s i=93∨b8 s i=91∨b8 s i=94∨b8 s i=45 then none else some (b8 s i,i + 1) else none
def toS (s:ByteArray) (a i:Nat):Option (Nat×Nat):=if i < s.size∧b8 s i=45 then memS s (i + 1) else some (a,i)
def clsL (s:ByteArray):Nat→Nat→List Nat→Option (List Nat×Nat)
 | 0,_,_=>none
 | n + 1,i,set=>if i < s.size then if b8 s i=93 then some (set,i + 1) else
   match memS s i with
   | none=>none
   | some (a,i1)=>match toS s a i1 with
    | none=>none
    | some (b,i2)=>if b < a then none else clsL s n i2 (addG set a b)
  else none
def notS (s:ByteArray) (i:Nat):Bool:=decide (i < s.size∧b8 s i=94)
def clsB (s:ByteArray) (no:Bool) (i:Nat):Option (List Nat×Nat):=
 if i < s.size∧b8 s i=93 then none else match clsL s (s.size + 1) i zero4 with
  | none=>none
  | some (set,j)=>some (if no then invS set else set,j)
def clsS (s:ByteArray) (i:Nat):Option (List Nat×Nat):=clsB s (notS s i) (if notS s i then i + 1 else i)
theorem signS_adv {s:ByteArray} {i b j:Nat} (h:signS s i=some (b,j)):i < j∧j≤s.size∧b < 256:=by
 unfold signS at h
 split at h
 ·simp at h;have:=b8_lt s i;omega
 ·cases h
theorem memS_adv {s:ByteArray} {i b j:Nat} (h:memS s i=some (b,j)):i < j∧j≤s.size∧b < 256:=by
 unfold memS at h
 split at h
 ·split at h
  ·have:=signS_adv h;omega
  ·split at h
   ·cases h
   ·simp at h;have:=b8_lt s i;omega
 ·cases h
theorem toS_adv {s:ByteArray} {a i b j:Nat} (h:toS s a i=some (b,j)) (hi:i≤s.size) (ha:a < 256):i≤j∧j≤s.size∧b < 256:=by
 unfold toS at h
 split at h
 ·have:=memS_adv h;omega
 ·simp at h;omega
theorem clsL_adv {s:ByteArray}:∀ {n i:Nat} {set t:List Nat} {j:Nat},clsL s n i set=some (t,j)→W4 set→i < j∧j≤s.size∧W4 t
 | 0,_,_,_,_,h,_=>by simp [clsL] at h
 | n + 1,i,set,t,j,h,hw=>by
  unfold clsL at h
  split at h
  ·split at h
   ·simp at h;obtain ⟨rfl,rfl⟩:=h;exact ⟨by omega,by omega,hw⟩
   ·cases hm:memS s i with
    | none=>rw [hm] at h;cases h
    | some p=>
     obtain ⟨a,i1⟩:=p
     rw [hm] at h
     simp only at h
     have h1:=memS_adv hm
     cases ht:toS s a i1 with
     | none=>rw [ht] at h;cases h
     | some q=>
      obtain ⟨b,i2⟩:=q
      rw [ht] at h
      simp only at h
      have h2:=toS_adv ht h1.2.1 h1.2.2
      split at h
      ·cases h
      ·have h3:=clsL_adv h (hw.add a b)
       exact ⟨by omega,h3.2⟩
  ·cases h
theorem clsB_adv {s:ByteArray} {no:Bool} {i:Nat} {t:List Nat} {j:Nat} (h:clsB s no i=some (t,j)):i < j∧j≤s.size∧W4 t:=by
 unfold clsB at h
 split at h
 ·cases h
 ·cases hc:clsL s (s.size + 1) i zero4 with
  | none=>rw [hc] at h;cases h
  | some p=>
   obtain ⟨u,k⟩:=p
   rw [hc] at h
   simp only [Option.some.injEq,Prod.mk.injEq] at h
   obtain ⟨rfl,rfl⟩:=h
   have h1:=clsL_adv hc W4.zero
   refine ⟨h1.1,h1.2.1,?_⟩
   split
   ·exact h1.2.2.inv
   ·exact h1.2.2
theorem clsS_adv {s:ByteArray} {i:Nat} {t:List Nat} {j:Nat} (h:clsS s i=some (t,j)):i < j∧j≤s.size∧W4 t:=by
 have h1:=clsB_adv h
 refine ⟨?_,h1.2⟩
 have:=h1.1
 split at this <;> omega
def lstS:List Rx→Rx
 | []=>.nil
 | x :: l=>.cons x (lstS l)
def mkN (op:Nat):List Rx→Rx
 | [x]=>x
 | l=>.node op (lstS l)
def onlyS (op:Nat) (x:Rx):Rx:=.node op (.cons x .nil)
def grpS (s:ByteArray):Option (Rx×Nat)→Option (Rx×Nat)
 | some (x,j)=>if j < s.size∧b8 s j=41 then some (x,j + 1) else none
 | none=>none
def atomS (s:ByteArray) (g:Nat→Option (Rx×Nat)) (i:Nat):Option (Rx×Nat):=
 if b8 s i=40 then grpS s (g (i + 1)) else if b8 s i=91 then (clsS s (i + 1)).map (fun p=>(.set p.1,p.2))
 else if b8 s i=46 then some (.set (invS zero4),i + 1) else if b8 s i=92 then (signS s (i + 1)).map (fun p=>(.set (setBit zero4 p.1),p.2))
 else if b8 s i=42∨b8 s i=43∨b8 s i=63∨b8 s i=93 then none else some (.set (setBit zero4 (b8 s i)),i + 1)
def oftS (s:ByteArray) (x:Rx) (j:Nat):Rx×Nat:=
 if j < s.size then if b8 s j=42 then (onlyS 4 x,j + 1) else if b8 s j=43 then (onlyS 5 x,j + 1) else if b8 s j=63 then (onlyS 6 x,j + 1) else (x,j) else (x,j)
def factorS (s:ByteArray) (g:Nat→Option (Rx×Nat)) (i:Nat):Option (Rx×Nat):=(atomS s g i).map fun p=>oftS s p.1 p.2
def goesS (s:ByteArray) (i:Nat):Bool:=decide (i < s.size∧b8 s i≠124∧b8 s i≠41)
def wayL (s:ByteArray) (g:Nat→Option (Rx×Nat)):Nat→Nat→List Rx→Option (List Rx×Nat)
 | 0,_,_=>none
 | n + 1,i,acc=>if goesS s i then match factorS s g i with
   | none=>none
   | some (x,j)=>wayL s g n j (acc ++ [x])
  else some (acc,i)
def wayS (s:ByteArray) (g:Nat→Option (Rx×Nat)) (i:Nat):Option (Rx×Nat):=(wayL s g (s.size + 1) i []).map fun p=>(mkN 2 p.1,p.2)
def barS (s:ByteArray) (i:Nat):Bool:=decide (i < s.size∧b8 s i=124)
def waysL (s:ByteArray) (g:Nat→Option (Rx×Nat)):Nat→Nat→List Rx→Option (List Rx×Nat)
 | 0,_,_=>none
 | n + 1,i,acc=>if barS s i then match wayS s g (i + 1) with
   | none=>none
   | some (x,j)=>waysL s g n j (acc ++ [x])
  else some (acc,i)
def waysS (s:ByteArray) (g:Nat→Option (Rx×Nat)) (i:Nat):Option (Rx×Nat):=match wayS s g i with
 | none=>none
 | some (x,j)=>(waysL s g (s.size + 1) j [x]).map fun p=>(mkN 3 p.1,p.2)
def par (s:ByteArray):Nat→Nat→Option (Rx×Nat)
 | 0,i=>waysS s (fun _=>none) i
 | r + 1,i=>waysS s (par s r) i
def parseS (s:ByteArray):Option Rx:=if 40 < s.size then none else match par s 8 0 with
 | some (x,j)=>if j < s.size then none else some x
 | none=>none
end Go.Rex
set_option linter.unusedVariables false
set_option linter.unusedSimpArgs false
set_option maxHeartbeats 400000
namespace Go.Rex
open Go.X
def Tr:Bool→Rx→Prop
 | false,.set s=>W4 s
 | false,.node op l=>(op=2∨op=3∧cnt l≠0∨(op=4∨op=5∨op=6)∧cnt l=1)∧Tr true l
 | true,.nil=>True
 | true,.cons x l=>Tr false x∧Tr true l
 | true,.set _=>False
 | true,.node _ _=>False
 | false,.nil=>False
 | false,.cons _ _=>False
theorem tr_wf:∀ (x:Rx) (b:Bool),Tr b x→Wf x∧Wl x∧(b=true→Ls x)
 | .set s,true,h=>h.elim
 | .set s,false,h=>⟨trivial,trivial,fun h=>by cases h⟩
 | .node op l,true,h=>h.elim
 | .node op l,false,h=>by
  obtain ⟨h1,h2⟩:=h
  obtain ⟨a,b,c⟩:=tr_wf l true h2
  exact ⟨⟨a,fun e=>by subst e;simp at h1;exact h1⟩,⟨c rfl,b⟩,fun h=>by cases h⟩
 | .nil,true,_=>⟨trivial,trivial,fun _=>trivial⟩
 | .nil,false,h=>h.elim
 | .cons x l,false,h=>h.elim
 | .cons x l,true,h=>by
  obtain ⟨h1,h2⟩:=h
  obtain ⟨a,b,c⟩:=tr_wf l true h2
  obtain ⟨a',b',_⟩:=tr_wf x false h1
  exact ⟨⟨a',a⟩,⟨b',b,c rfl⟩,fun _=>c rfl⟩
theorem cnt_lst:∀ l:List Rx,cnt (lstS l)=l.length
 | []=>rfl
 | x :: l=>by simp [lstS,cnt,cnt_lst l]
theorem tr_lst:∀ l:List Rx,(∀ x∈l,Tr false x)→Tr true (lstS l)
 | [],_=>trivial
 | x :: l,h=>⟨h x (by simp),tr_lst l fun y hy=>h y (by simp [hy])⟩
theorem tr_mk {op:Nat} {l:List Rx} (h:∀ x∈l,Tr false x) (ho:op=2∨op=3∧l≠[]):Tr false (mkN op l):=by
 match l,h,ho with
 | [],h,ho=>exact ⟨by rcases ho with rfl | ⟨_,h⟩;exact .inl rfl;exact absurd rfl h,trivial⟩
 | [x],h,_=>exact h x (by simp)
 | x :: y :: l,h,ho=>exact ⟨by rcases ho with rfl | ⟨rfl,_⟩;exact .inl rfl;exact .inr (.inl ⟨rfl,by simp [lstS,cnt]⟩),tr_lst _ h⟩
def GoodG (g:Nat→Option (Rx×Nat)):Prop:=∀ i x j,g i=some (x,j)→Tr false x
theorem tr_only {op:Nat} {x:Rx} (h:Tr false x) (ho:op=4∨op=5∨op=6):Tr false (onlyS op x):=⟨.inr (.inr ⟨ho,rfl⟩),h,trivial⟩
theorem factor_tr {s:ByteArray} {g:Nat→Option (Rx×Nat)} (hg:GoodG g):GoodG (factorS s g):=by
 have ha:GoodG (atomS s g):=by
  intro i x j h
  unfold atomS at h
  split at h
  ·cases hgi:g (i + 1) with
   | none=>rw [hgi] at h;cases h
   | some q=>
    obtain ⟨y,k⟩:=q
    rw [hgi] at h
    have h' : (if k < s.size∧b8 s k=41 then some (y,k + 1) else none)=some (x,j):=h
    split at h'
    ·simp at h';obtain ⟨rfl,_⟩:=h';exact hg _ _ _ hgi
    ·cases h'
  ·split at h
   ·cases hc:clsS s (i + 1) with
    | none=>rw [hc] at h;cases h
    | some q=>rw [hc] at h;simp at h;obtain ⟨rfl,_⟩:=h;exact (clsS_adv (t:=q.1) (j:=q.2) hc).2.2
   ·split at h
    ·simp at h;obtain ⟨rfl,_⟩:=h;exact W4.zero.inv
    ·split at h
     ·cases hc:signS s (i + 1) with
      | none=>rw [hc] at h;cases h
      | some q=>rw [hc] at h;simp at h;obtain ⟨rfl,_⟩:=h;exact W4.zero.bit _
     ·split at h
      ·cases h
      ·simp at h;obtain ⟨rfl,_⟩:=h;exact W4.zero.bit _
 intro i x j h
 unfold factorS at h
 cases hat:atomS s g i with
 | none=>rw [hat] at h;cases h
 | some q=>
  obtain ⟨y,k⟩:=q
  have h1:=ha _ _ _ hat
  rw [hat] at h
  simp only [Option.map_some,Option.some.injEq] at h
  unfold oftS at h
  split at h
  ·split at h
   ·simp at h;obtain ⟨rfl,_⟩:=h;exact tr_only h1 (.inl rfl)
   ·split at h
    ·simp at h;obtain ⟨rfl,_⟩:=h;exact tr_only h1 (.inr (.inl rfl))
    ·split at h
     ·simp at h;obtain ⟨rfl,_⟩:=h;exact tr_only h1 (.inr (.inr rfl))
     ·simp at h;obtain ⟨rfl,_⟩:=h;exact h1
  ·simp at h;obtain ⟨rfl,_⟩:=h;exact h1
theorem wayL_tr {s:ByteArray} {g:Nat→Option (Rx×Nat)} (hg:GoodG g):∀ {n i:Nat} {acc xs:List Rx} {j:Nat},(∀ x∈acc,Tr false x)→wayL s g n i acc=some (xs,j)→∀ x∈xs,Tr false x
 | 0,_,_,_,_,_,h=>by simp [wayL] at h
 | n + 1,i,acc,xs,j,ha,h=>by
  unfold wayL at h
  split at h
  ·cases hf:factorS s g i with
   | none=>rw [hf] at h;cases h
   | some q=>
    obtain ⟨x,k⟩:=q
    rw [hf] at h
    exact wayL_tr hg (n:=n) (i:=k) (fun y hy=>by
     rcases List.mem_append.1 hy with h1 | h1
     ·exact ha y h1
     ·simp at h1;subst h1;exact factor_tr hg _ _ _ hf) h
  ·simp at h;obtain ⟨rfl,_⟩:=h;exact ha
theorem way_tr {s:ByteArray} {g:Nat→Option (Rx×Nat)} (hg:GoodG g):GoodG (wayS s g):=by
 intro i x j h
 unfold wayS at h
 cases hw:wayL s g (s.size + 1) i [] with
 | none=>rw [hw] at h;cases h
 | some q=>
  rw [hw] at h
  simp at h
  obtain ⟨rfl,_⟩:=h
  exact tr_mk (wayL_tr hg (acc:=[]) (by simp) (xs:=q.1) (j:=q.2) hw) (.inl rfl)
theorem waysL_tr {s:ByteArray} {g:Nat→Option (Rx×Nat)} (hg:GoodG g):∀ {n i:Nat} {acc xs:List Rx} {j:Nat},acc≠[]→(∀ x∈acc,Tr false x)→waysL s g n i acc=some (xs,j)→xs≠[]∧∀ x∈xs,Tr false x
 | 0,_,_,_,_,_,_,h=>by simp [waysL] at h
 | n + 1,i,acc,xs,j,hne,ha,h=>by
  unfold waysL at h
  split at h
  ·cases hf:wayS s g (i + 1) with
   | none=>rw [hf] at h;cases h
   | some q=>
    obtain ⟨x,k⟩:=q
    rw [hf] at h
    exact waysL_tr hg (n:=n) (i:=k) (by simp) (fun y hy=>by
     rcases List.mem_append.1 hy with h1 | h1
     ·exact ha y h1
     ·simp at h1;subst h1;exact way_tr hg _ _ _ hf) h
  ·simp at h;obtain ⟨rfl,_⟩:=h;exact ⟨hne,ha⟩
theorem ways_tr {s:ByteArray} {g:Nat→Option (Rx×Nat)} (hg:GoodG g):GoodG (waysS s g):=by
 intro i x j h
 unfold waysS at h
 cases hw:wayS s g i with
 | none=>rw [hw] at h;cases h
 | some q=>
  obtain ⟨y,k⟩:=q
  rw [hw] at h
  have h1:=way_tr hg _ _ _ hw
  simp only at h
  cases hl:waysL s g (s.size + 1) k [y] with
  | none=>rw [hl] at h;cases h
  | some q2=>
   rw [hl] at h
   simp at h
   obtain ⟨rfl,_⟩:=h
   have h2:=waysL_tr hg (acc:=[y]) (by simp) (by simpa using h1) (xs:=q2.1) (j:=q2.2) hl
   exact tr_mk h2.2 (.inr ⟨rfl,h2.1⟩)
theorem par_tr (s:ByteArray):∀ r,GoodG (par s r)
 | 0=>ways_tr fun _ _ _ h=>by cases h
 | r + 1=>ways_tr (par_tr s r)
theorem parse_tr {s:ByteArray} {x:Rx} (h:parseS s=some x):Tr false x:=by
 unfold parseS at h
 split at h
 ·cases h
 ·cases hp:par s 8 0 with
  | none=>rw [hp] at h;cases h
  | some q=>
   obtain ⟨y,j⟩:=q
   rw [hp] at h
   simp only at h
   split at h
   ·cases h
   ·cases h;exact par_tr s 8 _ _ _ hp
def kidsR:Rx→List Rx
 | .cons x l=>x :: kidsR l
 | _=>[]
theorem kids_len:∀ l:Rx,(kidsR l).length=cnt l
 | .cons x l=>by simp [kidsR,cnt,kids_len l]
 | .set _=>rfl
 | .node _ _=>rfl
 | .nil=>rfl
theorem kids_tr:∀ {l:Rx},Tr true l→∀ x∈kidsR l,Tr false x
 | .cons x l,h,y,hy=>by
  simp only [kidsR,List.mem_cons] at hy
  rcases hy with rfl | hy
  ·exact h.1
  ·exact kids_tr h.2 y hy
 | .nil,_,y,hy=>by simp [kidsR] at hy
 | .set _,h,_,_=>h.elim
 | .node _ _,h,_,_=>h.elim
theorem lst_kids:∀ {l:Rx},Tr true l→lstS (kidsR l)=l
 | .cons x l,h=>by simp [kidsR,lstS,lst_kids h.2]
 | .nil,_=>rfl
 | .set _,h=>h.elim
 | .node _ _,h=>h.elim
def hiR:Rx→Nat
 | .set _=>1
 | .node _ l=>hiR l + 1
 | .nil=>0
 | .cons x l=>max (hiR x) (hiR l)
theorem hiR_kid:∀ {l:Rx} {x:Rx},x∈kidsR l→hiR x≤hiR l
 | .cons y l,x,h=>by
  simp only [kidsR,List.mem_cons] at h
  simp only [hiR]
  rcases h with rfl | h
  ·omega
  ·have:=hiR_kid h;omega
 | .nil,_,h=>by simp [kidsR] at h
 | .set _,_,h=>by simp [kidsR] at h
 | .node _ _,_,h=>by simp [kidsR] at h
theorem sz_cons:∀ l:Rx,Tr true l→sz l=((kidsR l).map sz).sum
 | .cons x l,h=>by simp [kidsR,sz,sz_cons l h.2]
 | .nil,_=>rfl
 | .set _,h=>h.elim
 | .node _ _,h=>h.elim
section
variable (H : List Nat → Nat → Prop)
def LgS:List Rx→Nat→Nat→Prop
 | [],i,j=>i=j
 | x :: l,i,j=>∃ k,Lg H x true i k∧LgS l k j
theorem lgS_iff:∀ {l:Rx},Tr true l→∀ i j,(Lg H l true i j↔LgS H (kidsR l) i j)
 | .cons x l,h,i,j=>by
  simp only [Lg,if_true,kidsR,LgS]
  constructor
  ·rintro ⟨k,h1,h2⟩;exact ⟨k,h1,(lgS_iff h.2 k j).1 h2⟩
  ·rintro ⟨k,h1,h2⟩;exact ⟨k,h1,(lgS_iff h.2 k j).2 h2⟩
 | .nil,_,i,j=>by simp [Lg,kidsR,LgS]
 | .set _,h,_,_=>h.elim
 | .node _ _,h,_,_=>h.elim
theorem lgS_snoc:∀ (l:List Rx) (x:Rx) (i j:Nat),LgS H (l ++ [x]) i j↔∃ k,LgS H l i k∧Lg H x true k j
 | [],x,i,j=>by
  simp only [List.nil_append,LgS]
  constructor
  ·rintro ⟨k,h1,rfl⟩;exact ⟨i,rfl,h1⟩
  ·rintro ⟨k,rfl,h⟩;exact ⟨j,h,rfl⟩
 | y :: l,x,i,j=>by
  simp only [List.cons_append,LgS]
  constructor
  ·rintro ⟨k,h1,h2⟩
   obtain ⟨m,h3,h4⟩:=(lgS_snoc l x k j).1 h2
   exact ⟨m,⟨k,h1,h3⟩,h4⟩
  ·rintro ⟨m,⟨k,h1,h3⟩,h4⟩
   exact ⟨k,h1,(lgS_snoc l x k j).2 ⟨m,h3,h4⟩⟩
theorem lgA_iff:∀ {l:Rx},Tr true l→∀ i j,(Lg H l false i j↔∃ x∈kidsR l,Lg H x true i j)
 | .cons x l,h,i,j=>by
  simp only [Lg,Bool.false_eq_true,if_false,kidsR,List.mem_cons]
  rw [lgA_iff h.2 i j]
  constructor
  ·rintro (h1 | ⟨y,h1,h2⟩)
   ·exact ⟨x,.inl rfl,h1⟩
   ·exact ⟨y,.inr h1,h2⟩
  ·rintro ⟨y,rfl | h1,h2⟩
   ·exact .inl h2
   ·exact .inr ⟨y,h1,h2⟩
 | .nil,_,i,j=>by simp [Lg,kidsR]
 | .set _,h,_,_=>h.elim
 | .node _ _,h,_,_=>h.elim
theorem lg_only {x:Rx} (i j:Nat):Lg H (.cons x .nil) true i j↔Lg H x true i j:=by
 simp only [Lg,if_true]
 constructor
 ·rintro ⟨k,h1,_,rfl⟩;exact h1
 ·intro h;exact ⟨j,h,trivial,rfl⟩
end
def Endz (R:Nat→Nat→Prop) (n:Nat) (f o:List Bool):Prop:=o.length=n + 1∧∀ j,o[j]?=some true↔j≤n∧∃ i,f[i]?=some true∧R i j
def joinS (a b:List Bool):List Bool:=List.zipWith (· || ·) a b
theorem joinS_at {a b:List Bool} (hl:a.length=b.length) (j:Nat):(joinS a b)[j]?=some true↔a[j]?=some true∨b[j]?=some true:=by
 unfold joinS
 rw [List.getElem?_zipWith]
 by_cases hj:j < a.length
 ·rw [List.getElem?_eq_getElem hj,List.getElem?_eq_getElem (by omega)]
  simp
 ·rw [List.getElem?_eq_none (by omega),List.getElem?_eq_none (by omega)]
  simp
theorem joinS_len {a b:List Bool} (hl:a.length=b.length):(joinS a b).length=a.length:=by simp [joinS,hl]
theorem Endz.id {n:Nat} {f:List Bool} (h:f.length=n + 1):Endz (·=·) n f f:=by
 refine ⟨h,fun j=>?_⟩
 constructor
 ·intro hj;have:=(List.getElem?_eq_some_iff.1 hj).1;exact ⟨by omega,j,hj,rfl⟩
 ·rintro ⟨_,i,h1,rfl⟩;exact h1
theorem Endz.seq {R S:Nat→Nat→Prop} {n:Nat} {f g o:List Bool} (h1:Endz R n f g) (h2:Endz S n g o) (hS:∀ i j,S i j→i≤j):Endz (fun i j=>∃ k,R i k∧S k j) n f o:=by
 refine ⟨h2.1,fun j=>?_⟩
 rw [h2.2]
 constructor
 ·rintro ⟨a,k,hk,b⟩
  obtain ⟨_,i,hi,c⟩:=(h1.2 k).1 hk
  exact ⟨a,i,hi,k,c,b⟩
 ·rintro ⟨a,i,hi,k,c,b⟩
  exact ⟨a,k,(h1.2 k).2 ⟨by have:=hS _ _ b;omega,i,hi,c⟩,b⟩
theorem Endz.or {R S:Nat→Nat→Prop} {n:Nat} {f g o:List Bool} (h1:Endz R n f g) (h2:Endz S n f o):Endz (fun i j=>R i j∨S i j) n f (joinS g o):=by
 have hl:g.length=o.length:=by rw [h1.1,h2.1]
 refine ⟨by rw [joinS_len hl,h1.1],fun j=>?_⟩
 rw [joinS_at hl,h1.2,h2.2]
 constructor
 ·rintro (⟨a,i,b,c⟩ | ⟨a,i,b,c⟩)
  ·exact ⟨a,i,b,.inl c⟩
  ·exact ⟨a,i,b,.inr c⟩
 ·rintro ⟨a,i,b,c | c⟩
  ·exact .inl ⟨a,i,b,c⟩
  ·exact .inr ⟨a,i,b,c⟩
theorem Endz.iff {R S:Nat→Nat→Prop} {n:Nat} {f o:List Bool} (h:Endz R n f o) (he:∀ i j,R i j↔S i j):Endz S n f o:=
 ⟨h.1,fun j=>by
  rw [h.2]
  constructor
  ·rintro ⟨a,i,b,c⟩;exact ⟨a,i,b,(he i j).1 c⟩
  ·rintro ⟨a,i,b,c⟩;exact ⟨a,i,b,(he i j).2 c⟩⟩
def RtLe (R:Nat→Nat→Prop) (m i j:Nat):Prop:=∃ k,k≤m∧RtN R k i j
theorem Endz.round {R:Nat→Nat→Prop} (hR:∀ i j,R i j→i≤j) {n m:Nat} {f g o:List Bool} (h1:Endz (RtLe R m) n f g) (h2:Endz R n g o):Endz (RtLe R (m + 1)) n f (joinS g o):=by
 have hl:g.length=o.length:=by rw [h1.1,h2.1]
 refine ⟨by rw [joinS_len hl,h1.1],fun j=>?_⟩
 rw [joinS_at hl,h1.2,h2.2]
 constructor
 ·rintro (⟨a,i,b,k,hk,c⟩ | ⟨a,q,hq,r⟩)
  ·exact ⟨a,i,b,k,by omega,c⟩
  ·obtain ⟨_,i,b,k,hk,c⟩:=(h1.2 q).1 hq
   exact ⟨a,i,b,k + 1,by omega,.snoc c r⟩
 ·rintro ⟨a,i,b,k,hk,c⟩
  cases c with
  | zero=>exact .inl ⟨a,j,b,0,by omega,.zero _⟩
  | @snoc k _ q _ c r=>
   exact .inr ⟨a,q,(h1.2 q).2 ⟨by have:=hR _ _ r;omega,i,b,k,by omega,c⟩,r⟩
theorem Endz.still {R:Nat→Nat→Prop} (hR:∀ i j,R i j→i≤j) {n m:Nat} {f g o:List Bool} (h1:Endz (RtLe R m) n f g) (h2:Endz R n g o) (he:joinS g o=g):Endz (Rt R) n f g:=by
 have hl:g.length=o.length:=by rw [h1.1,h2.1]
 refine ⟨h1.1,fun j=>?_⟩
 constructor
 ·intro h
  obtain ⟨a,i,b,k,_,c⟩:=(h1.2 j).1 h
  exact ⟨a,i,b,c.rt⟩
 ·rintro ⟨a,i,b,c⟩
  obtain ⟨_,k,_,c⟩:=rt_rounds hR c
  have key:∀ k i j,RtN R k i j→j≤n→f[i]?=some true→g[j]?=some true:=by
   intro k i j c
   induction c with
   | zero i=>intro a b;exact (h1.2 i).2 ⟨a,i,b,0,by omega,.zero _⟩
   | @snoc k i q j c r ih=>
    intro a b
    have hq:=ih (by have:=hR _ _ r;omega) b
    rw [← he,joinS_at hl]
    exact .inr ((h2.2 j).2 ⟨a,q,hq,r⟩)
  exact key k i j c a b
theorem Endz.enough {R:Nat→Nat→Prop} (hR:∀ i j,R i j→i≤j) {n m:Nat} {f g:List Bool} (h1:Endz (RtLe R m) n f g) (hm:n≤m):Endz (Rt R) n f g:=by
 refine ⟨h1.1,fun j=>?_⟩
 rw [h1.2]
 constructor
 ·rintro ⟨a,i,b,k,_,c⟩;exact ⟨a,i,b,c.rt⟩
 ·rintro ⟨a,i,b,c⟩
  obtain ⟨_,k,hk,c⟩:=rt_rounds hR c
  exact ⟨a,i,b,k,by omega,c⟩
end Go.Rex
set_option linter.unusedVariables false
set_option linter.unusedSimpArgs false
set_option maxHeartbeats 400000
namespace Go.Rex
open Go.X
def SmallG (g:Nat→Option (Rx×Nat)):Prop:=∀ i x j,g i=some (x,j)→sz x + 2 * i≤2 * j
theorem sz_snoc:∀ (l:List Rx) (x:Rx),sz (lstS (l ++ [x]))=sz (lstS l) + sz x
 | [],x=>by simp [lstS,sz]
 | y :: l,x=>by simp [lstS,sz,sz_snoc l x];omega
theorem sz_mk {op:Nat} {l:List Rx} (ho:op=2∨op=3):sz (mkN op l)≤sz (lstS l) + (if op=3 then 2 * (l.length - 1) else 0):=by
 match l with
 | []=>rcases ho with rfl | rfl <;> simp [mkN,sz,lstS,cnt]
 | [x]=>rcases ho with rfl | rfl <;> simp [mkN,sz,lstS]
 | x :: y :: l=>rcases ho with rfl | rfl <;> simp [mkN,sz,lstS,cnt,cnt_lst]
theorem factor_sz {s:ByteArray} {g:Nat→Option (Rx×Nat)} (hg:SmallG g):SmallG (factorS s g):=by
 have ha:SmallG (atomS s g):=by
  intro i x j h
  unfold atomS at h
  split at h
  ·cases hgi:g (i + 1) with
   | none=>rw [hgi] at h;cases h
   | some q=>
    obtain ⟨y,k⟩:=q
    rw [hgi] at h
    have h' : (if k < s.size∧b8 s k=41 then some (y,k + 1) else none)=some (x,j):=h
    split at h'
    ·simp at h';obtain ⟨rfl,rfl⟩:=h';have:=hg _ _ _ hgi;omega
    ·cases h'
  ·split at h
   ·cases hc:clsS s (i + 1) with
    | none=>rw [hc] at h;cases h
    | some q=>rw [hc] at h;simp at h;obtain ⟨rfl,rfl⟩:=h;have:=(clsS_adv (t:=q.1) (j:=q.2) hc).1;simp only [sz];omega
   ·split at h
    ·simp at h;obtain ⟨rfl,rfl⟩:=h;simp only [sz];omega
    ·split at h
     ·cases hc:signS s (i + 1) with
      | none=>rw [hc] at h;cases h
      | some q=>rw [hc] at h;simp at h;obtain ⟨rfl,rfl⟩:=h;have:=(signS_adv (b:=q.1) (j:=q.2) hc).1;simp only [sz];omega
     ·split at h
      ·cases h
      ·simp at h;obtain ⟨rfl,rfl⟩:=h;simp only [sz];omega
 intro i x j h
 unfold factorS at h
 cases hat:atomS s g i with
 | none=>rw [hat] at h;cases h
 | some q=>
  obtain ⟨y,k⟩:=q
  have h1:=ha _ _ _ hat
  rw [hat] at h
  simp only [Option.map_some,Option.some.injEq] at h
  unfold oftS at h
  split at h
  ·split at h
   ·simp at h;obtain ⟨rfl,rfl⟩:=h;simp [onlyS,sz];omega
   ·split at h
    ·simp at h;obtain ⟨rfl,rfl⟩:=h;simp [onlyS,sz];omega
    ·split at h
     ·simp at h;obtain ⟨rfl,rfl⟩:=h;simp [onlyS,sz];omega
     ·simp at h;obtain ⟨rfl,rfl⟩:=h;exact h1
  ·simp at h;obtain ⟨rfl,rfl⟩:=h;exact h1
theorem wayL_sz {s:ByteArray} {g:Nat→Option (Rx×Nat)} (hg:SmallG g) {i0:Nat}:∀ {n i:Nat} {acc xs:List Rx} {j:Nat},sz (lstS acc) + 2 * i0≤2 * i→wayL s g n i acc=some (xs,j)→sz (lstS xs) + 2 * i0≤2 * j
 | 0,_,_,_,_,_,h=>by simp [wayL] at h
 | n + 1,i,acc,xs,j,ha,h=>by
  unfold wayL at h
  split at h
  ·cases hf:factorS s g i with
   | none=>rw [hf] at h;cases h
   | some q=>
    obtain ⟨x,k⟩:=q
    rw [hf] at h
    exact wayL_sz hg (n:=n) (i:=k) (by rw [sz_snoc];have:=factor_sz hg _ _ _ hf;omega) h
  ·simp at h;obtain ⟨rfl,rfl⟩:=h;exact ha
theorem way_sz {s:ByteArray} {g:Nat→Option (Rx×Nat)} (hg:SmallG g):SmallG (wayS s g):=by
 intro i x j h
 unfold wayS at h
 cases hw:wayL s g (s.size + 1) i [] with
 | none=>rw [hw] at h;cases h
 | some q=>
  rw [hw] at h
  simp at h
  obtain ⟨rfl,rfl⟩:=h
  have h1:=wayL_sz hg (i0:=i) (by simp [lstS,sz]) (xs:=q.1) (j:=q.2) hw
  have h2:=sz_mk (op:=2) (l:=q.1) (.inl rfl)
  simp at h2
  omega
theorem waysL_sz {s:ByteArray} {g:Nat→Option (Rx×Nat)} (hg:SmallG g) {i0:Nat}:∀ {n i:Nat} {acc xs:List Rx} {j:Nat},acc≠[]→sz (lstS acc) + 2 * (acc.length - 1) + 2 * i0≤2 * i→waysL s g n i acc=some (xs,j)→sz (lstS xs) + 2 * (xs.length - 1) + 2 * i0≤2 * j
 | 0,_,_,_,_,_,_,h=>by simp [waysL] at h
 | n + 1,i,acc,xs,j,hne,ha,h=>by
  unfold waysL at h
  split at h
  ·cases hf:wayS s g (i + 1) with
   | none=>rw [hf] at h;cases h
   | some q=>
    obtain ⟨x,k⟩:=q
    rw [hf] at h
    have hl:0 < acc.length:=List.length_pos_iff.2 hne
    exact waysL_sz hg (n:=n) (i:=k) (by simp) (by rw [sz_snoc];have:=way_sz hg _ _ _ hf;simp;omega) h
  ·simp at h;obtain ⟨rfl,rfl⟩:=h;exact ha
theorem ways_sz {s:ByteArray} {g:Nat→Option (Rx×Nat)} (hg:SmallG g):SmallG (waysS s g):=by
 intro i x j h
 unfold waysS at h
 cases hw:wayS s g i with
 | none=>rw [hw] at h;cases h
 | some q=>
  obtain ⟨y,k⟩:=q
  rw [hw] at h
  have h1:=way_sz hg _ _ _ hw
  simp only at h
  cases hl:waysL s g (s.size + 1) k [y] with
  | none=>rw [hl] at h;cases h
  | some q2=>
   rw [hl] at h
   simp at h
   obtain ⟨rfl,rfl⟩:=h
   have h2:=waysL_sz hg (i0:=i) (acc:=[y]) (by simp) (by simpa [lstS,sz] using h1) (xs:=q2.1) (j:=q2.2) hl
   have h3:=sz_mk (op:=3) (l:=q2.1) (.inr rfl)
   simp at h3
   omega
theorem par_sz (s:ByteArray):∀ r,SmallG (par s r)
 | 0=>ways_sz fun _ _ _ h=>by cases h
 | r + 1=>ways_sz (par_sz s r)
theorem parse_sz {s:ByteArray} (hadv:∀ x j,par s 8 0=some (x,j)→j≤s.size) {x:Rx} (h:parseS s=some x):sz x≤80:=by
 unfold parseS at h
 split at h
 ·cases h
 ·cases hp:par s 8 0 with
  | none=>rw [hp] at h;cases h
  | some q=>
   obtain ⟨y,j⟩:=q
   rw [hp] at h
   simp only at h
   split at h
   ·cases h
   ·cases h
    have:=par_sz s 8 _ _ _ hp
    have:=hadv _ _ hp
    omega
theorem kid_sz:∀ {l:Rx} {x:Rx},Tr true l→x∈kidsR l→sz x≤sz l
 | .cons y l,x,h,hx=>by
  simp only [kidsR,List.mem_cons] at hx
  simp only [sz]
  rcases hx with rfl | hx
  ·omega
  ·have:=kid_sz h.2 hx;omega
 | .nil,_,_,h=>by simp [kidsR] at h
 | .set _,_,h,_=>h.elim
 | .node _ _,_,h,_=>h.elim
theorem sum_take {l:List Rx} {k:Nat} {x:Rx} (hx:l[k]?=some x):((l.take (k + 1)).map sz).sum=((l.take k).map sz).sum + sz x:=by
 have hk:=(List.getElem?_eq_some_iff.1 hx).1
 rw [List.take_succ_eq_append_getElem hk,(List.getElem?_eq_some_iff.1 hx).2]
 simp
theorem sum_take_le (l:List Rx):∀ k,((l.take k).map sz).sum≤(l.map sz).sum:=by
 induction l with
 | nil=>intro k;simp
 | cons y l ih=>
  intro k
  cases k with
  | zero=>simp
  | succ k=>simp only [List.take_succ_cons,List.map_cons,List.sum_cons];have:=ih k;omega
end Go.Rex
set_option linter.unusedVariables false
set_option linter.unusedSimpArgs false
set_option maxHeartbeats 1000000
set_option maxRecDepth 100000
namespace Go.Proofs.YtbcbfjnlnmhpbaaGreat
open Go Go.X Go.Rex
theorem setAt_of:∀ {l:List Value} {i:Nat} {v:Value},i < l.length→SetAt l i v (l.set i v)
 | u :: l,0,v,_=>.z
 | u :: l,i + 1,v,h=>.s (setAt_of (by simpa using h))
abbrev PA (w:World) (p:Nat) (s:ByteArray) (i:Nat) (bad:Bool):Prop:=Blk w p 246 [.string s,.int .i64 (i:Int),.bool bad]
theorem over_ok (w:World) (p:Nat) (s:ByteArray) (i:Nat) (bad:Bool) (h:PA w p s i bad):Fx Tryz.prog 233 [pp p] w (fun u w'=>u=.bool (bad || decide (s.size≤i))∧Grow w w'):=by
 refine enter Tryz.func233 rfl rfl rfl _ (Pick.sub (l:=[0]) (.cons rfl .nil)) ?_
 refine GG ?_
 refine RK.drawM No [(0,false),(1,false),(2,false),(3,false),(4,false),(5,false),(6,false),(7,false),(8,false),(9,false),(10,false),(11,false),(12,false),(13,false),(14,false),(15,false),(16,false)] [] mixed (by kernel_rfl) ?_
 refine GG ?_
 refine DF (Yld.fieldAddr fo246_2 rfl) ?_
 refine DQ (Yld.load p4 rfl (atM (h.cell rfl) (fun h=>h))) (Mod.drew _ _) ?_
 refine DL.p rfl rfl rfl ?_
 refine SD 7 (fun h7=>?_) (fun h7=>?_)
 ·iterate 10 refine DL.no rfl (.no rfl rfl rfl rfl) rfl rfl ?_
  refine GG ?_
  refine RK.ret_of Tryz.func233 (res1 rfl rfl) ?_ _
  exact ⟨_,rfl,by simp_all,Mod.drew _ _⟩
 ·iterate 2 refine DF (Yld.pure rfl) ?_
  refine DF (Yld.fieldAddr fo246_1 rfl) ?_
  refine DQ (Yld.load p3 rfl (atM (h.cell rfl) (fun h=>h))) (Mod.drew _ _) ?_
  iterate 2 refine DF (Yld.pure rfl) ?_
  refine DF (Yld.fieldAddr fo246_0 rfl) ?_
  refine DQ (Yld.load p9 rfl (atM (h.cell rfl) (fun h=>h))) (Mod.drew _ _) ?_
  refine DQ (Yld.lenStr u9 rfl) (Mod.drew _ _) ?_
  refine DF (Yld.pure rfl) ?_
  refine GG ?_
  refine RK.ret_of Tryz.func233 (res1 rfl rfl) ?_ _
  exact ⟨_,rfl,by simp_all,Mod.drew _ _⟩
def seesS (s:ByteArray) (i:Nat) (bad:Bool) (c:Nat):Bool:=!bad && decide (i < s.size∧b8 s i=c)
theorem sees_ok (w:World) (p:Nat) (s:ByteArray) (i:Nat) (bad:Bool) (h:PA w p s i bad) (c:Nat):Fx Tryz.prog 234 [pp p,.int .u8 (c:Int)] w (fun u w'=>u=.bool (seesS s i bad c)∧Grow w w'):=by
 refine enter Tryz.func234 rfl rfl rfl _ (Pick.sub (l:=[0,1]) (.cons rfl (.cons rfl .nil))) ?_
 refine GG ?_
 refine RK.drawM No [(0,false),(1,true),(2,false),(3,false),(4,false),(5,false),(6,false),(7,false),(8,false),(9,false),(10,false),(11,false),(12,false),(13,false),(14,false),(15,false),(16,false)] [] mixed (by kernel_rfl) ?_
 refine DL.p rfl rfl rfl ?_
 refine OD (Does.call rfl e233 (over_ok _ p s i bad (h.mod (Mod.drew No _) (fun h=>h)))) ?_
 rintro _ w2 ⟨rfl,hg2⟩
 have hgd:Grow w w2:=(Mod.drew _ _).trans hg2
 refine ⟨hgd,?_⟩
 refine GG ?_
 refine SD 8 (fun h8=>?_) (fun h8=>?_)
 ·have h9:bad=false∧i < s.size:=by simpa using h8
  iterate 2 refine DF (Yld.pure rfl) ?_
  refine DF (Yld.fieldAddr fo246_0 rfl) ?_
  refine DQ (Yld.load p9 rfl (atM (h.cell rfl) (fun h=>h))) (hgd) ?_
  iterate 2 refine DF (Yld.pure rfl) ?_
  refine DF (Yld.fieldAddr fo246_1 rfl) ?_
  refine DQ (Yld.load p3 rfl (atM (h.cell rfl) (fun h=>h))) (hgd) ?_
  refine DF (Yld.idxStrN u9 rfl rfl (h9.2)) ?_
  iterate 2 refine DF (Yld.pure rfl) ?_
  refine GG ?_
  refine RK.ret_of Tryz.func234 (res1 rfl rfl) ?_ _
  exact ⟨_,rfl,by unfold seesS b8;simp [h9];omega,hgd⟩
 ·iterate 11 refine DL.no rfl (.no rfl rfl rfl rfl) rfl rfl ?_
  refine GG ?_
  refine RK.ret_of Tryz.func234 (res1 rfl rfl) ?_ _
  exact ⟨_,rfl,by unfold seesS;simp at h8;cases bad with | true=>rfl | false=>(simp at h8 ⊢;intro h;omega),hgd⟩
theorem next_ok (w:World) (p:Nat) (s:ByteArray) (i:Nat) (bad:Bool) (h:PA w p s i bad) (hi:i≤1000) (c:Nat):Fx Tryz.prog 218 [pp p,.int .u8 (c:Int)] w (fun u w'=>u=.bool (seesS s i bad c)∧PA w' p s (if seesS s i bad c then i + 1 else i) bad∧Mod (·=p) w w'):=by
 refine enter Tryz.func218 rfl rfl rfl _ (Pick.sub (l:=[0,1]) (.cons rfl (.cons rfl .nil))) ?_
 refine GG ?_
 refine OP (Does.call rfl e234 (sees_ok _ p s i bad h c)) ?_
 rintro _ w2 ⟨rfl,hg2⟩
 have h2:=h.mod hg2 (fun h=>h)
 refine GG ?_
 refine CD (fun h8=>?_) (fun h8=>?_)
 ·have h9:seesS s i bad c=false:=by simpa using h8
  refine GG ?_
  refine RK.ret_of Tryz.func218 (res1 rfl rfl) ?_ _
  exact ⟨_,rfl,by rw [h9],by rw [h9];exact h2,Mod.any' hg2⟩
 ·have h9:seesS s i bad c=true:=by simpa using h8
  refine GG ?_
  refine QQ (Yld.fieldAddr fo246_1 rfl) ?_
  refine QQ (Yld.load p3 rfl (at1 (h2.cell rfl))) ?_
  refine RL.p rfl rfl ?_
  refine RL.re (d:=13) rfl rfl (succ_i64 (by omega)) ?_
  refine RL.p rfl rfl ?_
  refine QQ (Yld.fieldAddr fo246_1 rfl) ?_
  refine OQ (Does.store i3 rfl rfl rfl h2 (.s .z)) ?_
  rintro _ w3 ⟨hb3,hm3,_⟩
  refine GG ?_
  refine RK.ret_of Tryz.func218 (res1 rfl rfl) ?_ _
  exact ⟨_,rfl,by rw [h9],by rw [h9];exact hb3,(Mod.any' hg2).trans hm3⟩
theorem byte_no (w:World) (p:Nat) (s:ByteArray) (i:Nat) (bad:Bool) (h:PA w p s i bad) (hn:bad=true∨s.size≤i):Fx Tryz.prog 246 [pp p] w (fun u w'=>u=.int .u8 ((0:Nat):Int)∧PA w' p s i true∧Mod (·=p) w w'):=by
 refine enter Tryz.func246 rfl rfl rfl _ (Pick.sub (l:=[0]) (.cons rfl .nil)) ?_
 refine GG ?_
 refine OP (Does.call rfl e233 (over_ok _ p s i bad h)) ?_
 rintro _ w2 ⟨rfl,hg2⟩
 have h2:=h.mod hg2 (fun h=>h)
 refine RL.done ?_
 refine RK.condT (hcT rfl (by simpa using hn)) ?_
 refine GG ?_
 refine QQ (Yld.fieldAddr fo246_2 rfl) ?_
 refine OQ (Does.store i4 rfl rfl rfl h2 (.s (.s .z))) ?_
 rintro _ w3 ⟨hb3,hm3,_⟩
 refine GG ?_
 refine RK.ret_of Tryz.func246 (res1 rfl rfl) ?_ _
 exact ⟨_,rfl,rfl,hb3,(Mod.any' hg2).trans hm3⟩
theorem byte_yes (w:World) (p:Nat) (s:ByteArray) (i:Nat) (h:PA w p s i false) (hi:i < s.size) (hb:i≤1000):Fx Tryz.prog 246 [pp p] w (fun u w'=>u=.int .u8 (b8 s i:Int)∧PA w' p s (i + 1) false∧Mod (·=p) w w'):=by
 refine enter Tryz.func246 rfl rfl rfl _ (Pick.sub (l:=[0]) (.cons rfl .nil)) ?_
 refine GG ?_
 refine OP (Does.call rfl e233 (over_ok _ p s i false h)) ?_
 rintro _ w2 ⟨rfl,hg2⟩
 have h2:=h.mod hg2 (fun h=>h)
 refine RL.done ?_
 refine RK.condF (hcF rfl (by simp;omega)) ?_
 refine GG ?_
 refine QQ (Yld.fieldAddr fo246_1 rfl) ?_
 refine QQ (Yld.load p3 rfl (at1 (h2.cell rfl))) ?_
 refine RL.p rfl rfl ?_
 refine RL.re (d:=12) rfl rfl (succ_i64 (by omega)) ?_
 refine RL.p rfl rfl ?_
 refine QQ (Yld.fieldAddr fo246_1 rfl) ?_
 refine OQ (Does.store i3 rfl rfl rfl h2 (.s .z)) ?_
 rintro _ w3 ⟨hb3,hm3,_⟩
 have h3:PA w3 p s (i + 1) false:=hb3
 refine GG ?_
 refine RK.drawM No [(0,false),(1,false),(2,false),(3,false),(4,false),(5,false),(6,false),(7,false),(8,false),(9,false),(10,false)] [] mixed (by kernel_rfl) ?_
 refine GG ?_
 refine DF (Yld.fieldAddr fo246_0 rfl) ?_
 refine DQ (Yld.load p9 rfl (atM (h3.cell rfl) (fun h=>h))) (Mod.drew _ _) ?_
 refine GG ?_
 refine DF (Yld.fieldAddr fo246_1 rfl) ?_
 refine DQ (Yld.load p3 rfl (atM (h3.cell rfl) (fun h=>h))) (Mod.drew _ _) ?_
 refine DL.p rfl rfl rfl ?_
 refine DL.re (d:=23) rfl rfl (sub_i64 (z:=(i:Int)) (by omega) (by omega) (by omega)) ?_
 refine DF (Yld.idxStrN u9 rfl rfl (hi)) ?_
 refine GG ?_
 refine RK.ret_of Tryz.func246 (res1 rfl rfl) ?_ _
 exact ⟨_,rfl,rfl,h3.mod (Mod.drew No _) (fun h=>h),((Mod.any' hg2).trans hm3).trans (Mod.drew _ _)⟩
theorem idx_neg (l:List UInt8) (c:UInt8):(Lib.indexByte l c < 0↔c∉l)∧-1≤Lib.indexByte l c:=by
 induction l with
 | nil=>simp [Lib.indexByte]
 | cons b l ih=>
  unfold Lib.indexByte
  by_cases e:b=c
  ·subst e;simp
  ·rw [if_neg (by simpa using e)]
   obtain ⟨h1,h2⟩:=ih
   by_cases e2:Lib.indexByte l c=-1
   ·rw [if_pos (by simpa using e2)]
    have:c∉l:=h1.1 (by omega)
    simp [this,Ne.symm e]
   ·rw [if_neg (by simpa using e2)]
    have h3:¬ Lib.indexByte l c < 0:=by omega
    have h4:c∈l:=Classical.byContradiction fun h=>h3 (h1.2 h)
    refine ⟨⟨fun h=>by omega,fun h=>absurd (List.mem_cons_of_mem _ h4) h⟩,by omega⟩
theorem indexByte_ok (w:World) (t:ByteArray) (c:Nat) (hc:c < 256):Fx Tryz.prog 251 [.string t,.int .u8 (c:Int)] w (fun u w'=>∃ z:Int,u=.int .i64 z∧(z < 0↔¬ ∃ b∈t.data.toList,b.toNat=c)∧w=w'):=by
 refine Calls.mono (Tryz.strings_IndexByte t (c:Int) w) ?_
 rintro e w' ⟨rfl,rfl⟩
 refine ⟨_,rfl,_,rfl,?_,rfl⟩
 rw [(idx_neg _ _).1]
 have:((c:Int).toNat.toUInt8).toNat=c:=by simp;omega
 constructor
 ·rintro h ⟨b,hb,e⟩
  exact h (by rw [show (c:Int).toNat.toUInt8=b from UInt8.toNat_inj.1 (by omega)];exact hb)
 ·intro h hm
  exact h ⟨_,hm,this⟩
end Go.Proofs.YtbcbfjnlnmhpbaaGreat
set_option linter.unusedVariables false
set_option linter.unusedSimpArgs false
set_option maxHeartbeats 1000000
set_option maxRecDepth 100000
namespace Go.Proofs.YtbcbfjnlnmhpbaaGreat
open Go Go.X Go.Rex
def RB (w' : World) (p:Nat) (s:ByteArray) (r:Option (Nat×Nat)) (u:Value):Prop:=match r with
 | some (b,j)=>u=.int .u8 (b:Int)∧PA w' p s j false
 | none=>∃ c j:Nat,c < 256∧u=.int .u8 (c:Int)∧PA w' p s j true∧j≤s.size
theorem sign_ok (w:World) (p:Nat) (s:ByteArray) (i:Nat) (h:PA w p s i false) (hi:i≤s.size) (hs:s.size≤40):Fx Tryz.prog 250 [pp p] w (fun u w'=>RB w' p s (signS s i) u∧Mod (·=p) w w'):=by
 by_cases hl:i < s.size
 ·have hc:=b8_lt s i
  refine enter Tryz.func250 rfl rfl rfl _ (Pick.sub (l:=[0]) (.cons rfl .nil)) ?_
  refine GG ?_
  refine OP (Does.call rfl e246 (byte_yes _ p s i h hl (by omega))) ?_
  rintro _ w2 ⟨rfl,hB2,hm2⟩
  refine GG ?_
  refine QQ (Yld.fieldAddr fo246_2 rfl) ?_
  refine QQ (Yld.load p4 rfl (at1 (hB2.cell rfl))) ?_
  refine RL.p rfl rfl ?_
  refine RL.knownF (d:=11) rfl rfl (rfl) ?_
  refine QQ (Yld.pure rfl) ?_
  refine OP (Does.call rfl e251 (indexByte_ok _ _ _ hc)) ?_
  rintro _ _ ⟨z,rfl,hz,rfl⟩
  refine QQ (Yld.pure rfl) ?_
  refine GG ?_
  refine QQ (Yld.fieldAddr fo246_2 rfl) ?_
  refine OQ (Does.store i4 rfl rfl rfl hB2 (.s (.s .z))) ?_
  rintro _ w3 ⟨hb3,hm3,_⟩
  have hq:(z < 0↔¬ quotedS (b8 s i)=true):=by rw [hz];unfold quotedS;simp;omega
  refine GG ?_
  refine RK.ret_of Tryz.func250 (res1 rfl rfl) ?_ _
  exact ⟨_,rfl,by
    unfold RB signS
    by_cases hqq:quotedS (b8 s i)=true
    ·rw [if_pos ⟨hl,hqq⟩]
     have:¬ z < 0:=fun h=>hq.1 h hqq
     simp only [this,decide_false] at hb3
     exact ⟨rfl,hb3⟩
    ·rw [if_neg (fun h=>hqq h.2)]
     have:z < 0:=hq.2 hqq
     simp only [this,decide_true] at hb3
     exact ⟨_,_,hc,rfl,hb3,by omega⟩
   ,hm2.trans hm3⟩
 ·skip
  refine enter Tryz.func250 rfl rfl rfl _ (Pick.sub (l:=[0]) (.cons rfl .nil)) ?_
  refine GG ?_
  refine OP (Does.call rfl e246 (byte_no _ p s i false h (.inr (by omega)))) ?_
  rintro _ w2 ⟨rfl,hB2,hm2⟩
  refine GG ?_
  refine QQ (Yld.fieldAddr fo246_2 rfl) ?_
  refine QQ (Yld.load p4 rfl (at1 (hB2.cell rfl))) ?_
  refine RL.p rfl rfl ?_
  refine RL.knownT (d:=11) rfl rfl (rfl) ?_
  iterate 3 refine RL.no (.no rfl rfl rfl rfl) rfl rfl ?_
  refine GG ?_
  refine QQ (Yld.fieldAddr fo246_2 rfl) ?_
  refine OQ (Does.store i4 rfl rfl rfl hB2 (.s (.s .z))) ?_
  rintro _ w3 ⟨hb3,hm3,_⟩
  refine GG ?_
  refine RK.ret_of Tryz.func250 (res1 rfl rfl) ?_ _
  exact ⟨_,rfl,by
    unfold RB signS
    rw [if_neg (fun h=>hl h.1)]
    exact ⟨_,_,by omega,rfl,hb3,by omega⟩
   ,hm2.trans hm3⟩
theorem member_ok (w:World) (p:Nat) (s:ByteArray) (i:Nat) (h:PA w p s i false) (hi:i≤s.size) (hs:s.size≤40):Fx Tryz.prog 252 [pp p] w (fun u w'=>RB w' p s (memS s i) u∧Mod (·=p) w w'):=by
 by_cases hl:i < s.size
 ·have hc:=b8_lt s i
  refine enter Tryz.func252 rfl rfl rfl _ (Pick.sub (l:=[0]) (.cons rfl .nil)) ?_
  refine GG ?_
  refine OP (Does.call rfl e246 (byte_yes _ p s i h hl (by omega))) ?_
  rintro _ w2 ⟨rfl,hB2,hm2⟩
  refine GG ?_
  refine CD (fun h7=>?_) (fun h7=>?_)
  ·have h92:b8 s i=92:=by omega
   refine GG ?_
   refine OP (Does.call rfl e250 (sign_ok _ p s (i + 1) hB2 (by omega) hs)) ?_
   rintro u3 w3 ⟨hr3,hm3⟩
   have e:memS s i=signS s (i + 1):=by unfold memS;rw [if_pos hl,if_pos h92]
   refine GG ?_
   refine RK.ret_of Tryz.func252 (res1 rfl rfl) ?_ _
   exact ⟨_,rfl,by rw [e];exact hr3,hm2.trans hm3⟩
  ·have h92:¬ b8 s i=92:=by omega
   refine GG ?_
   refine QQ (Yld.fieldAddr fo246_2 rfl) ?_
   refine QQ (Yld.load p4 rfl (at1 (hB2.cell rfl))) ?_
   refine RL.p rfl rfl ?_
   refine RL.knownF (d:=15) rfl rfl (rfl) ?_
   refine QQ (Yld.pure rfl) ?_
   refine OP (Does.call rfl e251 (indexByte_ok _ _ _ hc)) ?_
   rintro _ _ ⟨z,rfl,hz,rfl⟩
   refine QQ (Yld.pure rfl) ?_
   refine GG ?_
   refine QQ (Yld.fieldAddr fo246_2 rfl) ?_
   refine OQ (Does.store i4 rfl rfl rfl hB2 (.s (.s .z))) ?_
   rintro _ w3 ⟨hb3,hm3,_⟩
   have hq:(z < 0↔¬ (b8 s i=93∨b8 s i=91∨b8 s i=94∨b8 s i=45)):=by rw [hz];simp;omega
   refine GG ?_
   refine RK.ret_of Tryz.func252 (res1 rfl rfl) ?_ _
   exact ⟨_,rfl,by
     unfold RB memS
     rw [if_pos hl,if_neg h92]
     by_cases hqq:b8 s i=93∨b8 s i=91∨b8 s i=94∨b8 s i=45
     ·rw [if_pos hqq]
      have:(0:Int)≤z:=by have:=fun h=>hq.1 h hqq;omega
      simp only [ge_iff_le,this,decide_true] at hb3
      exact ⟨_,_,hc,rfl,hb3,by omega⟩
     ·rw [if_neg hqq]
      have:¬ (0:Int)≤z:=by have:=hq.2 hqq;omega
      simp only [ge_iff_le,this,decide_false] at hb3
      exact ⟨rfl,hb3⟩
    ,hm2.trans hm3⟩
 ·skip
  refine enter Tryz.func252 rfl rfl rfl _ (Pick.sub (l:=[0]) (.cons rfl .nil)) ?_
  refine GG ?_
  refine OP (Does.call rfl e246 (byte_no _ p s i false h (.inr (by omega)))) ?_
  rintro _ w2 ⟨rfl,hB2,hm2⟩
  refine GG ?_
  refine RK.condF (hcF rfl (by simp)) ?_
  refine GG ?_
  refine QQ (Yld.fieldAddr fo246_2 rfl) ?_
  refine QQ (Yld.load p4 rfl (at1 (hB2.cell rfl))) ?_
  refine RL.p rfl rfl ?_
  refine RL.knownT (d:=15) rfl rfl (rfl) ?_
  iterate 3 refine RL.no (.no rfl rfl rfl rfl) rfl rfl ?_
  refine GG ?_
  refine QQ (Yld.fieldAddr fo246_2 rfl) ?_
  refine OQ (Does.store i4 rfl rfl rfl hB2 (.s (.s .z))) ?_
  rintro _ w3 ⟨hb3,hm3,_⟩
  refine GG ?_
  refine RK.ret_of Tryz.func252 (res1 rfl rfl) ?_ _
  exact ⟨_,rfl,by
    unfold RB memS
    rw [if_neg hl]
    exact ⟨_,_,by omega,rfl,hb3,by omega⟩
   ,hm2.trans hm3⟩
abbrev wds (l:List Nat):List Value:=l.map fun x:Nat=>Value.int .u64 (x:Int)
theorem add1_ok (w : World) (b o t : Nat) (cs : List Value) (l : List Nat) (hB : Blk w b t cs) (hl : W4 l) (hc : ∀ j, j < 4 → cs[o + j]? = (wds l)[j]?) (ho : o + 4 ≤ cs.length) (c : Nat) (h256 : c < 256) :
    Fx Tryz.prog 249 [.pointer (some ⟨b,o,none⟩),.int .u8 (c:Int)] w (fun u w'=>u=.tuple #[]∧Blk w' b t (cs.set (o + c / 64) (.int .u64 ((((l[c / 64]?).getD 0) ||| 1 <<< (c % 64):Nat):Int)))∧Mod (·=b) w w'):=by
  obtain ⟨hl4,hlt⟩:=hl
  have hq:c / 64 < 4:=by omega
  obtain ⟨y,hy⟩:∃ y,l[c / 64]?=some y:=⟨_,List.getElem?_eq_getElem (by omega)⟩
  have hyl:=hlt y (List.mem_of_getElem? hy)
  have h1:(1 <<< (c % 64)) < 18446744073709551616:=by
    rw [Nat.shiftLeft_eq,Nat.one_mul];exact Nat.pow_lt_pow_right (m:=c % 64) (n:=64) (by omega) (Nat.mod_lt _ (by omega))
  have hcell:cs[o + c / 64]?=some (.int .u64 (y:Int)):=by rw [hc _ hq];simp [hy]
  have e1:IntKind.u8.wrap ((c:Int).tdiv 64)=((c / 64:Nat):Int):=by
    have e2:(c:Int).tdiv 64=((c / 64:Nat):Int):=by rw [Int.tdiv_eq_ediv_of_nonneg (by omega)];omega
    rw [e2];exact wrap_u8 (by omega)
  have e3:(c:Int).tmod 64=((c % 64:Nat):Int):=by rw [Int.tmod_eq_emod_of_nonneg (by omega)];omega
  rw [hy]
  refine enter Tryz.func249 rfl rfl rfl _ (Pick.sub (l:=[0,1]) (.cons rfl (.cons rfl .nil))) ?_
  refine RK.drawM (·=b) [(0,false),(1,false),(2,false),(3,false),(4,false),(6,false),(7,false),(8,false),(10,false),(5,true),(9,false),(11,false),(12,true)] [12] mixed (by kernel_rfl) ?_
  iterate 2 refine DL.p rfl rfl rfl ?_
  refine DL.qf rfl (.free rfl) rfl rfl (Yld.quo rfl rfl (by omega)) ?_
  refine DL.re (d:=6) rfl rfl (congrArg (Value.int .u8) e1) ?_
  refine DL.p rfl rfl rfl ?_
  refine DL.qf rfl (.free rfl) rfl rfl (Yld.indexArr Tryz.underlying177 i22 rfl rfl (hq)) ?_
  refine DL.p rfl rfl rfl ?_
  refine DL.qf rfl (.free rfl) rfl rfl (Yld.rem rfl rfl (by omega)) ?_
  refine DL.re (d:=11) rfl rfl (congrArg (Value.int .u8) e3) ?_
  refine DL.qf rfl (.free rfl) rfl rfl (Yld.shl (a:=1) rfl rfl (by simp [IntKind.bits];omega)) ?_
  refine DL.re (d:=12) rfl rfl (congrArg (Value.int .u64) (Go.X.wrap_u64 h1)) ?_
  refine DL.p rfl rfl rfl ?_
  refine DL.lq rfl (.free rfl) rfl rfl (Yld.load p22 rfl (at1 (hB.cell' (by rw [Nat.mul_one];exact hcell)))) ?_
  refine DL.p rfl rfl rfl ?_
  refine DL.re (d:=13) rfl rfl (congrArg (Value.int .u64) (Go.X.u64_or hyl h1)) ?_
  refine DL.qf rfl (.free rfl) rfl rfl (Yld.indexArr Tryz.underlying177 i22 rfl rfl (hq)) ?_
  refine DL.opT rfl (.free rfl) rfl rfl (Does.store i22 rfl rfl rfl hB (setAt_of (by omega))) ?_
  rintro _ w2 ⟨hb2,hm2,_⟩
  refine DL.done ?_
  refine RK.end_of Tryz.func249 (res0 rfl) ?_
  exact ⟨_,rfl,rfl,by simpa using hb2,(Mod.drew _ _).trans hm2⟩
theorem wds_bit {l:List Nat} (hl:W4 l) {c:Nat} (hc:c < 256):(wds l).set (c / 64) (.int .u64 ((((l[c / 64]?).getD 0) ||| 1 <<< (c % 64):Nat):Int))=wds (setBit l c):=by
 have hq:c / 64 < l.length:=by rw [hl.1];omega
 apply List.ext_getElem?
 intro j
 unfold setBit
 simp only [List.getElem?_map,List.getElem?_modify,List.getElem?_set,List.length_map]
 by_cases e:c / 64=j
 ·subst e
  simp [hq,List.getElem?_eq_getElem hq]
 ·simp [e]
theorem add_set (w:World) (b:Nat) (l:List Nat) (hB:Blk w b 177 (wds l)) (hl:W4 l) (c:Nat) (h256:c < 256) :
  Fx Tryz.prog 249 [pp b,.int .u8 (c:Int)] w (fun u w'=>u=.tuple #[]∧Blk w' b 177 (wds (setBit l c))∧Mod (·=b) w w'):=by
 refine Fx.mono (add1_ok w b 0 _ _ l hB hl (fun j _=>by rw [Nat.zero_add]) (by simp [hl.1]) c h256) ?_
 rintro u w' ⟨rfl,h1,h2⟩
 rw [Nat.zero_add,wds_bit hl h256] at h1
 exact ⟨rfl,h1,h2⟩
theorem inv_set {l:List Nat} {k:Nat} {x:Nat} (hx:l[k]?=some x):((invS l).take k ++ l.drop k).set k (18446744073709551615 - x)=(invS l).take (k + 1) ++ l.drop (k + 1):=by
 have hk:=(List.getElem?_eq_some_iff.1 hx).1
 have e:((invS l).take k).length=k:=by simp [invS];omega
 rw [List.drop_eq_getElem_cons hk,List.set_append_right _ _ (by omega),e,Nat.sub_self,List.set_cons_zero,List.take_succ_eq_append_getElem (by simpa [invS] using hk)]
 simp [invS,(List.getElem?_eq_some_iff.1 hx).2]
theorem blk0' {w:World} {b t:Nat} {cs:List Value} (h:Blk w b t cs):∀ (j:Nat) (u:Value),cs[j]?=some u→w.cell? ⟨b,0 + j,none⟩=some u:=fun j u hj=>by rw [Nat.zero_add];exact h.cell' hj
theorem turned_ok (w:World) (l:List Nat) (hl:W4 l):Fx Tryz.prog 248 [.agg (wds l).toArray] w (fun u w'=>u=.agg (wds (invS l)).toArray∧Grow w w'):=by
 obtain ⟨hl4,hlt⟩:=hl
 obtain ⟨x0,x1,x2,x3,rfl⟩:∃ x0 x1 x2 x3,l=[x0,x1,x2,x3]:=by
  match l,hl4 with
  | [x0,x1,x2,x3],_=>exact ⟨x0,x1,x2,x3,rfl⟩
 generalize hle:[x0,x1,x2,x3]=l at *
 have hil:(invS l).length=4:=by simpa [invS] using hl4
 refine enter Tryz.func248 rfl rfl rfl _ (Pick.sub (l:=[0]) (.cons rfl .nil)) ?_
 refine GG ?_
 refine OP (Does.box rfl) ?_
 rintro _ w1 ⟨b1,rfl,hn1⟩
 have hB1:Blk w1 b1 177 (wds l):=by have:=hn1.blk;simpa [Value.cells] using this
 refine OP (Does.alloc i177) ?_
 rintro _ w2 ⟨b2,rfl,hn2⟩
 have hne:b1≠b2:=by have:=hn1.lt;have:=hn2.at_;omega
 refine GG ?_
 refine RK.loop (fun k:Nat=>[(1,pp b1),(2,pp b2),(4,.int .i64 (k:Int))]) (fun k w'=>Blk w' b1 177 (wds ((invS l).take k ++ l.drop k))∧Mod (·=b1) w2 w'∧k≤4) (fun k=>4 - k) 0 ⟨rfl,rfl,rfl,trivial⟩ ⟨by simpa using hB1.mod hn2.grow (fun h=>h),Mod.refl _ _,by omega⟩ (fun k w3 hI ih=>?_)
 obtain ⟨hB,hm,hk⟩:=hI
 refine GG ?_
 refine CD (fun h5=>?_) (fun h5=>?_)
 ·obtain ⟨x,hx⟩:∃ x,l[k]?=some x:=⟨l[k]'(by omega),List.getElem?_eq_getElem (by omega)⟩
  have hxl:=hlt x (List.mem_of_getElem? hx)
  have hcx:(wds ((invS l).take k ++ l.drop k))[0 + k * 1]?=some (.int .u64 (x:Int)):=by
    rw [Nat.zero_add,Nat.mul_one,List.getElem?_map,List.getElem?_append_right (by simp [invS];omega)]
    simp [invS,hl4,hk,hx,show min k 4=k by omega]
  refine GG ?_
  refine QQ (Yld.indexArr Tryz.underlying177 i22 rfl rfl (by omega)) ?_
  refine QQ (Yld.load p22 rfl (at1 (hB.cell' hcx))) ?_
  refine QQ (Yld.compl rfl (by omega) (by omega)) ?_
  refine RL.re (d:=11) rfl rfl (congrArg (Value.int .u64) (show _=((18446744073709551615 - x:Nat):Int) by omega)) ?_
  refine QQ (Yld.indexArr Tryz.underlying177 i22 rfl rfl (by omega)) ?_
  refine OQ (Does.store i22 rfl rfl rfl hB (setAt_of (by simp [invS,hl4];omega))) ?_
  rintro _ w4 ⟨hb4,hm4,_⟩
  refine RL.done ?_
  refine RK.inBlock ?_
  refine RK.region ?_
  refine RL.p rfl rfl ?_
  refine RL.re (d:=13) rfl rfl (succ_i64 (by omega)) ?_
  refine GG ?_
  exact RK.back (ih (k + 1) _ ⟨by rw [Nat.zero_add,Nat.mul_one,← List.map_set,inv_set hx] at hb4;exact hb4,hm.trans hm4,by omega⟩ (by omega)) ⟨rfl,rfl,rfl,trivial⟩
 ·have ek:k=4:=by omega
  subst ek
  have e1:(invS l).take 4 ++ l.drop 4=invS l:=by rw [List.take_of_length_le (by omega),List.drop_eq_nil_of_le (by omega),List.append_nil]
  rw [e1] at hB
  have hB2:=hn2.blk.mod hm (Ne.symm hne)
  subst hle
  refine RK.exit rfl ?_
  refine GG ?_
  refine QQ (Yld.loadN (cs:=wds (invS [x0,x1,x2,x3])) a177 rfl (atN (blk0' hB))) ?_
  refine OQ (Does.storeN i177 rfl rfl (by simp [Value.cells,hil]) (by simp [Value.cells,Value.oneCell']) hB2 (by decide)) ?_
  rintro _ w4 ⟨hb4,hm4,_⟩
  refine RL.done ?_
  refine RK.ret_of Tryz.func248 (resC (cs:=wds (invS [x0,x1,x2,x3])) rfl rfl a177 hb4) ?_ _
  exact ⟨_,rfl,rfl,((hn1.grow.trans hn2.grow).then hm (fun b hb e=>by have e' : b=b1:=e;have:=hn1.at_;omega)).then hm4 (fun b hb e=>by have e' : b=b2:=e;have:=hn2.at_;have:=hn1.grow.size;omega)⟩
end Go.Proofs.YtbcbfjnlnmhpbaaGreat
set_option linter.unusedVariables false
set_option linter.unusedSimpArgs false
set_option maxHeartbeats 1000000
set_option maxRecDepth 100000
namespace Go.Proofs.YtbcbfjnlnmhpbaaGreat
open Go Go.X Go.Rex
theorem member_ok' (w:World) (p:Nat) (s:ByteArray) (i:Nat) (h:PA w p s i false) (hi:i≤s.size) (hs:s.size≤40):Fx Tryz.prog 252 [pp p] w (fun u w'=>∃ (c j:Nat) (bad:Bool),u=.int .u8 (c:Int)∧c < 256∧j≤s.size∧PA w' p s j bad∧memS s i=(if bad then none else some (c,j))∧Mod (·=p) w w'):=by
 refine Fx.mono (member_ok w p s i h hi hs) ?_
 rintro u w' ⟨hr,hm⟩
 cases hmm:memS s i with
 | none=>
  rw [hmm] at hr
  obtain ⟨c,j,h1,h2,h3,h4⟩:=hr
  exact ⟨c,j,true,h2,h1,h4,h3,rfl,hm⟩
 | some q=>
  obtain ⟨c,j⟩:=q
  rw [hmm] at hr
  have:=memS_adv hmm
  exact ⟨c,j,false,hr.1,this.2.2,this.2.1,hr.2,rfl,hm⟩
def bodyS (s:ByteArray) (n i:Nat) (set:List Nat):Option (List Nat×Nat):=match memS s i with
 | none=>none
 | some (a,i1)=>match toS s a i1 with
  | none=>none
  | some (b,i2)=>if b < a then none else clsL s n i2 (addG set a b)
theorem body_go {s:ByteArray} {n i:Nat} {set:List Nat} (hi:i < s.size) (h93:b8 s i≠93):clsL s (n + 1) i set=bodyS s n i set:=by
 unfold bodyS
 rw [clsL,if_pos hi,if_neg h93]
 all_goals rfl
theorem body_first {s:ByteArray} {i:Nat}:(if i < s.size∧b8 s i=93 then none else clsL s (s.size + 1) i zero4)=bodyS s s.size i zero4:=by
 by_cases hi:i < s.size
 ·by_cases h93:b8 s i=93
  ·rw [if_pos ⟨hi,h93⟩]
   unfold bodyS memS
   rw [if_pos hi,if_neg (by omega),if_pos (.inl h93)]
  ·rw [if_neg (fun h=>h93 h.2),body_go hi h93]
 ·rw [if_neg (fun h=>hi h.1)]
  unfold bodyS memS
  rw [clsL,if_neg hi,if_neg hi]
theorem clsB_eq (s:ByteArray) (no:Bool) (i:Nat):clsB s no i=(bodyS s s.size i zero4).map fun q=>(if no then invS q.1 else q.1,q.2):=by
 rw [← body_first]
 unfold clsB
 split
 ·rfl
 ·cases clsL s (s.size + 1) i zero4 <;> rfl
structure ClsI (s:ByteArray) (T:Option (List Nat×Nat)) (first bad:Bool) (i:Nat) (set:List Nat):Prop where
 one:first=true→bad=false∧bodyS s s.size i set=T
 go:first=false→bad=false→∃ n,clsL s n i set=T∧s.size + 1≤n + i
 no:bad=true→first=false∧T=none
theorem ClsI.step {s:ByteArray} {T:Option (List Nat×Nat)} {m i:Nat} {set:List Nat} (h:bodyS s m i set=T) (hm:s.size≤m + i) {c j:Nat} {bad:Bool} (h1:memS s i=if bad then none else some (c,j)) {c2 j2:Nat} {bad2:Bool} (h2:bad=true→bad2=true) (h3:bad=false→toS s c j=if bad2 then none else some (c2,j2)):ClsI s T false (bad2 || decide (c2 < c)) j2 (addG set c c2):=by
 unfold bodyS at h
 cases bad with
 | true=>
  rw [h1] at h
  have hb:=h2 rfl
  subst hb
  exact ⟨by simp,by simp,fun _=>⟨rfl,h.symm⟩⟩
 | false=>
  have h4:=h3 rfl
  rw [h1] at h
  simp only [Bool.false_eq_true,if_false] at h
  have h5:=memS_adv h1
  rw [h4] at h
  cases bad2 with
  | true=>exact ⟨by simp,by simp,fun _=>⟨rfl,h.symm⟩⟩
  | false=>
   simp only [Bool.false_eq_true,if_false] at h h4
   have h6:=toS_adv h4 h5.2.1 h5.2.2
   by_cases hlt:c2 < c
   ·rw [if_pos hlt] at h
    exact ⟨by simp,by simp [hlt],fun _=>⟨rfl,h.symm⟩⟩
   ·rw [if_neg hlt] at h
    exact ⟨by simp,fun _ _=>⟨m,h,by omega⟩,by simp [hlt]⟩
theorem range_snoc (a d:Nat) (l:List Nat):(List.range' a (d + 1)).foldl setBit l=setBit ((List.range' a d).foldl setBit l) (a + d):=by
 rw [List.range'_1_concat,List.foldl_append];rfl
def partR (l:List Nat) (a d:Nat):List Nat:=(List.range' a d).foldl setBit l
theorem partR_w4 {l:List Nat} (h:W4 l) (a:Nat):∀ d,W4 (partR l a d)
 | 0=>h
 | d + 1=>by unfold partR;rw [range_snoc];exact (partR_w4 h a d).bit _
theorem class_ok (w:World) (p:Nat) (s:ByteArray) (i:Nat) (h:PA w p s i false) (hi:i≤s.size) (hs:s.size≤40):Fx Tryz.prog 247 [pp p] w (fun u w'=>∃ (l:List Nat) (j:Nat) (bad:Bool),u=.agg (wds l).toArray∧W4 l∧j≤s.size∧PA w' p s j bad∧clsS s i=(if bad then none else some (l,j))∧Mod (·=p) w w'):=by
 have hplt:=h.lt
 refine enter Tryz.func247 rfl rfl rfl _ (Pick.sub (l:=[0]) (.cons rfl .nil)) ?_
 refine GG ?_
 refine OP (Does.alloc i177) ?_
 rintro _ w1 ⟨b2,rfl,hn2⟩
 refine GG ?_
 refine OP (Does.alloc i177) ?_
 rintro _ w2 ⟨b3,rfl,hn3⟩
 have hg2:=hn2.grow.trans hn3.grow
 have hb2:=hn2.at_
 have hb3:=hn3.at_
 have hs2:=hn2.lt
 have hs3:=hn3.lt
 have hne:b2≠b3:=by omega
 have hB3:Blk w2 b3 177 (wds zero4):=hn3.blk
 refine GG ?_
 refine OP (Does.call rfl e218 (next_ok _ p s i false (h.mod hg2 (fun h=>h)) (by omega) 94)) ?_
 rintro _ w3 ⟨rfl,hP3,hm3⟩
 have hno:seesS s i false 94=notS s i:=by unfold seesS notS;simp
 rw [hno] at hP3 ⊢
 have hcl:clsS s i=clsB s (notS s i) (if notS s i then i + 1 else i):=rfl
 obtain ⟨i0,hi0⟩:∃ i0,(if notS s i then i + 1 else i)=i0:=⟨_,rfl⟩
 rw [hi0] at hP3 hcl
 have hi0s:i0≤s.size:=by unfold notS at hi0;by_cases e:i < s.size∧b8 s i=94 <;> simp [e] at hi0 <;> omega
 rw [clsB_eq] at hcl
 obtain ⟨no,hnoe⟩:∃ no,notS s i=no:=⟨_,rfl⟩
 rw [hnoe] at hcl ⊢
 obtain ⟨T,hT⟩:∃ T,bodyS s s.size i0 zero4=T:=⟨_,rfl⟩
 rw [hT] at hcl
 have hms3:=hm3.size
 refine GG ?_
 refine RK.loop (fun t:Bool×Bool×Nat×List Nat=>[(0,pp p),(2,pp b2),(3,pp b3),(4,.bool no),(5,.bool t.1)]) (fun t w'=>PA w' p s t.2.2.1 t.2.1∧Blk w' b3 177 (wds t.2.2.2)∧W4 t.2.2.2∧t.2.2.1≤s.size∧ClsI s T t.1 t.2.1 t.2.2.1 t.2.2.2∧Mod (fun b=>b=p∨b=b3) w2 w') (fun t=>if t.2.1 then 0 else s.size + 1 - t.2.2.1) (true,false,i0,zero4) ⟨rfl,rfl,rfl,rfl,rfl,trivial⟩ ⟨hP3,hB3.mod hm3 (by omega),W4.zero,hi0s,⟨fun _=>⟨rfl,hT⟩,by simp,by simp⟩,hm3.mono fun b _ e=>.inl e⟩ (fun t w4 hI ih=>?_)
 obtain ⟨first,bad,k,set⟩:=t
 obtain ⟨hP,hB,hW,hk,hC,hm⟩:=hI
 simp only at hP hB hW hk hC
 refine GG ?_
 refine SP 12 (fun h12=>?_) (fun h12=>?_)
 ·have h12' : first=true:=h12
  subst h12'
  obtain ⟨hbad,hbody⟩:=hC.one rfl
  subst hbad
  have hmk:s.size≤s.size + k:=by omega
  iterate 8 refine RL.no (.no rfl rfl rfl rfl) rfl rfl ?_
  refine GG ?_
  refine RK.condT rfl ?_
  refine GG ?_
  refine OP (Does.call rfl e252 (member_ok' _ p s k hP hk hs)) ?_
  rintro _ w7 ⟨c,j,bd,rfl,hc,hj,hP7,hmem,hm7⟩
  have hB7:=Blk.mod hB hm7 (by omega)
  have hM7:=Mod.trans hm (hm7.mono fun b _ e=>.inl e)
  refine GG ?_
  refine OP (Does.call rfl e218 (next_ok _ p s j bd hP7 (by omega) 45)) ?_
  rintro _ w8 ⟨rfl,hP8,hm8⟩
  have hB8:=hB7.mod hm8 (by omega)
  have hM8:=Mod.trans hM7 (hm8.mono fun b _ e=>.inl e)
  refine RL.done ?_
  refine CD (fun h26=>?_) (fun h26=>?_)
  ·have h9:bd=false∧j < s.size∧b8 s j=45:=by simpa [seesS] using h26
   obtain ⟨hbd,hjs,hj45⟩:=h9
   subst hbd
   rw [h26] at hP8
   refine GG ?_
   refine OP (Does.call rfl e252 (member_ok' _ p s (j + 1) hP8 (by omega) hs)) ?_
   rintro _ w9 ⟨c2,j2,bd2,rfl,hc2,hj2,hP9,hmem2,hm9⟩
   have hB9:=hB8.mod hm9 (by omega)
   have hM9:=Mod.trans hM8 (hm9.mono fun b _ e=>.inl e)
   have hC9:=ClsI.step (c2:=c2) (j2:=j2) (bad2:=bd2) hbody hmk hmem (fun h=>by cases h) (fun _=>by unfold toS;rw [if_pos ⟨hjs,hj45⟩];exact hmem2)
   have hadv:(bd2 || decide (c2 < c))=false→k < j2:=fun h=>by
     have e:bd2=false:=by cases bd2 with | false=>rfl | true=>simp at h
     subst e
     have:=memS_adv hmem;have:=memS_adv hmem2;omega
   refine GG ?_
   refine QQ (Yld.fieldAddr fo246_2 rfl) ?_
   refine QQ (Yld.load p4 rfl (at1 (hP9.cell rfl))) ?_
   refine RL.p rfl rfl ?_
   refine SP 34 (fun h34=>?_) (fun h34=>?_)
   ·have hbt:(bd2 || decide (c2 < c))=true:=by rw [h34];rfl
    iterate 3 refine RL.no (.no rfl rfl rfl rfl) rfl rfl ?_
    refine GG ?_
    refine QQ (Yld.fieldAddr fo246_2 rfl) ?_
    refine OQ (Does.store i4 rfl rfl rfl hP9 (.s (.s .z))) ?_
    rintro _ w10 ⟨hP10',hm10,_⟩
    have hP10:PA w10 p s j2 (bd2 || decide (c2 < c)):=by rw [hbt];exact hP10'
    have hB10:=Blk.mod hB9 hm10 (by omega)
    have hM10:=Mod.trans hM9 (hm10.mono fun b _ e=>.inl e)
    refine GG ?_
    refine QQ (Yld.convI Tryz.underlying5 Tryz.underlying3 rfl) ?_
    refine RL.re (d:=42) rfl rfl (congrArg (Value.int .i64) (wrap_i64 (by omega) (by omega))) ?_
    refine GG ?_
    refine RK.loop (fun d:Nat=>[(0,pp p),(2,pp b2),(3,pp b3),(4,.bool no),(7,.int .u8 (c2:Int)),(8,.int .i64 ((c + d:Nat):Int))]) (fun d w'=>Blk w' b3 177 (wds (partR set c d))∧Mod (·=b3) w10 w'∧d≤c2 + 1 - c) (fun d=>c2 + 1 - c - d) 0 ⟨rfl,rfl,rfl,rfl,rfl,rfl,trivial⟩ ⟨hB10,Mod.refl _ _,by omega⟩ (fun d w11 hI2 ih2=>?_)
    obtain ⟨hB11,hm11,hd⟩:=hI2
    refine GG ?_
    refine QQ (Yld.convI Tryz.underlying5 Tryz.underlying3 rfl) ?_
    refine RL.re (d:=45) rfl rfl (congrArg (Value.int .i64) (wrap_i64 (by omega) (by omega))) ?_
    refine GG ?_
    refine CD (fun h46=>?_) (fun h46=>?_)
    ·refine GG ?_
     refine QQ (Yld.convI Tryz.underlying3 Tryz.underlying5 rfl) ?_
     refine RL.re (d:=50) rfl rfl (congrArg (Value.int .u8) (Go.X.wrap_u8 (x:=c + d) (by omega))) ?_
     refine OP (Does.call rfl e249 (add_set _ b3 (partR set c d) hB11 (partR_w4 hW c d) (c + d) (by omega))) ?_
     rintro _ w12 ⟨rfl,hB12,hm12⟩
     refine RL.done ?_
     refine RK.inBlock ?_
     refine RK.region ?_
     iterate 2 refine RL.p rfl rfl ?_
     refine RL.re (d:=48) rfl rfl (succ_i64 (by omega)) ?_
     refine GG ?_
     exact RK.back (ih2 (d + 1) _ ⟨by unfold partR;rw [range_snoc];exact hB12,hm11.trans hm12,by omega⟩ (by omega)) ⟨rfl,rfl,rfl,rfl,rfl,rfl,trivial⟩
    ·have hde:d=c2 + 1 - c:=by omega
     have hBe:Blk w11 b3 177 (wds (addG set c c2)):=by rw [hde] at hB11;exact hB11
     refine RK.exit rfl ?_
     refine GG ?_
     exact RK.back (ih (false,(bd2 || decide (c2 < c)),j2,addG set c c2) _ ⟨hP10.mod hm11 (by omega),hBe,hW.add _ _,hj2,hC9,hM10.trans (hm11.mono fun b _ e=>.inr e)⟩ (by
      simp only [Bool.false_eq_true,if_false]
      split
      ·omega
      ·rename_i hb9
       have:=hadv (by simpa using hb9);omega)) ⟨rfl,rfl,rfl,rfl,rfl,trivial⟩
   ·have hbt:(bd2 || decide (c2 < c))=decide ((c2:Int) < (c:Int)):=by rw [h34];simp
    iterate 3 refine QQ (Yld.pure rfl) ?_
    refine GG ?_
    refine QQ (Yld.fieldAddr fo246_2 rfl) ?_
    refine OQ (Does.store i4 rfl rfl rfl hP9 (.s (.s .z))) ?_
    rintro _ w10 ⟨hP10',hm10,_⟩
    have hP10:PA w10 p s j2 (bd2 || decide (c2 < c)):=by rw [hbt];exact hP10'
    have hB10:=Blk.mod hB9 hm10 (by omega)
    have hM10:=Mod.trans hM9 (hm10.mono fun b _ e=>.inl e)
    refine GG ?_
    refine QQ (Yld.convI Tryz.underlying5 Tryz.underlying3 rfl) ?_
    refine RL.re (d:=42) rfl rfl (congrArg (Value.int .i64) (wrap_i64 (by omega) (by omega))) ?_
    refine GG ?_
    refine RK.loop (fun d:Nat=>[(0,pp p),(2,pp b2),(3,pp b3),(4,.bool no),(7,.int .u8 (c2:Int)),(8,.int .i64 ((c + d:Nat):Int))]) (fun d w'=>Blk w' b3 177 (wds (partR set c d))∧Mod (·=b3) w10 w'∧d≤c2 + 1 - c) (fun d=>c2 + 1 - c - d) 0 ⟨rfl,rfl,rfl,rfl,rfl,rfl,trivial⟩ ⟨hB10,Mod.refl _ _,by omega⟩ (fun d w11 hI2 ih2=>?_)
    obtain ⟨hB11,hm11,hd⟩:=hI2
    refine GG ?_
    refine QQ (Yld.convI Tryz.underlying5 Tryz.underlying3 rfl) ?_
    refine RL.re (d:=45) rfl rfl (congrArg (Value.int .i64) (wrap_i64 (by omega) (by omega))) ?_
    refine GG ?_
    refine CD (fun h46=>?_) (fun h46=>?_)
    ·refine GG ?_
     refine QQ (Yld.convI Tryz.underlying3 Tryz.underlying5 rfl) ?_
     refine RL.re (d:=50) rfl rfl (congrArg (Value.int .u8) (Go.X.wrap_u8 (x:=c + d) (by omega))) ?_
     refine OP (Does.call rfl e249 (add_set _ b3 (partR set c d) hB11 (partR_w4 hW c d) (c + d) (by omega))) ?_
     rintro _ w12 ⟨rfl,hB12,hm12⟩
     refine RL.done ?_
     refine RK.inBlock ?_
     refine RK.region ?_
     iterate 2 refine RL.p rfl rfl ?_
     refine RL.re (d:=48) rfl rfl (succ_i64 (by omega)) ?_
     refine GG ?_
     exact RK.back (ih2 (d + 1) _ ⟨by unfold partR;rw [range_snoc];exact hB12,hm11.trans hm12,by omega⟩ (by omega)) ⟨rfl,rfl,rfl,rfl,rfl,rfl,trivial⟩
    ·have hde:d=c2 + 1 - c:=by omega
     have hBe:Blk w11 b3 177 (wds (addG set c c2)):=by rw [hde] at hB11;exact hB11
     refine RK.exit rfl ?_
     refine GG ?_
     exact RK.back (ih (false,(bd2 || decide (c2 < c)),j2,addG set c c2) _ ⟨hP10.mod hm11 (by omega),hBe,hW.add _ _,hj2,hC9,hM10.trans (hm11.mono fun b _ e=>.inr e)⟩ (by
      simp only [Bool.false_eq_true,if_false]
      split
      ·omega
      ·rename_i hb9
       have:=hadv (by simpa using hb9);omega)) ⟨rfl,rfl,rfl,rfl,rfl,trivial⟩
  ·have h26' : seesS s j bd 45=false:=by simpa using h26
   rw [h26'] at hP8
   have hC9:=ClsI.step (c2:=c) (j2:=j) (bad2:=bd) hbody hmk hmem (fun h=>h) (fun hb=>by unfold toS;rw [if_neg (fun h=>by simp [seesS,hb,h] at h26'),hb];rfl)
   have hadv:(bd || decide (c < c))=false→k < j:=fun h=>by
     have e:bd=false:=by cases bd with | false=>rfl | true=>simp at h
     subst e
     have:=memS_adv hmem;omega
   have hP8' : PA w8 p s j bd:=hP8
   refine GG ?_
   refine QQ (Yld.fieldAddr fo246_2 rfl) ?_
   refine QQ (Yld.load p4 rfl (at1 (hP8'.cell rfl))) ?_
   refine RL.p rfl rfl ?_
   refine SP 34 (fun h34=>?_) (fun h34=>?_)
   ·have hbt:(bd || decide (c < c))=true:=by rw [h34];rfl
    iterate 3 refine RL.no (.no rfl rfl rfl rfl) rfl rfl ?_
    refine GG ?_
    refine QQ (Yld.fieldAddr fo246_2 rfl) ?_
    refine OQ (Does.store i4 rfl rfl rfl hP8' (.s (.s .z))) ?_
    rintro _ w10 ⟨hP10',hm10,_⟩
    have hP10:PA w10 p s j (bd || decide (c < c)):=by rw [hbt];exact hP10'
    have hB10:=Blk.mod hB8 hm10 (by omega)
    have hM10:=Mod.trans hM8 (hm10.mono fun b _ e=>.inl e)
    refine GG ?_
    refine QQ (Yld.convI Tryz.underlying5 Tryz.underlying3 rfl) ?_
    refine RL.re (d:=42) rfl rfl (congrArg (Value.int .i64) (wrap_i64 (by omega) (by omega))) ?_
    refine GG ?_
    refine RK.loop (fun d:Nat=>[(0,pp p),(2,pp b2),(3,pp b3),(4,.bool no),(7,.int .u8 (c:Int)),(8,.int .i64 ((c + d:Nat):Int))]) (fun d w'=>Blk w' b3 177 (wds (partR set c d))∧Mod (·=b3) w10 w'∧d≤c + 1 - c) (fun d=>c + 1 - c - d) 0 ⟨rfl,rfl,rfl,rfl,rfl,rfl,trivial⟩ ⟨hB10,Mod.refl _ _,by omega⟩ (fun d w11 hI2 ih2=>?_)
    obtain ⟨hB11,hm11,hd⟩:=hI2
    refine GG ?_
    refine QQ (Yld.convI Tryz.underlying5 Tryz.underlying3 rfl) ?_
    refine RL.re (d:=45) rfl rfl (congrArg (Value.int .i64) (wrap_i64 (by omega) (by omega))) ?_
    refine GG ?_
    refine CD (fun h46=>?_) (fun h46=>?_)
    ·refine GG ?_
     refine QQ (Yld.convI Tryz.underlying3 Tryz.underlying5 rfl) ?_
     refine RL.re (d:=50) rfl rfl (congrArg (Value.int .u8) (Go.X.wrap_u8 (x:=c + d) (by omega))) ?_
     refine OP (Does.call rfl e249 (add_set _ b3 (partR set c d) hB11 (partR_w4 hW c d) (c + d) (by omega))) ?_
     rintro _ w12 ⟨rfl,hB12,hm12⟩
     refine RL.done ?_
     refine RK.inBlock ?_
     refine RK.region ?_
     iterate 2 refine RL.p rfl rfl ?_
     refine RL.re (d:=48) rfl rfl (succ_i64 (by omega)) ?_
     refine GG ?_
     exact RK.back (ih2 (d + 1) _ ⟨by unfold partR;rw [range_snoc];exact hB12,hm11.trans hm12,by omega⟩ (by omega)) ⟨rfl,rfl,rfl,rfl,rfl,rfl,trivial⟩
    ·have hde:d=c + 1 - c:=by omega
     have hBe:Blk w11 b3 177 (wds (addG set c c)):=by rw [hde] at hB11;exact hB11
     refine RK.exit rfl ?_
     refine GG ?_
     exact RK.back (ih (false,(bd || decide (c < c)),j,addG set c c) _ ⟨hP10.mod hm11 (by omega),hBe,hW.add _ _,hj,hC9,hM10.trans (hm11.mono fun b _ e=>.inr e)⟩ (by
      simp only [Bool.false_eq_true,if_false]
      split
      ·omega
      ·rename_i hb9
       have:=hadv (by simpa using hb9);omega)) ⟨rfl,rfl,rfl,rfl,rfl,trivial⟩
   ·have hbt:(bd || decide (c < c))=decide ((c:Int) < (c:Int)):=by rw [h34];simp
    iterate 3 refine QQ (Yld.pure rfl) ?_
    refine GG ?_
    refine QQ (Yld.fieldAddr fo246_2 rfl) ?_
    refine OQ (Does.store i4 rfl rfl rfl hP8' (.s (.s .z))) ?_
    rintro _ w10 ⟨hP10',hm10,_⟩
    have hP10:PA w10 p s j (bd || decide (c < c)):=by rw [hbt];exact hP10'
    have hB10:=Blk.mod hB8 hm10 (by omega)
    have hM10:=Mod.trans hM8 (hm10.mono fun b _ e=>.inl e)
    refine GG ?_
    refine QQ (Yld.convI Tryz.underlying5 Tryz.underlying3 rfl) ?_
    refine RL.re (d:=42) rfl rfl (congrArg (Value.int .i64) (wrap_i64 (by omega) (by omega))) ?_
    refine GG ?_
    refine RK.loop (fun d:Nat=>[(0,pp p),(2,pp b2),(3,pp b3),(4,.bool no),(7,.int .u8 (c:Int)),(8,.int .i64 ((c + d:Nat):Int))]) (fun d w'=>Blk w' b3 177 (wds (partR set c d))∧Mod (·=b3) w10 w'∧d≤c + 1 - c) (fun d=>c + 1 - c - d) 0 ⟨rfl,rfl,rfl,rfl,rfl,rfl,trivial⟩ ⟨hB10,Mod.refl _ _,by omega⟩ (fun d w11 hI2 ih2=>?_)
    obtain ⟨hB11,hm11,hd⟩:=hI2
    refine GG ?_
    refine QQ (Yld.convI Tryz.underlying5 Tryz.underlying3 rfl) ?_
    refine RL.re (d:=45) rfl rfl (congrArg (Value.int .i64) (wrap_i64 (by omega) (by omega))) ?_
    refine GG ?_
    refine CD (fun h46=>?_) (fun h46=>?_)
    ·refine GG ?_
     refine QQ (Yld.convI Tryz.underlying3 Tryz.underlying5 rfl) ?_
     refine RL.re (d:=50) rfl rfl (congrArg (Value.int .u8) (Go.X.wrap_u8 (x:=c + d) (by omega))) ?_
     refine OP (Does.call rfl e249 (add_set _ b3 (partR set c d) hB11 (partR_w4 hW c d) (c + d) (by omega))) ?_
     rintro _ w12 ⟨rfl,hB12,hm12⟩
     refine RL.done ?_
     refine RK.inBlock ?_
     refine RK.region ?_
     iterate 2 refine RL.p rfl rfl ?_
     refine RL.re (d:=48) rfl rfl (succ_i64 (by omega)) ?_
     refine GG ?_
     exact RK.back (ih2 (d + 1) _ ⟨by unfold partR;rw [range_snoc];exact hB12,hm11.trans hm12,by omega⟩ (by omega)) ⟨rfl,rfl,rfl,rfl,rfl,rfl,trivial⟩
    ·have hde:d=c + 1 - c:=by omega
     have hBe:Blk w11 b3 177 (wds (addG set c c)):=by rw [hde] at hB11;exact hB11
     refine RK.exit rfl ?_
     refine GG ?_
     exact RK.back (ih (false,(bd || decide (c < c)),j,addG set c c) _ ⟨hP10.mod hm11 (by omega),hBe,hW.add _ _,hj,hC9,hM10.trans (hm11.mono fun b _ e=>.inr e)⟩ (by
      simp only [Bool.false_eq_true,if_false]
      split
      ·omega
      ·rename_i hb9
       have:=hadv (by simpa using hb9);omega)) ⟨rfl,rfl,rfl,rfl,rfl,trivial⟩
 ·have h12' : first=false:=h12
  subst h12'
  refine QQ (Yld.pure rfl) ?_
  refine OP (Does.call rfl e233 (over_ok _ p s k bad hP)) ?_
  rintro _ w5 ⟨rfl,hg5⟩
  have hPo:=hP.mod hg5 (fun h=>h)
  have hBo:=hB.mod hg5 (fun h=>h)
  have hmo:Mod (fun b=>b=p∨b=b3) w2 w5:=hm.trans (Mod.any' hg5)
  iterate 2 refine QQ (Yld.pure rfl) ?_
  refine SP 16 (fun h16=>?_) (fun h16=>?_)
  ·have h16' : bad=false∧k < s.size:=by simpa using h16
   obtain ⟨hbad,hks⟩:=h16'
   subst hbad
   refine QQ (Yld.pure rfl) ?_
   refine OP (Does.call rfl e234 (sees_ok _ p s k false hPo 93)) ?_
   rintro _ w6 ⟨rfl,hg6⟩
   have hPe:=hPo.mod hg6 (fun h=>h)
   have hBe:=hBo.mod hg6 (fun h=>h)
   have hme:Mod (fun b=>b=p∨b=b3) w2 w6:=hmo.trans (Mod.any' hg6)
   obtain ⟨n,hn,hnk⟩:=hC.go rfl rfl
   iterate 2 refine QQ (Yld.pure rfl) ?_
   refine GG ?_
   refine CD (fun h21=>?_) (fun h21=>?_)
   ·have h93:b8 s k≠93:=by simpa [seesS,hks] using h21
    obtain ⟨m,rfl⟩:∃ m,n=m + 1:=⟨n - 1,by omega⟩
    have hbody:=(body_go hks h93).symm.trans hn
    have hmk:s.size≤m + k:=by omega
    refine GG ?_
    refine OP (Does.call rfl e252 (member_ok' _ p s k hPe hk hs)) ?_
    rintro _ w7 ⟨c,j,bd,rfl,hc,hj,hP7,hmem,hm7⟩
    have hB7:=Blk.mod hBe hm7 (by omega)
    have hM7:=Mod.trans hme (hm7.mono fun b _ e=>.inl e)
    refine GG ?_
    refine OP (Does.call rfl e218 (next_ok _ p s j bd hP7 (by omega) 45)) ?_
    rintro _ w8 ⟨rfl,hP8,hm8⟩
    have hB8:=hB7.mod hm8 (by omega)
    have hM8:=Mod.trans hM7 (hm8.mono fun b _ e=>.inl e)
    refine RL.done ?_
    refine CD (fun h26=>?_) (fun h26=>?_)
    ·have h9:bd=false∧j < s.size∧b8 s j=45:=by simpa [seesS] using h26
     obtain ⟨hbd,hjs,hj45⟩:=h9
     subst hbd
     rw [h26] at hP8
     refine GG ?_
     refine OP (Does.call rfl e252 (member_ok' _ p s (j + 1) hP8 (by omega) hs)) ?_
     rintro _ w9 ⟨c2,j2,bd2,rfl,hc2,hj2,hP9,hmem2,hm9⟩
     have hB9:=hB8.mod hm9 (by omega)
     have hM9:=Mod.trans hM8 (hm9.mono fun b _ e=>.inl e)
     have hC9:=ClsI.step (c2:=c2) (j2:=j2) (bad2:=bd2) hbody hmk hmem (fun h=>by cases h) (fun _=>by unfold toS;rw [if_pos ⟨hjs,hj45⟩];exact hmem2)
     have hadv:(bd2 || decide (c2 < c))=false→k < j2:=fun h=>by
       have e:bd2=false:=by cases bd2 with | false=>rfl | true=>simp at h
       subst e
       have:=memS_adv hmem;have:=memS_adv hmem2;omega
     refine GG ?_
     refine QQ (Yld.fieldAddr fo246_2 rfl) ?_
     refine QQ (Yld.load p4 rfl (at1 (hP9.cell rfl))) ?_
     refine RL.p rfl rfl ?_
     refine SP 34 (fun h34=>?_) (fun h34=>?_)
     ·have hbt:(bd2 || decide (c2 < c))=true:=by rw [h34];rfl
      iterate 3 refine RL.no (.no rfl rfl rfl rfl) rfl rfl ?_
      refine GG ?_
      refine QQ (Yld.fieldAddr fo246_2 rfl) ?_
      refine OQ (Does.store i4 rfl rfl rfl hP9 (.s (.s .z))) ?_
      rintro _ w10 ⟨hP10',hm10,_⟩
      have hP10:PA w10 p s j2 (bd2 || decide (c2 < c)):=by rw [hbt];exact hP10'
      have hB10:=Blk.mod hB9 hm10 (by omega)
      have hM10:=Mod.trans hM9 (hm10.mono fun b _ e=>.inl e)
      refine GG ?_
      refine QQ (Yld.convI Tryz.underlying5 Tryz.underlying3 rfl) ?_
      refine RL.re (d:=42) rfl rfl (congrArg (Value.int .i64) (wrap_i64 (by omega) (by omega))) ?_
      refine GG ?_
      refine RK.loop (fun d:Nat=>[(0,pp p),(2,pp b2),(3,pp b3),(4,.bool no),(7,.int .u8 (c2:Int)),(8,.int .i64 ((c + d:Nat):Int))]) (fun d w'=>Blk w' b3 177 (wds (partR set c d))∧Mod (·=b3) w10 w'∧d≤c2 + 1 - c) (fun d=>c2 + 1 - c - d) 0 ⟨rfl,rfl,rfl,rfl,rfl,rfl,trivial⟩ ⟨hB10,Mod.refl _ _,by omega⟩ (fun d w11 hI2 ih2=>?_)
      obtain ⟨hB11,hm11,hd⟩:=hI2
      refine GG ?_
      refine QQ (Yld.convI Tryz.underlying5 Tryz.underlying3 rfl) ?_
      refine RL.re (d:=45) rfl rfl (congrArg (Value.int .i64) (wrap_i64 (by omega) (by omega))) ?_
      refine GG ?_
      refine CD (fun h46=>?_) (fun h46=>?_)
      ·refine GG ?_
       refine QQ (Yld.convI Tryz.underlying3 Tryz.underlying5 rfl) ?_
       refine RL.re (d:=50) rfl rfl (congrArg (Value.int .u8) (Go.X.wrap_u8 (x:=c + d) (by omega))) ?_
       refine OP (Does.call rfl e249 (add_set _ b3 (partR set c d) hB11 (partR_w4 hW c d) (c + d) (by omega))) ?_
       rintro _ w12 ⟨rfl,hB12,hm12⟩
       refine RL.done ?_
       refine RK.inBlock ?_
       refine RK.region ?_
       iterate 2 refine RL.p rfl rfl ?_
       refine RL.re (d:=48) rfl rfl (succ_i64 (by omega)) ?_
       refine GG ?_
       exact RK.back (ih2 (d + 1) _ ⟨by unfold partR;rw [range_snoc];exact hB12,hm11.trans hm12,by omega⟩ (by omega)) ⟨rfl,rfl,rfl,rfl,rfl,rfl,trivial⟩
      ·have hde:d=c2 + 1 - c:=by omega
       have hBe:Blk w11 b3 177 (wds (addG set c c2)):=by rw [hde] at hB11;exact hB11
       refine RK.exit rfl ?_
       refine GG ?_
       exact RK.back (ih (false,(bd2 || decide (c2 < c)),j2,addG set c c2) _ ⟨hP10.mod hm11 (by omega),hBe,hW.add _ _,hj2,hC9,hM10.trans (hm11.mono fun b _ e=>.inr e)⟩ (by
        simp only [Bool.false_eq_true,if_false]
        split
        ·omega
        ·rename_i hb9
         have:=hadv (by simpa using hb9);omega)) ⟨rfl,rfl,rfl,rfl,rfl,trivial⟩
     ·have hbt:(bd2 || decide (c2 < c))=decide ((c2:Int) < (c:Int)):=by rw [h34];simp
      iterate 3 refine QQ (Yld.pure rfl) ?_
      refine GG ?_
      refine QQ (Yld.fieldAddr fo246_2 rfl) ?_
      refine OQ (Does.store i4 rfl rfl rfl hP9 (.s (.s .z))) ?_
      rintro _ w10 ⟨hP10',hm10,_⟩
      have hP10:PA w10 p s j2 (bd2 || decide (c2 < c)):=by rw [hbt];exact hP10'
      have hB10:=Blk.mod hB9 hm10 (by omega)
      have hM10:=Mod.trans hM9 (hm10.mono fun b _ e=>.inl e)
      refine GG ?_
      refine QQ (Yld.convI Tryz.underlying5 Tryz.underlying3 rfl) ?_
      refine RL.re (d:=42) rfl rfl (congrArg (Value.int .i64) (wrap_i64 (by omega) (by omega))) ?_
      refine GG ?_
      refine RK.loop (fun d:Nat=>[(0,pp p),(2,pp b2),(3,pp b3),(4,.bool no),(7,.int .u8 (c2:Int)),(8,.int .i64 ((c + d:Nat):Int))]) (fun d w'=>Blk w' b3 177 (wds (partR set c d))∧Mod (·=b3) w10 w'∧d≤c2 + 1 - c) (fun d=>c2 + 1 - c - d) 0 ⟨rfl,rfl,rfl,rfl,rfl,rfl,trivial⟩ ⟨hB10,Mod.refl _ _,by omega⟩ (fun d w11 hI2 ih2=>?_)
      obtain ⟨hB11,hm11,hd⟩:=hI2
      refine GG ?_
      refine QQ (Yld.convI Tryz.underlying5 Tryz.underlying3 rfl) ?_
      refine RL.re (d:=45) rfl rfl (congrArg (Value.int .i64) (wrap_i64 (by omega) (by omega))) ?_
      refine GG ?_
      refine CD (fun h46=>?_) (fun h46=>?_)
      ·refine GG ?_
       refine QQ (Yld.convI Tryz.underlying3 Tryz.underlying5 rfl) ?_
       refine RL.re (d:=50) rfl rfl (congrArg (Value.int .u8) (Go.X.wrap_u8 (x:=c + d) (by omega))) ?_
       refine OP (Does.call rfl e249 (add_set _ b3 (partR set c d) hB11 (partR_w4 hW c d) (c + d) (by omega))) ?_
       rintro _ w12 ⟨rfl,hB12,hm12⟩
       refine RL.done ?_
       refine RK.inBlock ?_
       refine RK.region ?_
       iterate 2 refine RL.p rfl rfl ?_
       refine RL.re (d:=48) rfl rfl (succ_i64 (by omega)) ?_
       refine GG ?_
       exact RK.back (ih2 (d + 1) _ ⟨by unfold partR;rw [range_snoc];exact hB12,hm11.trans hm12,by omega⟩ (by omega)) ⟨rfl,rfl,rfl,rfl,rfl,rfl,trivial⟩
      ·have hde:d=c2 + 1 - c:=by omega
       have hBe:Blk w11 b3 177 (wds (addG set c c2)):=by rw [hde] at hB11;exact hB11
       refine RK.exit rfl ?_
       refine GG ?_
       exact RK.back (ih (false,(bd2 || decide (c2 < c)),j2,addG set c c2) _ ⟨hP10.mod hm11 (by omega),hBe,hW.add _ _,hj2,hC9,hM10.trans (hm11.mono fun b _ e=>.inr e)⟩ (by
        simp only [Bool.false_eq_true,if_false]
        split
        ·omega
        ·rename_i hb9
         have:=hadv (by simpa using hb9);omega)) ⟨rfl,rfl,rfl,rfl,rfl,trivial⟩
    ·have h26' : seesS s j bd 45=false:=by simpa using h26
     rw [h26'] at hP8
     have hC9:=ClsI.step (c2:=c) (j2:=j) (bad2:=bd) hbody hmk hmem (fun h=>h) (fun hb=>by unfold toS;rw [if_neg (fun h=>by simp [seesS,hb,h] at h26'),hb];rfl)
     have hadv:(bd || decide (c < c))=false→k < j:=fun h=>by
       have e:bd=false:=by cases bd with | false=>rfl | true=>simp at h
       subst e
       have:=memS_adv hmem;omega
     have hP8' : PA w8 p s j bd:=hP8
     refine GG ?_
     refine QQ (Yld.fieldAddr fo246_2 rfl) ?_
     refine QQ (Yld.load p4 rfl (at1 (hP8'.cell rfl))) ?_
     refine RL.p rfl rfl ?_
     refine SP 34 (fun h34=>?_) (fun h34=>?_)
     ·have hbt:(bd || decide (c < c))=true:=by rw [h34];rfl
      iterate 3 refine RL.no (.no rfl rfl rfl rfl) rfl rfl ?_
      refine GG ?_
      refine QQ (Yld.fieldAddr fo246_2 rfl) ?_
      refine OQ (Does.store i4 rfl rfl rfl hP8' (.s (.s .z))) ?_
      rintro _ w10 ⟨hP10',hm10,_⟩
      have hP10:PA w10 p s j (bd || decide (c < c)):=by rw [hbt];exact hP10'
      have hB10:=Blk.mod hB8 hm10 (by omega)
      have hM10:=Mod.trans hM8 (hm10.mono fun b _ e=>.inl e)
      refine GG ?_
      refine QQ (Yld.convI Tryz.underlying5 Tryz.underlying3 rfl) ?_
      refine RL.re (d:=42) rfl rfl (congrArg (Value.int .i64) (wrap_i64 (by omega) (by omega))) ?_
      refine GG ?_
      refine RK.loop (fun d:Nat=>[(0,pp p),(2,pp b2),(3,pp b3),(4,.bool no),(7,.int .u8 (c:Int)),(8,.int .i64 ((c + d:Nat):Int))]) (fun d w'=>Blk w' b3 177 (wds (partR set c d))∧Mod (·=b3) w10 w'∧d≤c + 1 - c) (fun d=>c + 1 - c - d) 0 ⟨rfl,rfl,rfl,rfl,rfl,rfl,trivial⟩ ⟨hB10,Mod.refl _ _,by omega⟩ (fun d w11 hI2 ih2=>?_)
      obtain ⟨hB11,hm11,hd⟩:=hI2
      refine GG ?_
      refine QQ (Yld.convI Tryz.underlying5 Tryz.underlying3 rfl) ?_
      refine RL.re (d:=45) rfl rfl (congrArg (Value.int .i64) (wrap_i64 (by omega) (by omega))) ?_
      refine GG ?_
      refine CD (fun h46=>?_) (fun h46=>?_)
      ·refine GG ?_
       refine QQ (Yld.convI Tryz.underlying3 Tryz.underlying5 rfl) ?_
       refine RL.re (d:=50) rfl rfl (congrArg (Value.int .u8) (Go.X.wrap_u8 (x:=c + d) (by omega))) ?_
       refine OP (Does.call rfl e249 (add_set _ b3 (partR set c d) hB11 (partR_w4 hW c d) (c + d) (by omega))) ?_
       rintro _ w12 ⟨rfl,hB12,hm12⟩
       refine RL.done ?_
       refine RK.inBlock ?_
       refine RK.region ?_
       iterate 2 refine RL.p rfl rfl ?_
       refine RL.re (d:=48) rfl rfl (succ_i64 (by omega)) ?_
       refine GG ?_
       exact RK.back (ih2 (d + 1) _ ⟨by unfold partR;rw [range_snoc];exact hB12,hm11.trans hm12,by omega⟩ (by omega)) ⟨rfl,rfl,rfl,rfl,rfl,rfl,trivial⟩
      ·have hde:d=c + 1 - c:=by omega
       have hBe:Blk w11 b3 177 (wds (addG set c c)):=by rw [hde] at hB11;exact hB11
       refine RK.exit rfl ?_
       refine GG ?_
       exact RK.back (ih (false,(bd || decide (c < c)),j,addG set c c) _ ⟨hP10.mod hm11 (by omega),hBe,hW.add _ _,hj,hC9,hM10.trans (hm11.mono fun b _ e=>.inr e)⟩ (by
        simp only [Bool.false_eq_true,if_false]
        split
        ·omega
        ·rename_i hb9
         have:=hadv (by simpa using hb9);omega)) ⟨rfl,rfl,rfl,rfl,rfl,trivial⟩
     ·have hbt:(bd || decide (c < c))=decide ((c:Int) < (c:Int)):=by rw [h34];simp
      iterate 3 refine QQ (Yld.pure rfl) ?_
      refine GG ?_
      refine QQ (Yld.fieldAddr fo246_2 rfl) ?_
      refine OQ (Does.store i4 rfl rfl rfl hP8' (.s (.s .z))) ?_
      rintro _ w10 ⟨hP10',hm10,_⟩
      have hP10:PA w10 p s j (bd || decide (c < c)):=by rw [hbt];exact hP10'
      have hB10:=Blk.mod hB8 hm10 (by omega)
      have hM10:=Mod.trans hM8 (hm10.mono fun b _ e=>.inl e)
      refine GG ?_
      refine QQ (Yld.convI Tryz.underlying5 Tryz.underlying3 rfl) ?_
      refine RL.re (d:=42) rfl rfl (congrArg (Value.int .i64) (wrap_i64 (by omega) (by omega))) ?_
      refine GG ?_
      refine RK.loop (fun d:Nat=>[(0,pp p),(2,pp b2),(3,pp b3),(4,.bool no),(7,.int .u8 (c:Int)),(8,.int .i64 ((c + d:Nat):Int))]) (fun d w'=>Blk w' b3 177 (wds (partR set c d))∧Mod (·=b3) w10 w'∧d≤c + 1 - c) (fun d=>c + 1 - c - d) 0 ⟨rfl,rfl,rfl,rfl,rfl,rfl,trivial⟩ ⟨hB10,Mod.refl _ _,by omega⟩ (fun d w11 hI2 ih2=>?_)
      obtain ⟨hB11,hm11,hd⟩:=hI2
      refine GG ?_
      refine QQ (Yld.convI Tryz.underlying5 Tryz.underlying3 rfl) ?_
      refine RL.re (d:=45) rfl rfl (congrArg (Value.int .i64) (wrap_i64 (by omega) (by omega))) ?_
      refine GG ?_
      refine CD (fun h46=>?_) (fun h46=>?_)
      ·refine GG ?_
       refine QQ (Yld.convI Tryz.underlying3 Tryz.underlying5 rfl) ?_
       refine RL.re (d:=50) rfl rfl (congrArg (Value.int .u8) (Go.X.wrap_u8 (x:=c + d) (by omega))) ?_
       refine OP (Does.call rfl e249 (add_set _ b3 (partR set c d) hB11 (partR_w4 hW c d) (c + d) (by omega))) ?_
       rintro _ w12 ⟨rfl,hB12,hm12⟩
       refine RL.done ?_
       refine RK.inBlock ?_
       refine RK.region ?_
       iterate 2 refine RL.p rfl rfl ?_
       refine RL.re (d:=48) rfl rfl (succ_i64 (by omega)) ?_
       refine GG ?_
       exact RK.back (ih2 (d + 1) _ ⟨by unfold partR;rw [range_snoc];exact hB12,hm11.trans hm12,by omega⟩ (by omega)) ⟨rfl,rfl,rfl,rfl,rfl,rfl,trivial⟩
      ·have hde:d=c + 1 - c:=by omega
       have hBe:Blk w11 b3 177 (wds (addG set c c)):=by rw [hde] at hB11;exact hB11
       refine RK.exit rfl ?_
       refine GG ?_
       exact RK.back (ih (false,(bd || decide (c < c)),j,addG set c c) _ ⟨hP10.mod hm11 (by omega),hBe,hW.add _ _,hj,hC9,hM10.trans (hm11.mono fun b _ e=>.inr e)⟩ (by
        simp only [Bool.false_eq_true,if_false]
        split
        ·omega
        ·rename_i hb9
         have:=hadv (by simpa using hb9);omega)) ⟨rfl,rfl,rfl,rfl,rfl,trivial⟩
   ·have h93:b8 s k=93:=by simpa [seesS,hks] using h21
    obtain ⟨m,rfl⟩:∃ m,n=m + 1:=⟨n - 1,by omega⟩
    have hTe:T=some (set,k + 1):=by rw [← hn,clsL,if_pos hks,if_pos h93]
    have hsee:seesS s k false 93=true:=by simp [seesS,hks,h93]
    refine RK.exit rfl ?_
    refine GG ?_
    refine OP (Does.call rfl e218 (next_ok _ p s k false hPe (by omega) 93)) ?_
    rintro _ w7 ⟨rfl,hP7,hm7⟩
    rw [hsee] at hP7 ⊢
    refine GG ?_
    refine RL.knownF (d:=56) rfl rfl (rfl) ?_
    iterate 2 refine QQ (Yld.pure rfl) ?_
    refine QQ (Yld.fieldAddr fo246_2 rfl) ?_
    refine QQ (Yld.load p4 rfl (at1 (hP7.cell rfl))) ?_
    refine GG ?_
    refine QQ (Yld.fieldAddr fo246_2 rfl) ?_
    refine OQ (Does.store i4 rfl rfl rfl hP7 (.s (.s .z))) ?_
    rintro _ w8 ⟨hP8,hm8,_⟩
    have hB8:Blk w8 b3 177 (wds set):=(Blk.mod hBe hm7 (by omega)).mod hm8 (by omega)
    have hP8' : PA w8 p s (k + 1) false:=hP8
    have hM8:Mod (fun b=>b=p∨b=b3) w2 w8:=(Mod.trans hme (hm7.mono fun b _ e=>.inl e)).trans (hm8.mono fun b _ e=>.inl e)
    have hR8:=(hn2.blk.mod hn3.grow (fun h=>h)).mod hM8 (by omega)
    obtain ⟨x0,x1,x2,x3,rfl⟩:∃ x0 x1 x2 x3,set=[x0,x1,x2,x3]:=by
      obtain ⟨h4,_⟩:=hW
      match set,h4 with
      | [x0,x1,x2,x3],_=>exact ⟨x0,x1,x2,x3,rfl⟩
    refine GG ?_
    refine CD (fun h64=>?_) (fun h64=>?_)
    ·refine GG ?_
     refine QQ (Yld.loadN (cs:=wds [x0,x1,x2,x3]) a177 rfl (atN (blk0' hB8))) ?_
     refine OP (Does.call rfl e248 (turned_ok _ [x0,x1,x2,x3] hW)) ?_
     rintro _ w9 ⟨rfl,hg9⟩
     refine OQ (Does.storeN i177 rfl rfl (by simp [Value.cells,invS]) (by simp [Value.cells,Value.oneCell',invS]) (hR8.mod hg9 (fun h=>h)) (by decide)) ?_
     rintro _ w10 ⟨hb10,hm10,_⟩
     refine RL.done ?_
     refine RK.ret_of Tryz.func247 (resC (cs:=wds (invS [x0,x1,x2,x3])) rfl rfl a177 hb10) ?_ _
     exact ⟨_,rfl,invS [x0,x1,x2,x3],(k + 1),false,rfl,hW.inv,by omega,(hP8'.mod hg9 (fun h=>h)).mod hm10 (by omega),by subst h64;rw [hcl,hTe];rfl,(((Mod.any' hg2:Mod (·=p) w w2).then hM8 (fun b hb e=>e.elim (fun e=>e) (fun e=>by omega))).trans (Mod.any' hg9)).then hm10 (fun b hb e=>by have e' : b=b2:=e;omega)⟩
    ·refine GG ?_
     refine QQ (Yld.loadN (cs:=wds [x0,x1,x2,x3]) a177 rfl (atN (blk0' hB8))) ?_
     refine OQ (Does.storeN i177 rfl rfl (by simp [Value.cells]) (by simp [Value.cells,Value.oneCell']) hR8 (by decide)) ?_
     rintro _ w10 ⟨hb10,hm10,_⟩
     refine RL.done ?_
     refine RK.ret_of Tryz.func247 (resC (cs:=wds [x0,x1,x2,x3]) rfl rfl a177 hb10) ?_ _
     exact ⟨_,rfl,[x0,x1,x2,x3],(k + 1),false,rfl,hW,by omega,hP8'.mod hm10 (by omega),by have h64' : no=false:=(by simpa using h64);subst h64';rw [hcl,hTe];rfl,((Mod.any' hg2:Mod (·=p) w w2).then hM8 (fun b hb e=>e.elim (fun e=>e) (fun e=>by omega))).then hm10 (fun b hb e=>by have e' : b=b2:=e;omega)⟩
  ·have h16' : bad=true∨¬ k < s.size:=by cases bad <;> simp at h16 ⊢;omega
   have hTe:T=none:=by
     cases hb:bad with
     | true=>exact (hC.no hb).2
     | false=>
      obtain ⟨n,hn,hnk⟩:=hC.go rfl hb
      obtain ⟨m,rfl⟩:∃ m,n=m + 1:=⟨n - 1,by omega⟩
      rw [← hn,clsL,if_neg (by rcases h16' with h | h;(rw [hb] at h;cases h);exact h)]
   have hsee:seesS s k bad 93=false:=by rcases h16' with h | h <;> simp [seesS,h]
   iterate 3 refine RL.no (.no rfl rfl rfl rfl) rfl rfl ?_
   refine QQ (Yld.pure rfl) ?_
   refine GG ?_
   refine RK.condF rfl ?_
   refine RK.exit rfl ?_
   refine GG ?_
   refine OP (Does.call rfl e218 (next_ok _ p s k bad hPo (by omega) 93)) ?_
   rintro _ w7 ⟨rfl,hP7,hm7⟩
   rw [hsee] at hP7 ⊢
   refine GG ?_
   refine RL.knownT (d:=56) rfl rfl (rfl) ?_
   iterate 4 refine RL.no (.no rfl rfl rfl rfl) rfl rfl ?_
   refine GG ?_
   refine QQ (Yld.fieldAddr fo246_2 rfl) ?_
   refine OQ (Does.store i4 rfl rfl rfl hP7 (.s (.s .z))) ?_
   rintro _ w8 ⟨hP8,hm8,_⟩
   have hB8:Blk w8 b3 177 (wds set):=(Blk.mod hBo hm7 (by omega)).mod hm8 (by omega)
   have hP8' : PA w8 p s k true:=hP8
   have hM8:Mod (fun b=>b=p∨b=b3) w2 w8:=(Mod.trans hmo (hm7.mono fun b _ e=>.inl e)).trans (hm8.mono fun b _ e=>.inl e)
   have hR8:=(hn2.blk.mod hn3.grow (fun h=>h)).mod hM8 (by omega)
   obtain ⟨x0,x1,x2,x3,rfl⟩:∃ x0 x1 x2 x3,set=[x0,x1,x2,x3]:=by
     obtain ⟨h4,_⟩:=hW
     match set,h4 with
     | [x0,x1,x2,x3],_=>exact ⟨x0,x1,x2,x3,rfl⟩
   refine GG ?_
   refine CD (fun h64=>?_) (fun h64=>?_)
   ·refine GG ?_
    refine QQ (Yld.loadN (cs:=wds [x0,x1,x2,x3]) a177 rfl (atN (blk0' hB8))) ?_
    refine OP (Does.call rfl e248 (turned_ok _ [x0,x1,x2,x3] hW)) ?_
    rintro _ w9 ⟨rfl,hg9⟩
    refine OQ (Does.storeN i177 rfl rfl (by simp [Value.cells,invS]) (by simp [Value.cells,Value.oneCell',invS]) (hR8.mod hg9 (fun h=>h)) (by decide)) ?_
    rintro _ w10 ⟨hb10,hm10,_⟩
    refine RL.done ?_
    refine RK.ret_of Tryz.func247 (resC (cs:=wds (invS [x0,x1,x2,x3])) rfl rfl a177 hb10) ?_ _
    exact ⟨_,rfl,invS [x0,x1,x2,x3],k,true,rfl,hW.inv,by omega,(hP8'.mod hg9 (fun h=>h)).mod hm10 (by omega),by subst h64;rw [hcl,hTe];rfl,(((Mod.any' hg2:Mod (·=p) w w2).then hM8 (fun b hb e=>e.elim (fun e=>e) (fun e=>by omega))).trans (Mod.any' hg9)).then hm10 (fun b hb e=>by have e' : b=b2:=e;omega)⟩
   ·refine GG ?_
    refine QQ (Yld.loadN (cs:=wds [x0,x1,x2,x3]) a177 rfl (atN (blk0' hB8))) ?_
    refine OQ (Does.storeN i177 rfl rfl (by simp [Value.cells]) (by simp [Value.cells,Value.oneCell']) hR8 (by decide)) ?_
    rintro _ w10 ⟨hb10,hm10,_⟩
    refine RL.done ?_
    refine RK.ret_of Tryz.func247 (resC (cs:=wds [x0,x1,x2,x3]) rfl rfl a177 hb10) ?_ _
    exact ⟨_,rfl,[x0,x1,x2,x3],k,true,rfl,hW,by omega,hP8'.mod hm10 (by omega),by have h64' : no=false:=(by simpa using h64);subst h64';rw [hcl,hTe];rfl,((Mod.any' hg2:Mod (·=p) w w2).then hM8 (fun b hb e=>e.elim (fun e=>e) (fun e=>by omega))).then hm10 (fun b hb e=>by have e' : b=b2:=e;omega)⟩
end Go.Proofs.YtbcbfjnlnmhpbaaGreat
set_option linter.unusedVariables false
set_option linter.unusedSimpArgs false
set_option maxHeartbeats 1000000
set_option maxRecDepth 100000
namespace Go.Proofs.YtbcbfjnlnmhpbaaGreat
open Go Go.X Go.Rex
theorem sign_ok' (w:World) (p:Nat) (s:ByteArray) (i:Nat) (h:PA w p s i false) (hi:i≤s.size) (hs:s.size≤40):Fx Tryz.prog 250 [pp p] w (fun u w'=>∃ (c j:Nat) (bad:Bool),u=.int .u8 (c:Int)∧c < 256∧j≤s.size∧PA w' p s j bad∧signS s i=(if bad then none else some (c,j))∧Mod (·=p) w w'):=by
 refine Fx.mono (sign_ok w p s i h hi hs) ?_
 rintro u w' ⟨hr,hm⟩
 cases hmm:signS s i with
 | none=>
  rw [hmm] at hr
  obtain ⟨c,j,h1,h2,h3,h4⟩:=hr
  exact ⟨c,j,true,h2,h1,h4,h3,rfl,hm⟩
 | some q=>
  obtain ⟨c,j⟩:=q
  rw [hmm] at hr
  have:=signS_adv hmm
  exact ⟨c,j,false,hr.1,this.2.2,this.2.1,hr.2,rfl,hm⟩
structure Cel where
 op:Int
 a:Nat
 b:Nat
 c:Nat
 d:Nat
 ad:Option Addr
 n:Nat
 cap:Nat
def celC (k:Cel):List Value:=[.int .i64 k.op,.int .u64 (k.a:Int),.int .u64 (k.b:Int),.int .u64 (k.c:Int),.int .u64 (k.d:Int),.slice k.ad k.n k.cap]
theorem celC_len (k:Cel):(celC k).length=6:=rfl
def RxV (M:Nat→Prop) (w:World):Rx→List Cel→Prop
 | .set t,ks=>∃ a b c d:Nat,t=[a,b,c,d]∧ks=[⟨1,a,b,c,d,none,0,0⟩]
 | .node op l,ks=>∃ ad n cap kss,(ks=[⟨(op:Int),0,0,0,0,ad,n,cap⟩]∧n≤cap)∧Sl M w (.slice ad n cap) 6 kss.length (kss.flatMap celC)∧RxV M w l kss
 | .nil,ks=>ks=[]
 | .cons x l,ks=>∃ c ks',ks=c :: ks'∧RxV M w x [c]∧RxV M w l ks'
theorem RxV.mod {M M0:Nat→Prop} {w w' : World} (hm:Mod M0 w w') (h0:∀ b,b < w.heap.size→M0 b→M b):∀ (x:Rx) {ks:List Cel},RxV M w x ks→RxV M w' x ks
 | .set t,_,h=>h
 | .node op l,_,⟨ad,n,cap,kss,h1,h2,h3⟩=>⟨ad,n,cap,kss,h1,h2.mod (hm.mono h0),RxV.mod hm h0 l h3⟩
 | .nil,_,h=>h
 | .cons x l,_,⟨c,ks',h1,h2,h3⟩=>⟨c,ks',h1,RxV.mod hm h0 x h2,RxV.mod hm h0 l h3⟩
theorem RxV.off {M M' : Nat→Prop} {w:World} (h0:∀ b,b < w.heap.size→M' b→M b):∀ (x:Rx) {ks:List Cel},RxV M w x ks→RxV M' w x ks
 | .set t,_,h=>h
 | .node op l,_,⟨ad,n,cap,kss,h1,h2,h3⟩=>⟨ad,n,cap,kss,h1,h2.off (by omega) h0,RxV.off h0 l h3⟩
 | .nil,_,h=>h
 | .cons x l,_,⟨c,ks',h1,h2,h3⟩=>⟨c,ks',h1,RxV.off h0 x h2,RxV.off h0 l h3⟩
theorem RxV.grow {M:Nat→Prop} {w w' : World} (hg:Grow w w') (x:Rx) {ks:List Cel} (h:RxV M w x ks):RxV M w' x ks:=h.mod hg (fun _ _ h=>h.elim) x
def Old (w:World):Nat→Prop:=fun b=>b < w.heap.size
def RT (w w' : World) (p:Nat) (s:ByteArray) (r:Option (Rx×Nat)) (u:Value):Prop:=∃ (c:Cel) (j:Nat) (bad:Bool),u=.agg (celC c).toArray∧j≤s.size∧PA w' p s j bad∧(bad=true→r=none)∧(bad=false→∃ x,r=some (x,j)∧RxV (Old w) w' x [c])
def GrpOk (p:Nat) (s:ByteArray) (d:Nat) (g:Nat→Option (Rx×Nat)):Prop:=d < 8→∀ w i,PA w p s i false→i≤s.size→Fx Tryz.prog 195 [pp p,.int .i64 ((d + 1:Nat):Int)] w (fun u w'=>RT w w' p s (g i) u∧Mod (·=p) w w')
def setC (l:List Nat):List Value:=.int .i64 1 :: (wds l ++ [.slice none 0 0])
theorem blk_mid {w:World} {b t:Nat} {a:Value} {ws rest:List Value} (h:Blk w b t (a :: (ws ++ rest))):∀ (j:Nat) (u:Value),ws[j]?=some u→w.cell? ⟨b,0 + 1 + j,none⟩=some u:=fun j u hj=>by
 have hl:=(List.getElem?_eq_some_iff.1 hj).1
 refine h.cell' ?_
 rw [show 0 + 1 + j=j + 1 by omega,List.getElem?_cons_succ,List.getElem?_append_left hl]
 exact hj
theorem add_cel (w:World) (b t:Nat) (l:List Nat) (hB:Blk w b t (setC l)) (hl:W4 l) (c:Nat) (h256:c < 256) :
  Fx Tryz.prog 249 [.pointer (some ⟨b,0 + 1,none⟩),.int .u8 (c:Int)] w (fun u w'=>u=.tuple #[]∧Blk w' b t (setC (setBit l c))∧Mod (·=b) w w'):=by
 have h4:=hl.1
 have hw:(wds l).length=4:=by simp [h4]
 refine Fx.mono (add1_ok w b (0 + 1) _ _ l hB hl (fun j hj=>by unfold setC;rw [show 0 + 1 + j=j + 1 by omega,List.getElem?_cons_succ,List.getElem?_append_left (by omega)]) (by simp [setC,h4]) c h256) ?_
 rintro u w' ⟨rfl,h1,h2⟩
 refine ⟨rfl,?_,h2⟩
 have e:(setC l).set (0 + 1 + c / 64) (.int .u64 ((((l[c / 64]?).getD 0) ||| 1 <<< (c % 64):Nat):Int))=setC (setBit l c):=by
  unfold setC
  rw [show 0 + 1 + c / 64=c / 64 + 1 by omega,List.set_cons_succ,List.set_append_left _ _ (by omega),wds_bit hl h256]
 rw [e] at h1
 exact h1
theorem W4.four {l:List Nat} (h:W4 l):∃ a b c d,l=[a,b,c,d]:=by
 obtain ⟨h4,_⟩:=h
 match l,h4 with
 | [a,b,c,d],_=>exact ⟨a,b,c,d,rfl⟩
theorem atom_ok (s:ByteArray) (hs:s.size≤40) (p d:Nat) (hd:d≤8) (g:Nat→Option (Rx×Nat)) (hg8:d=8→∀ i,g i=none) (hgw:GrpOk p s d g)
  (w:World) (i:Nat) (h:PA w p s i false) (hi:i < s.size) (h124:b8 s i≠124) (h41:b8 s i≠41) :
  Fx Tryz.prog 243 [pp p,.int .i64 (d:Int)] w (fun u w'=>RT w w' p s (atomS s g i) u∧Mod (·=p) w w'):=by
 have hplt:=h.lt
 have hc:=b8_lt s i
 refine enter Tryz.func243 rfl rfl rfl _ (Pick.sub (l:=[0,1]) (.cons rfl (.cons rfl .nil))) ?_
 refine GG ?_
 refine OP (Does.alloc i180) ?_
 rintro _ w1 ⟨b4,rfl,hn4⟩
 have hb4:=hn4.at_
 have hg4:=hn4.grow
 refine GG ?_
 refine QQ (Yld.build (v:=.agg #[.int .i64 1,.int .u64 0,.int .u64 0,.int .u64 0,.int .u64 0,.slice none 0 0]) rfl (fun w=>by kernel_rfl)) ?_
 refine OP (Does.alloc i180) ?_
 rintro _ w2 ⟨b5,rfl,hn5⟩
 have hb5:=hn5.at_
 have hb5s:=hn5.size
 have hb4s:=hn4.size
 refine OQ (Does.storeN i180 rfl rfl rfl rfl hn5.blk (Nat.le_refl 6)) ?_
 rintro _ w3 ⟨hb3,hm3,_⟩
 have hB3:Blk w3 b5 180 (setC zero4):=hb3
 have hb4p' : b4≠p:=by omega
 have hb5p:b5≠p:=by omega
 have hb45:b4≠b5:=by omega
 have hm13:Mod (fun b=>b=p∨b=b5) w1 w3:=(Mod.any' hn5.grow).trans (hm3.mono fun b _ e=>.inr e)
 have hb4p:¬ (b4=p∨b4=b5):=by omega
 have hMp:∀ x,x < w.heap.size→(x=p∨x=b5)→x=p:=fun x hx e=>by omega
 have hP3:PA w3 p s i false:=((h.mod hg4 (fun h=>h)).mod hn5.grow (fun h=>h)).mod hm3 (by omega)
 refine GG ?_
 refine OP (Does.call rfl e246 (byte_yes _ p s i hP3 hi (by omega))) ?_
 rintro _ w4 ⟨rfl,hP4,hm4⟩
 have hB4:=hB3.mod hm4 hb5p
 have hm14:Mod (fun b=>b=p∨b=b5) w1 w4:=hm13.trans (hm4.mono fun b _ e=>.inl e)
 refine GG ?_
 refine CD (fun h26=>?_) (fun h26=>?_)
 ·have h40:b8 s i=40:=by omega
  have hat:atomS s g i=grpS s (g (i + 1)):=by unfold atomS;rw [if_pos h40]
  refine GG ?_
  refine QQ (Yld.fieldAddr fo246_2 rfl) ?_
  refine QQ (Yld.load p4 rfl (at1 (hP4.cell rfl))) ?_
  refine RL.p rfl rfl ?_
  refine RL.knownF (d:=33) rfl rfl (rfl) ?_
  iterate 2 refine QQ (Yld.pure rfl) ?_
  refine GG ?_
  refine QQ (Yld.fieldAddr fo246_2 rfl) ?_
  refine OQ (Does.store i4 rfl rfl rfl hP4 (.s (.s .z))) ?_
  rintro _ w5 ⟨hP5,hm5,_⟩
  have hB5:=hB4.mod hm5 hb5p
  have hm15:Mod (fun b=>b=p∨b=b5) w1 w5:=hm14.trans (hm5.mono fun b _ e=>.inl e)
  refine GG ?_
  refine QQ (Yld.fieldAddr fo246_2 rfl) ?_
  refine QQ (Yld.load p4 rfl (at1 (Blk.cell hP5 rfl))) ?_
  refine GG ?_
  refine CD (fun h43=>?_) (fun h43=>?_)
  ·have hd8:d < 8:=by have h:=h43;first | omega | (simp at h;omega)
   have hP5' : PA w5 p s (i + 1) false:=by rw [show false=decide ((d:Int)=8) from (decide_eq_false (by omega)).symm];exact hP5
   refine RK.region ?_
   iterate 3 refine RL.p rfl rfl ?_
   refine RL.re (d:=46) rfl rfl (add_i64 (z:=((d + 1:Nat):Int)) (by omega) (by omega) (by omega)) ?_
   refine OP (Does.call rfl e195 (hgw hd8 _ (i + 1) hP5' (by omega))) ?_
   rintro _ w6 ⟨⟨c,j,bad,rfl,hj,hP6,hno,hyes⟩,hm6⟩
   have hB6:=hB5.mod hm6 hb5p
   refine OQ (Does.storeN i180 rfl rfl rfl rfl hB6 (Nat.le_refl 6)) ?_
   rintro _ w7 ⟨hb7,hm7,_⟩
   have hB7:Blk w7 b5 180 (celC c):=hb7
   have hP7:PA w7 p s j bad:=hP6.mod hm7 (by omega)
   have hm17:Mod (fun b=>b=p∨b=b5) w1 w7:=(hm15.trans (hm6.mono fun b _ e=>.inl e)).trans (hm7.mono fun b _ e=>.inr e)
   have hs5:=hm15.size
   refine GG ?_
   refine OP (Does.call rfl e218 (next_ok _ p s j bad hP7 (by omega) 41)) ?_
   rintro _ w8 ⟨rfl,hP8,hm8⟩
   have hB8:=hB7.mod hm8 hb5p
   refine GG ?_
   refine SP 52 (fun h52=>?_) (fun h52=>?_)
   ·have hse:seesS s j bad 41=false:=by simpa using h52
    rw [hse] at hP8
    iterate 4 refine RL.no (.no rfl rfl rfl rfl) rfl rfl ?_
    refine GG ?_
    refine QQ (Yld.fieldAddr fo246_2 rfl) ?_
    refine OQ (Does.store i4 rfl rfl rfl hP8 (.s (.s .z))) ?_
    rintro _ w9 ⟨hP9,hm9,_⟩
    have hB9:=hB8.mod hm9 hb5p
    have hm19' : Mod (fun b=>b=p∨b=b5) w1 w9:=(hm17.trans (hm8.mono fun b _ e=>.inl e)).trans (hm9.mono fun b _ e=>.inl e)
    have hP9' : PA w9 p s j true:=hP9
    have hnone:atomS s g i=none:=by
      rw [hat]
      cases hb:bad with
      | true=>rw [hno hb];rfl
      | false=>
       obtain ⟨x,hx,_⟩:=hyes hb
       rw [hx]
       show (if j < s.size∧b8 s j=41 then some (x,j + 1) else none)=none
       rw [if_neg (fun h=>by simp [seesS,hb,h] at hse)]
    refine GG ?_
    refine QQ (Yld.loadN (cs:=celC c) a180 rfl (atN (blk0' hB9))) ?_
    refine OQ (Does.storeN i180 rfl rfl rfl rfl (hn4.blk.mod hm19' hb4p) (Nat.le_refl 6)) ?_
    rintro _ w19 ⟨hb19,hm19,_⟩
    refine RL.done ?_
    refine RK.ret_of Tryz.func243 (resC (cs:=celC c) rfl rfl a180 hb19) ?_ _
    exact ⟨_,rfl,⟨c,j,true,rfl,by omega,Blk.mod hP9' hm19 (Ne.symm hb4p'),fun _=>hnone,fun e=>(by cases e)⟩,(((Mod.any' hg4:Mod (·=p) w w1).then hm19' hMp)).then hm19 (fun b hb e=>by have e' : b=b4:=e;omega)⟩
   ·have hse:bad=false∧j < s.size∧b8 s j=41:=by simpa [seesS] using h52
    obtain ⟨hb,hjs,hj41⟩:=hse
    subst hb
    have hse:seesS s j false 41=true:=by simp [seesS,hjs,hj41]
    rw [hse] at hP8
    iterate 2 refine QQ (Yld.pure rfl) ?_
    refine QQ (Yld.fieldAddr fo246_2 rfl) ?_
    refine QQ (Yld.load p4 rfl (at1 (hP8.cell rfl))) ?_
    refine GG ?_
    refine QQ (Yld.fieldAddr fo246_2 rfl) ?_
    refine OQ (Does.store i4 rfl rfl rfl hP8 (.s (.s .z))) ?_
    rintro _ w9 ⟨hP9,hm9,_⟩
    have hB9:=hB8.mod hm9 hb5p
    have hm19' : Mod (fun b=>b=p∨b=b5) w1 w9:=(hm17.trans (hm8.mono fun b _ e=>.inl e)).trans (hm9.mono fun b _ e=>.inl e)
    have hP9' : PA w9 p s (j + 1) false:=hP9
    obtain ⟨x,hx,hrx⟩:=hyes rfl
    have hsome:atomS s g i=some (x,j + 1):=by rw [hat,hx];show (if j < s.size∧b8 s j=41 then some (x,j + 1) else none)=_;rw [if_pos ⟨hjs,hj41⟩]
    have hm69:Mod (fun b=>b=p∨b=b5) w6 w9:=((hm7.mono fun b _ e=>.inr e).trans (hm8.mono fun b _ e=>.inl e)).trans (hm9.mono fun b _ e=>.inl e)
    have hs1:=hg4.size
    have hl05:∀ b,Old w b→Old w5 b:=fun b e=>by unfold Old at *;omega
    have hb5o:=hB5.lt
    have hb4o:Old w5 b4:=by unfold Old;omega
    have hrx9:=RxV.mod hm69 (fun b _ e=>by unfold Old;rcases e with e | e <;> omega) x hrx
    refine GG ?_
    refine QQ (Yld.loadN (cs:=celC c) a180 rfl (atN (blk0' hB9))) ?_
    refine OQ (Does.storeN i180 rfl rfl rfl rfl (hn4.blk.mod hm19' hb4p) (Nat.le_refl 6)) ?_
    rintro _ w19 ⟨hb19,hm19,_⟩
    refine RL.done ?_
    refine RK.ret_of Tryz.func243 (resC (cs:=celC c) rfl rfl a180 hb19) ?_ _
    exact ⟨_,rfl,⟨c,(j + 1),false,rfl,by omega,Blk.mod hP9' hm19 (Ne.symm hb4p'),fun e=>(by cases e),fun _=>⟨x,hsome,RxV.off (fun b _ e=>hl05 b e) x (RxV.mod hm19 (fun b _ e=>by have e' : b=b4:=e;rw [e'];exact hb4o) x hrx9)⟩⟩,(((Mod.any' hg4:Mod (·=p) w w1).then hm19' hMp)).then hm19 (fun b hb e=>by have e' : b=b4:=e;omega)⟩
  ·have hd8:d=8:=by have h:=h43;first | omega | (simp at h;omega)
   have hP5' : PA w5 p s (i + 1) true:=by rw [show true=decide ((d:Int)=8) from (decide_eq_true (by omega)).symm];exact hP5
   have hse:seesS s (i + 1) true 41=false:=rfl
   refine GG ?_
   refine OP (Does.call rfl e218 (next_ok _ p s (i + 1) true hP5' (by omega) 41)) ?_
   rintro _ w8 ⟨rfl,hP8,hm8⟩
   rw [hse] at hP8 ⊢
   refine GG ?_
   refine RL.knownT (d:=52) rfl rfl (rfl) ?_
   iterate 4 refine RL.no (.no rfl rfl rfl rfl) rfl rfl ?_
   refine GG ?_
   refine QQ (Yld.fieldAddr fo246_2 rfl) ?_
   refine OQ (Does.store i4 rfl rfl rfl hP8 (.s (.s .z))) ?_
   rintro _ w9 ⟨hP9,hm9,_⟩
   have hB9:Blk w9 b5 180 (celC ⟨1,0,0,0,0,none,0,0⟩):=(hB5.mod hm8 hb5p).mod hm9 hb5p
   have hm19' : Mod (fun b=>b=p∨b=b5) w1 w9:=(hm15.trans (hm8.mono fun b _ e=>.inl e)).trans (hm9.mono fun b _ e=>.inl e)
   have hP9' : PA w9 p s (i + 1) true:=hP9
   refine GG ?_
   refine QQ (Yld.loadN (cs:=celC ⟨1,0,0,0,0,none,0,0⟩) a180 rfl (atN (blk0' hB9))) ?_
   refine OQ (Does.storeN i180 rfl rfl rfl rfl (hn4.blk.mod hm19' hb4p) (Nat.le_refl 6)) ?_
   rintro _ w19 ⟨hb19,hm19,_⟩
   refine RL.done ?_
   refine RK.ret_of Tryz.func243 (resC (cs:=celC ⟨1,0,0,0,0,none,0,0⟩) rfl rfl a180 hb19) ?_ _
   exact ⟨_,rfl,⟨⟨1,0,0,0,0,none,0,0⟩,(i + 1),true,rfl,by omega,Blk.mod hP9' hm19 (Ne.symm hb4p'),fun _=>(by rw [hat,hg8 hd8];rfl),fun e=>(by cases e)⟩,(((Mod.any' hg4:Mod (·=p) w w1).then hm19' hMp)).then hm19 (fun b hb e=>by have e' : b=b4:=e;omega)⟩
 ·have h40:¬ b8 s i=40:=by omega
  refine GG ?_
  refine CD (fun h60=>?_) (fun h60=>?_)
  ·have h91:b8 s i=91:=by omega
   have hat:atomS s g i=(clsS s (i + 1)).map (fun p=>(.set p.1,p.2)):=by unfold atomS;rw [if_neg h40,if_pos h91]
   refine GG ?_
   refine OP (Does.call rfl e247 (class_ok _ p s (i + 1) hP4 (by omega) hs)) ?_
   rintro _ w5 ⟨l,j,bad,rfl,hW,hj,hP5,hcl,hm5⟩
   obtain ⟨y0,y1,y2,y3,rfl⟩:=W4.four hW
   have hB5:=hB4.mod hm5 hb5p
   refine QQ (Yld.fieldAddr fo180_1 rfl) ?_
   refine OQ (Does.storeN i177 rfl rfl rfl rfl hB5 (by decide)) ?_
   rintro _ w6 ⟨hb6,hm6,_⟩
   have hB6:Blk w6 b5 180 (setC [y0,y1,y2,y3]):=hb6
   have hP6:PA w6 p s j bad:=hP5.mod hm6 (by omega)
   have hm16:Mod (fun b=>b=p∨b=b5) w1 w6:=(hm14.trans (hm5.mono fun b _ e=>.inl e)).trans (hm6.mono fun b _ e=>.inr e)
   obtain ⟨x0,x1,x2,x3,hle⟩:=W4.four hW
   have hBs:Blk w6 b5 180 (setC [y0,y1,y2,y3]):=hB6
   rw [hle] at hBs
   have hBl:Blk w6 b5 180 (celC ⟨1,x0,x1,x2,x3,none,0,0⟩):=hBs
   refine GG ?_
   refine QQ (Yld.loadN (cs:=celC ⟨1,x0,x1,x2,x3,none,0,0⟩) a180 rfl (atN (blk0' hBl))) ?_
   refine OQ (Does.storeN i180 rfl rfl rfl rfl (hn4.blk.mod hm16 hb4p) (Nat.le_refl 6)) ?_
   rintro _ w19 ⟨hb19,hm19,_⟩
   refine RL.done ?_
   refine RK.ret_of Tryz.func243 (resC (cs:=celC ⟨1,x0,x1,x2,x3,none,0,0⟩) rfl rfl a180 hb19) ?_ _
   exact ⟨_,rfl,⟨⟨1,x0,x1,x2,x3,none,0,0⟩,j,bad,rfl,by omega,Blk.mod hP6 hm19 (Ne.symm hb4p'),fun e=>by rw [hat,hcl,e];rfl,fun e=>⟨.set [y0,y1,y2,y3],by rw [hat,hcl,e];rfl,x0,x1,x2,x3,hle,rfl⟩⟩,(((Mod.any' hg4:Mod (·=p) w w1).then hm16 hMp)).then hm19 (fun b hb e=>by have e' : b=b4:=e;omega)⟩
  ·have h91:¬ b8 s i=91:=by omega
   refine GG ?_
   refine CD (fun h65=>?_) (fun h65=>?_)
   ·have h46:b8 s i=46:=by omega
    have hat:atomS s g i=some (.set (invS zero4),i + 1):=by unfold atomS;rw [if_neg h40,if_neg h91,if_pos h46]
    refine RK.region ?_
    refine QQ (Yld.fieldAddr fo180_1 rfl) ?_
    refine QQ (Yld.loadN (cs:=wds zero4) a177 rfl (atN (blk_mid hB4))) ?_
    refine OP (Does.call rfl e248 (turned_ok _ zero4 W4.zero)) ?_
    rintro _ w5 ⟨rfl,hg5⟩
    refine QQ (Yld.fieldAddr fo180_1 rfl) ?_
    refine OQ (Does.storeN i177 rfl rfl rfl rfl (hB4.mod hg5 (fun h=>h)) (by decide)) ?_
    rintro _ w6 ⟨hb6,hm6,_⟩
    have hB6:Blk w6 b5 180 (setC (invS zero4)):=hb6
    have hP6:PA w6 p s (i + 1) false:=(hP4.mod hg5 (fun h=>h)).mod hm6 (by omega)
    have hm16:Mod (fun b=>b=p∨b=b5) w1 w6:=(hm14.trans (Mod.any' hg5)).trans (hm6.mono fun b _ e=>.inr e)
    have hWi:W4 (invS zero4):=W4.zero.inv
    obtain ⟨x0,x1,x2,x3,hle⟩:=W4.four hWi
    have hBs:Blk w6 b5 180 (setC (invS zero4)):=hB6
    rw [hle] at hBs
    have hBl:Blk w6 b5 180 (celC ⟨1,x0,x1,x2,x3,none,0,0⟩):=hBs
    refine GG ?_
    refine QQ (Yld.loadN (cs:=celC ⟨1,x0,x1,x2,x3,none,0,0⟩) a180 rfl (atN (blk0' hBl))) ?_
    refine OQ (Does.storeN i180 rfl rfl rfl rfl (hn4.blk.mod hm16 hb4p) (Nat.le_refl 6)) ?_
    rintro _ w19 ⟨hb19,hm19,_⟩
    refine RL.done ?_
    refine RK.ret_of Tryz.func243 (resC (cs:=celC ⟨1,x0,x1,x2,x3,none,0,0⟩) rfl rfl a180 hb19) ?_ _
    exact ⟨_,rfl,⟨⟨1,x0,x1,x2,x3,none,0,0⟩,(i + 1),false,rfl,by omega,Blk.mod hP6 hm19 (Ne.symm hb4p'),fun e=>(by cases e),fun _=>⟨.set (invS zero4),hat,x0,x1,x2,x3,hle,rfl⟩⟩,(((Mod.any' hg4:Mod (·=p) w w1).then hm16 hMp)).then hm19 (fun b hb e=>by have e' : b=b4:=e;omega)⟩
   ·have h46:¬ b8 s i=46:=by omega
    refine GG ?_
    refine CD (fun h71=>?_) (fun h71=>?_)
    ·have h92:b8 s i=92:=by omega
     have hat:atomS s g i=(signS s (i + 1)).map (fun p=>(.set (setBit zero4 p.1),p.2)):=by unfold atomS;rw [if_neg h40,if_neg h91,if_neg h46,if_pos h92]
     refine RK.region ?_
     refine QQ (Yld.fieldAddr fo180_1 rfl) ?_
     refine RL.p rfl rfl ?_
     refine OP (Does.call rfl e250 (sign_ok' _ p s (i + 1) hP4 (by omega) hs)) ?_
     rintro _ w5 ⟨c,j,bad,rfl,hc2,hj,hP5,hsg,hm5⟩
     refine OP (Does.call rfl e249 (add_cel _ b5 _ zero4 (hB4.mod hm5 hb5p) W4.zero c hc2)) ?_
     rintro _ w6 ⟨rfl,hB6,hm6⟩
     have hP6:PA w6 p s j bad:=hP5.mod hm6 (by omega)
     have hm16:Mod (fun b=>b=p∨b=b5) w1 w6:=(hm14.trans (hm5.mono fun b _ e=>.inl e)).trans (hm6.mono fun b _ e=>.inr e)
     have hWi:W4 (setBit zero4 c):=W4.zero.bit c
     obtain ⟨x0,x1,x2,x3,hle⟩:=W4.four hWi
     have hBs:Blk w6 b5 180 (setC (setBit zero4 c)):=hB6
     rw [hle] at hBs
     have hBl:Blk w6 b5 180 (celC ⟨1,x0,x1,x2,x3,none,0,0⟩):=hBs
     refine GG ?_
     refine QQ (Yld.loadN (cs:=celC ⟨1,x0,x1,x2,x3,none,0,0⟩) a180 rfl (atN (blk0' hBl))) ?_
     refine OQ (Does.storeN i180 rfl rfl rfl rfl (hn4.blk.mod hm16 hb4p) (Nat.le_refl 6)) ?_
     rintro _ w19 ⟨hb19,hm19,_⟩
     refine RL.done ?_
     refine RK.ret_of Tryz.func243 (resC (cs:=celC ⟨1,x0,x1,x2,x3,none,0,0⟩) rfl rfl a180 hb19) ?_ _
     exact ⟨_,rfl,⟨⟨1,x0,x1,x2,x3,none,0,0⟩,j,bad,rfl,by omega,Blk.mod hP6 hm19 (Ne.symm hb4p'),fun e=>by rw [hat,hsg,e];rfl,fun e=>⟨.set (setBit zero4 c),by rw [hat,hsg,e];rfl,x0,x1,x2,x3,hle,rfl⟩⟩,(((Mod.any' hg4:Mod (·=p) w w1).then hm16 hMp)).then hm19 (fun b hb e=>by have e' : b=b4:=e;omega)⟩
    ·have h92:¬ b8 s i=92:=by omega
     refine GG ?_
     refine QQ (Yld.fieldAddr fo246_2 rfl) ?_
     refine QQ (Yld.load p4 rfl (at1 (hP4.cell rfl))) ?_
     refine RL.p rfl rfl ?_
     refine RL.knownF (d:=16) rfl rfl (rfl) ?_
     refine QQ (Yld.pure rfl) ?_
     refine OP (Does.call rfl e251 (indexByte_ok _ _ _ hc)) ?_
     rintro _ _ ⟨z,rfl,hz,rfl⟩
     have hq:(z < 0↔¬ (b8 s i=42∨b8 s i=43∨b8 s i=63∨b8 s i=93)):=by rw [hz];simp;omega
     have hat:atomS s g i=if b8 s i=42∨b8 s i=43∨b8 s i=63∨b8 s i=93 then none else some (.set (setBit zero4 (b8 s i)),i + 1):=by unfold atomS;rw [if_neg h40,if_neg h91,if_neg h46,if_neg h92]
     refine QQ (Yld.pure rfl) ?_
     refine GG ?_
     refine QQ (Yld.fieldAddr fo246_2 rfl) ?_
     refine OQ (Does.store i4 rfl rfl rfl hP4 (.s (.s .z))) ?_
     rintro _ w5 ⟨hP5,hm5,_⟩
     have hP5' : PA w5 p s (i + 1) (decide (0≤z)):=hP5
     refine GG ?_
     refine QQ (Yld.fieldAddr fo180_1 rfl) ?_
     refine RL.p rfl rfl ?_
     refine OP (Does.call rfl e249 (add_cel _ b5 _ zero4 (hB4.mod hm5 hb5p) W4.zero _ hc)) ?_
     rintro _ w6 ⟨rfl,hB6,hm6⟩
     have hP6:PA w6 p s (i + 1) (decide (0≤z)):=hP5'.mod hm6 (by omega)
     have hm16:Mod (fun b=>b=p∨b=b5) w1 w6:=(hm14.trans (hm5.mono fun b _ e=>.inl e)).trans (hm6.mono fun b _ e=>.inr e)
     have hWi:W4 (setBit zero4 (b8 s i)):=W4.zero.bit _
     obtain ⟨x0,x1,x2,x3,hle⟩:=W4.four hWi
     have hBs:Blk w6 b5 180 (setC (setBit zero4 (b8 s i))):=hB6
     rw [hle] at hBs
     have hBl:Blk w6 b5 180 (celC ⟨1,x0,x1,x2,x3,none,0,0⟩):=hBs
     refine GG ?_
     refine QQ (Yld.loadN (cs:=celC ⟨1,x0,x1,x2,x3,none,0,0⟩) a180 rfl (atN (blk0' hBl))) ?_
     refine OQ (Does.storeN i180 rfl rfl rfl rfl (hn4.blk.mod hm16 hb4p) (Nat.le_refl 6)) ?_
     rintro _ w19 ⟨hb19,hm19,_⟩
     refine RL.done ?_
     refine RK.ret_of Tryz.func243 (resC (cs:=celC ⟨1,x0,x1,x2,x3,none,0,0⟩) rfl rfl a180 hb19) ?_ _
     exact ⟨_,rfl,⟨⟨1,x0,x1,x2,x3,none,0,0⟩,(i + 1),(decide (0≤z)),rfl,by omega,Blk.mod hP6 hm19 (Ne.symm hb4p'),fun e=>by have e':=of_decide_eq_true e;rw [hat,if_pos (Classical.byContradiction fun h=>by have:=hq.2 h;omega)],fun e=>by have e':=of_decide_eq_false e;exact ⟨.set (setBit zero4 (b8 s i)),by rw [hat,if_neg (hq.1 (by omega))],x0,x1,x2,x3,hle,rfl⟩⟩,(((Mod.any' hg4:Mod (·=p) w w1).then hm16 hMp)).then hm19 (fun b hb e=>by have e' : b=b4:=e;omega)⟩
end Go.Proofs.YtbcbfjnlnmhpbaaGreat
