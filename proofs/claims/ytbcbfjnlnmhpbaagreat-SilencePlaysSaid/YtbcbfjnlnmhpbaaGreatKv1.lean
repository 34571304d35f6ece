/- What the claim stands on, part 1. Of own lemmas only those that it reaches. -/
import Derived.Test.YtbcbfjnlnmhpbaaGreatKv0
set_option linter.unusedVariables false
set_option linter.unusedSimpArgs false
namespace Go.X
open Go Go.RowKit
section
variable {P : Program}
theorem run_eqItems_ints (d:Nat) {e:TypeId} {k:IntKind} (he:P.underlying e=some (.int k)) (c1:P.cellsOf e=1) (xs ys:Array Value) (f g:Nat→Int):∀ (is:List Nat) (w:World),(∀ i∈is,xs[i]?=some (.int k (f i)))→(∀ i∈is,ys[i]?=some (.int k (g i)))→(Op.eqItems (d + 1) e (P.cellsOf e) xs ys is).run P w=.ok (decide (∀ i∈is,f i=g i)) w
 | [],w,_,_=>by simp [Op.eqItems]
 | i :: is,w,hx,hy=>by
  have hp:∀ (zs:Array Value) (v:Value),zs[i]?=some v→(part e zs (i * P.cellsOf e)).run P w=.ok v w:=fun zs v h=>by
   rw [c1,Nat.mul_one];simp [part,Go.X.Plain.of he rfl w,h]
  have ih:=run_eqItems_ints d he c1 xs ys f g is w (fun j hj=>hx j (by simp [hj])) (fun j hj=>hy j (by simp [hj]))
  have ee:(Op.equalIn (d + 1) e (.int k (f i)) (.int k (g i))).run P w=.ok (decide (f i=g i)) w:=by
   rw [run_equalIn_int w d e k k _ _ he];rfl
  simp only [Op.eqItems,Sem.run_bind,hp xs _ (hx i (by simp)),hp ys _ (hy i (by simp)),Result.andThen_ok,ee]
  by_cases h:f i=g i
  ·simp [h,ih]
  ·simp [h]
def Arr (P:Program) (t:TypeId) (k:IntKind) (n:Nat):Prop:=P.eqGuardType P.depth t=false∧∀ (ps qs:List Int) (w:World),ps.length=n→qs.length=n→(Op.equalIn 10000 t (.agg (ps.map (Value.int k)).toArray) (.agg (qs.map (Value.int k)).toArray)).run P w=.ok (decide (ps=qs)) w
theorem Arr.of {t e:TypeId} {k:IntKind} {n:Nat} (hg:P.eqGuardType P.depth t=false) (ht:P.underlying t=some (.array n e)) (he:P.underlying e=some (.int k)) (c1:P.cellsOf e=1):Arr P t k n:=by
 refine ⟨hg,fun ps qs w ha hb=>?_⟩
 obtain ⟨i,hi⟩:=info_of_underlying he
 have hat:∀ (l:List Int),l.length=n→∀ j∈List.range n,(l.map (Value.int k)).toArray[j]?=some (.int k (l.getD j 0)):=fun l hl j hj=>by
  have hj' : j < l.length:=by rw [hl];exact List.mem_range.1 hj
  simp [hj']
 rw [run_equalIn_array w 9999 _ _ ht hi,run_eqItems_ints 9998 he c1 _ _ (fun j=>ps.getD j 0) (fun j=>qs.getD j 0) _ w (hat ps ha) (hat qs hb)]
 congr 1
 rw [decide_eq_decide]
 constructor
 ·intro h
  apply List.ext_getElem (by omega)
  intro j h1 h2
  have:=h j (List.mem_range.2 (by omega))
  simpa [h1,h2] using this
 ·rintro rfl _ _;rfl
def Trip (P:Program) (t:TypeId):Prop:=P.eqGuardType P.depth t=false∧∀ (i j:Int) (a b c d:ByteArray) (w:World),(Op.equalIn 10000 t (.agg #[.int .i64 i,.string a,.string b]) (.agg #[.int .i64 j,.string c,.string d])).run P w=.ok (decide (i=j∧a=c∧b=d)) w
theorem Trip.of {t n s : TypeId} {f0 f1 f2 : Field} (hg : P.eqGuardType P.depth t = false) (hp : P.stoodInHeld t = false) (ht : P.underlying t = some (.struct #[f0, f1, f2])) (hn : P.underlying n = some (.int .i64)) (hs : P.underlying s = some .string) (h0 : f0.type = n) (h1 : f1.type = s) (h2 : f2.type = s) (o0 : f0.offset = 0) (o1 : f1.offset = 1) (o2 : f2.offset = 2) (n0 : f0.name ≠ "_") (n1 : f1.name ≠ "_") (n2 : f2.name ≠ "_") : Trip P t := by
 refine ⟨hg,fun i j a b c d w=>?_⟩
 have hf:P.fieldsOf t=#[f0,f1,f2]:=by simp [Program.fieldsOf,ht]
 rw [run_equalIn_struct w 9999 t _ _ (by rw [hf];exact ht) hp,hf]
 have hpl:Plain P s:=Plain.of hs rfl
 have hpn:Plain P n:=Plain.of hn rfl
 have he:∀ a b w,(Op.equalIn 9999 s (.string a) (.string b)).run P w=.ok (decide (a=b)) w:=fun a b w=>by rw [run_equalIn_string w 9998 s a b hs,beqS]
 have hen:∀ i j w,(Op.equalIn 9999 n (.int .i64 i) (.int .i64 j)).run P w=.ok (decide (i=j)) w:=fun i j w=>by rw [run_equalIn_int w 9998 n .i64 .i64 _ _ hn];rfl
 have hpt:∀ (cs:Array Value) (o:Nat) (v:Value) w,cs[o]?=some v→(part s cs o).run P w=.ok v w:=fun cs o v w h=>by simp [part,hpl w,h]
 have hptn:∀ (cs:Array Value) (o:Nat) (v:Value) w,cs[o]?=some v→(part n cs o).run P w=.ok v w:=fun cs o v w h=>by simp [part,hpn w,h]
 simp only [Op.eqFields,n0,n1,n2,ne_eq,not_false_eq_true,if_true,h0,h1,h2,o0,o1,o2,Sem.run_bind]
 rw [hptn #[.int .i64 i,.string a,.string b] 0 (.int .i64 i) w (by simp)]
 simp only [Result.andThen_ok]
 rw [hptn #[.int .i64 j,.string c,.string d] 0 (.int .i64 j) w (by simp)]
 simp only [Result.andThen_ok,hen]
 by_cases e0:i=j
 ·simp only [e0,decide_true,Bool.not_true,Bool.false_eq_true,if_false,Sem.run_bind]
  rw [hpt #[.int .i64 j,.string a,.string b] 1 (.string a) w (by simp)]
  simp only [Result.andThen_ok]
  rw [hpt #[.int .i64 j,.string c,.string d] 1 (.string c) w (by simp)]
  simp only [Result.andThen_ok,he]
  by_cases e1:a=c
  ·simp only [e1,decide_true,Bool.not_true,Bool.false_eq_true,if_false,Sem.run_bind]
   rw [hpt #[.int .i64 j,.string c,.string b] 2 (.string b) w (by simp)]
   simp only [Result.andThen_ok]
   rw [hpt #[.int .i64 j,.string c,.string d] 2 (.string d) w (by simp)]
   simp only [Result.andThen_ok,he]
   by_cases e2:b=d
   ·simp [e2]
   ·simp [e2]
  ·simp [e1]
 ·simp [e0]
end
section
variable {P : Program} {n : Nat} {e : Env} {C : World → Prop}
theorem Yld.eqTrip {d:Option Tmp} {t:Nat} {x y:Operand} {t' ty:TypeId} {pos:String} {af:Array Edge} {g:Option (Nat×Bool)} (hP:Trip P t) {i j:Int} {a b c f:ByteArray} (hx:ev e x=some (.agg #[.int .i64 i,.string a,.string b])) (hy:ev e y=some (.agg #[.int .i64 j,.string c,.string f])) :
  Yld P n C e ⟨d,.binOp .eql t x y t',ty,pos,af,g⟩ (.bool (decide (i=j∧a=c∧b=f))):=by
 intro ac ha w _
 simp only [execOp,ha.ev hx,ha.ev hy,Sem.run_bind,run_eqGuard_agg w .eql t x y _ _ hP.1,Result.andThen_ok,run_eql_struct,hP.2,Sem.run_pure]
theorem Yld.neqTrip {d:Option Tmp} {t:Nat} {x y:Operand} {t' ty:TypeId} {pos:String} {af:Array Edge} {g:Option (Nat×Bool)} (hP:Trip P t) {i j:Int} {a b c f:ByteArray} (hx:ev e x=some (.agg #[.int .i64 i,.string a,.string b])) (hy:ev e y=some (.agg #[.int .i64 j,.string c,.string f])) :
  Yld P n C e ⟨d,.binOp .neq t x y t',ty,pos,af,g⟩ (.bool (!decide (i=j∧a=c∧b=f))):=by
 intro ac ha w _
 simp only [execOp,ha.ev hx,ha.ev hy,Sem.run_bind,run_eqGuard_agg w .neq t x y _ _ hP.1,Result.andThen_ok,run_neq_struct,hP.2,Sem.run_pure]
theorem Yld.eqArr {d:Option Tmp} {t m:Nat} {k:IntKind} {x y:Operand} {t' ty:TypeId} {pos:String} {af:Array Edge} {g:Option (Nat×Bool)} (hP:Arr P t k m) {ps qs:List Int} {va vb:Array Value} (hx:ev e x=some (.agg va)) (hy:ev e y=some (.agg vb)) (ea:va=(ps.map (Value.int k)).toArray) (eb:vb=(qs.map (Value.int k)).toArray) (la:ps.length=m) (lb:qs.length=m) :
  Yld P n C e ⟨d,.binOp .eql t x y t',ty,pos,af,g⟩ (.bool (decide (ps=qs))):=by
 intro ac ha w _
 subst ea;subst eb
 simp only [execOp,ha.ev hx,ha.ev hy,Sem.run_bind,run_eqGuard_agg w .eql t x y _ _ hP.1,Result.andThen_ok,run_eql_struct,hP.2 ps qs w la lb,Sem.run_pure]
theorem Yld.neqArr {d:Option Tmp} {t m:Nat} {k:IntKind} {x y:Operand} {t' ty:TypeId} {pos:String} {af:Array Edge} {g:Option (Nat×Bool)} (hP:Arr P t k m) {ps qs:List Int} {va vb:Array Value} (hx:ev e x=some (.agg va)) (hy:ev e y=some (.agg vb)) (ea:va=(ps.map (Value.int k)).toArray) (eb:vb=(qs.map (Value.int k)).toArray) (la:ps.length=m) (lb:qs.length=m) :
  Yld P n C e ⟨d,.binOp .neq t x y t',ty,pos,af,g⟩ (.bool (!decide (ps=qs))):=by
 intro ac ha w _
 subst ea;subst eb
 simp only [execOp,ha.ev hx,ha.ev hy,Sem.run_bind,run_eqGuard_agg w .neq t x y _ _ hP.1,Result.andThen_ok,run_neq_struct,hP.2 ps qs w la lb,Sem.run_pure]
end
end Go.X
set_option linter.unusedVariables false
namespace Go.X
open Go Go.RowKit
structure Tw (b:Bool) (p q:Prop):Prop where
  t:b=true→p
  f:b=false→q
theorem Tw.d {p:Prop} [h:Decidable p]:Tw (decide p) p (¬ p):=⟨of_decide_eq_true,of_decide_eq_false⟩
theorem Tw.n {p:Prop} [h:Decidable p]:Tw (!decide p) (¬ p) p:=⟨fun h=>by simpa using h,fun h=>by simpa using h⟩
theorem Tw.b {b:Bool}:Tw b (b=true) (b=false):=⟨id,id⟩
section
variable {P : Program} {f : FuncId} {n : Nat} {R : Ending → World → Prop} {k : List Item} {e : Env} {w : World} {K : Exit → Act → World → Prop} {o : Oper} {d : Nat} {v : Value}
theorem QQ {ops:Array Oper} {rest:List Oper} (hy:Yld P n (·=w) e o v) (h:RL P n ops rest ((d,v) :: e) w K) (hw:Want ops e o true:=by first | exact .free rfl | exact .yes rfl rfl rfl) (hd:o.dst=some d:=by rfl) (hb:Nat.blt d n=true:=by rfl):RL P n ops (o :: rest) e w K:=RL.q hw hd hb hy h
theorem OP {ops:Array Oper} {rest:List Oper} {Q:Value→World→Prop} (hy:Does P n e w o Q) (h:∀ v w',Q v w'→RL P n ops rest ((d,v) :: e) w' K) (hw:Want ops e o true:=by first | exact .free rfl | exact .yes rfl rfl rfl) (hd:o.dst=some d:=by rfl) (hb:Nat.blt d n=true:=by rfl):RL P n ops (o :: rest) e w K:=RL.op hw hd hb hy h
theorem OQ {ops:Array Oper} {rest:List Oper} {Q:Value→World→Prop} (hy:Does P n e w o Q) (h:∀ v w',Q v w'→RL P n ops rest e w' K) (hw:Want ops e o true:=by first | exact .free rfl | exact .yes rfl rfl rfl) (hd:o.dst=none:=by rfl):RL P n ops (o :: rest) e w K:=RL.op' hw hd hy h
theorem SP {ops:Array Oper} {rest:List Oper} {t:Bool} {p q:Prop} (d:Nat) (h1:p→RL P n ops rest ((d,.bool true) :: e) w K) (h2:q→RL P n ops rest ((d,.bool false) :: e) w K) (hg:get e d=some (.bool t):=by rfl) (hb:Nat.blt d n=true:=by rfl) (ht:Tw t p q:=by first | exact Tw.d | exact Tw.n | exact Tw.b):RL P n ops rest e w K:=RL.split hg hb (fun h=>h1 (ht.t h)) (fun h=>h2 (ht.f h))
theorem CD {c:Operand} {x y:Code} {t:Bool} {p q:Prop} (h1:p→RK P f n R (.code x :: k) e w) (h2:q→RK P f n R (.code y :: k) e w) (hc:ev e c=some (.bool t):=by rfl) (ht:Tw t p q:=by first | exact Tw.d | exact Tw.n | exact Tw.b):RK P f n R (.code (.cond c x y) :: k) e w:=RK.cond hc (fun h=>h1 (ht.t h)) (fun h=>h2 (ht.f h))
end
section
variable {P : Program} {f : FuncId} {n : Nat} {R : Ending → World → Prop} {k : List Item} {e : Env} {w : World} {K : Exit → Act → World → Prop} {o : Oper} {d : Nat} {v : Value} {ops : List Oper} {rest : List (Nat × Bool)} {S : World → Prop} {tl : List Nat} {i : Nat}
theorem DQ (hy:Yld P n S e o v) (hS:S w) (h:DL P n ops S tl rest ((d,v) :: e) w K) (hi:nth ops i=some o:=by rfl) (hw:Want ops.toArray e o true:=by first | exact .free rfl | exact .yes rfl rfl rfl) (hd:o.dst=some d:=by rfl) (hb:Nat.blt d n=true:=by rfl) (ht:tailOk ops.toArray tl i=true:=by rfl):DL P n ops S tl ((i,false) :: rest) e w K:=DL.q hi hw hd hb ht hy hS h
theorem DF (hy:Yld P n (fun _=>True) e o v) (h:DL P n ops S tl rest ((d,v) :: e) w K) (hi:nth ops i=some o:=by rfl) (hw:Want ops.toArray e o true:=by first | exact .free rfl | exact .yes rfl rfl rfl) (hd:o.dst=some d:=by rfl) (hb:Nat.blt d n=true:=by rfl):DL P n ops S tl ((i,false) :: rest) e w K:=DL.qf hi hw hd hb hy h
theorem OD {Q:Value→World→Prop} (hy:Does P n e w o Q) (h:∀ v w',Q v w'→S w'∧DL P n ops S tl rest ((d,v) :: e) w' K) (hi:nth ops i=some o:=by rfl) (hw:Want ops.toArray e o true:=by first | exact .free rfl | exact .yes rfl rfl rfl) (hd:o.dst=some d:=by rfl) (hb:Nat.blt d n=true:=by rfl):DL P n ops S tl ((i,true) :: rest) e w K:=DL.op hi hw hd hb hy h
theorem SD {t:Bool} {p q:Prop} (d:Nat) (h1:p→DL P n ops S tl rest ((d,.bool true) :: e) w K) (h2:q→DL P n ops S tl rest ((d,.bool false) :: e) w K) (hg:get e d=some (.bool t):=by rfl) (hb:Nat.blt d n=true:=by rfl) (ht:Tw t p q:=by first | exact Tw.d | exact Tw.n | exact Tw.b):DL P n ops S tl rest e w K:=DL.split hg hb (fun h=>h1 (ht.t h)) (fun h=>h2 (ht.f h))
end
theorem GG {P Q:Prop} (hq:Q) (h:Q→P:=by
  intro hh
  repeat (first | with_reducible refine RL.p (by with_unfolding_all rfl) (by with_unfolding_all rfl) ?_ | with_reducible refine RK.seq ?_ | with_reducible refine RL.done ?_ | with_reducible refine RK.region ?_ | with_reducible refine RK.skip ?_ | with_reducible refine RK.block ?_ | with_reducible refine RK.inBlock ?_ | with_reducible refine DL.p (by with_unfolding_all rfl) (by with_unfolding_all rfl) (by with_unfolding_all rfl) ?_ | with_reducible refine DL.done ?_)
  exact hh):P:=h hq
end Go.X
namespace Go.Proofs.YtbcbfjnlnmhpbaaGreat
open Go Go.X
theorem mixed:Tryz.prog.follows .mixedOrders=true:=by kernel_rfl
theorem i3:TI Tryz.prog 3 (.int .i64 0) 1 8:=TI.mk' (by kernel_rfl)
theorem p3:Plain Tryz.prog 3:=Plain.of Tryz.underlying3 rfl
theorem u4:Tryz.prog.underlying 4=some .bool:=Tryz.underlying4
theorem i4:TI Tryz.prog 4 (.bool false) 1 1:=TI.mk' (by kernel_rfl)
theorem p4:Plain Tryz.prog 4:=Plain.of Tryz.underlying4 rfl
theorem p5:Plain Tryz.prog 5:=Plain.of Tryz.underlying5 rfl
theorem u9:Tryz.prog.underlying 9=some .string:=Tryz.underlying9
theorem i9:TI Tryz.prog 9 (.string ByteArray.empty) 1 16:=TI.mk' (by kernel_rfl)
theorem p9:Plain Tryz.prog 9:=Plain.of Tryz.underlying9 rfl
theorem u10:Tryz.prog.underlying 10=some .string:=Tryz.underlying10
theorem u11:Tryz.prog.underlying 11=some .string:=Tryz.underlying11
theorem i22:TI Tryz.prog 22 (.int .u64 0) 1 8:=TI.mk' (by kernel_rfl)
theorem p22:Plain Tryz.prog 22:=Plain.of Tryz.underlying22 rfl
theorem u28:SlT Tryz.prog 28 108:=Tryz.underlying28
theorem i28:TI Tryz.prog 28 (.slice none 0 0) 1 24:=TI.mk' (by kernel_rfl)
theorem p28:Plain Tryz.prog 28:=Plain.of Tryz.underlying28 rfl
theorem i30:TI Tryz.prog 30 (.float .f64 0) 1 8:=TI.mk' (by kernel_rfl)
theorem p30:Plain Tryz.prog 30:=Plain.of Tryz.underlying30 rfl
theorem i32:TI Tryz.prog 32 (.agg #[.bool false,.float .f64 0,.float .f64 0]) 3 24:=TI.mk' (by kernel_rfl)
theorem a32:Agg Tryz.prog 32 3:=Agg.of (d:=(Tryz.prog.underlying 32).getD .bool) (by kernel_rfl) (by kernel_rfl) i32
theorem u35:SlT Tryz.prog 35 3:=Tryz.underlying35
theorem i35:TI Tryz.prog 35 (.slice none 0 0) 1 24:=TI.mk' (by kernel_rfl)
theorem p35:Plain Tryz.prog 35:=Plain.of Tryz.underlying35 rfl
theorem i38:TI Tryz.prog 38 (.agg #[.string ByteArray.empty,.string ByteArray.empty]) 2 32:=TI.mk' (by kernel_rfl)
theorem a38:Agg Tryz.prog 38 2:=Agg.of (d:=(Tryz.prog.underlying 38).getD .bool) (by kernel_rfl) (by kernel_rfl) i38
theorem u39:SlT Tryz.prog 39 38:=Tryz.underlying39
theorem p39:Plain Tryz.prog 39:=Plain.of Tryz.underlying39 rfl
theorem i41:TI Tryz.prog 41 (.agg #[.int .i64 0,.int .i64 0,.int .u64 0,.int .u64 0,.slice none 0 0,.bool false,.float .f64 0,.float .f64 0]) 8 80:=TI.mk' (by kernel_rfl)
theorem a41:Agg Tryz.prog 41 8:=Agg.of (d:=(Tryz.prog.underlying 41).getD .bool) (by kernel_rfl) (by kernel_rfl) i41
theorem u44:SlT Tryz.prog 44 41:=Tryz.underlying44
theorem i44:TI Tryz.prog 44 (.slice none 0 0) 1 24:=TI.mk' (by kernel_rfl)
theorem p44:Plain Tryz.prog 44:=Plain.of Tryz.underlying44 rfl
theorem u54:SlT Tryz.prog 54 62:=Tryz.underlying54
theorem u58:SlT Tryz.prog 58 167:=Tryz.underlying58
theorem p58:Plain Tryz.prog 58:=Plain.of Tryz.underlying58 rfl
theorem i60:TI Tryz.prog 60 (.agg #[.int .i64 0,.float .f64 0,.float .f64 0]) 3 24:=TI.mk' (by kernel_rfl)
theorem a60:Agg Tryz.prog 60 3:=Agg.of (d:=(Tryz.prog.underlying 60).getD .bool) (by kernel_rfl) (by kernel_rfl) i60
theorem i62:TI Tryz.prog 62 (.agg #[.int .u8 0,.int .u64 0,.int .u64 0,.int .u64 0,.int .i64 0,.slice none 0 0,.int .i64 0,.float .f64 0,.float .f64 0]) 9 88:=TI.mk' (by kernel_rfl)
theorem a62:Agg Tryz.prog 62 9:=Agg.of (d:=(Tryz.prog.underlying 62).getD .bool) (by kernel_rfl) (by kernel_rfl) i62
theorem i64:TI Tryz.prog 64 (.agg #[.int .i64 0,.int .u64 0,.slice none 0 0,.int .i64 0]) 4 48:=TI.mk' (by kernel_rfl)
theorem p96:Plain Tryz.prog 96:=Plain.of Tryz.underlying96 rfl
theorem p98:Plain Tryz.prog 98:=Plain.of Tryz.underlying98 rfl
theorem i108:TI Tryz.prog 108 (.agg #[.int .i64 0,.string ByteArray.empty,.string ByteArray.empty]) 3 40:=TI.mk' (by kernel_rfl)
theorem a108:Agg Tryz.prog 108 3:=Agg.of (d:=(Tryz.prog.underlying 108).getD .bool) (by kernel_rfl) (by kernel_rfl) i108
theorem p117:Plain Tryz.prog 117:=Plain.of Tryz.underlying117 rfl
theorem u153:SlT Tryz.prog 153 164:=Tryz.underlying153
theorem i153:TI Tryz.prog 153 (.slice none 0 0) 1 24:=TI.mk' (by kernel_rfl)
theorem p153:Plain Tryz.prog 153:=Plain.of Tryz.underlying153 rfl
theorem i164:TI Tryz.prog 164 (.agg #[.int .u64 0,.int .i64 0]) 2 16:=TI.mk' (by kernel_rfl)
theorem a164:Agg Tryz.prog 164 2:=Agg.of (d:=(Tryz.prog.underlying 164).getD .bool) (by kernel_rfl) (by kernel_rfl) i164
theorem i167:TI Tryz.prog 167 (.agg #[.int .i64 0,.int .i64 0,.int .i64 0]) 3 24:=TI.mk' (by kernel_rfl)
theorem a167:Agg Tryz.prog 167 3:=Agg.of (d:=(Tryz.prog.underlying 167).getD .bool) (by kernel_rfl) (by kernel_rfl) i167
theorem u170:SlT Tryz.prog 170 201:=Tryz.underlying170
theorem i170:TI Tryz.prog 170 (.slice none 0 0) 1 24:=TI.mk' (by kernel_rfl)
theorem p170:Plain Tryz.prog 170:=Plain.of Tryz.underlying170 rfl
theorem i177:TI Tryz.prog 177 (.agg #[.int .u64 0,.int .u64 0,.int .u64 0,.int .u64 0]) 4 32:=TI.mk' (by kernel_rfl)
theorem a177:Agg Tryz.prog 177 4:=Agg.of (d:=(Tryz.prog.underlying 177).getD .bool) (by kernel_rfl) (by kernel_rfl) i177
theorem u178:SlT Tryz.prog 178 180:=Tryz.underlying178
theorem p178:Plain Tryz.prog 178:=Plain.of Tryz.underlying178 rfl
theorem i180:TI Tryz.prog 180 (.agg #[.int .i64 0,.int .u64 0,.int .u64 0,.int .u64 0,.int .u64 0,.slice none 0 0]) 6 64:=TI.mk' (by kernel_rfl)
theorem a180:Agg Tryz.prog 180 6:=Agg.of (d:=(Tryz.prog.underlying 180).getD .bool) (by kernel_rfl) (by kernel_rfl) i180
theorem u194:SlT Tryz.prog 194 226:=Tryz.underlying194
theorem p194:Plain Tryz.prog 194:=Plain.of Tryz.underlying194 rfl
theorem i201:TI Tryz.prog 201 (.agg #[.int .i64 0,.int .u64 0]) 2 16:=TI.mk' (by kernel_rfl)
theorem i226:TI Tryz.prog 226 (.agg #[.int .i64 0,.int .u64 0,.int .u64 0,.int .u64 0,.int .u64 0,.int .i64 0,.int .i64 0]) 7 56:=TI.mk' (by kernel_rfl)
theorem a226:Agg Tryz.prog 226 7:=Agg.of (d:=(Tryz.prog.underlying 226).getD .bool) (by kernel_rfl) (by kernel_rfl) i226
theorem i229:TI Tryz.prog 229 (.agg #[.string ByteArray.empty,.string ByteArray.empty,.string ByteArray.empty,.string ByteArray.empty,.string ByteArray.empty,.string ByteArray.empty,.string ByteArray.empty,.string ByteArray.empty,.string ByteArray.empty]) 9 144:=TI.mk' (by kernel_rfl)
theorem a229:Agg Tryz.prog 229 9:=Agg.of (d:=(Tryz.prog.underlying 229).getD .bool) (by kernel_rfl) (by kernel_rfl) i229
theorem u257:SlT Tryz.prog 257 4:=Tryz.underlying257
theorem trip108:Trip Tryz.prog 108:=Trip.of (by kernel_rfl) (by kernel_rfl) Tryz.underlying108 Tryz.underlying3 Tryz.underlying9 rfl rfl rfl rfl rfl rfl (by decide) (by decide) (by decide)
theorem arr177:Arr Tryz.prog 177 .u64 4:=Arr.of (by kernel_rfl) Tryz.underlying177 Tryz.underlying22 (by kernel_rfl)
theorem fo32_0:FO Tryz.prog 32 0 0:=fun a w=>by kernel_rfl
theorem fo32_1:FO Tryz.prog 32 1 1:=fun a w=>by kernel_rfl
theorem fo32_2:FO Tryz.prog 32 2 2:=fun a w=>by kernel_rfl
theorem fo38_0:FO Tryz.prog 38 0 0:=fun a w=>by kernel_rfl
theorem fo38_1:FO Tryz.prog 38 1 1:=fun a w=>by kernel_rfl
theorem fo41_0:FO Tryz.prog 41 0 0:=fun a w=>by kernel_rfl
theorem fo41_1:FO Tryz.prog 41 1 1:=fun a w=>by kernel_rfl
theorem fo41_2:FO Tryz.prog 41 2 2:=fun a w=>by kernel_rfl
theorem fo41_3:FO Tryz.prog 41 3 3:=fun a w=>by kernel_rfl
theorem fo41_4:FO Tryz.prog 41 4 4:=fun a w=>by kernel_rfl
theorem fo41_5:FO Tryz.prog 41 5 5:=fun a w=>by kernel_rfl
theorem fo60_0:FO Tryz.prog 60 0 0:=fun a w=>by kernel_rfl
theorem fo60_1:FO Tryz.prog 60 1 1:=fun a w=>by kernel_rfl
theorem fo60_2:FO Tryz.prog 60 2 2:=fun a w=>by kernel_rfl
theorem fo62_0:FO Tryz.prog 62 0 0:=fun a w=>by kernel_rfl
theorem fo62_1:FO Tryz.prog 62 1 1:=fun a w=>by kernel_rfl
theorem fo62_2:FO Tryz.prog 62 2 2:=fun a w=>by kernel_rfl
theorem fo62_3:FO Tryz.prog 62 3 3:=fun a w=>by kernel_rfl
theorem fo62_4:FO Tryz.prog 62 4 4:=fun a w=>by kernel_rfl
theorem fo62_5:FO Tryz.prog 62 5 5:=fun a w=>by kernel_rfl
theorem fo62_6:FO Tryz.prog 62 6 6:=fun a w=>by kernel_rfl
theorem fo64_0:FO Tryz.prog 64 0 0:=fun a w=>by kernel_rfl
theorem fo64_1:FO Tryz.prog 64 1 1:=fun a w=>by kernel_rfl
theorem fo64_2:FO Tryz.prog 64 2 2:=fun a w=>by kernel_rfl
theorem fo64_3:FO Tryz.prog 64 3 3:=fun a w=>by kernel_rfl
theorem fo101_0:FO Tryz.prog 101 0 0:=fun a w=>by kernel_rfl
theorem fo101_1:FO Tryz.prog 101 1 1:=fun a w=>by kernel_rfl
theorem fo101_2:FO Tryz.prog 101 2 2:=fun a w=>by kernel_rfl
theorem fo101_3:FO Tryz.prog 101 3 3:=fun a w=>by kernel_rfl
theorem fo108_0:FO Tryz.prog 108 0 0:=fun a w=>by kernel_rfl
theorem fo108_1:FO Tryz.prog 108 1 1:=fun a w=>by kernel_rfl
theorem fo108_2:FO Tryz.prog 108 2 2:=fun a w=>by kernel_rfl
theorem fo152_0:FO Tryz.prog 152 0 0:=fun a w=>by kernel_rfl
theorem fo152_1:FO Tryz.prog 152 1 1:=fun a w=>by kernel_rfl
theorem fo152_2:FO Tryz.prog 152 2 2:=fun a w=>by kernel_rfl
theorem fo155_0:FO Tryz.prog 155 0 0:=fun a w=>by kernel_rfl
theorem fo164_0:FO Tryz.prog 164 0 0:=fun a w=>by kernel_rfl
theorem fo164_1:FO Tryz.prog 164 1 1:=fun a w=>by kernel_rfl
theorem fo167_0:FO Tryz.prog 167 0 0:=fun a w=>by kernel_rfl
theorem fo167_1:FO Tryz.prog 167 1 1:=fun a w=>by kernel_rfl
theorem fo167_2:FO Tryz.prog 167 2 2:=fun a w=>by kernel_rfl
theorem fo172_0:FO Tryz.prog 172 0 0:=fun a w=>by kernel_rfl
theorem fo180_0:FO Tryz.prog 180 0 0:=fun a w=>by kernel_rfl
theorem fo180_1:FO Tryz.prog 180 1 1:=fun a w=>by kernel_rfl
theorem fo180_2:FO Tryz.prog 180 2 5:=fun a w=>by kernel_rfl
theorem fo201_0:FO Tryz.prog 201 0 0:=fun a w=>by kernel_rfl
theorem fo201_1:FO Tryz.prog 201 1 1:=fun a w=>by kernel_rfl
theorem fo206_0:FO Tryz.prog 206 0 0:=fun a w=>by kernel_rfl
theorem fo206_1:FO Tryz.prog 206 1 1:=fun a w=>by kernel_rfl
theorem fo206_2:FO Tryz.prog 206 2 2:=fun a w=>by kernel_rfl
theorem fo206_3:FO Tryz.prog 206 3 3:=fun a w=>by kernel_rfl
theorem fo226_0:FO Tryz.prog 226 0 0:=fun a w=>by kernel_rfl
theorem fo226_1:FO Tryz.prog 226 1 1:=fun a w=>by kernel_rfl
theorem fo226_2:FO Tryz.prog 226 2 5:=fun a w=>by kernel_rfl
theorem fo226_3:FO Tryz.prog 226 3 6:=fun a w=>by kernel_rfl
theorem fo246_0:FO Tryz.prog 246 0 0:=fun a w=>by kernel_rfl
theorem fo246_1:FO Tryz.prog 246 1 1:=fun a w=>by kernel_rfl
theorem fo246_2:FO Tryz.prog 246 2 2:=fun a w=>by kernel_rfl
theorem e2:Enters Tryz.prog 2:=enters_of Tryz.func2 (by kernel_rfl) rfl
theorem e3:Enters Tryz.prog 3:=enters_of Tryz.func3 (by kernel_rfl) rfl
theorem e4:Enters Tryz.prog 4:=enters_of Tryz.func4 (by kernel_rfl) rfl
theorem e5:Enters Tryz.prog 5:=enters_of Tryz.func5 (by kernel_rfl) rfl
theorem e6:Enters Tryz.prog 6:=enters_of Tryz.func6 (by kernel_rfl) rfl
theorem e7:Enters Tryz.prog 7:=enters_of Tryz.func7 (by kernel_rfl) rfl
theorem e9:Enters Tryz.prog 9:=enters_of Tryz.func9 (by kernel_rfl) rfl
theorem e10:Enters Tryz.prog 10:=enters_of Tryz.func10 (by kernel_rfl) rfl
theorem e11:Enters Tryz.prog 11:=enters_of Tryz.func11 (by kernel_rfl) rfl
theorem e12:Enters Tryz.prog 12:=enters_of Tryz.func12 (by kernel_rfl) rfl
theorem e13:Enters Tryz.prog 13:=enters_of Tryz.func13 (by kernel_rfl) rfl
theorem e14:Enters Tryz.prog 14:=enters_of Tryz.func14 (by kernel_rfl) rfl
theorem e15:Enters Tryz.prog 15:=enters_of Tryz.func15 (by kernel_rfl) rfl
theorem e16:Enters Tryz.prog 16:=enters_of Tryz.func16 (by kernel_rfl) rfl
theorem e17:Enters Tryz.prog 17:=enters_of Tryz.func17 (by kernel_rfl) rfl
theorem e18:Enters Tryz.prog 18:=enters_of Tryz.func18 (by kernel_rfl) rfl
theorem e20:Enters Tryz.prog 20:=enters_of Tryz.func20 (by kernel_rfl) rfl
theorem e21:Enters Tryz.prog 21:=enters_of Tryz.func21 (by kernel_rfl) rfl
theorem e22:Enters Tryz.prog 22:=enters_of Tryz.func22 (by kernel_rfl) rfl
theorem e23:Enters Tryz.prog 23:=enters_of Tryz.func23 (by kernel_rfl) rfl
theorem e24:Enters Tryz.prog 24:=enters_of Tryz.func24 (by kernel_rfl) rfl
theorem e25:Enters Tryz.prog 25:=enters_of Tryz.func25 (by kernel_rfl) rfl
theorem e26:Enters Tryz.prog 26:=enters_of Tryz.func26 (by kernel_rfl) rfl
theorem e27:Enters Tryz.prog 27:=enters_of Tryz.func27 (by kernel_rfl) rfl
theorem e28:Enters Tryz.prog 28:=enters_of Tryz.func28 (by kernel_rfl) rfl
theorem e29:Enters Tryz.prog 29:=enters_of Tryz.func29 (by kernel_rfl) rfl
theorem e30:Enters Tryz.prog 30:=enters_of Tryz.func30 (by kernel_rfl) rfl
theorem e31:Enters Tryz.prog 31:=enters_of Tryz.func31 (by kernel_rfl) rfl
theorem e32:Enters Tryz.prog 32:=enters_of Tryz.func32 (by kernel_rfl) rfl
theorem e33:Enters Tryz.prog 33:=enters_of Tryz.func33 (by kernel_rfl) rfl
theorem e34:Enters Tryz.prog 34:=enters_of Tryz.func34 (by kernel_rfl) rfl
theorem e43:Enters Tryz.prog 43:=enters_of Tryz.func43 (by kernel_rfl) rfl
theorem e44:Enters Tryz.prog 44:=enters_of Tryz.func44 (by kernel_rfl) rfl
theorem e45:Enters Tryz.prog 45:=enters_of Tryz.func45 (by kernel_rfl) rfl
theorem e46:Enters Tryz.prog 46:=enters_of Tryz.func46 (by kernel_rfl) rfl
theorem e47:Enters Tryz.prog 47:=enters_of Tryz.func47 (by kernel_rfl) rfl
theorem e48:Enters Tryz.prog 48:=enters_of Tryz.func48 (by kernel_rfl) rfl
theorem e49:Enters Tryz.prog 49:=enters_of Tryz.func49 (by kernel_rfl) rfl
theorem e50:Enters Tryz.prog 50:=enters_of Tryz.func50 (by kernel_rfl) rfl
theorem e51:Enters Tryz.prog 51:=enters_of Tryz.func51 (by kernel_rfl) rfl
theorem e52:Enters Tryz.prog 52:=enters_of Tryz.func52 (by kernel_rfl) rfl
theorem e53:Enters Tryz.prog 53:=enters_of Tryz.func53 (by kernel_rfl) rfl
theorem e54:Enters Tryz.prog 54:=enters_of Tryz.func54 (by kernel_rfl) rfl
theorem e55:Enters Tryz.prog 55:=enters_of Tryz.func55 (by kernel_rfl) rfl
theorem e56:Enters Tryz.prog 56:=enters_of Tryz.func56 (by kernel_rfl) rfl
theorem e57:Enters Tryz.prog 57:=enters_of Tryz.func57 (by kernel_rfl) rfl
theorem e58:Enters Tryz.prog 58:=enters_of Tryz.func58 (by kernel_rfl) rfl
theorem e59:Enters Tryz.prog 59:=enters_of Tryz.func59 (by kernel_rfl) rfl
theorem e60:Enters Tryz.prog 60:=enters_of Tryz.func60 (by kernel_rfl) rfl
theorem e61:Enters Tryz.prog 61:=enters_of Tryz.func61 (by kernel_rfl) rfl
theorem e62:Enters Tryz.prog 62:=enters_of Tryz.func62 (by kernel_rfl) rfl
theorem e63:Enters Tryz.prog 63:=enters_of Tryz.func63 (by kernel_rfl) rfl
theorem e64:Enters Tryz.prog 64:=enters_of Tryz.func64 (by kernel_rfl) rfl
theorem e65:Enters Tryz.prog 65:=enters_of Tryz.func65 (by kernel_rfl) rfl
theorem e66:Enters Tryz.prog 66:=enters_of Tryz.func66 (by kernel_rfl) rfl
theorem e67:Enters Tryz.prog 67:=enters_of Tryz.func67 (by kernel_rfl) rfl
theorem e68:Enters Tryz.prog 68:=enters_of Tryz.func68 (by kernel_rfl) rfl
theorem e69:Enters Tryz.prog 69:=enters_of Tryz.func69 (by kernel_rfl) rfl
theorem e70:Enters Tryz.prog 70:=enters_of Tryz.func70 (by kernel_rfl) rfl
theorem e71:Enters Tryz.prog 71:=enters_of Tryz.func71 (by kernel_rfl) rfl
theorem e72:Enters Tryz.prog 72:=enters_of Tryz.func72 (by kernel_rfl) rfl
theorem e73:Enters Tryz.prog 73:=enters_of Tryz.func73 (by kernel_rfl) rfl
theorem e74:Enters Tryz.prog 74:=enters_of Tryz.func74 (by kernel_rfl) rfl
theorem e75:Enters Tryz.prog 75:=enters_of Tryz.func75 (by kernel_rfl) rfl
theorem e76:Enters Tryz.prog 76:=enters_of Tryz.func76 (by kernel_rfl) rfl
theorem e77:Enters Tryz.prog 77:=enters_of Tryz.func77 (by kernel_rfl) rfl
theorem e78:Enters Tryz.prog 78:=enters_of Tryz.func78 (by kernel_rfl) rfl
theorem e79:Enters Tryz.prog 79:=enters_of Tryz.func79 (by kernel_rfl) rfl
theorem e80:Enters Tryz.prog 80:=enters_of Tryz.func80 (by kernel_rfl) rfl
theorem e92:Enters Tryz.prog 92:=enters_of Tryz.func92 (by kernel_rfl) rfl
theorem e95:Enters Tryz.prog 95:=enters_of Tryz.func95 (by kernel_rfl) rfl
theorem e96:Enters Tryz.prog 96:=enters_of Tryz.func96 (by kernel_rfl) rfl
theorem e97:Enters Tryz.prog 97:=enters_of Tryz.func97 (by kernel_rfl) rfl
theorem e98:Enters Tryz.prog 98:=enters_of Tryz.func98 (by kernel_rfl) rfl
theorem e99:Enters Tryz.prog 99:=enters_of Tryz.func99 (by kernel_rfl) rfl
theorem e101:Enters Tryz.prog 101:=enters_of Tryz.func101 (by kernel_rfl) rfl
theorem e102:Enters Tryz.prog 102:=enters_of Tryz.func102 (by kernel_rfl) rfl
theorem e103:Enters Tryz.prog 103:=enters_of Tryz.func103 (by kernel_rfl) rfl
theorem e104:Enters Tryz.prog 104:=enters_of Tryz.func104 (by kernel_rfl) rfl
theorem e105:Enters Tryz.prog 105:=enters_of Tryz.func105 (by kernel_rfl) rfl
theorem e106:Enters Tryz.prog 106:=enters_of Tryz.func106 (by kernel_rfl) rfl
theorem e107:Enters Tryz.prog 107:=enters_of Tryz.func107 (by kernel_rfl) rfl
theorem e108:Enters Tryz.prog 108:=enters_of Tryz.func108 (by kernel_rfl) rfl
theorem e109:Enters Tryz.prog 109:=enters_of Tryz.func109 (by kernel_rfl) rfl
theorem e110:Enters Tryz.prog 110:=enters_of Tryz.func110 (by kernel_rfl) rfl
theorem e111:Enters Tryz.prog 111:=enters_of Tryz.func111 (by kernel_rfl) rfl
theorem e112:Enters Tryz.prog 112:=enters_of Tryz.func112 (by kernel_rfl) rfl
theorem e113:Enters Tryz.prog 113:=enters_of Tryz.func113 (by kernel_rfl) rfl
theorem e114:Enters Tryz.prog 114:=enters_of Tryz.func114 (by kernel_rfl) rfl
theorem e115:Enters Tryz.prog 115:=enters_of Tryz.func115 (by kernel_rfl) rfl
theorem e116:Enters Tryz.prog 116:=enters_of Tryz.func116 (by kernel_rfl) rfl
theorem e117:Enters Tryz.prog 117:=enters_of Tryz.func117 (by kernel_rfl) rfl
theorem e118:Enters Tryz.prog 118:=enters_of Tryz.func118 (by kernel_rfl) rfl
theorem e119:Enters Tryz.prog 119:=enters_of Tryz.func119 (by kernel_rfl) rfl
theorem e120:Enters Tryz.prog 120:=enters_of Tryz.func120 (by kernel_rfl) rfl
theorem e121:Enters Tryz.prog 121:=enters_of Tryz.func121 (by kernel_rfl) rfl
theorem e127:Enters Tryz.prog 127:=enters_of Tryz.func127 (by kernel_rfl) rfl
theorem e128:Enters Tryz.prog 128:=enters_of Tryz.func128 (by kernel_rfl) rfl
theorem e129:Enters Tryz.prog 129:=enters_of Tryz.func129 (by kernel_rfl) rfl
theorem e130:Enters Tryz.prog 130:=enters_of Tryz.func130 (by kernel_rfl) rfl
theorem e131:Enters Tryz.prog 131:=enters_of Tryz.func131 (by kernel_rfl) rfl
theorem e132:Enters Tryz.prog 132:=enters_of Tryz.func132 (by kernel_rfl) rfl
theorem e133:Enters Tryz.prog 133:=enters_of Tryz.func133 (by kernel_rfl) rfl
theorem e134:Enters Tryz.prog 134:=enters_of Tryz.func134 (by kernel_rfl) rfl
theorem e135:Enters Tryz.prog 135:=enters_of Tryz.func135 (by kernel_rfl) rfl
theorem e136:Enters Tryz.prog 136:=enters_of Tryz.func136 (by kernel_rfl) rfl
theorem e137:Enters Tryz.prog 137:=enters_of Tryz.func137 (by kernel_rfl) rfl
theorem e138:Enters Tryz.prog 138:=enters_of Tryz.func138 (by kernel_rfl) rfl
theorem e139:Enters Tryz.prog 139:=enters_of Tryz.func139 (by kernel_rfl) rfl
theorem e140:Enters Tryz.prog 140:=enters_of Tryz.func140 (by kernel_rfl) rfl
theorem e141:Enters Tryz.prog 141:=enters_of Tryz.func141 (by kernel_rfl) rfl
theorem e143:Enters Tryz.prog 143:=enters_of Tryz.func143 (by kernel_rfl) rfl
theorem e144:Enters Tryz.prog 144:=enters_of Tryz.func144 (by kernel_rfl) rfl
theorem e145:Enters Tryz.prog 145:=enters_of Tryz.func145 (by kernel_rfl) rfl
theorem e146:Enters Tryz.prog 146:=enters_of Tryz.func146 (by kernel_rfl) rfl
theorem e147:Enters Tryz.prog 147:=enters_of Tryz.func147 (by kernel_rfl) rfl
theorem e148:Enters Tryz.prog 148:=enters_of Tryz.func148 (by kernel_rfl) rfl
theorem e149:Enters Tryz.prog 149:=enters_of Tryz.func149 (by kernel_rfl) rfl
theorem e150:Enters Tryz.prog 150:=enters_of Tryz.func150 (by kernel_rfl) rfl
theorem e157:Enters Tryz.prog 157:=enters_of Tryz.func157 (by kernel_rfl) rfl
theorem e158:Enters Tryz.prog 158:=enters_of Tryz.func158 (by kernel_rfl) rfl
theorem e159:Enters Tryz.prog 159:=enters_of Tryz.func159 (by kernel_rfl) rfl
theorem e160:Enters Tryz.prog 160:=enters_of Tryz.func160 (by kernel_rfl) rfl
theorem e161:Enters Tryz.prog 161:=enters_of Tryz.func161 (by kernel_rfl) rfl
theorem e162:Enters Tryz.prog 162:=enters_of Tryz.func162 (by kernel_rfl) rfl
theorem e163:Enters Tryz.prog 163:=enters_of Tryz.func163 (by kernel_rfl) rfl
theorem e164:Enters Tryz.prog 164:=enters_of Tryz.func164 (by kernel_rfl) rfl
theorem e167:Enters Tryz.prog 167:=enters_of Tryz.func167 (by kernel_rfl) rfl
theorem e168:Enters Tryz.prog 168:=enters_of Tryz.func168 (by kernel_rfl) rfl
theorem e169:Enters Tryz.prog 169:=enters_of Tryz.func169 (by kernel_rfl) rfl
theorem e170:Enters Tryz.prog 170:=enters_of Tryz.func170 (by kernel_rfl) rfl
theorem e171:Enters Tryz.prog 171:=enters_of Tryz.func171 (by kernel_rfl) rfl
theorem e172:Enters Tryz.prog 172:=enters_of Tryz.func172 (by kernel_rfl) rfl
theorem e175:Enters Tryz.prog 175:=enters_of Tryz.func175 (by kernel_rfl) rfl
theorem e176:Enters Tryz.prog 176:=enters_of Tryz.func176 (by kernel_rfl) rfl
theorem e177:Enters Tryz.prog 177:=enters_of Tryz.func177 (by kernel_rfl) rfl
theorem e178:Enters Tryz.prog 178:=enters_of Tryz.func178 (by kernel_rfl) rfl
theorem e179:Enters Tryz.prog 179:=enters_of Tryz.func179 (by kernel_rfl) rfl
theorem e180:Enters Tryz.prog 180:=enters_of Tryz.func180 (by kernel_rfl) rfl
theorem e181:Enters Tryz.prog 181:=enters_of Tryz.func181 (by kernel_rfl) rfl
theorem e182:Enters Tryz.prog 182:=enters_of Tryz.func182 (by kernel_rfl) rfl
theorem e194:Enters Tryz.prog 194:=enters_of Tryz.func194 (by kernel_rfl) rfl
theorem e195:Enters Tryz.prog 195:=enters_of Tryz.func195 (by kernel_rfl) rfl
theorem e197:Enters Tryz.prog 197:=enters_of Tryz.func197 (by kernel_rfl) rfl
theorem e198:Enters Tryz.prog 198:=enters_of Tryz.func198 (by kernel_rfl) rfl
theorem e199:Enters Tryz.prog 199:=enters_of Tryz.func199 (by kernel_rfl) rfl
theorem e201:Enters Tryz.prog 201:=enters_of Tryz.func201 (by kernel_rfl) rfl
theorem e202:Enters Tryz.prog 202:=enters_of Tryz.func202 (by kernel_rfl) rfl
theorem e203:Enters Tryz.prog 203:=enters_of Tryz.func203 (by kernel_rfl) rfl
theorem e204:Enters Tryz.prog 204:=enters_of Tryz.func204 (by kernel_rfl) rfl
theorem e205:Enters Tryz.prog 205:=enters_of Tryz.func205 (by kernel_rfl) rfl
theorem e206:Enters Tryz.prog 206:=enters_of Tryz.func206 (by kernel_rfl) rfl
theorem e207:Enters Tryz.prog 207:=enters_of Tryz.func207 (by kernel_rfl) rfl
theorem e208:Enters Tryz.prog 208:=enters_of Tryz.func208 (by kernel_rfl) rfl
theorem e209:Enters Tryz.prog 209:=enters_of Tryz.func209 (by kernel_rfl) rfl
theorem e210:Enters Tryz.prog 210:=enters_of Tryz.func210 (by kernel_rfl) rfl
theorem e211:Enters Tryz.prog 211:=enters_of Tryz.func211 (by kernel_rfl) rfl
theorem e217:Enters Tryz.prog 217:=enters_of Tryz.func217 (by kernel_rfl) rfl
theorem e218:Enters Tryz.prog 218:=enters_of Tryz.func218 (by kernel_rfl) rfl
theorem e221:Enters Tryz.prog 221:=enters_of Tryz.func221 (by kernel_rfl) rfl
theorem e222:Enters Tryz.prog 222:=enters_of Tryz.func222 (by kernel_rfl) rfl
theorem e223:Enters Tryz.prog 223:=enters_of Tryz.func223 (by kernel_rfl) rfl
theorem e224:Enters Tryz.prog 224:=enters_of Tryz.func224 (by kernel_rfl) rfl
theorem e225:Enters Tryz.prog 225:=enters_of Tryz.func225 (by kernel_rfl) rfl
theorem e226:Enters Tryz.prog 226:=enters_of Tryz.func226 (by kernel_rfl) rfl
theorem e228:Enters Tryz.prog 228:=enters_of Tryz.func228 (by kernel_rfl) rfl
theorem e229:Enters Tryz.prog 229:=enters_of Tryz.func229 (by kernel_rfl) rfl
theorem e230:Enters Tryz.prog 230:=enters_of Tryz.func230 (by kernel_rfl) rfl
theorem e231:Enters Tryz.prog 231:=enters_of Tryz.func231 (by kernel_rfl) rfl
theorem e233:Enters Tryz.prog 233:=enters_of Tryz.func233 (by kernel_rfl) rfl
theorem e234:Enters Tryz.prog 234:=enters_of Tryz.func234 (by kernel_rfl) rfl
theorem e235:Enters Tryz.prog 235:=enters_of Tryz.func235 (by kernel_rfl) rfl
theorem e236:Enters Tryz.prog 236:=enters_of Tryz.func236 (by kernel_rfl) rfl
theorem e237:Enters Tryz.prog 237:=enters_of Tryz.func237 (by kernel_rfl) rfl
theorem e238:Enters Tryz.prog 238:=enters_of Tryz.func238 (by kernel_rfl) rfl
theorem e239:Enters Tryz.prog 239:=enters_of Tryz.func239 (by kernel_rfl) rfl
theorem e240:Enters Tryz.prog 240:=enters_of Tryz.func240 (by kernel_rfl) rfl
theorem e241:Enters Tryz.prog 241:=enters_of Tryz.func241 (by kernel_rfl) rfl
theorem e242:Enters Tryz.prog 242:=enters_of Tryz.func242 (by kernel_rfl) rfl
theorem e243:Enters Tryz.prog 243:=enters_of Tryz.func243 (by kernel_rfl) rfl
theorem e244:Enters Tryz.prog 244:=enters_of Tryz.func244 (by kernel_rfl) rfl
theorem e245:Enters Tryz.prog 245:=enters_of Tryz.func245 (by kernel_rfl) rfl
theorem e246:Enters Tryz.prog 246:=enters_of Tryz.func246 (by kernel_rfl) rfl
theorem e247:Enters Tryz.prog 247:=enters_of Tryz.func247 (by kernel_rfl) rfl
theorem e248:Enters Tryz.prog 248:=enters_of Tryz.func248 (by kernel_rfl) rfl
theorem e249:Enters Tryz.prog 249:=enters_of Tryz.func249 (by kernel_rfl) rfl
theorem e250:Enters Tryz.prog 250:=enters_of Tryz.func250 (by kernel_rfl) rfl
theorem e251:Enters Tryz.prog 251:=enters_of Tryz.func251 (by kernel_rfl) rfl
theorem e252:Enters Tryz.prog 252:=enters_of Tryz.func252 (by kernel_rfl) rfl
theorem x100:∀ (b:Int) (w:World),(callFunc 100 #[.int .u64 b]).run Tryz.prog w=.ok (.value (.float .f64 b.toNat)) w:=fun b w=>by kernel_rfl
theorem x122:∀ (b:Nat) (w:World),(callFunc 122 #[.float .f64 b]).run Tryz.prog w=.ok (.value (.int .u64 b)) w:=fun b w=>by kernel_rfl
end Go.Proofs.YtbcbfjnlnmhpbaaGreat
namespace Go.Proofs
open Go.Shelf
def Tryz.lays213_ren:Go.Shelf.Ren:=⟨fun | 213=>196 | 265=>219 | n=>n,fun | 9=>9 | 3=>3 | n=>n,fun | n=>n⟩
def Tryz.lays106_ren:Go.Shelf.Ren:=⟨fun | 106=>161 | 213=>196 | 265=>219 | n=>n,fun | 9=>9 | 3=>3 | n=>n,fun | n=>n⟩
theorem Tryz.lays106:Go.Proofs.Lays.n106 Tryz.prog Tryz.lays106_ren:={
 mixed:=by kernel_rfl
 f106:=Tryz.func161.trans (congrArg some (by kernel_rfl))
 f213:=Tryz.func196.trans (congrArg some (by kernel_rfl))
 f265:=Tryz.func219.trans (congrArg some (by kernel_rfl))
 t3:=Tryz.underlying3
 a3:=Tryz.isAgg3
 z3:=Tryz.sizeOf3
 v3:=Tryz.zeroValue3
 t9:=Tryz.underlying9
 a9:=Tryz.isAgg9
 z9:=Tryz.sizeOf9
 v9:=Tryz.zeroValue9 }
open Go.RowKit in
theorem Tryz.strings_Compare (a b:ByteArray) (w:World) :
  Calls Tryz.prog 161 #[.string a,.string b] w fun e w'=>e=.returned (.int .i64 (Lib.compareBytes a.data.toList b.data.toList))∧w'=w:=Any.strings_Compare Tryz.lays106 a b w
def Tryz.lays137_ren:Go.Shelf.Ren:=⟨fun | 137=>251 | 217=>253 | 266=>254 | n=>n,fun | 9=>9 | 5=>5 | 3=>3 | n=>n,fun | n=>n⟩
theorem Tryz.lays137:Go.Proofs.Lays.n137 Tryz.prog Tryz.lays137_ren:={
 mixed:=by kernel_rfl
 f137:=Tryz.func251.trans (congrArg some (by kernel_rfl))
 f217:=Tryz.func253.trans (congrArg some (by kernel_rfl))
 f266:=Tryz.func254.trans (congrArg some (by kernel_rfl))
 t3:=Tryz.underlying3
 a3:=Tryz.isAgg3
 z3:=Tryz.sizeOf3
 v3:=Tryz.zeroValue3
 t5:=Tryz.underlying5
 a5:=Tryz.isAgg5
 z5:=Tryz.sizeOf5
 v5:=Tryz.zeroValue5
 t9:=Tryz.underlying9
 a9:=Tryz.isAgg9
 z9:=Tryz.sizeOf9
 v9:=Tryz.zeroValue9 }
open Go.RowKit in
theorem Tryz.strings_IndexByte (s:ByteArray) (c:Int) (w:World) :
  Calls Tryz.prog 251 #[.string s,.int .u8 c] w fun e w'=>e=.returned (.int .i64 (Lib.indexByte s.data.toList c.toNat.toUInt8))∧w'=w:=Any.strings_IndexByte Tryz.lays137 s c w
def Tryz.lays215_ren:Go.Shelf.Ren:=⟨fun | 215=>142 | n=>n,fun | 3=>3 | 4=>4 | n=>n,fun | n=>n⟩
def Tryz.lays122_ren:Go.Shelf.Ren:=⟨fun | 122=>106 | 215=>142 | n=>n,fun | 3=>3 | 4=>4 | n=>n,fun | n=>n⟩
theorem Tryz.lays122:Go.Proofs.Lays.n122 Tryz.prog Tryz.lays122_ren:={
 mixed:=by kernel_rfl
 f122:=Tryz.func106.trans (congrArg some (by kernel_rfl))
 f215:=Tryz.func142.trans (congrArg some (by kernel_rfl))
 t3:=Tryz.underlying3
 a3:=Tryz.isAgg3
 z3:=Tryz.sizeOf3
 v3:=Tryz.zeroValue3
 t4:=Tryz.underlying4
 a4:=Tryz.isAgg4
 z4:=Tryz.sizeOf4
 v4:=Tryz.zeroValue4 }
open Go.RowKit in
theorem Tryz.cmp_Compare_int (x y:Int) (w:World) :
  Calls Tryz.prog 106 #[.int .i64 x,.int .i64 y] w fun e w'=>e=.returned (.int .i64 (Lib.compareInt x y))∧w'=w:=Any.cmp_Compare_int Tryz.lays122 x y w
def Tryz.lays189_ren:Go.Shelf.Ren:=⟨fun | 189=>128 | 125=>156 | 257=>155 | 128=>192 | 129=>193 | 294=>184 | 295=>185 | 296=>186 | 297=>187 | 298=>188 | 299=>189 | 216=>173 | 300=>190 | 301=>191 | 328=>212 | 329=>213 | 330=>214 | 331=>215 | 332=>216 | 215=>142 | 343=>232 | n=>n,fun | 28=>35 | 3=>3 | 46=>198 | 0=>0 | 51=>241 | 53=>22 | 4=>4 | 183=>235 | 182=>234 | 131=>104 | 5=>5 | 9=>9 | 218=>259 | 222=>263 | 228=>273 | 229=>274 | n=>n,fun | n=>n⟩
theorem Tryz.lays189:Go.Proofs.Lays.n189 Tryz.prog Tryz.lays189_ren:={
 mixed:=by kernel_rfl
 f125:=Tryz.func156.trans (congrArg some (by kernel_rfl))
 f128:=Tryz.func192.trans (congrArg some (by kernel_rfl))
 f129:=Tryz.func193.trans (congrArg some (by kernel_rfl))
 f189:=Tryz.func128.trans (congrArg some (by kernel_rfl))
 f215:=Tryz.func142.trans (congrArg some (by kernel_rfl))
 f216:=Tryz.func173.trans (congrArg some (by kernel_rfl))
 f257:=Tryz.func155.trans (congrArg some (by kernel_rfl))
 f294:=Tryz.func184.trans (congrArg some (by kernel_rfl))
 f295:=Tryz.func185.trans (congrArg some (by kernel_rfl))
 f296:=Tryz.func186.trans (congrArg some (by kernel_rfl))
 f297:=Tryz.func187.trans (congrArg some (by kernel_rfl))
 f298:=Tryz.func188.trans (congrArg some (by kernel_rfl))
 f299:=Tryz.func189.trans (congrArg some (by kernel_rfl))
 f300:=Tryz.func190.trans (congrArg some (by kernel_rfl))
 f301:=Tryz.func191.trans (congrArg some (by kernel_rfl))
 f328:=Tryz.func212.trans (congrArg some (by kernel_rfl))
 f329:=Tryz.func213.trans (congrArg some (by kernel_rfl))
 f330:=Tryz.func214.trans (congrArg some (by kernel_rfl))
 f331:=Tryz.func215.trans (congrArg some (by kernel_rfl))
 f332:=Tryz.func216.trans (congrArg some (by kernel_rfl))
 f343:=Tryz.func232.trans (congrArg some (by kernel_rfl))
 t0:=Tryz.underlying0
 a0:=Tryz.isAgg0
 z0:=Tryz.sizeOf0
 v0:=Tryz.zeroValue0
 t3:=Tryz.underlying3
 a3:=Tryz.isAgg3
 z3:=Tryz.sizeOf3
 v3:=Tryz.zeroValue3
 t4:=Tryz.underlying4
 a4:=Tryz.isAgg4
 z4:=Tryz.sizeOf4
 v4:=Tryz.zeroValue4
 t5:=Tryz.underlying5
 a5:=Tryz.isAgg5
 z5:=Tryz.sizeOf5
 v5:=Tryz.zeroValue5
 t9:=Tryz.underlying9
 a9:=Tryz.isAgg9
 z9:=Tryz.sizeOf9
 v9:=Tryz.zeroValue9
 t28:=Tryz.underlying35
 a28:=Tryz.isAgg35
 z28:=Tryz.sizeOf35
 v28:=Tryz.zeroValue35
 t46:=Tryz.underlying198
 a46:=Tryz.isAgg198
 z46:=Tryz.sizeOf198
 v46:=Tryz.zeroValue198
 t51:=Tryz.underlying241
 a51:=Tryz.isAgg241
 z51:=Tryz.sizeOf241
 v51:=Tryz.zeroValue241
 t53:=Tryz.underlying22
 a53:=Tryz.isAgg22
 z53:=Tryz.sizeOf22
 v53:=Tryz.zeroValue22
 t131:=Tryz.underlying104
 a131:=Tryz.isAgg104
 z131:=Tryz.sizeOf104
 v131:=Tryz.zeroValue104
 t182:=Tryz.underlying234
 a182:=Tryz.isAgg234
 z182:=Tryz.sizeOf234
 v182:=Tryz.zeroValue234
 t183:=Tryz.underlying235
 a183:=Tryz.isAgg235
 z183:=Tryz.sizeOf235
 v183:=Tryz.zeroValue235
 t218:=Tryz.underlying259
 a218:=Tryz.isAgg259
 z218:=Tryz.sizeOf259
 v218:=Tryz.zeroValue259
 t222:=Tryz.underlying263
 a222:=Tryz.isAgg263
 z222:=Tryz.sizeOf263
 v222:=Tryz.zeroValue263
 t228:=Tryz.underlying273
 a228:=Tryz.isAgg273
 z228:=Tryz.sizeOf273
 v228:=Tryz.zeroValue273
 t229:=Tryz.underlying274
 a229:=Tryz.isAgg274
 z229:=Tryz.sizeOf274
 v229:=Tryz.zeroValue274 }
open Go.Sort Go.RowKit in
theorem Tryz.slices_Sort_int (blk off cap:Nat) (zs:List Int) (w:World) (hH:Holds (Value.int .i64) w blk off zs.toArray) (hblk:blk < w.heap.size) (hsz:zs.length < 4611686018427387904) :
  Calls Tryz.prog 128 #[.slice (some ⟨blk,off,none⟩) zs.length cap] w fun e w'=>
   e=.returned (.tuple #[])∧∃ n os,w'=grow (putRow (Value.int .i64) (Sort.ahead w n) blk off (zs.mergeSort fun x y=>decide (x≤y)).toArray) os:=Any.slices_Sort_int Tryz.lays189 blk off cap zs w hH hblk hsz
def Tryz.lays107_ren:Go.Shelf.Ren:=⟨fun | 107=>209 | 108=>227 | n=>n,fun | 28=>35 | 3=>3 | 4=>4 | 0=>0 | n=>n,fun | n=>n⟩
theorem Tryz.lays107:Go.Proofs.Lays.n107 Tryz.prog Tryz.lays107_ren:={
 mixed:=by kernel_rfl
 f107:=Tryz.func209.trans (congrArg some (by kernel_rfl))
 f108:=Tryz.func227.trans (congrArg some (by kernel_rfl))
 t0:=Tryz.underlying0
 a0:=Tryz.isAgg0
 z0:=Tryz.sizeOf0
 v0:=Tryz.zeroValue0
 t3:=Tryz.underlying3
 a3:=Tryz.isAgg3
 z3:=Tryz.sizeOf3
 v3:=Tryz.zeroValue3
 t4:=Tryz.underlying4
 a4:=Tryz.isAgg4
 z4:=Tryz.sizeOf4
 v4:=Tryz.zeroValue4
 t28:=Tryz.underlying35
 a28:=Tryz.isAgg35
 z28:=Tryz.sizeOf35
 v28:=Tryz.zeroValue35 }
open Go.Lib in
theorem Tryz.slices_Contains_int (b off n c:Nat) (zs:List Int) (x:Int) (w:World) (hz:n≤zs.length) (hbig:n≤9223372036854775807) (hc:∀ j,j < zs.length→w.cell? ⟨b,off + j,none⟩=some (.int .i64 (zs.getD j 0))) :
  Calls Tryz.prog 209 #[.slice (some ⟨b,off,none⟩) n c,.int .i64 x] w fun e w'=>e=.returned (.bool ((zs.take n).contains x))∧w'=w:=Any.slices_Contains_int Tryz.lays107 b off n c zs x w hz hbig hc
open Go.Lib in
theorem Tryz.slices_Contains_int_empty (a:Option Addr) (c:Nat) (x:Int) (w:World) :
  Calls Tryz.prog 209 #[.slice a 0 c,.int .i64 x] w fun e w'=>e=.returned (.bool false)∧w'=w:=Any.slices_Contains_int_empty Tryz.lays107 a c x w
def Tryz.laysNm220_ren:Go.Shelf.Ren:=⟨fun | 20=>129 | n=>n,fun | 22=>35 | 3=>3 | 4=>4 | 0=>0 | n=>n,fun | n=>n⟩
theorem Tryz.laysNm220:Go.Proofs.Lays2.n20 Tryz.prog Tryz.laysNm220_ren:={
 mixed:=by kernel_rfl
 f20:=Tryz.func129.trans (congrArg some (by kernel_rfl))
 t0:=Tryz.underlying0
 a0:=Tryz.isAgg0
 z0:=Tryz.sizeOf0
 v0:=Tryz.zeroValue0
 t3:=Tryz.underlying3
 a3:=Tryz.isAgg3
 z3:=Tryz.sizeOf3
 v3:=Tryz.zeroValue3
 t4:=Tryz.underlying4
 a4:=Tryz.isAgg4
 z4:=Tryz.sizeOf4
 v4:=Tryz.zeroValue4
 t22:=Tryz.underlying35
 a22:=Tryz.isAgg35
 z22:=Tryz.sizeOf35
 v22:=Tryz.zeroValue35
 i3:=by kernel_rfl }
open Go.RowKit Go.Lib Go.Sort in
theorem Tryz.slices_Compact_int (blk off cap:Nat) (zs:List Int) (w:World) (hH:Holds (Value.int .i64) w blk off zs.toArray) (hsz:zs.length≤9223372036854775807) (hcap:zs.length≤cap) :
  Calls Tryz.prog 129 #[.slice (some ⟨blk,off,none⟩) zs.length cap] w fun e w'=>e=.returned (.slice (some ⟨blk,off,none⟩) (Lib.compact zs).length cap)∧∃ q,w'=putRow (Value.int .i64) (Sort.ahead w q) blk off (Lib.compact zs ++ List.replicate (zs.length - (Lib.compact zs).length) 0).toArray:=Any.slices_Compact_int Tryz.laysNm220 blk off cap zs w hH hsz hcap
open Go.RowKit Go.Lib Go.Sort in
theorem Tryz.slices_Compact_int_empty (a:Option Addr) (cap:Nat) (w:World) :
  Calls Tryz.prog 129 #[.slice a 0 cap] w fun e w'=>e=.returned (.slice a 0 cap)∧w'=w:=Any.slices_Compact_int_empty Tryz.laysNm220 a cap w
def Tryz.laysNm225_ren:Go.Shelf.Ren:=⟨fun | 25=>143 | 31=>173 | 32=>174 | 37=>142 | n=>n,fun | 22=>35 | 3=>3 | 4=>4 | 40=>198 | 0=>0 | n=>n,fun | n=>n⟩
theorem Tryz.laysNm225:Go.Proofs.Lays2.n25 Tryz.prog Tryz.laysNm225_ren:={
 mixed:=by kernel_rfl
 f25:=Tryz.func143.trans (congrArg some (by kernel_rfl))
 f31:=Tryz.func173.trans (congrArg some (by kernel_rfl))
 f32:=Tryz.func174.trans (congrArg some (by kernel_rfl))
 f37:=Tryz.func142.trans (congrArg some (by kernel_rfl))
 t0:=Tryz.underlying0
 a0:=Tryz.isAgg0
 z0:=Tryz.sizeOf0
 v0:=Tryz.zeroValue0
 t3:=Tryz.underlying3
 a3:=Tryz.isAgg3
 z3:=Tryz.sizeOf3
 v3:=Tryz.zeroValue3
 t4:=Tryz.underlying4
 a4:=Tryz.isAgg4
 z4:=Tryz.sizeOf4
 v4:=Tryz.zeroValue4
 t22:=Tryz.underlying35
 a22:=Tryz.isAgg35
 z22:=Tryz.sizeOf35
 v22:=Tryz.zeroValue35
 t40:=Tryz.underlying198
 a40:=Tryz.isAgg198
 z40:=Tryz.sizeOf198
 v40:=Tryz.zeroValue198 }
open Go.RowKit Go.Lib in
theorem Tryz.slices_BinarySearch_int (b off n c:Nat) (zs:List Int) (x:Int) (w:World) (hz:n≤zs.length) (hbig:n < 4611686018427387904) (hc:∀ j,j < zs.length→w.cell? ⟨b,off + j,none⟩=some (.int .i64 (zs.getD j 0))) (hs:(zs.take n).Pairwise (·≤·)) :
  Calls Tryz.prog 143 #[.slice (some ⟨b,off,none⟩) n c,.int .i64 x] w fun e w'=>e=.returned (.tuple #[.int .i64 ((zs.take n).countP (· < x):Nat),.bool ((zs.take n).contains x)])∧∃ q,w'=w.drewN q:=Any.slices_BinarySearch_int Tryz.laysNm225 b off n c zs x w hz hbig hc hs
open Go.RowKit Go.Sort in
theorem Tryz.slices_Sort_int_none (p:Option Addr) (cap:Nat) (w:World) :
  Calls Tryz.prog 128 #[.slice p 0 cap] w fun e w'=>e=.returned (.tuple #[])∧w'=w:=Any.slices_Sort_int_none Tryz.lays189 p cap w
open Go.RowKit Go.Lib in
theorem Tryz.slices_BinarySearch_int_empty (a:Option Addr) (c:Nat) (x:Int) (w:World) :
  Calls Tryz.prog 143 #[.slice a 0 c,.int .i64 x] w fun e w'=>e=.returned (.tuple #[.int .i64 0,.bool false])∧w'=w:=Any.slices_BinarySearch_int_empty Tryz.laysNm225 a c x w
end Go.Proofs
set_option linter.unusedVariables false
set_option linter.unusedSimpArgs false
set_option maxHeartbeats 400000
set_option maxRecDepth 100000
namespace Go.Proofs.YtbcbfjnlnmhpbaaGreat
open Go Go.X
@[irreducible] def letS (c:Int):Bool:=decide (97≤c∧c≤122∨65≤c∧c≤90∨c=95)
theorem letter_ok (c:Int) (w:World):Fx Tryz.prog 194 [.int .u8 c] w (fun v w'=>v=.bool (letS c)∧w=w'):=by
 refine enter Tryz.func194 rfl rfl rfl _ (Pick.sub (l:=[0]) (.cons rfl .nil)) ?_
 refine GG ?_
 refine SP 5 (fun h5=>?_) (fun h5=>?_)
 ·iterate 2 refine QQ (Yld.pure rfl) ?_
  refine GG ?_
  refine SP 9 (fun h9=>?_) (fun h9=>?_)
  ·iterate 6 refine RL.no (.no rfl rfl rfl rfl) rfl rfl ?_
   refine GG ?_
   iterate 2 refine RL.no (.no rfl rfl rfl rfl) rfl rfl ?_
   refine GG ?_
   refine RK.ret_of Tryz.func194 (res1 rfl rfl) ?_ _
   exact ⟨_,rfl,congrArg _ (by rw [Bool.eq_iff_iff];simp [letS];omega),rfl⟩
  ·iterate 3 refine QQ (Yld.pure rfl) ?_
   refine SP 12 (fun h12=>?_) (fun h12=>?_)
   ·iterate 3 refine QQ (Yld.pure rfl) ?_
    refine GG ?_
    refine SP 17 (fun h17=>?_) (fun h17=>?_)
    ·iterate 2 refine RL.no (.no rfl rfl rfl rfl) rfl rfl ?_
     refine GG ?_
     refine RK.ret_of Tryz.func194 (res1 rfl rfl) ?_ _
     exact ⟨_,rfl,congrArg _ (by rw [Bool.eq_iff_iff];simp [letS];omega),rfl⟩
    ·iterate 2 refine QQ (Yld.pure rfl) ?_
     refine GG ?_
     refine RK.ret_of Tryz.func194 (res1 rfl rfl) ?_ _
     exact ⟨_,rfl,congrArg _ (by rw [Bool.eq_iff_iff];simp [letS];omega),rfl⟩
   ·iterate 2 refine RL.no (.no rfl rfl rfl rfl) rfl rfl ?_
    refine QQ (Yld.pure rfl) ?_
    refine GG ?_
    iterate 2 refine QQ (Yld.pure rfl) ?_
    refine GG ?_
    refine RK.ret_of Tryz.func194 (res1 rfl rfl) ?_ _
    exact ⟨_,rfl,congrArg _ (by rw [Bool.eq_iff_iff];simp [letS];omega),rfl⟩
 ·iterate 2 refine RL.no (.no rfl rfl rfl rfl) rfl rfl ?_
  refine GG ?_
  iterate 3 refine QQ (Yld.pure rfl) ?_
  refine SP 12 (fun h12=>?_) (fun h12=>?_)
  ·iterate 3 refine QQ (Yld.pure rfl) ?_
   refine GG ?_
   refine SP 17 (fun h17=>?_) (fun h17=>?_)
   ·iterate 2 refine RL.no (.no rfl rfl rfl rfl) rfl rfl ?_
    refine GG ?_
    refine RK.ret_of Tryz.func194 (res1 rfl rfl) ?_ _
    exact ⟨_,rfl,congrArg _ (by rw [Bool.eq_iff_iff];simp [letS];omega),rfl⟩
   ·iterate 2 refine QQ (Yld.pure rfl) ?_
    refine GG ?_
    refine RK.ret_of Tryz.func194 (res1 rfl rfl) ?_ _
    exact ⟨_,rfl,congrArg _ (by rw [Bool.eq_iff_iff];simp [letS];omega),rfl⟩
  ·iterate 2 refine RL.no (.no rfl rfl rfl rfl) rfl rfl ?_
   refine QQ (Yld.pure rfl) ?_
   refine GG ?_
   iterate 2 refine QQ (Yld.pure rfl) ?_
   refine GG ?_
   refine RK.ret_of Tryz.func194 (res1 rfl rfl) ?_ _
   exact ⟨_,rfl,congrArg _ (by rw [Bool.eq_iff_iff];simp [letS];omega),rfl⟩
@[irreducible] def valS (s:ByteArray):Bool:=decide (1≤s.size∧s.size≤24)
@[irreducible] def chS (c:Int):Bool:=letS c || decide (48≤c∧c≤57)
@[irreducible] def nameS (s:ByteArray):Bool:=decide (1≤s.size∧s.size≤12) && letS (bt s 0).toNat && (List.range s.size).all fun i=>chS (bt s i).toNat
theorem name_no1 {s:ByteArray} (h:¬ (1≤s.size∧s.size≤12)):nameS s=false:=by simp [nameS,h]
theorem name_no2 {s:ByteArray} (h:letS (bt s 0).toNat=false):nameS s=false:=by simp [nameS,h]
theorem name_no3 {s:ByteArray} {i:Nat} (hi:i < s.size) (h:chS (bt s i).toNat=false):nameS s=false:=by
 simp only [nameS,Bool.and_eq_false_iff]
 refine .inr ?_
 rw [List.all_eq_false]
 exact ⟨i,List.mem_range.2 hi,by simp [h]⟩
theorem name_yes {s:ByteArray} (h1:1≤s.size) (h2:s.size≤12) (h3:letS (bt s 0).toNat=true) (h:∀ i,i < s.size→chS (bt s i).toNat=true):nameS s=true:=by
 simp only [nameS,Bool.and_eq_true,decide_eq_true_eq,List.all_eq_true,List.mem_range]
 exact ⟨⟨⟨h1,h2⟩,h3⟩,h⟩
theorem name_ok (s:ByteArray) (w:World):Fx Tryz.prog 157 [.string s] w (fun v w'=>v=.bool (nameS s)∧w=w'):=by
 refine enter Tryz.func157 rfl rfl rfl _ (Pick.sub (l:=[0]) (.cons rfl .nil)) ?_
 refine GG ?_
 refine QQ (Yld.lenStr u9 rfl) ?_
 refine GG ?_
 refine SP 7 (fun h7=>?_) (fun h7=>?_)
 ·iterate 3 refine RL.no (.no rfl rfl rfl rfl) rfl rfl ?_
  refine GG ?_
  iterate 4 refine RL.no (.no rfl rfl rfl rfl) rfl rfl ?_
  refine GG ?_
  refine RK.condT rfl ?_
  refine GG ?_
  refine RK.ret_of Tryz.func157 (res1 rfl rfl) ?_ _
  exact ⟨_,rfl,congrArg _ (by first
    | exact (name_no1 (by omega)).symm
    | exact (name_no3 (i:=k) (by omega) (by simp at h28;simp [chS,h28];omega)).symm
    | exact (name_yes (by omega) (by omega) (by simpa using h17) fun i hi=>hall i (by omega)).symm
    | exact (name_no2 (by simpa using h17)).symm),rfl⟩
 ·refine QQ (Yld.pure rfl) ?_
  refine QQ (Yld.lenStr u9 rfl) ?_
  refine QQ (Yld.pure rfl) ?_
  refine GG ?_
  refine SP 12 (fun h12=>?_) (fun h12=>?_)
  ·iterate 4 refine RL.no (.no rfl rfl rfl rfl) rfl rfl ?_
   refine GG ?_
   refine RK.condT rfl ?_
   refine GG ?_
   refine RK.ret_of Tryz.func157 (res1 rfl rfl) ?_ _
   exact ⟨_,rfl,congrArg _ (by first
     | exact (name_no1 (by omega)).symm
     | exact (name_no3 (i:=k) (by omega) (by simp at h28;simp [chS,h28];omega)).symm
     | exact (name_yes (by omega) (by omega) (by simpa using h17) fun i hi=>hall i (by omega)).symm
     | exact (name_no2 (by simpa using h17)).symm),rfl⟩
  ·refine QQ (Yld.pure rfl) ?_
   refine QQ (Yld.idxStr u9 rfl rfl (by omega) (by omega)) ?_
   refine OP (Does.call rfl e194 (letter_ok _ _)) ?_
   rintro _ _ ⟨rfl,rfl⟩
   refine QQ (Yld.pure rfl) ?_
   refine GG ?_
   refine CD (fun h17=>?_) (fun h17=>?_)
   ·refine GG ?_
    refine RK.ret_of Tryz.func157 (res1 rfl rfl) ?_ _
    exact ⟨_,rfl,congrArg _ (by first
      | exact (name_no1 (by omega)).symm
      | exact (name_no3 (i:=k) (by omega) (by simp at h28;simp [chS,h28];omega)).symm
      | exact (name_yes (by omega) (by omega) (by simpa using h17) fun i hi=>hall i (by omega)).symm
      | exact (name_no2 (by simpa using h17)).symm),rfl⟩
   ·refine GG ?_
    refine QQ (Yld.lenStr u9 rfl) ?_
    refine GG ?_
    refine RK.loop (fun k:Nat=>[(0,.string s),(19,.int .i64 s.size),(20,.int .i64 k)]) (fun k w'=>w=w'∧k≤s.size∧∀ i,i < k→chS (bt s i).toNat=true) (fun k=>s.size - k) 0 ⟨rfl,rfl,rfl,trivial⟩ ⟨rfl,by omega,fun i hi=>by omega⟩ (fun k w' hI ih=>?_)
    obtain ⟨rfl,hk,hall⟩:=hI
    refine GG ?_
    refine CD (fun h21=>?_) (fun h21=>?_)
    ·refine GG ?_
     refine QQ (Yld.idxStrN u9 rfl rfl (by omega)) ?_
     refine OP (Does.call rfl e194 (letter_ok _ _)) ?_
     rintro _ _ ⟨rfl,rfl⟩
     refine GG ?_
     refine SP 28 (fun h28=>?_) (fun h28=>?_)
     ·iterate 2 refine QQ (Yld.pure rfl) ?_
      refine QQ (Yld.idxStrN u9 rfl rfl (by omega)) ?_
      iterate 2 refine QQ (Yld.pure rfl) ?_
      refine SP 33 (fun h33=>?_) (fun h33=>?_)
      ·iterate 4 refine RL.no (.no rfl rfl rfl rfl) rfl rfl ?_
       refine QQ (Yld.pure rfl) ?_
       refine GG ?_
       refine RK.condT rfl ?_
       refine GG ?_
       refine RK.ret_of Tryz.func157 (res1 rfl rfl) ?_ _
       exact ⟨_,rfl,congrArg _ (by first
         | exact (name_no1 (by omega)).symm
         | exact (name_no3 (i:=k) (by omega) (by simp at h28;simp [chS,h28];omega)).symm
         | exact (name_yes (by omega) (by omega) (by simpa using h17) fun i hi=>hall i (by omega)).symm
         | exact (name_no2 (by simpa using h17)).symm),rfl⟩
      ·iterate 2 refine QQ (Yld.pure rfl) ?_
       refine QQ (Yld.idxStrN u9 rfl rfl (by omega)) ?_
       iterate 2 refine QQ (Yld.pure rfl) ?_
       refine GG ?_
       refine CD (fun h39=>?_) (fun h39=>?_)
       ·refine GG ?_
        refine RK.ret_of Tryz.func157 (res1 rfl rfl) ?_ _
        exact ⟨_,rfl,congrArg _ (by first
          | exact (name_no1 (by omega)).symm
          | exact (name_no3 (i:=k) (by omega) (by simp at h28;simp [chS,h28];omega)).symm
          | exact (name_yes (by omega) (by omega) (by simpa using h17) fun i hi=>hall i (by omega)).symm
          | exact (name_no2 (by simpa using h17)).symm),rfl⟩
       ·refine RK.skip ?_
        refine RK.inBlock ?_
        refine RK.region ?_
        iterate 2 refine RL.p rfl rfl ?_
        refine RL.re (d:=20) rfl rfl (succ_i64 (by omega)) ?_
        refine RL.done ?_
        exact RK.back (ih (k + 1) _ ⟨rfl,by omega,fun i hi=>by by_cases e:i=k;(subst e;simp at h28;simp [chS,h28];try omega);exact hall i (by omega)⟩ (by omega)) ⟨rfl,rfl,rfl,trivial⟩
     ·iterate 10 refine RL.no (.no rfl rfl rfl rfl) rfl rfl ?_
      refine GG ?_
      refine RK.condF rfl ?_
      refine RK.skip ?_
      refine RK.inBlock ?_
      refine RK.region ?_
      iterate 2 refine RL.p rfl rfl ?_
      refine RL.re (d:=20) rfl rfl (succ_i64 (by omega)) ?_
      refine RL.done ?_
      exact RK.back (ih (k + 1) _ ⟨rfl,by omega,fun i hi=>by by_cases e:i=k;(subst e;simp at h28;simp [chS,h28];try omega);exact hall i (by omega)⟩ (by omega)) ⟨rfl,rfl,rfl,trivial⟩
    ·refine RK.exit rfl ?_
     refine GG ?_
     refine RK.ret_of Tryz.func157 (res1 rfl rfl) ?_ _
     exact ⟨_,rfl,congrArg _ (by first
       | exact (name_no1 (by omega)).symm
       | exact (name_no3 (i:=k) (by omega) (by simp at h28;simp [chS,h28];omega)).symm
       | exact (name_yes (by omega) (by omega) (by simpa using h17) fun i hi=>hall i (by omega)).symm
       | exact (name_no2 (by simpa using h17)).symm),rfl⟩
@[irreducible] def nanS (b:Nat):Bool:=Ieee.double.order b b != some .eq
theorem no_ok (b:Nat) (w:World):Fx Tryz.prog 162 [.float .f64 b] w (fun v w'=>v=.bool (nanS b)∧w=w'):=by
 refine enter Tryz.func162 rfl rfl rfl _ (Pick.sub (l:=[0]) (.cons rfl .nil)) ?_
 refine GG ?_
 refine RK.ret_of Tryz.func162 (res1 rfl rfl) ?_ _
 exact ⟨_,rfl,by unfold nanS;rfl,rfl⟩
def bitsS (b:Nat):Int:=if nanS b then 9221120237041090561 else b
theorem bits_ok (b:Nat) (w:World):Fx Tryz.prog 132 [.float .f64 b] w (fun v w'=>v=.int .u64 (bitsS b)∧w=w'):=by
 refine enter Tryz.func132 rfl rfl rfl _ (Pick.sub (l:=[0]) (.cons rfl .nil)) ?_
 refine GG ?_
 refine OP (Does.call rfl e162 (no_ok b _)) ?_
 rintro _ _ ⟨rfl,rfl⟩
 refine RL.done ?_
 refine CD (fun h4=>?_) (fun h4=>?_)
 ·refine GG ?_
  refine RK.ret_of Tryz.func132 (res1 rfl rfl) ?_ _
  exact ⟨_,rfl,by simp_all [bitsS],rfl⟩
 ·refine GG ?_
  refine QQ (Yld.callx rfl (fun w=>x122 _ w)) ?_
  refine GG ?_
  refine RK.ret_of Tryz.func132 (res1 rfl rfl) ?_ _
  exact ⟨_,rfl,by simp_all [bitsS],rfl⟩
end Go.Proofs.YtbcbfjnlnmhpbaaGreat
set_option linter.unusedVariables false
set_option linter.unusedSimpArgs false
set_option maxHeartbeats 400000
set_option maxRecDepth 100000
namespace Go.Proofs.YtbcbfjnlnmhpbaaGreat
open Go Go.X
structure Lab where
 name:ByteArray
 value:ByteArray
 deriving DecidableEq,Inhabited
def labC (l:Lab):List Value:=[.string l.name,.string l.value]
theorem labC_len (l:Lab):(labC l).length=2:=rfl
abbrev SlL (M:Nat→Prop) (w:World) (v:Value) (ls:List Lab):Prop:=Sl M w v 2 ls.length (ls.flatMap labC)
@[irreducible] def okAt (ls:List Lab) (i:Nat):Bool:=match ls[i]? with
 | none=>true
 | some x=>nameS x.name && valS x.value && match i with
  | 0=>true
  | j + 1=>match ls[j]? with
   | none=>true
   | some y=>slt y.name x.name
@[irreducible] def isS (ls:List Lab):Bool:=decide (1≤ls.length∧ls.length≤6) && (List.range ls.length).all (okAt ls)
theorem is_no1 {ls:List Lab} (h:¬ (1≤ls.length∧ls.length≤6)):isS ls=false:=by simp [isS,h]
theorem is_no2 {ls:List Lab} {i:Nat} (hi:i < ls.length) (h:okAt ls i=false):isS ls=false:=by
 simp only [isS,Bool.and_eq_false_iff]
 exact .inr (List.all_eq_false.2 ⟨i,List.mem_range.2 hi,by simp [h]⟩)
theorem is_yes {ls:List Lab} (h1:1≤ls.length) (h2:ls.length≤6) (h:∀ i,i < ls.length→okAt ls i=true):isS ls=true:=by
 simp only [isS,Bool.and_eq_true,decide_eq_true_eq,List.all_eq_true,List.mem_range]
 exact ⟨⟨h1,h2⟩,h⟩
theorem okAt_no1 {ls:List Lab} {k:Nat} {x:Lab} (hx:ls[k]?=some x) (h:(!nameS x.name)=true):okAt ls k=false:=by simp at h;simp [okAt,hx,h]
theorem okAt_no2 {ls:List Lab} {k:Nat} {x:Lab} (hx:ls[k]?=some x) (h:(!valS x.value)=true):okAt ls k=false:=by simp at h;simp [okAt,hx,h]
theorem okAt_no3 {ls:List Lab} {k j:Nat} {x y:Lab} (hx:ls[k]?=some x) (hj:k=j + 1) (hy:ls[j]?=some y) (h:sle x.name y.name=true):okAt ls k=false:=by
 subst hj
 rw [sle_not] at h
 simp at h
 simp [okAt,hx,hy,h]
theorem okAt_yes0 {ls:List Lab} {k:Nat} {x:Lab} (hx:ls[k]?=some x) (h1:(!nameS x.name)=false) (h2:(!valS x.value)=false) (hk:k=0):okAt ls k=true:=by
 subst hk;simp at h1 h2;simp [okAt,hx,h1,h2]
theorem okAt_yes1 {ls:List Lab} {k j:Nat} {x y:Lab} (hx:ls[k]?=some x) (h1:(!nameS x.name)=false) (h2:(!valS x.value)=false) (hj:k=j + 1) (hy:ls[j]?=some y) (h:sle x.name y.name=false):okAt ls k=true:=by
 subst hj
 rw [sle_not] at h
 simp at h h1 h2
 simp [okAt,hx,hy,h,h1,h2]
theorem ok_snoc {ls:List Lab} {k:Nat} (h:∀ i,i < k→okAt ls i=true) (hk:okAt ls k=true):∀ i,i < k + 1→okAt ls i=true:=fun i hi=>by
 by_cases e:i=k
 ·rw [e];exact hk
 ·exact h i (by omega)
end Go.Proofs.YtbcbfjnlnmhpbaaGreat
set_option linter.unusedVariables false
set_option linter.unusedSimpArgs false
set_option maxHeartbeats 400000
set_option maxRecDepth 100000
namespace Go.Proofs.YtbcbfjnlnmhpbaaGreat
open Go Go.X
theorem allOne_ints (xs:List Int):(xs.map (Value.int .i64)).all (·.oneCell')=true:=by simp [Value.oneCell']
theorem allOne_labs (ls:List Lab):(ls.flatMap labC).all (·.oneCell')=true:=by
 rw [List.all_eq_true]
 intro u hu
 simp only [List.mem_flatMap,labC] at hu
 obtain ⟨x,_,hu⟩:=hu
 simp at hu
 rcases hu with rfl | rfl <;> rfl
theorem cloneI_ok (M:Nat→Prop) (xs:List Int) (v:Value) (w:World) (hv:Sl M w v 1 xs.length (xs.map (.int .i64))) (hb:xs.length * 8≤140737488355328) :
  Fx Tryz.prog 127 [v] w (fun u w'=>Row w' 3 1 u xs.length (xs.map (.int .i64))∧Fresh w.heap.size u∧Grow w w'):=by
 obtain ⟨ad,c,b,o,rfl,hf⟩:=hv.open
 refine enter Tryz.func127 rfl rfl rfl _ (Pick.sub (l:=[0]) (.cons rfl .nil)) ?_
 refine GG ?_
 refine QQ (Yld.eqNil u35 rfl rfl) ?_
 refine RL.done ?_
 refine CD (fun h4=>?_) (fun h4=>?_)
 ·refine GG ?_
  refine RK.ret_of Tryz.func127 (res1 rfl rfl) ?_ _
  exact ⟨_,rfl,by cases ad with | none=>(have h0:xs.length=0:=by (rcases Nat.eq_zero_or_pos xs.length with h | h;exact h;exact absurd (hf h).1 (by simp)));have:xs=[]:=List.eq_nil_of_length_eq_zero h0;subst this;exact ⟨Row.nil _ _ _,fun b hb=>by simp [Value.ownBlock] at hb,Mod.refl _ _⟩ | some a=>simp at h4⟩
 ·refine GG ?_
  refine OP (Does.slice0 u35 i3) ?_
  rintro _ w1 ⟨b1,rfl,hn1⟩
  refine RL.p rfl rfl ?_
  refine OP (Does.append u35 i3 rfl rfl rfl rfl rfl (Row.new hn1 1 0 rfl (by omega)) ((hv.mod (Mod.any' hn1.grow)).noM) (allOne_ints xs) (by omega)) ?_
  rintro u w2 ⟨hr,hm,hu⟩
  refine GG ?_
  refine RK.ret_of Tryz.func127 (res1 rfl rfl) ?_ _
  exact ⟨_,rfl,by simpa using hr,fun b hb=>by rcases hu with hu | hu <;> rw [hu] at hb <;> simp [Value.ownBlock] at hb <;> (have:=hn1.at_;have:=hn1.size;omega),hn1.grow.then hm (fun x hx e=>by simp [Value.ownBlock] at e;have:=hn1.at_;omega)⟩
end Go.Proofs.YtbcbfjnlnmhpbaaGreat
set_option linter.unusedVariables false
set_option linter.unusedSimpArgs false
set_option maxHeartbeats 400000
set_option maxRecDepth 100000
namespace Go.Proofs.YtbcbfjnlnmhpbaaGreat
open Go Go.X
abbrev ints (xs:List Int):List Value:=xs.map (Value.int .i64)
theorem compact_le (xs:List Int):(Lib.compact xs).length≤xs.length:=by
 unfold Lib.compact Lib.compactUpTo
 rw [List.length_map]
 exact Nat.le_trans (List.length_filter_le _ _) (by simp)
def sortI (xs:List Int):List Int:=xs.mergeSort fun x y=>decide (x≤y)
theorem sortI_len (xs:List Int):(sortI xs).length=xs.length:=by simp [sortI]
theorem sort_ok (xs:List Int) (v:Value) (w:World) (hv:Row w 3 1 v xs.length (ints xs)) (hb:xs.length < 4611686018427387904) :
  Fx Tryz.prog 128 [v] w (fun u w'=>u=.tuple #[]∧Row w' 3 1 v xs.length (ints (sortI xs))∧Mod (fun b=>v.ownBlock=some b) w w'):=by
 rcases hv.2 with ⟨rfl,h0⟩ | ⟨g,cap,cur,rfl,_,hg,hn,hcap,hcs,htk⟩
 ·have:xs=[]:=List.eq_nil_of_length_eq_zero h0
  subst this
  refine Calls.mono (Tryz.slices_Sort_int_none none 0 w) ?_
  rintro e w' ⟨rfl,rfl⟩
  exact ⟨_,rfl,rfl,by simpa [sortI] using Row.nil w' _ _,Mod.refl _ _⟩
 ·rw [Nat.mul_one] at htk
  refine Calls.mono (Tryz.slices_Sort_int g 0 cap xs w (holds_of_blockI hg htk) (Array.getElem?_eq_some_iff.1 hg).1 hb) ?_
  rintro e w' ⟨rfl,n,os,rfl⟩
  exact ⟨_,rfl,rfl,ownsRow_sortedI (by simp) (Nat.zero_le _) hg hn hcap hcs,Mod.grownBy (grownBy_sortedI _) (fun k h=>by cases h;rfl)⟩
theorem compact_ok (xs:List Int) (v:Value) (w:World) (hv:Row w 3 1 v xs.length (ints xs)) :
  Fx Tryz.prog 129 [v] w (fun u w'=>Row w' 3 1 u (Lib.compact xs).length (ints (Lib.compact xs))∧u.ownBlock=v.ownBlock∧Mod (fun b=>v.ownBlock=some b) w w'):=by
 rcases hv.2 with ⟨rfl,h0⟩ | ⟨g,cap,cur,rfl,_,hg,hn,hcap,hcs,htk⟩
 ·have:xs=[]:=List.eq_nil_of_length_eq_zero h0
  subst this
  refine Calls.mono (Tryz.slices_Compact_int_empty none 0 w) ?_
  rintro e w' ⟨rfl,rfl⟩
  exact ⟨_,rfl,Row.nil w' _ _,rfl,Mod.refl _ _⟩
 ·rw [Nat.mul_one] at htk
  refine Calls.mono (Tryz.slices_Compact_int g 0 cap xs w (holds_of_blockI hg htk) (by simp only [maxLen] at hcap;omega) hn) ?_
  rintro e w' ⟨rfl,q,rfl⟩
  have hle:(Lib.compact xs).length≤xs.length:=compact_le xs
  have hh:=heap_sortedI (n:=q) (os:=#[]) (Lib.compact xs ++ List.replicate (xs.length - (Lib.compact xs).length) 0).toArray hg
  have hgb:=grownBy_sortedI (w:=w) (g:=g) (n:=q) (os:=#[]) (Lib.compact xs ++ List.replicate (xs.length - (Lib.compact xs).length) 0).toArray
  simp only [Sort.grow_empty] at hh hgb
  refine ⟨_,rfl,⟨by simp,.inr ⟨g,cap,_,rfl,Nat.zero_le _,hh,by omega,hcap,by simp [Sort.putCells,hcs],?_⟩⟩,rfl,Mod.grownBy hgb (fun k h=>by cases h;rfl)⟩
  have:=take_putCellsI cur (Lib.compact xs ++ List.replicate (xs.length - (Lib.compact xs).length) 0) (by simp;omega)
  have h2:=congrArg (List.take (Lib.compact xs).length) this
  rw [List.take_take,Nat.min_eq_left (by simp)] at h2
  rw [Nat.mul_one,h2]
  simp
end Go.Proofs.YtbcbfjnlnmhpbaaGreat
set_option linter.unusedVariables false
set_option linter.unusedSimpArgs false
set_option maxHeartbeats 400000
set_option maxRecDepth 100000
namespace Go.Proofs.YtbcbfjnlnmhpbaaGreat
open Go Go.X
def mkRow (xs:List Int):List Int:=Lib.compact (sortI xs)
theorem make_ok (M:Nat→Prop) (xs:List Int) (v:Value) (w:World) (hv:Sl M w v 1 xs.length (ints xs)) (hb:xs.length * 8≤140737488355328) :
  Fx Tryz.prog 92 [v] w (fun u w'=>Row w' 3 1 u (mkRow xs).length (ints (mkRow xs))∧Fresh w.heap.size u∧Grow w w'):=by
 refine enter Tryz.func92 rfl rfl rfl _ (Pick.sub (l:=[0]) (.cons rfl .nil)) ?_
 refine GG ?_
 refine OP (Does.call rfl e127 (cloneI_ok M xs v _ hv hb)) ?_
 rintro u1 w1 ⟨hr1,hf1,hg1⟩
 refine GG ?_
 refine OP (Does.call rfl e128 (sort_ok xs u1 _ hr1 (by omega))) ?_
 rintro _ w2 ⟨rfl,hr2,hm2⟩
 refine GG ?_
 refine OP (Does.call rfl e129 (compact_ok (sortI xs) u1 _ (by rw [sortI_len];exact hr2))) ?_
 rintro u3 w3 ⟨hr3,hu3,hm3⟩
 refine GG ?_
 refine RK.ret_of Tryz.func92 (res1 rfl rfl) ?_ _
 exact ⟨_,rfl,hr3,fun b hb=>hf1 b (by rw [← hu3];exact hb),(hg1.then hm2 (fun x hx e=>by have:=hf1 x e;omega)).then hm3 (fun x hx e=>by have:=hf1 x e;omega)⟩
structure PoolAt (w:World) (p:Nat) (most last:Int) (out:List Int) (v:Value):Prop where
 blk:Blk w p 152 [.int .i64 most,.int .i64 last,v]
 row:Row w 3 1 v out.length (ints out)
 ne:v.ownBlock≠some p
theorem poolNew_ok (m:Int) (w:World):Fx Tryz.prog 43 [.int .i64 m] w (fun u w'=>∃ p,u=pp p∧p=w.heap.size∧PoolAt w' p (if 0 > m then 0 else m) 0 [] (.slice none 0 0)∧Grow w w'∧w'.heap.size=w.heap.size + 1):=by
 refine enter Tryz.func43 rfl rfl rfl _ (Pick.sub (l:=[0]) (.cons rfl .nil)) ?_
 refine GG ?_
 refine QQ (Yld.max2 rfl rfl) ?_
 refine QQ (Yld.build (v:=.agg #[.int .i64 (if 0 > m then 0 else m),.int .i64 0,.slice none 0 0]) rfl (fun w=>by kernel_rfl)) ?_
 refine OP (Does.box rfl) ?_
 rintro _ w1 ⟨b1,rfl,hn1⟩
 refine GG ?_
 refine RK.ret_of Tryz.func43 (res1 rfl rfl) ?_ _
 exact ⟨_,rfl,b1,rfl,hn1.at_,⟨hn1.blk,Row.nil _ _ _,by simp [Value.ownBlock]⟩,hn1.grow,hn1.size⟩
end Go.Proofs.YtbcbfjnlnmhpbaaGreat
set_option linter.unusedVariables false
set_option linter.unusedSimpArgs false
set_option maxHeartbeats 400000
set_option maxRecDepth 100000
namespace Go.Proofs.YtbcbfjnlnmhpbaaGreat
open Go Go.X
def canS (b:Nat):Nat:=if nanS b then 9221120237041090561 else b
theorem isNaNu_ok (a:Int) (w:World):Fx Tryz.prog 199 [.int .u64 a] w (fun u w'=>u=.bool false∧w=w'):=by
 refine enter Tryz.func199 rfl rfl rfl _ (Pick.sub (l:=[0]) (.cons rfl .nil)) ?_
 refine GG ?_
 refine RK.ret_of Tryz.func199 (res1 rfl rfl) ?_ _
 exact ⟨_,rfl,by simp,rfl⟩
def cmpI (a b:Int):Int:=if a < b then -1 else if b < a then 1 else 0
theorem compare_ok (a b:Int) (w:World):Fx Tryz.prog 164 [.int .u64 a,.int .u64 b] w (fun u w'=>u=.int .i64 (cmpI a b)∧w=w'):=by
 refine enter Tryz.func164 rfl rfl rfl _ (Pick.sub (l:=[0,1]) (.cons rfl (.cons rfl .nil))) ?_
 refine GG ?_
 refine OP (Does.call rfl e199 (isNaNu_ok _ _)) ?_
 rintro _ _ ⟨rfl,rfl⟩
 refine GG ?_
 refine OP (Does.call rfl e199 (isNaNu_ok _ _)) ?_
 rintro _ _ ⟨rfl,rfl⟩
 refine GG ?_
 refine RK.condF (hcF rfl (rfl)) ?_
 refine GG ?_
 refine RK.condF (hcF rfl (rfl)) ?_
 refine GG ?_
 refine CD (fun h16=>?_) (fun h16=>?_)
 ·refine GG ?_
  refine RK.ret_of Tryz.func164 (res1 rfl rfl) ?_ _
  exact ⟨_,rfl,congrArg _ (by unfold cmpI;simp [*]),rfl⟩
 ·refine GG ?_
  refine CD (fun h19=>?_) (fun h19=>?_)
  ·refine GG ?_
   refine RK.ret_of Tryz.func164 (res1 rfl rfl) ?_ _
   exact ⟨_,rfl,congrArg _ (by unfold cmpI;simp [*]),rfl⟩
  ·refine GG ?_
   refine RK.ret_of Tryz.func164 (res1 rfl rfl) ?_ _
   exact ⟨_,rfl,congrArg _ (by unfold cmpI;simp [*]),rfl⟩
theorem nan_ok (w:World):Fx Tryz.prog 50 [] w (fun u w'=>u=.float .f64 9221120237041090561∧w=w'):=by
 refine enter Tryz.func50 rfl rfl rfl _ (Pick.sub (l:=[]) .nil) ?_
 refine GG ?_
 refine QQ (Yld.callx rfl (fun w=>x100 _ w)) ?_
 refine GG ?_
 refine RK.ret_of Tryz.func50 (res1 rfl rfl) ?_ _
 exact ⟨_,rfl,rfl,rfl⟩
end Go.Proofs.YtbcbfjnlnmhpbaaGreat
set_option linter.unusedVariables false
set_option linter.unusedSimpArgs false
set_option maxHeartbeats 400000
set_option maxRecDepth 100000
namespace Go.Proofs.YtbcbfjnlnmhpbaaGreat
open Go Go.X
section
variable {α : Type}
def pos (lt:α→α→Bool) (x:α) (L:List α):Nat:=L.length - (L.reverse.takeWhile (lt x)).length
def insE (lt:α→α→Bool) (L:List α) (x:α):List α:=L.take (pos lt x L) ++ x :: L.drop (pos lt x L)
def isort (lt:α→α→Bool) (xs:List α):List α:=xs.foldl (insE lt) []
theorem insE_split {lt:α→α→Bool} {x:α} {A D:List α} (hD:∀ y∈D,lt x y=true) (hA:∀ A' y,A=A' ++ [y]→lt x y=false):insE lt (A ++ D) x=A ++ x :: D:=by
 have h1:(A ++ D).reverse.takeWhile (lt x)=D.reverse:=by
  rw [List.reverse_append,List.takeWhile_append_of_pos (by intro y hy;exact hD y (by simpa using hy))]
  have:A.reverse.takeWhile (lt x)=[]:=by
   cases hr:A.reverse with
   | nil=>rfl
   | cons y l=>
    have:A=l.reverse ++ [y]:=by have:=congrArg List.reverse hr;simpa using this
    simp [List.takeWhile,hA _ _ this]
  rw [this,List.append_nil]
 have h2:pos lt x (A ++ D)=A.length:=by unfold pos;rw [h1];simp
 unfold insE
 rw [h2]
 simp
theorem insE_len (lt:α→α→Bool) (L:List α) (x:α):(insE lt L x).length=L.length + 1:=by
 unfold insE
 simp
 have:pos lt x L≤L.length:=Nat.sub_le _ _
 omega
theorem isort_snoc (lt:α→α→Bool) (xs:List α) (x:α):isort lt (xs ++ [x])=insE lt (isort lt xs) x:=by simp [isort]
theorem isort_len (lt:α→α→Bool) (xs:List α):(isort lt xs).length=xs.length:=by
 have:∀ xs L:List α,(xs.foldl (insE lt) L).length=xs.length + L.length:=by
  intro xs
  induction xs with
  | nil=>intro L;simp
  | cons x xs ih=>intro L;simp only [List.foldl_cons,ih,insE_len,List.length_cons];omega
 unfold isort
 simpa using this xs []
theorem SetAt.of:∀ {l:List Value} {i:Nat} {v:Value},i < l.length→SetAt l i v (l.set i v)
 | u :: l,0,v,_=>.z
 | u :: l,i + 1,v,h=>.s (SetAt.of (by simpa using h))
end
end Go.Proofs.YtbcbfjnlnmhpbaaGreat
set_option linter.unusedVariables false
set_option linter.unusedSimpArgs false
set_option maxHeartbeats 400000
set_option maxRecDepth 100000
namespace Go.Proofs.YtbcbfjnlnmhpbaaGreat
open Go Go.X
end Go.Proofs.YtbcbfjnlnmhpbaaGreat
set_option linter.unusedVariables false
set_option linter.unusedSimpArgs false
set_option maxHeartbeats 400000
set_option maxRecDepth 100000
namespace Go.Proofs.YtbcbfjnlnmhpbaaGreat
open Go Go.X
theorem take_snoc_eq {α:Type} {l1 l2:List α} {k:Nat} {x:α} (h:l1.take k=l2.take k) (h1:l1[k]?=some x) (h2:l2[k]?=some x):l1.take (k + 1)=l2.take (k + 1):=by
 rw [List.take_add_one,List.take_add_one,h,h1,h2]
theorem sameInts_ok (M : Nat → Prop) (l1 l2 : List Int) (v1 v2 : Value) (w : World) (hv1 : Sl M w v1 1 l1.length (ints l1)) (hv2 : Sl M w v2 1 l2.length (ints l2)) :
    Fx Tryz.prog 27 [v1,v2] w (fun u w'=>u=.bool (decide (l1=l2))∧Grow w w'):=by
  obtain ⟨a1,c1,rfl⟩:=hv1.shape
  obtain ⟨a2,c2,rfl⟩:=hv2.shape
  have hbig:=hv1.big
  refine enter Tryz.func27 rfl rfl rfl _ (Pick.sub (l:=[0,1]) (.cons rfl (.cons rfl .nil))) ?_
  refine RK.seq ?_
  refine RK.region ?_
  refine RL.p rfl rfl ?_
  refine RL.done ?_
  iterate 2 refine RK.seq ?_
  refine RK.region ?_
  refine RL.p rfl rfl ?_
  refine RL.q (.free rfl) rfl rfl (Yld.lenSl u35 rfl) ?_
  refine RL.p rfl rfl ?_
  refine RL.q (.free rfl) rfl rfl (Yld.lenSl u35 rfl) ?_
  refine RL.p rfl rfl ?_
  refine RL.done ?_
  first | refine RK.condD rfl (fun h10=>?_) (fun h10=>?_) | refine RK.condN rfl (fun h10=>?_) (fun h10=>?_) | refine RK.cond rfl (fun h10=>?_) (fun h10=>?_)
  · refine RK.seq ?_
    refine RK.region ?_
    refine RL.p rfl rfl ?_
    refine RL.done ?_
    refine RK.ret_of Tryz.func27 (res1 rfl rfl) ?_ _
    exact ⟨_,rfl,congrArg _ (by rw [eq_comm,decide_eq_false_iff_not];rintro rfl;simp at h10),Mod.refl _ _⟩
  · refine RK.skip ?_
    iterate 2 refine RK.seq ?_
    refine RK.region ?_
    refine RL.p rfl rfl ?_
    refine RL.done ?_
    refine RK.block ?_
    refine RK.loop (fun k:Nat=>[(0,.slice a1 l1.length c1),(1,.slice a2 l2.length c2),(5,.int .i64 k)]) (fun k w'=>Grow w w'∧k≤l1.length∧l1.take k=l2.take k) (fun k=>l1.length - k) 0 ⟨rfl,rfl,rfl,trivial⟩ ⟨Mod.refl _ _,by omega,by simp⟩ (fun k w' hI ih=>?_)
    obtain ⟨hg,hk,htk⟩:=hI
    have hl:l1.length=l2.length:=by simp at h10;omega
    iterate 2 refine RK.seq ?_
    refine RK.region ?_
    iterate 2 refine RL.p rfl rfl ?_
    refine RL.q (.free rfl) rfl rfl (Yld.lenSl u35 rfl) ?_
    refine RL.p rfl rfl ?_
    refine RL.done ?_
    first | refine RK.condD rfl (fun h14=>?_) (fun h14=>?_) | refine RK.condN rfl (fun h14=>?_) (fun h14=>?_) | refine RK.cond rfl (fun h14=>?_) (fun h14=>?_)
    · obtain ⟨x,hx⟩:∃ x,l1[k]?=some x:=⟨l1[k]'(by omega),List.getElem?_eq_getElem (by omega)⟩
      obtain ⟨y,hy⟩:∃ y,l2[k]?=some y:=⟨l2[k]'(by omega),List.getElem?_eq_getElem (by omega)⟩
      obtain ⟨b1,o1,c1',he1,_,_,hc1⟩:=hv1.elem1 (k:=k) (u:=.int .i64 x) (by simp [hx])
      obtain ⟨b2,o2,c2',he2,_,_,hc2⟩:=hv2.elem1 (k:=k) (u:=.int .i64 y) (by simp [hy])
      cases he1
      cases he2
      refine RK.skip ?_
      refine RK.seq ?_
      refine RK.block ?_
      refine RK.seq ?_
      refine RK.drawM No [(0,false),(1,false),(2,false),(3,false),(4,false),(5,false),(6,false),(7,false),(8,false)] [] mixed (by kernel_rfl) ?_
      iterate 2 refine DL.p rfl rfl rfl ?_
      refine DL.qf rfl (.free rfl) rfl rfl (Yld.indexAddrN u35 i3 rfl rfl (by omega)) ?_
      refine DL.q rfl (.free rfl) rfl rfl rfl (Yld.load p3 rfl (atM (hg.cell (hc1 k (.int .i64 x) (by simp [hx])) (fun h=>h)) (id))) (Mod.drew _ _) ?_
      iterate 2 refine DL.p rfl rfl rfl ?_
      refine DL.qf rfl (.free rfl) rfl rfl (Yld.indexAddrN u35 i3 rfl rfl (by omega)) ?_
      refine DL.q rfl (.free rfl) rfl rfl rfl (Yld.load p3 rfl (atM (hg.cell (hc2 k (.int .i64 y) (by simp [hy])) (fun h=>h)) (id))) (Mod.drew _ _) ?_
      refine DL.p rfl rfl rfl ?_
      refine DL.done ?_
      first | refine RK.condD rfl (fun h25=>?_) (fun h25=>?_) | refine RK.condN rfl (fun h25=>?_) (fun h25=>?_) | refine RK.cond rfl (fun h25=>?_) (fun h25=>?_)
      · refine RK.seq ?_
        refine RK.region ?_
        refine RL.p rfl rfl ?_
        refine RL.done ?_
        refine RK.ret_of Tryz.func27 (res1 rfl rfl) ?_ _
        exact ⟨_,rfl,congrArg _ (by rw [eq_comm,decide_eq_false_iff_not];rintro rfl;rw [hx] at hy;cases hy;simp at h25),hg.trans (Mod.drew _ _)⟩
      · refine RK.skip ?_
        refine RK.inBlock ?_
        refine RK.region ?_
        iterate 2 refine RL.p rfl rfl ?_
        refine RL.re (d:=16) rfl rfl (succ_i64 (by omega)) ?_
        refine RL.p rfl rfl ?_
        refine RL.done ?_
        exact RK.back (ih (k + 1) _ ⟨hg.trans (Mod.drew _ _), by omega, take_snoc_eq htk hx (by
            have:x=y:=by simpa using h25
            rw [this];exact hy)⟩ (by omega)) ⟨rfl,rfl,rfl,trivial⟩
    · refine RK.exit rfl ?_
      refine RK.seq ?_
      refine RK.region ?_
      refine RL.p rfl rfl ?_
      refine RL.done ?_
      refine RK.ret_of Tryz.func27 (res1 rfl rfl) ?_ _
      exact ⟨_, rfl, congrArg _ (by
          have e1:k=l1.length:=by omega
          have h1:l1.take k=l1:=List.take_of_length_le (by omega)
          have h2:l2.take k=l2:=List.take_of_length_le (by omega)
          rw [h1,h2] at htk;simp [htk]),hg⟩
def findS (l:List (List Lab)) (ls:List Lab):Option Nat:=l.findIdx? fun x=>decide (x=ls)
def optI:Option Nat→Int
 | some i=>i
 | none=>-1
end Go.Proofs.YtbcbfjnlnmhpbaaGreat
set_option linter.unusedVariables false
set_option linter.unusedSimpArgs false
set_option maxHeartbeats 400000
set_option maxRecDepth 100000
namespace Go.Proofs.YtbcbfjnlnmhpbaaGreat
open Go Go.X
theorem take_ok (w:World) (p:Nat) (most last:Int) (out:List Int) (v:Value) (hp:PoolAt w p most last out v) (h1:out.length < most) (h2:last≠2147483647) (h3:0≤last) (h4:last≤2147483647) (h5:out.length≤1000000) :
  Fx Tryz.prog 47 [pp p] w (fun u w'=>u=.tuple #[.int .i64 (last + 1),.bool true]∧∃ v',PoolAt w' p most (last + 1) (out ++ [last + 1]) v'∧Mod (fun b=>b=p∨v.ownBlock=some b) w w'∧(∀ b,v'.ownBlock=some b→v.ownBlock=some b∨w.heap.size≤b)):=by
 obtain ⟨ad,c,rfl⟩:=hp.row.slice
 refine enter Tryz.func47 rfl rfl rfl _ (Pick.sub (l:=[0]) (.cons rfl .nil)) ?_
 refine GG ?_
 refine RK.drawM No [(0,false),(1,false),(2,false),(3,false),(4,false),(5,false),(6,false),(7,false),(8,false),(9,false),(10,false),(11,false),(12,false),(13,false),(14,false),(15,false),(16,false)] [] mixed (by kernel_rfl) ?_
 refine GG ?_
 refine DF (Yld.fieldAddr fo152_2 rfl) ?_
 refine DQ (Yld.load p35 rfl (atM (hp.blk.cell rfl) id)) (Mod.drew _ _) ?_
 refine DQ (Yld.lenSl u35 rfl) (Mod.drew _ _) ?_
 refine GG ?_
 refine DF (Yld.fieldAddr fo152_0 rfl) ?_
 refine DQ (Yld.load p3 rfl (atM (hp.blk.cell rfl) id)) (Mod.drew _ _) ?_
 refine GG ?_
 refine DL.knownF (d:=14) rfl rfl (decide_eq_false (by omega)) ?_
 iterate 2 refine DF (Yld.pure rfl) ?_
 refine DF (Yld.fieldAddr fo152_1 rfl) ?_
 refine DQ (Yld.load p3 rfl (atM (hp.blk.cell rfl) id)) (Mod.drew _ _) ?_
 refine DF (Yld.pure rfl) ?_
 refine GG ?_
 refine RK.condF (hcF rfl (decide_eq_false (by omega))) ?_
 refine GG ?_
 refine QQ (Yld.fieldAddr fo152_1 rfl) ?_
 refine QQ (Yld.load p3 rfl (at1 (hp.blk.cell rfl))) ?_
 refine RL.p rfl rfl ?_
 refine RL.re (d:=25) rfl rfl (add_i64 (z:=last + 1) rfl (by omega) (by omega)) ?_
 refine RL.p rfl rfl ?_
 refine QQ (Yld.fieldAddr fo152_1 rfl) ?_
 refine OQ (Does.store i3 rfl rfl rfl hp.blk (.s .z)) ?_
 rintro _ w1 ⟨hb1,hm1,hs1⟩
 have hr1:=(hp.row.mod (Mod.drew No _) (fun _ _ h=>h)).mod hm1 (fun b e h=>hp.ne (h ▸ e))
 refine GG ?_
 refine RK.drawM (fun b=>(Value.slice ad out.length c).ownBlock=some b) [(0,false),(1,false),(2,false),(3,false),(4,false),(5,false),(6,false),(7,false),(8,false),(9,true),(10,true),(11,false),(12,false),(13,true)] [13] mixed (by kernel_rfl) ?_
 refine GG ?_
 refine DF (Yld.fieldAddr fo152_2 rfl) ?_
 refine DQ (Yld.load p35 rfl (atM (hb1.cell rfl) (fun h=>hp.ne h))) (Mod.drew _ _) ?_
 refine GG ?_
 refine DF (Yld.fieldAddr fo152_1 rfl) ?_
 refine DQ (Yld.load p3 rfl (atM (hb1.cell rfl) (fun h=>hp.ne h))) (Mod.drew _ _) ?_
 refine OD (Does.slice1 u35 i3 rfl rfl rfl rfl rfl) ?_
 rintro _ w2 ⟨b2,rfl,hn2⟩
 refine ⟨(Mod.drew _ _).trans (Mod.any' hn2.grow),?_⟩
 refine OD (Does.append u35 i3 rfl rfl rfl rfl rfl ((hr1.mod (Mod.drew No _) (fun _ _ h=>h)).mod hn2.grow (fun _ _ h=>h)) (Sl.new hn2 1 1 rfl (by omega) (fun h=>h)) (rfl) (by omega)) ?_
 rintro u3 w3 ⟨hr3,hm3,hu3⟩
 refine ⟨((Mod.drew _ _).trans (Mod.any' hn2.grow)).trans hm3,?_⟩
 have hpl:=hp.blk.lt
 have hu3' : ∀ b,u3.ownBlock=some b→b≠p∧((Value.slice ad out.length c).ownBlock=some b∨w.heap.size≤b):=fun b e=>by
   rcases hu3 with h | h
   ·rw [h] at e;exact ⟨fun hh=>hp.ne (hh ▸ e),.inl e⟩
   ·rw [h] at e;cases e;have h1:=hn2.size;have h2:=hm1.size;simp only [World.drew] at h1 h2 hn2;exact ⟨by omega,.inr (by omega)⟩
 obtain ⟨ad3,c3,rfl⟩:=hr3.slice
 have hb3:=((hb1.mod (Mod.drew No _) (fun h=>h)).mod hn2.grow (fun h=>h)).mod hm3 (fun e=>hp.ne e)
 refine DL.p rfl rfl rfl ?_
 refine DF (Yld.fieldAddr fo152_2 rfl) ?_
 refine DL.opT rfl (.free rfl) rfl rfl (Does.store i35 rfl rfl rfl hb3 (.s (.s .z))) ?_
 rintro _ w4 ⟨hb4,hm4,hs4⟩
 refine GG ?_
 refine QQ (Yld.fieldAddr fo152_1 rfl) ?_
 refine QQ (Yld.load p3 rfl (at1 (hb4.cell rfl))) ?_
 refine GG ?_
 refine RK.ret_of Tryz.func47 (res2 rfl rfl rfl) ?_ _
 exact ⟨_,rfl,rfl,_,⟨hb4,by (show Row _ _ _ _ (out ++ [last + 1]).length (List.map _ (out ++ [last + 1])));rw [List.map_append,List.length_append];exact hr3.mod hm4 (fun b e h=>(hu3' b e).1 h),fun e=>(hu3' p e).1 rfl⟩,((((Mod.drew _ _).trans (hm1.mono fun b _ h=>.inl h)).trans ((Mod.drew _ _).trans (Mod.any' hn2.grow))).trans (hm3.mono fun b _ h=>.inr h)).trans (hm4.mono fun b _ h=>.inl h),fun b e=>(hu3' b e).2⟩
abbrev LabK:=ByteArray×ByteArray
def labK (x:Lab):LabK:=(x.name,x.value)
end Go.Proofs.YtbcbfjnlnmhpbaaGreat
set_option linter.unusedVariables false
set_option linter.unusedSimpArgs false
set_option maxHeartbeats 400000
set_option maxRecDepth 100000
namespace Go.Proofs.YtbcbfjnlnmhpbaaGreat
open Go Go.X
def addRow1 (id:Int) (r:List (LabK×List Int)) (x:Lab):List (LabK×List Int):=putM r (labK x) (mkRow ((lookM r (labK x)).getD [] ++ [id]))
def addRows (rows:List (LabK×List Int)) (id:Int) (ls:List Lab):List (LabK×List Int):=ls.foldl (addRow1 id) rows
end Go.Proofs.YtbcbfjnlnmhpbaaGreat
set_option linter.unusedVariables false
set_option linter.unusedSimpArgs false
set_option maxHeartbeats 400000
set_option maxRecDepth 100000
namespace Go.Proofs.YtbcbfjnlnmhpbaaGreat
open Go Go.X
structure St where
 most:Int
 last:Int
 out:List Int
 al:List (Int×List Lab×Nat)
 has:List (Int×List Lab)
 rows:List (LabK×List Int)
def own (p q ix mh mr:Nat) (vo vl:Value):Nat→Prop:=fun b=>b=p∨b=q∨b=mh∨b=mr∨vo.ownBlock=some b∨vl.ownBlock=some b∨b=ix
theorem PoolAt.mod {w w' : World} {p:Nat} {most last:Int} {out:List Int} {v:Value} {M0:Nat→Prop} (h:PoolAt w p most last out v) (hm:Mod M0 w w') (n1:¬ M0 p) (n2:∀ b,v.ownBlock=some b→¬ M0 b):PoolAt w' p most last out v:=
 ⟨h.blk.mod hm n1,h.row.mod hm n2,h.ne⟩
def capS (m:Int):Int:=if 16 < (if 1 > m then 1 else m) then 16 else if 1 > m then 1 else m
def St.new (m:Int):St:=⟨capS m,0,[],[],[],[]⟩
end Go.Proofs.YtbcbfjnlnmhpbaaGreat
set_option linter.unusedVariables false
set_option linter.unusedSimpArgs false
set_option maxHeartbeats 400000
set_option maxRecDepth 100000
namespace Go.Proofs.YtbcbfjnlnmhpbaaGreat
open Go Go.X
end Go.Proofs.YtbcbfjnlnmhpbaaGreat
set_option linter.unusedVariables false
set_option linter.unusedSimpArgs false
set_option maxHeartbeats 400000
set_option maxRecDepth 100000
namespace Go.Proofs.YtbcbfjnlnmhpbaaGreat
open Go Go.X
def fullS (most last:Int) (out:List Int):Bool:=decide (most≤out.length∨last=2147483647)
structure Ok (s:St):Prop where
 last0:0≤s.last
 last1:s.last≤2147483647
 most:s.most≤16
 outLe:(s.out.length:Int)≤s.most
 alOut:s.al.length=s.out.length
 has:∀ t∈s.has,t.1≤s.last
 rows:∀ t∈s.rows,(t.2.length:Int)≤6 * s.last
 vals:∀ a∈s.al,a.2.2 < 18446744073709551616
def postS (s:St) (ls:List Lab) (val:Nat):St×Int×Bool×Int:=
 if isS ls=false then (s,0,false,1) else
 match findS (s.al.map (·.2.1)) ls with
 | some i=>({ s with al:=s.al.modify i fun a=>(a.1,a.2.1,canS val) },((s.al[i]?).map (·.1)).getD 0,false,0)
 | none=>if fullS s.most s.last s.out then (s,0,false,10) else
  ({ most:=s.most,last:=s.last + 1,out:=s.out ++ [s.last + 1],al:=s.al ++ [(s.last + 1,ls,canS val)],has:=putM s.has (s.last + 1) ls,rows:=addRows s.rows (s.last + 1) ls },s.last + 1,true,0)
theorem Ok.new (m:Int):Ok (St.new m):=by
 refine ⟨by simp [St.new],by simp [St.new],?_,?_,rfl,by simp [St.new],by simp [St.new],by simp [St.new]⟩
 ·simp only [St.new,capS];split <;> omega
 ·simp only [St.new,capS];simp;split <;> omega
end Go.Proofs.YtbcbfjnlnmhpbaaGreat
set_option linter.unusedVariables false
set_option linter.unusedSimpArgs false
set_option maxHeartbeats 400000
set_option maxRecDepth 100000
namespace Go.Proofs.YtbcbfjnlnmhpbaaGreat
open Go Go.X
end Go.Proofs.YtbcbfjnlnmhpbaaGreat
set_option linter.unusedVariables false
set_option linter.unusedSimpArgs false
set_option maxHeartbeats 400000
set_option maxRecDepth 100000
namespace Go.Proofs.YtbcbfjnlnmhpbaaGreat
open Go Go.X
end Go.Proofs.YtbcbfjnlnmhpbaaGreat
set_option linter.unusedVariables false
set_option linter.unusedSimpArgs false
set_option maxHeartbeats 400000
set_option maxRecDepth 100000
namespace Go.Proofs.YtbcbfjnlnmhpbaaGreat
open Go Go.X
end Go.Proofs.YtbcbfjnlnmhpbaaGreat
set_option linter.unusedVariables false
set_option linter.unusedSimpArgs false
set_option maxHeartbeats 400000
set_option maxRecDepth 100000
namespace Go.Proofs.YtbcbfjnlnmhpbaaGreat
open Go Go.X
abbrev Ris (l:List Int):Prop:=l.Pairwise fun x y=>x < y
theorem Ris.nodup {l:List Int} (h:Ris l):l.Nodup:=List.Pairwise.imp (fun h e=>by omega) h
theorem ext_ris {l1 l2:List Int} (h1:Ris l1) (h2:Ris l2) (h:∀ x,x∈l1↔x∈l2):l1=l2:=by
 have hp:l1.Perm l2:=(List.perm_ext_iff_of_nodup h1.nodup h2.nodup).2 h
 exact List.Perm.eq_of_pairwise (le:=fun a b=>a < b) (fun a b _ _ h1 h2=>by omega) h1 h2 hp
theorem compactUpTo_mem (d:Array Int):∀ m,m≤d.size→∀ x,x∈Lib.compactUpTo d m↔∃ j,j < m∧d[j]! = x:=by
 intro m
 induction m with
 | zero=>intro _ x;simp [Lib.compactUpTo]
 | succ m ih=>
  intro hm x
  rw [Lib.compactUpTo_succ,List.mem_append,ih (by omega)]
  constructor
  ·rintro (⟨j,hj,e⟩ | h)
   ·exact ⟨j,by omega,e⟩
   ·split at h
    ·simp at h;exact ⟨m,by omega,h.symm⟩
    ·simp at h
  ·rintro ⟨j,hj,e⟩
   by_cases hjm:j=m
   ·subst hjm
    cases hk:Lib.keeps d j with
    | true=>right;simp [e]
    | false=>
     left
     simp only [Lib.keeps,decide_eq_false_iff_not,not_or,Decidable.not_not] at hk
     exact ⟨j - 1,by omega,by rw [← hk.2];exact e⟩
   ·exact .inl ⟨j,by omega,e⟩
theorem mem_compact (zs:List Int) (x:Int):x∈Lib.compact zs↔x∈zs:=by
 unfold Lib.compact
 rw [compactUpTo_mem _ _ (by simp)]
 constructor
 ·rintro ⟨j,hj,e⟩
  have:zs.toArray[j]! = zs[j]:=by simp [hj]
  rw [this] at e;subst e;exact List.getElem_mem _
 ·intro h
  obtain ⟨j,hj,e⟩:=List.getElem_of_mem h
  exact ⟨j,hj,by simp [hj,e]⟩
theorem compact_ris (zs:List Int) (h:zs.Pairwise fun x y=>x≤y):Ris (Lib.compact zs):=by
 unfold Lib.compact
 have key:∀ m,m≤zs.length→Ris (Lib.compactUpTo zs.toArray m):=by
  intro m
  induction m with
  | zero=>intro _;simp [Lib.compactUpTo]
  | succ m ih=>
   intro hm
   rw [Lib.compactUpTo_succ]
   refine List.pairwise_append.2 ⟨ih (by omega),by split <;> simp,fun a ha b hb=>?_⟩
   obtain ⟨j,hj,rfl⟩:=(compactUpTo_mem _ m (by simp;omega) a).1 ha
   split at hb
   ·rename_i hk
    have hb:=List.mem_singleton.1 hb
    subst hb
    simp only [Lib.keeps,decide_eq_true_eq] at hk
    have e1:∀ i,(hi:i < zs.length)→zs.toArray[i]! = zs[i]:=fun i hi=>by simp [hi]
    rcases hk with rfl | hk
    ·omega
    ·rw [e1 m (by omega),e1 (m - 1) (by omega)] at hk
     rw [e1 j (by omega),e1 m (by omega)]
     have hle:=List.pairwise_iff_getElem.1 h
     have h2:=hle (m - 1) m (by omega) (by omega) (by omega)
     by_cases hjm:j=m - 1
     ·subst hjm;omega
     ·have h3:=hle j (m - 1) (by omega) (by omega) (by omega)
      omega
   ·simp at hb
 exact key _ (Nat.le_refl _)
theorem sortI_le (xs:List Int):(sortI xs).Pairwise fun x y=>x≤y:=by
 have:=List.pairwise_mergeSort (le:=fun x y:Int=>decide (x≤y)) (fun a b c h1 h2=>by simp only [decide_eq_true_eq] at *;omega) (fun a b=>by simp only [Bool.or_eq_true,decide_eq_true_eq];omega) xs
 exact this.imp fun h=>by simpa using h
theorem mem_mkRow {xs:List Int} {x:Int}:x∈mkRow xs↔x∈xs:=by
 unfold mkRow
 rw [mem_compact]
 simp [sortI]
theorem mkRow_ris (xs:List Int):Ris (mkRow xs):=compact_ris _ (sortI_le xs)
theorem mkRow_id {xs:List Int} (h:Ris xs):mkRow xs=xs:=ext_ris (mkRow_ris xs) h fun _=>mem_mkRow
end Go.Proofs.YtbcbfjnlnmhpbaaGreat
set_option linter.unusedVariables false
set_option linter.unusedSimpArgs false
set_option maxHeartbeats 400000
set_option maxRecDepth 100000
namespace Go.Proofs.YtbcbfjnlnmhpbaaGreat
open Go Go.X
def cutRow (row:List Int) (id:Int):List Int:=(mkRow row).filter fun y=>decide (y≠id)
theorem mem_cutRow {row:List Int} {id x:Int}:x∈cutRow row id↔x∈row∧x≠id:=by simp [cutRow,mem_mkRow]
def cutRow1 (id:Int) (r:List (LabK×List Int)) (x:Lab):List (LabK×List Int):=
 if cutRow ((lookM r (labK x)).getD []) id=[] then cutM (putM r (labK x) (cutRow ((lookM r (labK x)).getD []) id)) (labK x) else putM r (labK x) (cutRow ((lookM r (labK x)).getD []) id)
def dropRows (rows:List (LabK×List Int)) (id:Int) (ls:List Lab):List (LabK×List Int):=ls.foldl (cutRow1 id) rows
structure RowsOk (rows:List (LabK×List Int)):Prop where
 nd:(rows.map (·.1)).Nodup
 row:∀ t∈rows,Ris t.2∧t.2≠[]
theorem mkRow_ne {xs:List Int} {x:Int} (h:x∈xs):mkRow xs≠[]:=fun e=>by
 have:=mem_mkRow.2 h
 rw [e] at this
 cases this
theorem RowsOk.add1 {rows:List (LabK×List Int)} (h:RowsOk rows) (id:Int) (x:Lab):RowsOk (addRow1 id rows x):=by
 refine ⟨putM_nodup h.nd,fun t ht=>?_⟩
 rcases mem_putM ht with h1 | rfl
 ·exact h.row t h1
 ·exact ⟨mkRow_ris _,mkRow_ne (x:=id) (by simp)⟩
theorem look_add1 (rows:List (LabK×List Int)) (id:Int) (x:Lab) (k:LabK) (j:Int):j∈(lookM (addRow1 id rows x) k).getD []↔j∈(lookM rows k).getD []∨j=id∧labK x=k:=by
 unfold addRow1
 rw [lookM_putM]
 by_cases hk:k=labK x
 ·subst hk
  simp [mem_mkRow]
 ·rw [if_neg hk]
  simp [Ne.symm hk]
theorem add_spec (id:Int) (ls:List Lab):∀ {rows:List (LabK×List Int)},RowsOk rows→RowsOk (addRows rows id ls)∧∀ k j,j∈(lookM (addRows rows id ls) k).getD []↔j∈(lookM rows k).getD []∨j=id∧∃ x∈ls,labK x=k:=by
 induction ls with
 | nil=>intro rows h;exact ⟨h,by simp [addRows]⟩
 | cons x ls ih=>
  intro rows h
  obtain ⟨h1,h2⟩:=ih (h.add1 id x)
  refine ⟨h1,fun k j=>?_⟩
  have:=h2 k j
  rw [look_add1] at this
  rw [show addRows rows id (x :: ls)=addRows (addRow1 id rows x) id ls from rfl,this]
  constructor
  ·rintro ((h | ⟨rfl,h⟩) | ⟨rfl,y,hy,h⟩)
   ·exact .inl h
   ·exact .inr ⟨rfl,x,by simp,h⟩
   ·exact .inr ⟨rfl,y,by simp [hy],h⟩
  ·rintro (h | ⟨rfl,y,hy,h⟩)
   ·exact .inl (.inl h)
   ·rcases List.mem_cons.1 hy with rfl | hy
    ·exact .inl (.inr ⟨rfl,h⟩)
    ·exact .inr ⟨rfl,y,hy,h⟩
structure IxI (has:List (Int×List Lab)) (rows:List (LabK×List Int)):Prop where
 nd:(has.map (·.1)).Nodup
 ok:RowsOk rows
 mem:∀ k id,id∈(lookM rows k).getD []↔∃ ls,(id,ls)∈has∧∃ x∈ls,labK x=k
theorem IxI.nil:IxI [] []:=⟨by simp,⟨by simp,by simp⟩,by simp [lookM,placeM]⟩
theorem IxI.add {has:List (Int×List Lab)} {rows:List (LabK×List Int)} (h:IxI has rows) {id:Int} (hn:lookM has id=none) (ls:List Lab):IxI (putM has id ls) (addRows rows id ls):=by
 obtain ⟨h1,h2⟩:=add_spec id ls h.ok
 refine ⟨putM_nodup h.nd,h1,fun k j=>?_⟩
 rw [h2,h.mem,putM_new hn]
 simp only [List.mem_append,List.mem_singleton,Prod.mk.injEq]
 constructor
 ·rintro (⟨l,a,b⟩ | ⟨rfl,b⟩)
  ·exact ⟨l,.inl a,b⟩
  ·exact ⟨ls,.inr ⟨rfl,rfl⟩,b⟩
 ·rintro ⟨l,a | ⟨rfl,rfl⟩,b⟩
  ·exact .inl ⟨l,a,b⟩
  ·exact .inr ⟨rfl,b⟩
end Go.Proofs.YtbcbfjnlnmhpbaaGreat
set_option linter.unusedVariables false
set_option linter.unusedSimpArgs false
set_option maxHeartbeats 1000000
set_option maxRecDepth 100000
namespace Go.Proofs.YtbcbfjnlnmhpbaaGreat
open Go Go.X
theorem value2_ok (s:ByteArray) (w:World):Fx Tryz.prog 147 [.string s] w (fun v w'=>v=.bool (valS s)∧w=w'):=by
 refine enter Tryz.func147 rfl rfl rfl _ (Pick.sub (l:=[0]) (.cons rfl .nil)) ?_
 refine GG ?_
 refine QQ (Yld.lenStr u9 rfl) ?_
 refine GG ?_
 refine SP 6 (fun h6=>?_) (fun h6=>?_)
 ·refine QQ (Yld.pure rfl) ?_
  refine QQ (Yld.lenStr u9 rfl) ?_
  refine QQ (Yld.pure rfl) ?_
  refine GG ?_
  refine RK.ret_of Tryz.func147 (res1 rfl rfl) ?_ _
  exact ⟨_,rfl,congrArg _ (by rw [Bool.eq_iff_iff];simp [valS];omega),rfl⟩
 ·iterate 3 refine RL.no (.no rfl rfl rfl rfl) rfl rfl ?_
  refine GG ?_
  refine RK.ret_of Tryz.func147 (res1 rfl rfl) ?_ _
  exact ⟨_,rfl,congrArg _ (by rw [Bool.eq_iff_iff];simp [valS];omega),rfl⟩
def NmTo (s:ByteArray) (k:Nat):Prop:=(∀ i,i < k→chS (bt s i).toNat=true)∧(0 < k→letS (bt s 0).toNat=true)
theorem NmTo.no {s:ByteArray} {k:Nat} (hk:k < s.size) (h:letS (bt s k).toNat=false) (h' : k=0∨¬ (48≤((bt s k).toNat:Int)∧((bt s k).toNat:Int)≤57)):nameS s=false:=by
 rcases h' with rfl | h'
 ·exact name_no2 h
 ·exact name_no3 hk (by simp [chS,h];omega)
theorem NmTo.step {s:ByteArray} {k:Nat} (h:NmTo s k) (h' : letS (bt s k).toNat=true∨k≠0∧48≤((bt s k).toNat:Int)∧((bt s k).toNat:Int)≤57):NmTo s (k + 1):=by
 refine ⟨fun i hi=>?_,fun _=>?_⟩
 ·by_cases e:i=k
  ·subst e
   rcases h' with h' | h'
   ·simp [chS,h']
   ·simp [chS];exact .inr (by omega)
  ·exact h.1 i (by omega)
 ·by_cases e:k=0
  ·subst e
   rcases h' with h' | h'
   ·exact h'
   ·exact absurd rfl h'.1
  ·exact h.2 (by omega)
theorem NmTo.end {s:ByteArray} {k:Nat} (h:NmTo s k) (hk:k=s.size):nameS s=decide (1≤s.size∧s.size≤12):=by
 subst hk
 by_cases hs:1≤s.size∧s.size≤12
 ·rw [decide_eq_true hs]
  exact name_yes hs.1 hs.2 (h.2 (by omega)) h.1
 ·rw [decide_eq_false hs]
  exact name_no1 hs
theorem name2_ok (s:ByteArray) (hsz:s.size≤9223372036854775807) (w:World):Fx Tryz.prog 119 [.string s] w (fun v w'=>v=.bool (nameS s)∧w=w'):=by
 refine enter Tryz.func119 rfl rfl rfl _ (Pick.sub (l:=[0]) (.cons rfl .nil)) ?_
 refine GG ?_
 refine RK.loop (fun k:Nat=>[(0,.string s),(3,.int .i64 k)]) (fun k w'=>w=w'∧k≤s.size∧NmTo s k) (fun k=>s.size - k) 0 ⟨rfl,rfl,trivial⟩ ⟨rfl,by omega,fun i hi=>by omega,fun h=>by omega⟩ (fun k w' hI ih=>?_)
 obtain ⟨rfl,hk,hn⟩:=hI
 refine GG ?_
 refine QQ (Yld.lenStr u9 rfl) ?_
 refine GG ?_
 refine CD (fun h9=>?_) (fun h9=>?_)
 ·refine GG ?_
  refine QQ (Yld.idxStrN u9 rfl rfl (by omega)) ?_
  refine GG ?_
  refine SP 17 (fun h17=>?_) (fun h17=>?_)
  ·iterate 2 refine QQ (Yld.pure rfl) ?_
   refine GG ?_
   refine SP 21 (fun h21=>?_) (fun h21=>?_)
   ·iterate 6 refine RL.no (.no rfl rfl rfl rfl) rfl rfl ?_
    refine GG ?_
    iterate 2 refine RL.no (.no rfl rfl rfl rfl) rfl rfl ?_
    refine GG ?_
    iterate 10 refine RL.no (.no rfl rfl rfl rfl) rfl rfl ?_
    refine GG ?_
    refine RK.condF rfl ?_
    refine RK.skip ?_
    refine RK.inBlock ?_
    refine RK.region ?_
    iterate 2 refine RL.p rfl rfl ?_
    refine RL.re (d:=11) rfl rfl (succ_i64 (by omega)) ?_
    refine GG ?_
    exact RK.back (ih (k + 1) _ ⟨rfl,by omega,hn.step (by first | exact .inl (by simp [letS];omega) | exact .inr (by omega))⟩ (by omega)) ⟨rfl,rfl,trivial⟩
   ·iterate 3 refine QQ (Yld.pure rfl) ?_
    refine SP 24 (fun h24=>?_) (fun h24=>?_)
    ·iterate 3 refine QQ (Yld.pure rfl) ?_
     refine GG ?_
     refine SP 29 (fun h29=>?_) (fun h29=>?_)
     ·iterate 2 refine RL.no (.no rfl rfl rfl rfl) rfl rfl ?_
      refine GG ?_
      iterate 10 refine RL.no (.no rfl rfl rfl rfl) rfl rfl ?_
      refine GG ?_
      refine RK.condF rfl ?_
      refine RK.skip ?_
      refine RK.inBlock ?_
      refine RK.region ?_
      iterate 2 refine RL.p rfl rfl ?_
      refine RL.re (d:=11) rfl rfl (succ_i64 (by omega)) ?_
      refine GG ?_
      exact RK.back (ih (k + 1) _ ⟨rfl,by omega,hn.step (by first | exact .inl (by simp [letS];omega) | exact .inr (by omega))⟩ (by omega)) ⟨rfl,rfl,trivial⟩
     ·iterate 2 refine QQ (Yld.pure rfl) ?_
      refine GG ?_
      refine SP 35 (fun h35=>?_) (fun h35=>?_)
      ·iterate 3 refine QQ (Yld.pure rfl) ?_
       refine SP 38 (fun h38=>?_) (fun h38=>?_)
       ·iterate 2 refine RL.no (.no rfl rfl rfl rfl) rfl rfl ?_
        iterate 2 refine QQ (Yld.pure rfl) ?_
        iterate 2 refine RL.no (.no rfl rfl rfl rfl) rfl rfl ?_
        refine QQ (Yld.pure rfl) ?_
        refine GG ?_
        refine RK.condT rfl ?_
        refine GG ?_
        refine RK.ret_of Tryz.func119 (res1 rfl rfl) ?_ _
        exact ⟨_,rfl,congrArg _ (by first
          | exact (NmTo.no (k:=k) (by omega) (by simp [letS];omega) (by omega)).symm
          | (rw [hn.end (by omega)];rw [Bool.eq_iff_iff];simp;omega)),rfl⟩
       ·iterate 4 refine QQ (Yld.pure rfl) ?_
        refine SP 42 (fun h42=>?_) (fun h42=>?_)
        ·iterate 2 refine RL.no (.no rfl rfl rfl rfl) rfl rfl ?_
         refine QQ (Yld.pure rfl) ?_
         refine GG ?_
         refine RK.condT rfl ?_
         refine GG ?_
         refine RK.ret_of Tryz.func119 (res1 rfl rfl) ?_ _
         exact ⟨_,rfl,congrArg _ (by first
           | exact (NmTo.no (k:=k) (by omega) (by simp [letS];omega) (by omega)).symm
           | (rw [hn.end (by omega)];rw [Bool.eq_iff_iff];simp;omega)),rfl⟩
        ·iterate 3 refine QQ (Yld.pure rfl) ?_
         refine GG ?_
         refine CD (fun h46=>?_) (fun h46=>?_)
         ·refine GG ?_
          refine RK.ret_of Tryz.func119 (res1 rfl rfl) ?_ _
          exact ⟨_,rfl,congrArg _ (by first
            | exact (NmTo.no (k:=k) (by omega) (by simp [letS];omega) (by omega)).symm
            | (rw [hn.end (by omega)];rw [Bool.eq_iff_iff];simp;omega)),rfl⟩
         ·refine RK.skip ?_
          refine RK.inBlock ?_
          refine RK.region ?_
          iterate 2 refine RL.p rfl rfl ?_
          refine RL.re (d:=11) rfl rfl (succ_i64 (by omega)) ?_
          refine GG ?_
          exact RK.back (ih (k + 1) _ ⟨rfl,by omega,hn.step (by first | exact .inl (by simp [letS];omega) | exact .inr (by omega))⟩ (by omega)) ⟨rfl,rfl,trivial⟩
      ·iterate 10 refine RL.no (.no rfl rfl rfl rfl) rfl rfl ?_
       refine GG ?_
       refine RK.condF rfl ?_
       refine RK.skip ?_
       refine RK.inBlock ?_
       refine RK.region ?_
       iterate 2 refine RL.p rfl rfl ?_
       refine RL.re (d:=11) rfl rfl (succ_i64 (by omega)) ?_
       refine GG ?_
       exact RK.back (ih (k + 1) _ ⟨rfl,by omega,hn.step (by first | exact .inl (by simp [letS];omega) | exact .inr (by omega))⟩ (by omega)) ⟨rfl,rfl,trivial⟩
    ·iterate 2 refine RL.no (.no rfl rfl rfl rfl) rfl rfl ?_
     refine QQ (Yld.pure rfl) ?_
     refine GG ?_
     iterate 2 refine QQ (Yld.pure rfl) ?_
     refine GG ?_
     refine SP 35 (fun h35=>?_) (fun h35=>?_)
     ·iterate 3 refine QQ (Yld.pure rfl) ?_
      refine SP 38 (fun h38=>?_) (fun h38=>?_)
      ·iterate 2 refine RL.no (.no rfl rfl rfl rfl) rfl rfl ?_
       iterate 2 refine QQ (Yld.pure rfl) ?_
       iterate 2 refine RL.no (.no rfl rfl rfl rfl) rfl rfl ?_
       refine QQ (Yld.pure rfl) ?_
       refine GG ?_
       refine RK.condT rfl ?_
       refine GG ?_
       refine RK.ret_of Tryz.func119 (res1 rfl rfl) ?_ _
       exact ⟨_,rfl,congrArg _ (by first
         | exact (NmTo.no (k:=k) (by omega) (by simp [letS];omega) (by omega)).symm
         | (rw [hn.end (by omega)];rw [Bool.eq_iff_iff];simp;omega)),rfl⟩
      ·iterate 4 refine QQ (Yld.pure rfl) ?_
       refine SP 42 (fun h42=>?_) (fun h42=>?_)
       ·iterate 2 refine RL.no (.no rfl rfl rfl rfl) rfl rfl ?_
        refine QQ (Yld.pure rfl) ?_
        refine GG ?_
        refine RK.condT rfl ?_
        refine GG ?_
        refine RK.ret_of Tryz.func119 (res1 rfl rfl) ?_ _
        exact ⟨_,rfl,congrArg _ (by first
          | exact (NmTo.no (k:=k) (by omega) (by simp [letS];omega) (by omega)).symm
          | (rw [hn.end (by omega)];rw [Bool.eq_iff_iff];simp;omega)),rfl⟩
       ·iterate 3 refine QQ (Yld.pure rfl) ?_
        refine GG ?_
        refine CD (fun h46=>?_) (fun h46=>?_)
        ·refine GG ?_
         refine RK.ret_of Tryz.func119 (res1 rfl rfl) ?_ _
         exact ⟨_,rfl,congrArg _ (by first
           | exact (NmTo.no (k:=k) (by omega) (by simp [letS];omega) (by omega)).symm
           | (rw [hn.end (by omega)];rw [Bool.eq_iff_iff];simp;omega)),rfl⟩
        ·refine RK.skip ?_
         refine RK.inBlock ?_
         refine RK.region ?_
         iterate 2 refine RL.p rfl rfl ?_
         refine RL.re (d:=11) rfl rfl (succ_i64 (by omega)) ?_
         refine GG ?_
         exact RK.back (ih (k + 1) _ ⟨rfl,by omega,hn.step (by first | exact .inl (by simp [letS];omega) | exact .inr (by omega))⟩ (by omega)) ⟨rfl,rfl,trivial⟩
     ·iterate 10 refine RL.no (.no rfl rfl rfl rfl) rfl rfl ?_
      refine GG ?_
      refine RK.condF rfl ?_
      refine RK.skip ?_
      refine RK.inBlock ?_
      refine RK.region ?_
      iterate 2 refine RL.p rfl rfl ?_
      refine RL.re (d:=11) rfl rfl (succ_i64 (by omega)) ?_
      refine GG ?_
      exact RK.back (ih (k + 1) _ ⟨rfl,by omega,hn.step (by first | exact .inl (by simp [letS];omega) | exact .inr (by omega))⟩ (by omega)) ⟨rfl,rfl,trivial⟩
  ·iterate 2 refine RL.no (.no rfl rfl rfl rfl) rfl rfl ?_
   refine GG ?_
   iterate 3 refine QQ (Yld.pure rfl) ?_
   refine SP 24 (fun h24=>?_) (fun h24=>?_)
   ·iterate 3 refine QQ (Yld.pure rfl) ?_
    refine GG ?_
    refine SP 29 (fun h29=>?_) (fun h29=>?_)
    ·iterate 2 refine RL.no (.no rfl rfl rfl rfl) rfl rfl ?_
     refine GG ?_
     iterate 10 refine RL.no (.no rfl rfl rfl rfl) rfl rfl ?_
     refine GG ?_
     refine RK.condF rfl ?_
     refine RK.skip ?_
     refine RK.inBlock ?_
     refine RK.region ?_
     iterate 2 refine RL.p rfl rfl ?_
     refine RL.re (d:=11) rfl rfl (succ_i64 (by omega)) ?_
     refine GG ?_
     exact RK.back (ih (k + 1) _ ⟨rfl,by omega,hn.step (by first | exact .inl (by simp [letS];omega) | exact .inr (by omega))⟩ (by omega)) ⟨rfl,rfl,trivial⟩
    ·iterate 2 refine QQ (Yld.pure rfl) ?_
     refine GG ?_
     refine SP 35 (fun h35=>?_) (fun h35=>?_)
     ·iterate 3 refine QQ (Yld.pure rfl) ?_
      refine SP 38 (fun h38=>?_) (fun h38=>?_)
      ·iterate 2 refine RL.no (.no rfl rfl rfl rfl) rfl rfl ?_
       iterate 2 refine QQ (Yld.pure rfl) ?_
       iterate 2 refine RL.no (.no rfl rfl rfl rfl) rfl rfl ?_
       refine QQ (Yld.pure rfl) ?_
       refine GG ?_
       refine RK.condT rfl ?_
       refine GG ?_
       refine RK.ret_of Tryz.func119 (res1 rfl rfl) ?_ _
       exact ⟨_,rfl,congrArg _ (by first
         | exact (NmTo.no (k:=k) (by omega) (by simp [letS];omega) (by omega)).symm
         | (rw [hn.end (by omega)];rw [Bool.eq_iff_iff];simp;omega)),rfl⟩
      ·iterate 4 refine QQ (Yld.pure rfl) ?_
       refine SP 42 (fun h42=>?_) (fun h42=>?_)
       ·iterate 2 refine RL.no (.no rfl rfl rfl rfl) rfl rfl ?_
        refine QQ (Yld.pure rfl) ?_
        refine GG ?_
        refine RK.condT rfl ?_
        refine GG ?_
        refine RK.ret_of Tryz.func119 (res1 rfl rfl) ?_ _
        exact ⟨_,rfl,congrArg _ (by first
          | exact (NmTo.no (k:=k) (by omega) (by simp [letS];omega) (by omega)).symm
          | (rw [hn.end (by omega)];rw [Bool.eq_iff_iff];simp;omega)),rfl⟩
       ·iterate 3 refine QQ (Yld.pure rfl) ?_
        refine GG ?_
        refine CD (fun h46=>?_) (fun h46=>?_)
        ·refine GG ?_
         refine RK.ret_of Tryz.func119 (res1 rfl rfl) ?_ _
         exact ⟨_,rfl,congrArg _ (by first
           | exact (NmTo.no (k:=k) (by omega) (by simp [letS];omega) (by omega)).symm
           | (rw [hn.end (by omega)];rw [Bool.eq_iff_iff];simp;omega)),rfl⟩
        ·refine RK.skip ?_
         refine RK.inBlock ?_
         refine RK.region ?_
         iterate 2 refine RL.p rfl rfl ?_
         refine RL.re (d:=11) rfl rfl (succ_i64 (by omega)) ?_
         refine GG ?_
         exact RK.back (ih (k + 1) _ ⟨rfl,by omega,hn.step (by first | exact .inl (by simp [letS];omega) | exact .inr (by omega))⟩ (by omega)) ⟨rfl,rfl,trivial⟩
     ·iterate 10 refine RL.no (.no rfl rfl rfl rfl) rfl rfl ?_
      refine GG ?_
      refine RK.condF rfl ?_
      refine RK.skip ?_
      refine RK.inBlock ?_
      refine RK.region ?_
      iterate 2 refine RL.p rfl rfl ?_
      refine RL.re (d:=11) rfl rfl (succ_i64 (by omega)) ?_
      refine GG ?_
      exact RK.back (ih (k + 1) _ ⟨rfl,by omega,hn.step (by first | exact .inl (by simp [letS];omega) | exact .inr (by omega))⟩ (by omega)) ⟨rfl,rfl,trivial⟩
   ·iterate 2 refine RL.no (.no rfl rfl rfl rfl) rfl rfl ?_
    refine QQ (Yld.pure rfl) ?_
    refine GG ?_
    iterate 2 refine QQ (Yld.pure rfl) ?_
    refine GG ?_
    refine SP 35 (fun h35=>?_) (fun h35=>?_)
    ·iterate 3 refine QQ (Yld.pure rfl) ?_
     refine SP 38 (fun h38=>?_) (fun h38=>?_)
     ·iterate 2 refine RL.no (.no rfl rfl rfl rfl) rfl rfl ?_
      iterate 2 refine QQ (Yld.pure rfl) ?_
      iterate 2 refine RL.no (.no rfl rfl rfl rfl) rfl rfl ?_
      refine QQ (Yld.pure rfl) ?_
      refine GG ?_
      refine RK.condT rfl ?_
      refine GG ?_
      refine RK.ret_of Tryz.func119 (res1 rfl rfl) ?_ _
      exact ⟨_,rfl,congrArg _ (by first
        | exact (NmTo.no (k:=k) (by omega) (by simp [letS];omega) (by omega)).symm
        | (rw [hn.end (by omega)];rw [Bool.eq_iff_iff];simp;omega)),rfl⟩
     ·iterate 4 refine QQ (Yld.pure rfl) ?_
      refine SP 42 (fun h42=>?_) (fun h42=>?_)
      ·iterate 2 refine RL.no (.no rfl rfl rfl rfl) rfl rfl ?_
       refine QQ (Yld.pure rfl) ?_
       refine GG ?_
       refine RK.condT rfl ?_
       refine GG ?_
       refine RK.ret_of Tryz.func119 (res1 rfl rfl) ?_ _
       exact ⟨_,rfl,congrArg _ (by first
         | exact (NmTo.no (k:=k) (by omega) (by simp [letS];omega) (by omega)).symm
         | (rw [hn.end (by omega)];rw [Bool.eq_iff_iff];simp;omega)),rfl⟩
      ·iterate 3 refine QQ (Yld.pure rfl) ?_
       refine GG ?_
       refine CD (fun h46=>?_) (fun h46=>?_)
       ·refine GG ?_
        refine RK.ret_of Tryz.func119 (res1 rfl rfl) ?_ _
        exact ⟨_,rfl,congrArg _ (by first
          | exact (NmTo.no (k:=k) (by omega) (by simp [letS];omega) (by omega)).symm
          | (rw [hn.end (by omega)];rw [Bool.eq_iff_iff];simp;omega)),rfl⟩
       ·refine RK.skip ?_
        refine RK.inBlock ?_
        refine RK.region ?_
        iterate 2 refine RL.p rfl rfl ?_
        refine RL.re (d:=11) rfl rfl (succ_i64 (by omega)) ?_
        refine GG ?_
        exact RK.back (ih (k + 1) _ ⟨rfl,by omega,hn.step (by first | exact .inl (by simp [letS];omega) | exact .inr (by omega))⟩ (by omega)) ⟨rfl,rfl,trivial⟩
    ·iterate 10 refine RL.no (.no rfl rfl rfl rfl) rfl rfl ?_
     refine GG ?_
     refine RK.condF rfl ?_
     refine RK.skip ?_
     refine RK.inBlock ?_
     refine RK.region ?_
     iterate 2 refine RL.p rfl rfl ?_
     refine RL.re (d:=11) rfl rfl (succ_i64 (by omega)) ?_
     refine GG ?_
     exact RK.back (ih (k + 1) _ ⟨rfl,by omega,hn.step (by first | exact .inl (by simp [letS];omega) | exact .inr (by omega))⟩ (by omega)) ⟨rfl,rfl,trivial⟩
 ·refine RK.exit rfl ?_
  refine GG ?_
  refine QQ (Yld.lenStr u9 rfl) ?_
  refine GG ?_
  refine SP 50 (fun h50=>?_) (fun h50=>?_)
  ·refine QQ (Yld.pure rfl) ?_
   refine QQ (Yld.lenStr u9 rfl) ?_
   refine QQ (Yld.pure rfl) ?_
   refine GG ?_
   refine RK.ret_of Tryz.func119 (res1 rfl rfl) ?_ _
   exact ⟨_,rfl,congrArg _ (by first
     | exact (NmTo.no (k:=k) (by omega) (by simp [letS];omega) (by omega)).symm
     | (rw [hn.end (by omega)];rw [Bool.eq_iff_iff];simp;omega)),rfl⟩
  ·iterate 3 refine RL.no (.no rfl rfl rfl rfl) rfl rfl ?_
   refine GG ?_
   refine RK.ret_of Tryz.func119 (res1 rfl rfl) ?_ _
   exact ⟨_,rfl,congrArg _ (by first
     | exact (NmTo.no (k:=k) (by omega) (by simp [letS];omega) (by omega)).symm
     | (rw [hn.end (by omega)];rw [Bool.eq_iff_iff];simp;omega)),rfl⟩
theorem isSet_ok (M:Nat→Prop) (ls:List Lab) (hsz:∀ x∈ls,x.name.size≤9223372036854775807) (v:Value) (w:World) (hv:SlL M w v ls):Fx Tryz.prog 116 [v] w (fun u w'=>u=.bool (isS ls)∧Grow w w'):=by
  obtain ⟨ad,c,rfl⟩:=hv.shape
  have hbig:=hv.big
  refine enter Tryz.func116 rfl rfl rfl _ (Pick.sub (l:=[0]) (.cons rfl .nil)) ?_
  refine RK.seq ?_
  refine RK.region ?_
  refine RL.p rfl rfl ?_
  refine RL.done ?_
  iterate 2 refine RK.seq ?_
  refine RK.region ?_
  refine RL.p rfl rfl ?_
  refine RL.q (.free rfl) rfl rfl (Yld.lenSl u39 rfl) ?_
  iterate 2 refine RL.p rfl rfl ?_
  first | refine RL.splitD (d:=7) rfl rfl (fun h7=>?_) (fun h7=>?_) | refine RL.splitN (d:=7) rfl rfl (fun h7=>?_) (fun h7=>?_) | refine RL.split (d:=7) rfl rfl (fun h7=>?_) (fun h7=>?_)
  · iterate 3 refine RL.no (.no rfl rfl rfl rfl) rfl rfl ?_
    refine RL.p rfl rfl ?_
    refine RL.done ?_
    refine RK.condT rfl ?_
    refine RK.seq ?_
    refine RK.region ?_
    refine RL.p rfl rfl ?_
    refine RL.done ?_
    refine RK.ret_of Tryz.func116 (res1 rfl rfl) ?_ _
    exact ⟨_, rfl, congrArg _ (by first
        | exact (is_no1 (by omega)).symm
        | exact (is_no2 (i:=k) (by omega) (okAt_no1 hx (by simpa using h25))).symm
        | exact (is_no2 (i:=k) (by omega) (okAt_no2 hx (by simpa using h34))).symm
        | exact (is_no2 (i:=k) (by omega) (okAt_no3 hx hj hy h51)).symm
        | exact (is_yes (by omega) (by omega) fun i hi=>hall i (by omega)).symm),by first
        | exact Mod.refl _ _
        | exact hg.trans (Mod.drew _ _)
        | exact hg⟩
  · refine RL.q (.yes rfl rfl rfl) rfl rfl (Yld.pure rfl) ?_
    refine RL.q (.yes rfl rfl rfl) rfl rfl (Yld.lenSl u39 rfl) ?_
    refine RL.q (.yes rfl rfl rfl) rfl rfl (Yld.pure rfl) ?_
    refine RL.p rfl rfl ?_
    refine RL.done ?_
    first | refine RK.condD rfl (fun h11=>?_) (fun h11=>?_) | refine RK.condN rfl (fun h11=>?_) (fun h11=>?_) | refine RK.cond rfl (fun h11=>?_) (fun h11=>?_)
    · refine RK.seq ?_
      refine RK.region ?_
      refine RL.p rfl rfl ?_
      refine RL.done ?_
      refine RK.ret_of Tryz.func116 (res1 rfl rfl) ?_ _
      exact ⟨_, rfl, congrArg _ (by first
          | exact (is_no1 (by omega)).symm
          | exact (is_no2 (i:=k) (by omega) (okAt_no1 hx (by simpa using h25))).symm
          | exact (is_no2 (i:=k) (by omega) (okAt_no2 hx (by simpa using h34))).symm
          | exact (is_no2 (i:=k) (by omega) (okAt_no3 hx hj hy h51)).symm
          | exact (is_yes (by omega) (by omega) fun i hi=>hall i (by omega)).symm),by first
          | exact Mod.refl _ _
          | exact hg.trans (Mod.drew _ _)
          | exact hg⟩
    · refine RK.skip ?_
      iterate 2 refine RK.seq ?_
      refine RK.region ?_
      refine RL.p rfl rfl ?_
      refine RL.done ?_
      refine RK.block ?_
      refine RK.loop (fun k:Nat=>[(0,.slice ad ls.length c),(3,.int .i64 k)]) (fun k w'=>Grow w w'∧k≤ls.length∧∀ i,i < k→okAt ls i=true) (fun k=>ls.length - k) 0 ⟨rfl,rfl,trivial⟩ ⟨Mod.refl _ _,by omega,fun i hi=>by omega⟩ (fun k w' hI ih=>?_)
      obtain ⟨hg,hk,hall⟩:=hI
      iterate 2 refine RK.seq ?_
      refine RK.region ?_
      iterate 2 refine RL.p rfl rfl ?_
      refine RL.q (.free rfl) rfl rfl (Yld.lenSl u39 rfl) ?_
      refine RL.p rfl rfl ?_
      refine RL.done ?_
      first | refine RK.condD rfl (fun h15=>?_) (fun h15=>?_) | refine RK.condN rfl (fun h15=>?_) (fun h15=>?_) | refine RK.cond rfl (fun h15=>?_) (fun h15=>?_)
      · obtain ⟨x,hx⟩:∃ x,ls[k]?=some x:=⟨ls[k]'(by omega),List.getElem?_eq_getElem (by omega)⟩
        obtain ⟨b,o,c',he,hb,hkl,hcell⟩:=hv.elem labC_len hx
        cases he
        refine RK.skip ?_
        refine RK.seq ?_
        refine RK.block ?_
        refine RK.seq ?_
        refine RK.drawM No [(0,false),(1,false),(2,false),(3,false),(4,false),(5,true),(6,false),(7,false),(8,false),(9,false),(10,false),(11,false),(12,false),(13,true),(14,false),(15,false),(16,false),(17,false),(18,false),(19,false),(20,false),(21,false),(22,false),(23,false),(24,false),(25,false),(26,false),(27,false),(28,false),(29,false),(30,false),(31,false),(32,false),(33,false)] [] mixed (by kernel_rfl) ?_
        iterate 2 refine DL.p rfl rfl rfl ?_
        refine DL.qf rfl (.free rfl) rfl rfl (Yld.indexAddrN u39 i38 rfl rfl (by omega)) ?_
        refine DL.qf rfl (.free rfl) rfl rfl (Yld.fieldAddr fo38_0 rfl) ?_
        refine DL.q rfl (.free rfl) rfl rfl rfl (Yld.load p9 rfl (atM (hg.cell (hcell 0 _ rfl) (fun h=>h)) (fun h=>h))) (Mod.drew _ _) ?_
        refine DL.op rfl (.free rfl) rfl rfl (Does.call rfl e119 (name2_ok _ (hsz x (List.mem_of_getElem? hx)) _)) ?_
        rintro _ _ ⟨rfl,rfl⟩
        refine ⟨Mod.drew _ _,?_⟩
        iterate 2 refine DL.p rfl rfl rfl ?_
        first | refine DL.splitD (d:=25) rfl rfl (fun h25=>?_) (fun h25=>?_) | refine DL.splitN (d:=25) rfl rfl (fun h25=>?_) (fun h25=>?_) | refine DL.split (d:=25) rfl rfl (fun h25=>?_) (fun h25=>?_)
        · iterate 5 refine DL.no rfl (.no rfl rfl rfl rfl) rfl rfl ?_
          refine DL.lno rfl (.no rfl rfl rfl rfl) rfl rfl ?_
          refine DL.no rfl (.no rfl rfl rfl rfl) rfl rfl ?_
          iterate 2 refine DL.p rfl rfl rfl ?_
          iterate 16 refine DL.no rfl (.no rfl rfl rfl rfl) rfl rfl ?_
          refine DL.p rfl rfl rfl ?_
          refine DL.done ?_
          refine RK.condT rfl ?_
          refine RK.seq ?_
          refine RK.region ?_
          refine RL.p rfl rfl ?_
          refine RL.done ?_
          refine RK.ret_of Tryz.func116 (res1 rfl rfl) ?_ _
          exact ⟨_, rfl, congrArg _ (by first
              | exact (is_no1 (by omega)).symm
              | exact (is_no2 (i:=k) (by omega) (okAt_no1 hx (by simpa using h25))).symm
              | exact (is_no2 (i:=k) (by omega) (okAt_no2 hx (by simpa using h34))).symm
              | exact (is_no2 (i:=k) (by omega) (okAt_no3 hx hj hy h51)).symm
              | exact (is_yes (by omega) (by omega) fun i hi=>hall i (by omega)).symm),by first
              | exact Mod.refl _ _
              | exact hg.trans (Mod.drew _ _)
              | exact hg⟩
        · iterate 2 refine DL.qf rfl (.yes rfl rfl rfl) rfl rfl (Yld.pure rfl) ?_
          refine DL.qf rfl (.yes rfl rfl rfl) rfl rfl (Yld.indexAddrN u39 i38 rfl rfl (by omega)) ?_
          refine DL.qf rfl (.yes rfl rfl rfl) rfl rfl (Yld.fieldAddr fo38_1 rfl) ?_
          refine DL.q rfl (.yes rfl rfl rfl) rfl rfl rfl (Yld.load p9 rfl (atM (hg.cell (hcell 1 _ rfl) (fun h=>h)) (fun h=>h))) (Mod.drew _ _) ?_
          refine DL.op rfl (.yes rfl rfl rfl) rfl rfl (Does.call rfl e147 (value2_ok _ _)) ?_
          rintro _ _ ⟨rfl,rfl⟩
          refine ⟨Mod.drew _ _,?_⟩
          refine DL.qf rfl (.yes rfl rfl rfl) rfl rfl (Yld.pure rfl) ?_
          iterate 2 refine DL.p rfl rfl rfl ?_
          first | refine DL.splitD (d:=34) rfl rfl (fun h34=>?_) (fun h34=>?_) | refine DL.splitN (d:=34) rfl rfl (fun h34=>?_) (fun h34=>?_) | refine DL.split (d:=34) rfl rfl (fun h34=>?_) (fun h34=>?_)
          · iterate 16 refine DL.no rfl (.no rfl rfl rfl rfl) rfl rfl ?_
            refine DL.p rfl rfl rfl ?_
            refine DL.done ?_
            refine RK.condT rfl ?_
            refine RK.seq ?_
            refine RK.region ?_
            refine RL.p rfl rfl ?_
            refine RL.done ?_
            refine RK.ret_of Tryz.func116 (res1 rfl rfl) ?_ _
            exact ⟨_, rfl, congrArg _ (by first
                | exact (is_no1 (by omega)).symm
                | exact (is_no2 (i:=k) (by omega) (okAt_no1 hx (by simpa using h25))).symm
                | exact (is_no2 (i:=k) (by omega) (okAt_no2 hx (by simpa using h34))).symm
                | exact (is_no2 (i:=k) (by omega) (okAt_no3 hx hj hy h51)).symm
                | exact (is_yes (by omega) (by omega) fun i hi=>hall i (by omega)).symm),by first
                | exact Mod.refl _ _
                | exact hg.trans (Mod.drew _ _)
                | exact hg⟩
          · iterate 3 refine DL.qf rfl (.yes rfl rfl rfl) rfl rfl (Yld.pure rfl) ?_
            first | refine DL.splitD (d:=37) rfl rfl (fun h37=>?_) (fun h37=>?_) | refine DL.splitN (d:=37) rfl rfl (fun h37=>?_) (fun h37=>?_) | refine DL.split (d:=37) rfl rfl (fun h37=>?_) (fun h37=>?_)
            · obtain ⟨j,hj⟩:∃ j,k=j + 1:=⟨k - 1,by omega⟩
              obtain ⟨y,hy⟩:∃ y,ls[j]?=some y:=⟨ls[j]'(by omega),List.getElem?_eq_getElem (by omega)⟩
              obtain ⟨b',o',c',he,hb',hkl',hcell'⟩:=hv.elem labC_len hy
              cases he
              iterate 2 refine DL.qf rfl (.yes rfl rfl rfl) rfl rfl (Yld.pure rfl) ?_
              refine DL.qf rfl (.yes rfl rfl rfl) rfl rfl (Yld.indexAddrN u39 i38 rfl rfl (by omega)) ?_
              refine DL.qf rfl (.yes rfl rfl rfl) rfl rfl (Yld.fieldAddr fo38_0 rfl) ?_
              refine DL.q rfl (.yes rfl rfl rfl) rfl rfl rfl (Yld.load p9 rfl (atM (hg.cell (hcell 0 _ rfl) (fun h=>h)) (fun h=>h))) (Mod.drew _ _) ?_
              iterate 3 refine DL.qf rfl (.yes rfl rfl rfl) rfl rfl (Yld.pure rfl) ?_
              refine DL.re (d:=45) rfl rfl (sub_i64 (z:=(j:Int)) (by omega) (by omega) (by omega)) ?_
              refine DL.qf rfl (.yes rfl rfl rfl) rfl rfl (Yld.indexAddrN u39 i38 rfl rfl (by omega)) ?_
              refine DL.qf rfl (.yes rfl rfl rfl) rfl rfl (Yld.fieldAddr fo38_0 rfl) ?_
              refine DL.q rfl (.yes rfl rfl rfl) rfl rfl rfl (Yld.load p9 rfl (atM (hg.cell (hcell' 0 _ rfl) (fun h=>h)) (fun h=>h))) (Mod.drew _ _) ?_
              iterate 2 refine DL.qf rfl (.yes rfl rfl rfl) rfl rfl (Yld.pure rfl) ?_
              refine DL.p rfl rfl rfl ?_
              refine DL.done ?_
              first | refine RK.condD rfl (fun h51=>?_) (fun h51=>?_) | refine RK.condN rfl (fun h51=>?_) (fun h51=>?_) | refine RK.cond rfl (fun h51=>?_) (fun h51=>?_)
              · refine RK.seq ?_
                refine RK.region ?_
                refine RL.p rfl rfl ?_
                refine RL.done ?_
                refine RK.ret_of Tryz.func116 (res1 rfl rfl) ?_ _
                exact ⟨_, rfl, congrArg _ (by first
                    | exact (is_no1 (by omega)).symm
                    | exact (is_no2 (i:=k) (by omega) (okAt_no1 hx (by simpa using h25))).symm
                    | exact (is_no2 (i:=k) (by omega) (okAt_no2 hx (by simpa using h34))).symm
                    | exact (is_no2 (i:=k) (by omega) (okAt_no3 hx hj hy h51)).symm
                    | exact (is_yes (by omega) (by omega) fun i hi=>hall i (by omega)).symm),by first
                    | exact Mod.refl _ _
                    | exact hg.trans (Mod.drew _ _)
                    | exact hg⟩
              · refine RK.skip ?_
                refine RK.inBlock ?_
                refine RK.region ?_
                iterate 2 refine RL.p rfl rfl ?_
                refine RL.re (d:=17) rfl rfl (succ_i64 (by omega)) ?_
                refine RL.p rfl rfl ?_
                refine RL.done ?_
                exact RK.back (ih (k + 1) _ ⟨hg.trans (Mod.drew _ _),by omega,ok_snoc hall (by first | exact okAt_yes1 hx (by simpa using h25) (by simpa using h34) hj hy h51 | exact okAt_yes0 hx (by simpa using h25) (by simpa using h34) (by omega))⟩ (by omega)) ⟨rfl,rfl,trivial⟩
            · iterate 12 refine DL.no rfl (.no rfl rfl rfl rfl) rfl rfl ?_
              refine DL.qf rfl (.yes rfl rfl rfl) rfl rfl (Yld.pure rfl) ?_
              refine DL.p rfl rfl rfl ?_
              refine DL.done ?_
              refine RK.condF rfl ?_
              refine RK.skip ?_
              refine RK.inBlock ?_
              refine RK.region ?_
              iterate 2 refine RL.p rfl rfl ?_
              refine RL.re (d:=17) rfl rfl (succ_i64 (by omega)) ?_
              refine RL.p rfl rfl ?_
              refine RL.done ?_
              exact RK.back (ih (k + 1) _ ⟨hg.trans (Mod.drew _ _),by omega,ok_snoc hall (by first | exact okAt_yes1 hx (by simpa using h25) (by simpa using h34) hj hy h51 | exact okAt_yes0 hx (by simpa using h25) (by simpa using h34) (by omega))⟩ (by omega)) ⟨rfl,rfl,trivial⟩
      · refine RK.exit rfl ?_
        refine RK.seq ?_
        refine RK.region ?_
        refine RL.p rfl rfl ?_
        refine RL.done ?_
        refine RK.ret_of Tryz.func116 (res1 rfl rfl) ?_ _
        exact ⟨_, rfl, congrArg _ (by first
            | exact (is_no1 (by omega)).symm
            | exact (is_no2 (i:=k) (by omega) (okAt_no1 hx (by simpa using h25))).symm
            | exact (is_no2 (i:=k) (by omega) (okAt_no2 hx (by simpa using h34))).symm
            | exact (is_no2 (i:=k) (by omega) (okAt_no3 hx hj hy h51)).symm
            | exact (is_yes (by omega) (by omega) fun i hi=>hall i (by omega)).symm),by first
            | exact Mod.refl _ _
            | exact hg.trans (Mod.drew _ _)
            | exact hg⟩
end Go.Proofs.YtbcbfjnlnmhpbaaGreat
set_option linter.unusedVariables false
set_option linter.unusedSimpArgs false
set_option maxHeartbeats 400000
set_option maxRecDepth 100000
namespace Go.Proofs.YtbcbfjnlnmhpbaaGreat
open Go Go.X
def PredI (w:World) (fv:Value) (p:Int→Bool):Prop:=∃ g cap,fv=.func (.func g) #[] cap∧Go.Proofs.Enters Tryz.prog g∧∀ (n:Int) w',Grow w w'→Fx Tryz.prog g ([.int .i64 n] ++ cap.toList) w' (fun u w''=>u=.bool (p n)∧Grow w' w'')
theorem PredI.grow {w w' : World} {fv:Value} {p:Int→Bool} (h:PredI w fv p) (hg:Grow w w'):PredI w' fv p:=by
 obtain ⟨g,cap,h1,h2,h3⟩:=h
 exact ⟨g,cap,h1,h2,fun n w'' h=>h3 n w'' (hg.trans h)⟩
def ixF (p:Int→Bool) (xs:List Int):Int:=optI (xs.findIdx? p)
theorem indexFuncI_ok (M:Nat→Prop) (xs:List Int) (v fv:Value) (p:Int→Bool) (w:World) (hv:Sl M w v 1 xs.length (ints xs)) (hp:PredI w fv p) :
  Fx Tryz.prog 226 [v,fv] w (fun u w'=>u=.int .i64 (ixF p xs)∧Grow w w'):=by
 obtain ⟨ad,c,rfl⟩:=hv.shape
 obtain ⟨g,cap,rfl,hE,hp⟩:=hp
 have hbig:=hv.big
 refine enter Tryz.func226 rfl rfl rfl _ (Pick.sub (l:=[0,1]) (.cons rfl (.cons rfl .nil))) ?_
 refine GG ?_
 refine QQ (Yld.lenSl u35 rfl) ?_
 refine GG ?_
 refine RK.loop (fun k:Nat=>[(0,.slice ad xs.length c),(1,.func (.func g) #[] cap),(7,.int .i64 xs.length),(8,.int .i64 k)]) (fun k w'=>Grow w w'∧k≤xs.length∧∀ i a,i < k→xs[i]?=some a→p a=false) (fun k=>xs.length - k) 0 ⟨rfl,rfl,rfl,rfl,trivial⟩ ⟨Mod.refl _ _,by omega,fun i a h=>by omega⟩ (fun k w' hI ih=>?_)
 obtain ⟨hg,hk,hno⟩:=hI
 refine GG ?_
 refine CD (fun h9=>?_) (fun h9=>?_)
 ·obtain ⟨x,hx⟩:∃ x,xs[k]?=some x:=⟨xs[k]'(by omega),List.getElem?_eq_getElem (by omega)⟩
  obtain ⟨b1,o1,c1',he1,_,_,hc1⟩:=hv.elem1 (k:=k) (u:=.int .i64 x) (by simp [hx])
  cases he1
  refine GG ?_
  refine QQ (Yld.indexAddrN u35 i3 rfl rfl (by omega)) ?_
  refine QQ (Yld.load p3 rfl (at1 (hg.cell (hc1 k (.int .i64 x) (by simp [hx])) (fun h=>h)))) ?_
  refine OP (Does.callv rfl rfl (by assumption) (hp x _ hg)) ?_
  rintro _ w2 ⟨rfl,hg2⟩
  refine RL.done ?_
  refine CD (fun h16=>?_) (fun h16=>?_)
  ·refine GG ?_
   refine RK.ret_of Tryz.func226 (res1 rfl rfl) ?_ _
   exact ⟨_,rfl,congrArg _ (by
     have:xs.findIdx? p=some k:=by
      rw [List.findIdx?_eq_some_iff_getElem]
      refine ⟨by omega,?_,?_⟩
      ·rw [(List.getElem?_eq_some_iff.1 hx).2];exact h16
      ·intro j hj
       simpa using hno j (xs[j]'(by omega)) hj (List.getElem?_eq_getElem (by omega))
     unfold ixF;rw [this];rfl),hg.trans hg2⟩
  ·refine RK.skip ?_
   refine RK.inBlock ?_
   refine RK.region ?_
   refine RL.p rfl rfl ?_
   refine RL.re (d:=18) rfl rfl (succ_i64 (by omega)) ?_
   refine GG ?_
   exact RK.back (ih (k + 1) _ ⟨hg.trans hg2,by omega,fun i a' hi ha'=>by by_cases e:i=k;(subst e;rw [hx] at ha';cases ha';exact h16);exact hno i a' (by omega) ha'⟩ (by omega)) ⟨rfl,rfl,rfl,rfl,trivial⟩
 ·refine RK.exit rfl ?_
  refine GG ?_
  refine RK.ret_of Tryz.func226 (res1 rfl rfl) ?_ _
  exact ⟨_,rfl,congrArg _ (by
    have:xs.findIdx? p=none:=by
     rw [List.findIdx?_eq_none_iff]
     intro x hx
     obtain ⟨i,hi⟩:=List.getElem?_of_mem hx
     have hil:=(List.getElem?_eq_some_iff.1 hi).1
     exact hno i x (by omega) hi
    unfold ixF;rw [this];rfl),hg⟩
def keepI (p:Int→Bool) (xs:List Int):List Int:=xs.filter fun x=>!p x
theorem keep_snoc (p:Int→Bool) {xs:List Int} {k:Nat} {x:Int} (hx:xs[k]?=some x):keepI p (xs.take (k + 1))=keepI p (xs.take k) ++ (if p x then [] else [x]):=by
 have hk:=(List.getElem?_eq_some_iff.1 hx).1
 unfold keepI
 rw [List.take_succ_eq_append_getElem hk,(List.getElem?_eq_some_iff.1 hx).2,List.filter_append]
 cases h:p x <;> simp [h]
theorem set_snoc {cs:List Value} {i:Nat} {ys:List Int} {x:Int} (h:cs.take i=ints ys) (hi:i < cs.length):(cs.set i (.int .i64 x)).take (i + 1)=ints (ys ++ [x]):=by
 have e:(cs.set i (.int .i64 x)).length=cs.length:=List.length_set
 rw [List.take_succ_eq_append_getElem (by omega),List.getElem_set_self]
 have:(cs.set i (Value.int .i64 x)).take i=cs.take i:=by
  apply List.ext_getElem?
  intro j
  simp only [List.getElem?_take]
  split
  ·rw [List.getElem?_set_ne (by omega)]
  ·rfl
 rw [this,h]
 simp [ints]
theorem deleteFuncI_ok (w0:World) (xs:List Int) (v fv:Value) (p:Int→Bool) (w:World) (hv:Row w 3 1 v xs.length (ints xs)) (hf:Fresh w0.heap.size v) (hg0:Grow w0 w) (hp:PredI w0 fv p) :
  Fx Tryz.prog 207 [v,fv] w (fun u w'=>Row w' 3 1 u (keepI p xs).length (ints (keepI p xs))∧u.ownBlock=v.ownBlock∧Mod (fun b=>v.ownBlock=some b) w w'):=by
 have hcall:=indexFuncI_ok No xs v fv p w (Sl.own hv (fun _ _ h=>h)) (hp.grow hg0)
 obtain ⟨g,cap,rfl,hE,hp⟩:=hp
 have hbig:xs.length≤9223372036854775807:=(Sl.own (M:=No) hv (fun _ _ h=>h)).big
 by_cases hn:xs.findIdx? p=none
 ·have hix:ixF p xs=-1:=by unfold ixF;rw [hn];rfl
  rw [hix] at hcall
  have hkeep:keepI p xs=xs:=List.filter_eq_self.2 fun x hx=>by simp [List.findIdx?_eq_none_iff.1 hn x hx]
  refine enter Tryz.func207 rfl rfl rfl _ (Pick.sub (l:=[0,1]) (.cons rfl (.cons rfl .nil))) ?_
  refine GG ?_
  refine OP (Does.call rfl e226 (hcall)) ?_
  rintro _ w2 ⟨rfl,hg2⟩
  refine GG ?_
  refine RK.condT (hcT rfl (decide_eq_true rfl)) ?_
  refine GG ?_
  refine RK.ret_of Tryz.func207 (res1 rfl rfl) ?_ _
  exact ⟨_,rfl,by rw [hkeep];exact hv.mod hg2 (fun _ _ h=>h),rfl,Mod.any' hg2⟩
 ·obtain ⟨i0,hi0⟩:∃ i,xs.findIdx? p=some i:=by cases h:xs.findIdx? p with | none=>exact absurd h hn | some i=>exact ⟨i,rfl⟩
  have hix:ixF p xs=(i0:Int):=by unfold ixF;rw [hi0];rfl
  rw [hix] at hcall
  obtain ⟨hi0l,hpi0,hlt0⟩:=List.findIdx?_eq_some_iff_getElem.1 hi0
  have hx0:xs[i0]?=some xs[i0]:=List.getElem?_eq_getElem hi0l
  have hk0:keepI p (xs.take i0)=xs.take i0:=List.filter_eq_self.2 fun x hx=>by
   obtain ⟨j,hj,rfl⟩:=List.getElem_of_mem hx
   simp at hj
   rw [List.getElem_take]
   simpa using hlt0 j (by omega)
  have hk1:keepI p (xs.take (i0 + 1))=xs.take i0:=by rw [keep_snoc p hx0,hk0];simp [hpi0]
  obtain ⟨gb,cp,cs,rfl,hb,hl,hkc,hcm,htk⟩:=hv.whole (by omega)
  rw [Nat.mul_one] at hl htk
  have hgb:w0.heap.size≤gb:=hf gb rfl
  refine enter Tryz.func207 rfl rfl rfl _ (Pick.sub (l:=[0,1]) (.cons rfl (.cons rfl .nil))) ?_
  refine GG ?_
  refine OP (Does.call rfl e226 (hcall)) ?_
  rintro _ w2 ⟨rfl,hg2⟩
  refine GG ?_
  refine RK.condF (hcF rfl (decide_eq_false (by omega))) ?_
  refine RK.skip ?_
  iterate 2 refine RK.seq ?_
  refine RK.region ?_
  iterate 2 refine RL.p rfl rfl ?_
  refine RL.re (d:=15) rfl rfl (add_i64 (z:=((i0 + 1:Nat):Int)) (by simp) (by omega) (by omega)) ?_
  refine GG ?_
  refine RK.loop (fun s:Nat×Nat=>[(0,.slice (some ⟨gb,0,none⟩) xs.length cp),(1,.func (.func g) #[] cap),(5,.int .i64 (s.1:Int)),(6,.int .i64 (s.2:Int))]) (fun s w'=>Mod (·=gb) w w'∧s.1 < s.2∧s.2≤xs.length∧s.1=(keepI p (xs.take s.2)).length∧∃ cs',Blk w' gb 3 cs'∧cs'.length=cp∧cs'.take s.1=ints (keepI p (xs.take s.2))∧∀ t x,s.2≤t→xs[t]?=some x→cs'[t]?=some (.int .i64 x)) (fun s=>xs.length - s.2) (i0,i0 + 1) ⟨rfl,rfl,rfl,rfl,trivial⟩ ⟨Mod.any' hg2,by omega,by simp only;omega,by rw [hk1];simp;omega,cs,hb.mod hg2 (fun h=>h),hl,by rw [hk1];simp only;have:=congrArg (List.take i0) htk;rw [List.take_take,Nat.min_eq_left (by omega)] at this;rw [this];simp [ints,List.map_take],fun t x ht hx=>by have hxl:=(List.getElem?_eq_some_iff.1 hx).1;have:=congrArg (fun l=>l[t]?) htk;simp only [List.getElem?_take,if_pos hxl] at this;rw [this];simp [hx]⟩ (fun s w' hI ih=>?_)
  obtain ⟨i,j⟩:=s
  obtain ⟨hm,hij,hj,hic,cs1,hb1,hl1,ht1,hr1⟩:=hI
  simp only at hm hij hj hic ht1 hr1
  refine GG ?_
  refine QQ (Yld.lenSl u35 rfl) ?_
  refine GG ?_
  refine CD (fun h19=>?_) (fun h19=>?_)
  ·obtain ⟨x,hx⟩:∃ x,xs[j]?=some x:=⟨xs[j]'(by omega),List.getElem?_eq_getElem (by omega)⟩
   have hks:=keep_snoc p hx
   refine GG ?_
   refine QQ (Yld.indexAddrN u35 i3 rfl rfl (by omega)) ?_
   refine QQ (Yld.load p3 rfl (at1 (hb1.at1 (hr1 j x (Nat.le_refl _) hx)))) ?_
   refine GG ?_
   refine OP (Does.callv rfl rfl (by assumption) (hp x _ (hg0.then hm (fun b hb e=>by have e' : b=gb:=e;omega)))) ?_
   rintro _ w3 ⟨rfl,hg3⟩
   have hm3:Mod (·=gb) w w3:=hm.trans (Mod.any' hg3)
   have hb3:=hb1.mod hg3 (fun h=>h)
   refine GG ?_
   refine CD (fun h29=>?_) (fun h29=>?_)
   ·have hpx:p x=false:=by simpa using h29
    refine GG ?_
    refine QQ (Yld.indexAddrN u35 i3 rfl rfl (by omega)) ?_
    refine OQ (Does.store i3 rfl rfl rfl hb3 (SetAt.of (by omega))) ?_
    rintro _ w4 ⟨hb4,hm4,_⟩
    have hil:i < cs1.length:=by omega
    have e0:0 + i * 1=i:=by omega
    rw [e0] at hb4
    refine RL.done ?_
    refine RK.region ?_
    iterate 2 refine RL.p rfl rfl ?_
    refine RL.re (d:=35) rfl rfl (succ_i64 (by omega)) ?_
    refine RL.p rfl rfl ?_
    refine RL.done ?_
    refine RK.inBlock ?_
    refine RK.region ?_
    iterate 2 refine RL.p rfl rfl ?_
    refine RL.re (d:=21) rfl rfl (succ_i64 (by omega)) ?_
    refine GG ?_
    exact RK.back (ih (i + 1,j + 1) _ ⟨hm3.trans hm4,by omega,by simp only;omega,by rw [hks,hpx];simpa using hic,_,hb4,by simpa using hl1,by rw [hks,hpx];simp only [Bool.false_eq_true,if_false];exact set_snoc ht1 hil,fun t y ht hy=>by rw [List.getElem?_set_ne (by simp only at ht;omega)];exact hr1 t y (by simp only at ht;omega) hy⟩ (by simp only;omega)) ⟨rfl,rfl,rfl,rfl,trivial⟩
   ·have hpx:p x=true:=by simpa using h29
    refine RK.skip ?_
    refine RK.inBlock ?_
    refine RK.region ?_
    iterate 2 refine RL.p rfl rfl ?_
    refine RL.re (d:=21) rfl rfl (succ_i64 (by omega)) ?_
    refine GG ?_
    exact RK.back (ih (i,j + 1) _ ⟨hm3,by omega,by simp only;omega,by rw [hks,hpx];simpa using hic,cs1,hb3,hl1,by rw [hks,hpx];simpa using ht1,fun t y ht hy=>hr1 t y (by simp only at ht;omega) hy⟩ (by simp only;omega)) ⟨rfl,rfl,rfl,rfl,trivial⟩
  ·have ek:xs.take j=xs:=List.take_of_length_le (by omega)
   rw [ek] at hic ht1
   refine RK.exit rfl ?_
   refine GG ?_
   refine QQ (Yld.sliceFrom u35 i3 rfl rfl (by omega)) ?_
   refine OQ (Does.clear u35 i3 (cap:=cp) (lo:=i) (m:=xs.length - i) rfl (by simp [Value.cells,Value.oneCell']) rfl hb1 (by rw [Nat.mul_one];exact hl1) (by omega)) ?_
   rintro _ w5 ⟨⟨cs5,hb5,hl5,ht5⟩,hm5,hs5⟩
   refine GG ?_
   refine QQ (Yld.sliceHi u35 i3 rfl rfl (by omega)) ?_
   refine GG ?_
   refine RK.ret_of Tryz.func207 (res1 rfl rfl) ?_ _
   exact ⟨_,rfl,by have h9:=Row.shut (sz:=1) (k:=i) hb5 (by rw [hl5,hl1,Nat.mul_one]) (by omega) hcm;rw [ht5] at h9;rw [Nat.mul_one,ht1] at h9;rw [← hic];exact h9,rfl,(hm.trans hm5).mono fun b _ e=>congrArg some e.symm⟩
theorem kept1_ok (w:World) (b:Nat) (fv:Value) (p:Int→Bool) (hb:Blk w b 117 [fv]) (hp:PredI w fv p) (n:Int):Fx Tryz.prog 208 [.int .i64 n,pp b] w (fun u w'=>u=.bool (!p n)∧Grow w w'):=by
 obtain ⟨g,cap,rfl,hE,hp⟩:=hp
 refine enter Tryz.func208 rfl rfl rfl _ (Pick.sub (l:=[0,1]) (.cons rfl (.cons rfl .nil))) ?_
 refine GG ?_
 refine QQ (Yld.load p117 rfl (at1 (hb.cell rfl))) ?_
 refine RL.p rfl rfl ?_
 refine OP (Does.callv rfl rfl (by assumption) (hp n _ (Mod.refl _ _))) ?_
 rintro _ w2 ⟨rfl,hg2⟩
 refine GG ?_
 refine RK.ret_of Tryz.func208 (res1 rfl rfl) ?_ _
 exact ⟨_,rfl,rfl,hg2⟩
theorem kept_ok (M:Nat→Prop) (xs:List Int) (v fv:Value) (p:Int→Bool) (w:World) (hv:Sl M w v 1 xs.length (ints xs)) (hb:xs.length * 8≤140737488355328) (hp:PredI w fv p) :
  Fx Tryz.prog 175 [v,fv] w (fun u w'=>Row w' 3 1 u ((mkRow xs).filter p).length (ints ((mkRow xs).filter p))∧Fresh w.heap.size u∧Grow w w'):=by
 obtain ⟨g,cap,rfl,hE,hp0⟩:=id hp
 have he:keepI (fun n=>!p n) (mkRow xs)=(mkRow xs).filter p:=by unfold keepI;simp
 refine enter Tryz.func175 rfl rfl rfl _ (Pick.sub (l:=[0,1]) (.cons rfl (.cons rfl .nil))) ?_
 refine GG ?_
 refine OP (Does.box rfl) ?_
 rintro _ w1 ⟨b1,rfl,hn1⟩
 refine GG ?_
 refine OP (Does.call rfl e92 (make_ok No xs v _ (hv.mod (Mod.any' hn1.grow)).noM hb)) ?_
 rintro u2 w2 ⟨hr2,hf2,hg2⟩
 refine RL.p rfl rfl ?_
 refine OP (Does.call rfl e207 (deleteFuncI_ok w1 (mkRow xs) u2 _ (fun n=>!p n) _ hr2 hf2 hg2 ⟨_,_,rfl,e208,fun n w' hg=>kept1_ok w' b1 _ p (hn1.blk.mod hg (fun h=>h)) (hp.grow (hn1.grow.trans hg)) n⟩)) ?_
 rintro u3 w3 ⟨hr3,hu3,hm3⟩
 refine GG ?_
 refine RK.ret_of Tryz.func175 (res1 rfl rfl) ?_ _
 exact ⟨_,rfl,he ▸ hr3,fun b hb=>by rw [hu3] at hb;have:=hf2 b hb;have:=hn1.grow.size;omega,(hn1.grow.trans hg2).then hm3 (fun x hx e=>by have:=hf2 x e;have:=hn1.grow.size;omega)⟩
theorem contains_ok (M:Nat→Prop) (xs:List Int) (v:Value) (x:Int) (w:World) (hv:Sl M w v 1 xs.length (ints xs)):Fx Tryz.prog 209 [v,.int .i64 x] w (fun u w'=>u=.bool (xs.contains x)∧w=w'):=by
 obtain ⟨ad,c,b,o,rfl,hf⟩:=hv.open
 by_cases h0:xs.length=0
 ·have:xs=[]:=List.eq_nil_of_length_eq_zero h0
  subst this
  refine Calls.mono (Tryz.slices_Contains_int_empty ad c x w) ?_
  rintro e w' ⟨rfl,rfl⟩
  exact ⟨_,rfl,rfl,rfl⟩
 ·obtain ⟨rfl,_,hc⟩:=hf (by omega)
  refine Calls.mono (Tryz.slices_Contains_int b o xs.length c xs x w (Nat.le_refl _) hv.big (fun j hj=>hc j _ (by simp [hj]))) ?_
  rintro e w' ⟨rfl,rfl⟩
  exact ⟨_,rfl,by rw [List.take_length],rfl⟩
theorem has_ok (M:Nat→Prop) (xs:List Int) (v:Value) (x:Int) (w:World) (hv:Sl M w v 1 xs.length (ints xs)):Fx Tryz.prog 177 [v,.int .i64 x] w (fun u w'=>u=.bool (xs.contains x)∧w=w'):=by
 refine enter Tryz.func177 rfl rfl rfl _ (Pick.sub (l:=[0,1]) (.cons rfl (.cons rfl .nil))) ?_
 refine GG ?_
 refine OP (Does.call rfl e209 (contains_ok M xs v x _ hv)) ?_
 rintro _ _ ⟨rfl,rfl⟩
 refine GG ?_
 refine RK.ret_of Tryz.func177 (res1 rfl rfl) ?_ _
 exact ⟨_,rfl,rfl,rfl⟩
theorem not1_ok (M:Nat→Prop) (w:World) (b:Nat) (ys:List Int) (vb:Value) (hb:Blk w b 35 [vb]) (hv:Sl M w vb 1 ys.length (ints ys)) (n:Int):Fx Tryz.prog 176 [.int .i64 n,pp b] w (fun u w'=>u=.bool (!ys.contains n)∧Grow w w'):=by
 refine enter Tryz.func176 rfl rfl rfl _ (Pick.sub (l:=[0,1]) (.cons rfl (.cons rfl .nil))) ?_
 refine GG ?_
 refine QQ (Yld.load p35 rfl (at1 (hb.cell rfl))) ?_
 refine RL.p rfl rfl ?_
 refine OP (Does.call rfl e177 (has_ok M ys vb n _ hv)) ?_
 rintro _ _ ⟨rfl,rfl⟩
 refine GG ?_
 refine RK.ret_of Tryz.func176 (res1 rfl rfl) ?_ _
 exact ⟨_,rfl,rfl,Mod.refl _ _⟩
theorem not_ok (M:Nat→Prop) (xs ys:List Int) (va vb:Value) (w:World) (ha:Sl M w va 1 xs.length (ints xs)) (hvb:Sl M w vb 1 ys.length (ints ys)) (hb:xs.length * 8≤140737488355328) :
  Fx Tryz.prog 144 [va,vb] w (fun u w'=>Row w' 3 1 u ((mkRow xs).filter fun n=>!ys.contains n).length (ints ((mkRow xs).filter fun n=>!ys.contains n))∧Fresh w.heap.size u∧Grow w w'):=by
 obtain ⟨ad',c',rfl⟩:=hvb.shape
 refine enter Tryz.func144 rfl rfl rfl _ (Pick.sub (l:=[0,1]) (.cons rfl (.cons rfl .nil))) ?_
 refine GG ?_
 refine OP (Does.box rfl) ?_
 rintro _ w1 ⟨b1,rfl,hn1⟩
 refine GG ?_
 refine OP (Does.call rfl e175 (kept_ok No xs va _ (fun n=>!ys.contains n) _ (ha.mod (Mod.any' hn1.grow)).noM hb ⟨_,_,rfl,e176,fun n w' hg=>not1_ok No w' b1 ys _ (hn1.blk.mod hg (fun h=>h)) (hvb.noM.mod (hn1.grow.trans hg)) n⟩)) ?_
 rintro u2 w2 ⟨hr2,hf2,hg2⟩
 refine GG ?_
 refine RK.ret_of Tryz.func144 (res1 rfl rfl) ?_ _
 exact ⟨_,rfl,hr2,fun b hb=>by have:=hf2 b hb;have:=hn1.grow.size;omega,hn1.grow.trans hg2⟩
theorem cut_ok (M:Nat→Prop) (xs:List Int) (x:Int) (v:Value) (w:World) (hv:Sl M w v 1 xs.length (ints xs)) (hb:xs.length * 8≤140737488355328) :
  Fx Tryz.prog 109 [v,.int .i64 x] w (fun u w'=>Row w' 3 1 u (cutRow xs x).length (ints (cutRow xs x))∧Fresh w.heap.size u∧Grow w w'):=by
 have he:(mkRow xs).filter (fun n=>![x].contains n)=cutRow xs x:=by
  unfold cutRow
  apply List.filter_congr
  intro y _
  by_cases h:y=x <;> simp [h]
 refine enter Tryz.func109 rfl rfl rfl _ (Pick.sub (l:=[0,1]) (.cons rfl (.cons rfl .nil))) ?_
 refine GG ?_
 refine OP (Does.slice1 u35 i3 rfl rfl rfl rfl rfl) ?_
 rintro _ w1 ⟨b1,rfl,hn1⟩
 refine OP (Does.call rfl e144 (not_ok No xs [x] v _ _ (hv.mod (Mod.any' hn1.grow)).noM (Sl.new hn1 1 1 rfl (by omega) (fun h=>h)) hb)) ?_
 rintro u2 w2 ⟨hr2,hf2,hg2⟩
 refine GG ?_
 refine RK.ret_of Tryz.func109 (res1 rfl rfl) ?_ _
 exact ⟨_,rfl,by rw [he] at hr2;exact hr2,fun b hb=>by have:=hf2 b hb;have:=hn1.grow.size;omega,hn1.grow.trans hg2⟩
end Go.Proofs.YtbcbfjnlnmhpbaaGreat
set_option linter.unusedVariables false
set_option linter.unusedSimpArgs false
set_option maxHeartbeats 800000
set_option maxRecDepth 100000
namespace Go.Proofs.YtbcbfjnlnmhpbaaGreat
open Go Go.X
end Go.Proofs.YtbcbfjnlnmhpbaaGreat
set_option linter.unusedVariables false
set_option linter.unusedSimpArgs false
set_option maxHeartbeats 400000
set_option maxRecDepth 100000
namespace Go.Proofs.YtbcbfjnlnmhpbaaGreat
open Go Go.X
theorem poolHas_ok (w:World) (p:Nat) (most last:Int) (out:List Int) (v:Value) (id:Int) (hp:PoolAt w p most last out v) (hs:Ris out) (hb:out.length≤1000000) :
  Fx Tryz.prog 108 [pp p,.int .i64 id] w (fun u w'=>u=.bool (out.contains id)∧Grow w w'):=by
 have hsl:=Sl.own (M:=No) hp.row (fun _ _ h=>h)
 have hcall:Fx Tryz.prog 143 [v,.int .i64 id] w (fun u w'=>∃ i:Int,u=.tuple #[.int .i64 i,.bool (out.contains id)]∧Grow w w'):=by
  obtain ⟨ad,c,b,o,rfl,hf⟩:=hsl.open
  by_cases h0:out.length=0
  ·have:out=[]:=List.eq_nil_of_length_eq_zero h0
   subst this
   refine Calls.mono (Tryz.slices_BinarySearch_int_empty ad c id w) ?_
   rintro e w' ⟨rfl,rfl⟩
   exact ⟨_,rfl,0,rfl,Mod.refl _ _⟩
  ·obtain ⟨rfl,_,hc⟩:=hf (by omega)
   refine Calls.mono (Tryz.slices_BinarySearch_int b o out.length c out id w (Nat.le_refl _) (by omega) (fun j hj=>hc j _ (by simp [hj])) (by rw [List.take_length];exact hs.imp fun h=>by omega)) ?_
   rintro e w' ⟨rfl,q,rfl⟩
   exact ⟨_,rfl,_,by rw [List.take_length],Mod.drewN _ _ _⟩
 obtain ⟨ad,c,rfl⟩:=hp.row.slice
 refine enter Tryz.func108 rfl rfl rfl _ (Pick.sub (l:=[0,1]) (.cons rfl (.cons rfl .nil))) ?_
 refine GG ?_
 refine QQ (Yld.fieldAddr fo152_2 rfl) ?_
 refine QQ (Yld.load p35 rfl (at1 (hp.blk.cell rfl))) ?_
 refine RL.p rfl rfl ?_
 refine OP (Does.call rfl e143 (hcall)) ?_
 rintro _ w2 ⟨i,rfl,hg2⟩
 refine GG ?_
 refine RK.ret_of Tryz.func108 (res1 rfl rfl) ?_ _
 exact ⟨_,rfl,rfl,hg2⟩
def giveS (out:List Int) (id:Int):List Int:=if out.contains id then cutRow out id else out
theorem give_ok (w:World) (p:Nat) (most last:Int) (out:List Int) (v:Value) (id:Int) (hp:PoolAt w p most last out v) (hs:Ris out) (hb:out.length≤1000000) :
  Fx Tryz.prog 58 [pp p,.int .i64 id] w (fun u w'=>u=.bool (out.contains id)∧∃ v',PoolAt w' p most last (giveS out id) v'∧Mod (·=p) w w'∧(∀ b,v'.ownBlock=some b→v.ownBlock=some b∨w.heap.size≤b)):=by
 have hcall:=poolHas_ok w p most last out v id hp hs hb
 cases hc:out.contains id with
 | false=>
  have e:giveS out id=out:=by unfold giveS;rw [hc];rfl
  rw [hc] at hcall
  refine enter Tryz.func58 rfl rfl rfl _ (Pick.sub (l:=[0,1]) (.cons rfl (.cons rfl .nil))) ?_
  refine GG ?_
  refine OP (Does.call rfl e108 (hcall)) ?_
  rintro _ w2 ⟨rfl,hg2⟩
  refine GG ?_
  refine RK.condT (hcT rfl (rfl)) ?_
  refine GG ?_
  refine RK.ret_of Tryz.func58 (res1 rfl rfl) ?_ _
  exact ⟨_,rfl,rfl,v,e.symm ▸ ⟨hp.blk.mod hg2 (fun h=>h),hp.row.mod hg2 (fun _ _ h=>h),hp.ne⟩,Mod.any' hg2,fun b h=>.inl h⟩
 | true=>
  have e:giveS out id=cutRow out id:=by unfold giveS;rw [hc];rfl
  rw [hc] at hcall
  obtain ⟨ad,c,rfl⟩:=hp.row.slice
  refine enter Tryz.func58 rfl rfl rfl _ (Pick.sub (l:=[0,1]) (.cons rfl (.cons rfl .nil))) ?_
  refine GG ?_
  refine OP (Does.call rfl e108 (hcall)) ?_
  rintro _ w2 ⟨rfl,hg2⟩
  refine GG ?_
  refine RK.condF (hcF rfl (rfl)) ?_
  refine GG ?_
  refine QQ (Yld.fieldAddr fo152_2 rfl) ?_
  refine QQ (Yld.load p35 rfl (at1 ((hp.blk.mod hg2 (fun h=>h)).cell rfl))) ?_
  refine RL.p rfl rfl ?_
  refine OP (Does.call rfl e109 (cut_ok No out id _ _ (Sl.own (hp.row.mod hg2 (fun _ _ h=>h)) (fun _ _ h=>h)) (by omega))) ?_
  rintro u3 w3 ⟨hr3,hf3,hg3⟩
  obtain ⟨ad3,c3,rfl⟩:=hr3.slice
  have hg03:=hg2.trans hg3
  have hlt:=hp.blk.lt
  have hs2:=hg2.size
  refine RL.p rfl rfl ?_
  refine QQ (Yld.fieldAddr fo152_2 rfl) ?_
  refine OQ (Does.store i35 rfl rfl rfl (hp.blk.mod hg03 (fun h=>h)) (.s (.s .z))) ?_
  rintro _ w4 ⟨hb4,hm4,_⟩
  refine GG ?_
  refine RK.ret_of Tryz.func58 (res1 rfl rfl) ?_ _
  exact ⟨_,rfl,rfl,.slice ad3 (cutRow out id).length c3,by rw [e];exact ⟨hb4,hr3.mod hm4 (fun b h e'=>by have e' : b=p:=e';have:=hf3 b h;omega),fun h=>by have:=hf3 p h;omega⟩,(Mod.any' hg03).trans hm4,fun b h=>.inr (by have:=hf3 b h;omega)⟩
theorem cmpInt_ok (x y:Int) (w:World):Fx Tryz.prog 106 [.int .i64 x,.int .i64 y] w (fun u w'=>u=.int .i64 (Lib.compareInt x y)∧w=w'):=by
 refine Calls.mono (Tryz.cmp_Compare_int x y w) ?_
 rintro e w' ⟨rfl,rfl⟩
 exact ⟨_,rfl,rfl,rfl⟩
theorem cmp_lt (x y:Int):Lib.compareInt x y < 0↔x < y:=by unfold Lib.compareInt;split <;> (try split) <;> omega
theorem cmp_eq (x y:Int):Lib.compareInt x y=0↔x=y:=by unfold Lib.compareInt;split <;> (try split) <;> omega
end Go.Proofs.YtbcbfjnlnmhpbaaGreat
set_option linter.unusedVariables false
set_option linter.unusedSimpArgs false
set_option maxHeartbeats 800000
set_option maxRecDepth 100000
namespace Go.Proofs.YtbcbfjnlnmhpbaaGreat
open Go Go.X
end Go.Proofs.YtbcbfjnlnmhpbaaGreat
set_option linter.unusedVariables false
set_option linter.unusedSimpArgs false
set_option maxHeartbeats 800000
set_option maxRecDepth 100000
namespace Go.Proofs.YtbcbfjnlnmhpbaaGreat
open Go Go.X
def placeS (s:St) (id:Int):Option Nat:=s.al.findIdx? fun a=>decide (a.1=id)
def resolveS (s:St) (id:Int):St×Int:=
 match placeS s id with
 | none=>(s,5)
 | some i=>({ s with al:=s.al.eraseIdx i,out:=giveS s.out id,has:=cutM s.has id,rows:=dropRows s.rows id ((lookM s.has id).getD []) },0)
end Go.Proofs.YtbcbfjnlnmhpbaaGreat
set_option linter.unusedVariables false
set_option linter.unusedSimpArgs false
set_option maxHeartbeats 800000
set_option maxRecDepth 100000
namespace Go.Proofs.YtbcbfjnlnmhpbaaGreat
open Go Go.X
end Go.Proofs.YtbcbfjnlnmhpbaaGreat
set_option linter.unusedVariables false
set_option linter.unusedSimpArgs false
set_option maxHeartbeats 400000
set_option maxRecDepth 100000
namespace Go.Proofs.YtbcbfjnlnmhpbaaGreat
open Go Go.X
abbrev AlS:=Int×List Lab×Nat
def hasOf (al:List AlS):List (Int×List Lab):=al.map fun a=>(a.1,a.2.1)
structure Gd (s:St):Prop where
 ids:Ris (s.al.map (·.1))
 out:s.out=s.al.map (·.1)
 has:s.has=hasOf s.al
 ix:IxI s.has s.rows
 le:∀ a∈s.al,1≤a.1∧a.1≤s.last
 sets:∀ a∈s.al,isS a.2.1=true
theorem Gd.new (m:Int):Gd (St.new m):=⟨by simp [St.new],rfl,rfl,IxI.nil,by simp [St.new],by simp [St.new]⟩
end Go.Proofs.YtbcbfjnlnmhpbaaGreat
