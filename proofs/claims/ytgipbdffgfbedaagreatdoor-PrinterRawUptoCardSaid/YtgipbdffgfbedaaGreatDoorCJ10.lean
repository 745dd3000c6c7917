/- reader.Tokens: the deferred catch, in both modes. -/
import Derived.Test.YtgipbdffgfbedaaGreatDoorCJ9
set_option linter.all false
namespace Go.Proofs.YtgipbdffgfbedaaGreatDoor
open Go.Abs
set_option maxRecDepth 100000
set_option maxHeartbeats 1000000
theorem CM.at0 {P:Program} {G:a9k} {f:FuncId} {ds:List D} {r:V2} (h:CM P G f ds [] r []) {w:World} {S:k8} {vs:List Value} (hg:G.pred w) (hwi:S.within w) (hvs:p9 S s9 w vs ds) :
  Calls P f vs.toArray w fun e w'=>Z8 w s9 w'∧∃ S',S.grown S' w∧S'.within w'∧Abs.Ends S' s9 w w' [] e r :=
 h.2 w S s9 vs hg (fun _ _ _ h=>by cases h) hwi ⟨fun id b h=>by simp at h,fun _ _=>rfl,fun _ _ _ _ _ _ _ h=>by simp at h⟩ hvs
section
variable {P:Program} {md:Region.Mode} {ops:Array Oper} {Q:Exit→Act→World→Prop} {fuel:Nat} {listed:Array Bool} {a:Act} {w:World}
theorem c7k (hr:Region.ready md ops listed=[]) (h:Q .normal a w):wpAny P md ops Q fuel listed a w:=by
 cases fuel with
 | zero=>exact ⟨hr,h⟩
 | succ n=>exact ⟨fun _=>h,fun i hi=>by rw [hr] at hi;cases hi⟩
theorem a4k {i:Nat} (hr:Region.ready md ops listed=[i]) (h:wpOp P ops Q i (wpAny P md ops Q fuel (listed.setIfInBounds i true)) a w):wpAny P md ops Q (fuel+1) listed a w :=
 ⟨fun h=>(by rw [hr] at h;cases h),fun j hj=>(by rw [hr] at hj;cases List.mem_singleton.1 hj;exact h)⟩
theorem d3o {i j:Nat} (hr:Region.ready md ops listed=[i,j]) (h:wpOp P ops Q i (wpAny P md ops Q fuel (listed.setIfInBounds i true)) a w) (k:wpOp P ops Q j (wpAny P md ops Q fuel (listed.setIfInBounds j true)) a w):wpAny P md ops Q (fuel+1) listed a w :=
 ⟨fun h=>(by rw [hr] at h;cases h),fun x hj=>by
  rw [hr] at hj
  rcases List.mem_cons.1 hj with rfl | hj
  ·exact h
  ·cases List.mem_singleton.1 hj;exact k⟩
theorem c8t {i:Nat} {o:Oper} {K:Act→World→Prop} (ho:ops[i]?=some o) (hg:o.guard=none) (h:o.wp P a w K Q):wpOp P ops Q i K a w:=by
 unfold wpOp
 rw [ho]
 simp only []
 rw [if_pos (by simp [Region.wanted,hg])]
 exact .inl h
theorem c2p {i:Nat} {o:Oper} {K:Act→World→Prop} {v:Value} {w':World} (ho:ops[i]?=some o) (hg:o.guard=none) (hr:(execOp a.eval o).run P w=.ok (.value v) w') (h:K (a.put o.dst v) w'):wpOp P ops Q i K a w:=c8t ho hg (by unfold Oper.wp;rw [hr];exact h)
theorem d9s {i:Nat} {o:Oper} {K:Act→World→Prop} {f:FuncId} {args:Array Value} (ho:ops[i]?=some o) (hg:o.guard=none) (hr:(execOp a.eval o).run P w=.ok (.enter f args) w) {R:Ending→World→Prop} (h:Calls P f args w R)
 (hv:∀ v w',R (.returned v) w'→K (a.put o.dst v) w') (hp:∀ c w',R (.panicked c) w'→Q (.panic c) a w') (ho2:∀ w',R .outgrown w'→LetsOut Q):wpOp P ops Q i K a w:=c8t ho hg (by
  unfold Oper.wp;rw [hr]
  refine Calls.mono h fun e w' he=>?_
  cases e with
  | returned v=>exact hv v w' he
  | panicked c=>exact hp c w' he
  | outgrown=>exact ho2 w' he)
end
theorem c9p (w:World) (b:Nat) (x y:Value) (t:TypeId) (hb:w.heap[b]?=some (.cells #[x,y] t (0,0))):(w.setCell ⟨b,0,none⟩ x).setCell ⟨b,1,none⟩ y=w:=by
 unfold World.setCell
 congr 1
 apply Array.ext_getElem?
 intro k
 simp only [Array.getElem?_modify]
 by_cases hkb:b=k
 ·subst hkb
  simp [hb]
 ·simp [hkb]
abbrev M9:Obj:=.cells #[.int .i64 0,.int .i64 0] 97
def c0o (b:Nat) (ok:Value→Prop) (val:Value→Value→Value) (nil:Value) (R:Ending→World→Prop) (e:Ending) (w2:World):Prop :=
 w2.heap[b]?=some M9∧((∃ v,e=.returned v∧ok v∧∀ w3,w3=w2∨w3=w2.drew→R (.returned (val v (.agg #[.int .i64 0,.int .i64 0]))) w3) ∨
  ∃ er p,e=.panicked [{ v:=.iface 117 (.agg #[.int .i64 er,.int .i64 p]),recovered:=false }]∧R (.returned (val nil (.agg #[.int .i64 er,.int .i64 p]))) ((w2.alloc (.cells #[.int .i64 er,.int .i64 p] 117)).setRow b #[.int .i64 er,.int .i64 p]))
theorem d4v {a:Act} {w:World} {b:Nat} {x y:Value} {d:Option Tmp} {t:Tmp} {ty:TypeId} {pos:String} {af:Array Edge} (hp:a.tmps.getD t undef=.pointer (some ⟨b,0,none⟩)) (hb:w.heap[b]?=some (.cells #[x,y] 97 (0,0))) :
  (execOp a.eval { dst:=d,op:=.load 97 (.tmp t),type:=ty,pos:=pos,after:=af,guard:=none }).run Tryz.prog w=.ok (.value (.agg #[x,y])) w:=by
 have h0:w.cell? ⟨b,0,none⟩=some x:=by simp [World.cell?,hb]
 have h1:w.cell? ⟨b,1,none⟩=some y:=by simp [World.cell?,hb]
 simp [execOp,go_sem,Act.eval,hp,h0,h1]
theorem d2t {a:Act} {w:World} {b:Nat} {x y:Int} {x' y':Value} {d:Option Tmp} {t u:Tmp} {ty:TypeId} {pos:String} {af:Array Edge} (hp:a.tmps.getD t undef=.pointer (some ⟨b,0,none⟩)) (hv:a.tmps.getD u undef=.agg #[.int .i64 x,.int .i64 y]) (hb:w.heap[b]?=some (.cells #[x',y'] 97 (0,0))) :
  (execOp a.eval { dst:=d,op:=.store 97 (.tmp t) (.tmp u),type:=ty,pos:=pos,after:=af,guard:=none }).run Tryz.prog w=.ok .skip ((w.setCell ⟨b,0,none⟩ (.int .i64 x)).setCell ⟨b,1,none⟩ (.int .i64 y)):=by
 have h0:w.cell? ⟨b,0,none⟩=some x':=by simp [World.cell?,hb]
 have h1:w.cell? ⟨b,1,none⟩=some y':=by simp [World.cell?,hb]
 have f0:w.frozen? ⟨b,0,none⟩=false:=by simp [World.frozen?,hb]
 have f1:w.frozen? ⟨b,1,none⟩=false:=by simp [World.frozen?,hb]
 simp [execOp,go_sem,Act.eval,hp,h0,h1,hv,f0,f1]
theorem d9v {P:Program} {ops:Array Oper} {Q:Exit→Act→World→Prop} {a:Act} {w w':World} {i:Nat} {o:Oper} {K:Act→World→Prop} (ho:ops[i]?=some o) (hg:o.guard=none) (hr:(execOp a.eval o).run P w=.ok .skip w') (h:K (a.put o.dst undef) w'):wpOp P ops Q i K a w:=c8t ho hg (by unfold Oper.wp;rw [hr];exact h)
theorem b6d {a:Act} {w:World} {d:Option Tmp} {t:Tmp} {ty:TypeId} {pos:String} {af:Array Edge} :
  (execOp a.eval { dst:=d,op:=.call { callee:=.value (.func 89),args:=#[.tmp t],argTypes:=#[9] },type:=ty,pos:=pos,after:=af,guard:=none }).run Tryz.prog w=.ok (.enter 89 #[a.tmps.getD t undef]) w:=by
 simp [execOp,go_sem,Act.eval]
theorem b10 (b:Nat) (w:World):(invoke (.fn (.func 88) #[]) #[.pointer (some ⟨b,0,none⟩)]).run Tryz.prog w=.ok (.enter 88 #[.pointer (some ⟨b,0,none⟩)]) w:=by
 simp [invoke,go_sem]
abbrev a6u (b:Nat):Deferred:={ target:=.fn (.func 88) #[],args:=#[.pointer (some ⟨b,0,none⟩)] }
theorem d1e {fn:Func} {tmps:Array Value} {R:Ending→World→Prop} {b:Nat} {w:World} {v:Value} (hr:(results fn tmps).run Tryz.prog w=.ok v w) (h:R (.returned v) w):Leaves Tryz.prog fn tmps R [a6u b] .returning w:=by
 refine leaves_cons (f:=88) (args:=#[.pointer (some ⟨b,0,none⟩)]) (by simp) (b10 b w) ?_
 refine (c7u (.pointer (some ⟨b,0,none⟩)) w ⟨_,rfl⟩).mono ?_
 rintro e u' w'' ⟨⟨x,rfl⟩,rfl,rfl⟩
 exact ⟨v,hr,h⟩
theorem d1d {fn:Func} {tmps:Array Value} {R:Ending→World→Prop} {b:Nat} {w:World} {er p:Int} {v:Value} (hb:w.heap[b]?=some M9)
  (hr:∀ w',w'=(w.alloc (.cells #[.int .i64 er,.int .i64 p] 117)).setRow b #[.int .i64 er,.int .i64 p]→(results fn tmps).run Tryz.prog w'=.ok v w'∧R (.returned v) w') :
  Leaves Tryz.prog fn tmps R [a6u b] (.panicking [{ v:=.iface 117 (.agg #[.int .i64 er,.int .i64 p]),recovered:=false }]) w:=by
 refine leaves_cons (f:=88) (args:=#[.pointer (some ⟨b,0,none⟩)]) (by simp) (b10 b w) ?_
 refine (c39 b w er p [] _ _ _ hb).mono ?_
 rintro e u' w'' ⟨rfl,rfl,rfl⟩
 obtain ⟨h1,h2⟩:=hr _ rfl
 exact ⟨v,h1,h2⟩
theorem c9d {w:World} {b:Nat} {x y:Value} (hb:w.heap[b]?=some M9) {o:Obj}:((w.alloc o).setRow b #[x,y]).heap[b]?=some (.cells #[x,y] 97 (0,0)):=by
 have hlt:b < w.heap.size:=(Array.getElem?_eq_some_iff.1 hb).1
 unfold World.setRow World.alloc
 simp only [Array.getElem?_modify,Array.getElem?_push]
 simp [Nat.ne_of_lt hlt,hb]
theorem a7f {w:World} {b:Nat} {v x y:Value} {tmps:Array Value} (h2:tmps.getD 2 undef=v) (h3:tmps.getD 3 undef=.pointer (some ⟨b,0,none⟩)) (hb:w.heap[b]?=some (.cells #[x,y] 97 (0,0))) :
  (results Tryz.f75 tmps).run Tryz.prog w=.ok (.tuple #[v,.agg #[x,y]]) w:=by
 have h0:w.cell? ⟨b,0,none⟩=some x:=by simp [World.cell?,hb]
 have h1:w.cell? ⟨b,1,none⟩=some y:=by simp [World.cell?,hb]
 rw [Array.getD_eq_getD_getElem?] at h2 h3
 simp [results,Tryz.results75,go_sem,h2,h3,h0,h1]
theorem c49 {v0:Value} {w:World} {R:Ending→World→Prop}
  (hcall:∀ w1,w1=w.alloc M9∨w1=(w.alloc M9).drew→Calls Tryz.prog 89 #[v0] w1 (c0o w.heap.size (fun _=>True) (fun v e=>.tuple #[v,e]) (.slice none 0 0) R)) :
  Calls Tryz.prog 75 #[v0] w R:=by
 refine calls_of_wp_defers Tryz.func75 rfl ?_
 go_wp2
 rename_i K hK
 refine wp_region_any rfl ?_
 change wpAny Tryz.prog .any _ _ 5 #[false,false,false,false,false] ⟨#[v0,undef,.slice none 0 0,.pointer (some ⟨w.heap.size,0,none⟩),undef,undef,undef],[a6u w.heap.size]⟩ (w.alloc M9).drew
 have hb1:(w.alloc M9).drew.heap[w.heap.size]?=some M9:=by show (w.heap.push M9)[w.heap.size]?=some M9;simp
 have hcall:=hcall _ (.inr rfl)
 generalize (w.alloc M9).drew=w1 at *
 generalize w.heap.size=b at *
 generalize hops:(#[_,_,_,_,_]:Array Oper)=ops
 generalize hQ:Exit.then K (bodyPostD Tryz.prog Tryz.f75 R)=Q
 have hr0:Region.ready .any ops #[false,false,false,false,false]=[0,2]:=by subst hops;kernel_rfl
 have hr1:Region.ready .any ops #[true,false,false,false,false]=[1,2]:=by subst hops;kernel_rfl
 have hr2:Region.ready .any ops #[false,false,true,false,false]=[0]:=by subst hops;kernel_rfl
 have hr3:Region.ready .any ops #[true,false,true,false,false]=[1]:=by subst hops;kernel_rfl
 have hr4:Region.ready .any ops #[true,true,false,false,false]=[2,3]:=by subst hops;kernel_rfl
 have hr5:Region.ready .any ops #[true,true,true,false,false]=[3]:=by subst hops;kernel_rfl
 have hr6:Region.ready .any ops #[true,true,false,true,false]=[2]:=by subst hops;kernel_rfl
 have hr7:Region.ready .any ops #[true,true,true,true,false]=[4]:=by subst hops;kernel_rfl
 have hr8:Region.ready .any ops #[true,true,true,true,true]=[]:=by subst hops;kernel_rfl
 have e0:∃ o,ops[0]?=some o∧o.guard=none∧o.dst=some 4∧∀ (a:Act) w',(execOp a.eval o).run Tryz.prog w'=.ok (.value (a.tmps.getD 0 undef)) w':=by subst hops;exact ⟨_,rfl,rfl,rfl,fun a w'=>rfl⟩
 have e1:∃ o,ops[1]?=some o∧o.guard=none∧o.dst=some 5∧∀ (a:Act) w',(execOp a.eval o).run Tryz.prog w'=.ok (.enter 89 #[a.tmps.getD 4 undef]) w':=by subst hops;exact ⟨_,rfl,rfl,rfl,fun a w'=>b6d⟩
 have e2:∃ o,ops[2]?=some o∧o.guard=none∧o.dst=some 6∧∀ (a:Act) w',a.tmps.getD 3 undef=.pointer (some ⟨b,0,none⟩)→w'.heap[b]?=some M9→(execOp a.eval o).run Tryz.prog w'=.ok (.value (.agg #[.int .i64 0,.int .i64 0])) w':=by subst hops;exact ⟨_,rfl,rfl,rfl,fun a w' h1 h2=>d4v h1 h2⟩
 have e3:∃ o,ops[3]?=some o∧o.guard=none∧o.dst=some 2∧∀ (a:Act) w',(execOp a.eval o).run Tryz.prog w'=.ok (.value (a.tmps.getD 5 undef)) w':=by subst hops;exact ⟨_,rfl,rfl,rfl,fun a w'=>rfl⟩
 have e4:∃ o,ops[4]?=some o∧o.guard=none∧o.dst=none∧∀ (a:Act) w',a.tmps.getD 3 undef=.pointer (some ⟨b,0,none⟩)→a.tmps.getD 6 undef=.agg #[.int .i64 0,.int .i64 0]→w'.heap[b]?=some M9→(execOp a.eval o).run Tryz.prog w'=.ok .skip w':=by
  subst hops
  refine ⟨_,rfl,rfl,rfl,fun a w' h1 h2 h3=>?_⟩
  exact (d2t h1 h2 h3).trans (by rw [c9p _ _ _ _ _ h3])
 have hend:∀ (tmps:Array Value) w2 v,w2.heap[b]?=some M9→tmps.getD 2 undef=v→tmps.getD 3 undef=.pointer (some ⟨b,0,none⟩)→R (.returned (.tuple #[v,.agg #[.int .i64 0,.int .i64 0]])) w2→Q .normal ⟨tmps,[a6u b]⟩ w2:=by
  intro tmps w2 v h1 h2 h3 h4
  subst hQ
  refine hK _ _ (wp_ret ?_)
  exact d1e (a7f h2 h3 h1) h4
 have hpan:∀ (tmps:Array Value) w2 er p,w2.heap[b]?=some M9→tmps.getD 2 undef=.slice none 0 0→tmps.getD 3 undef=.pointer (some ⟨b,0,none⟩)→R (.returned (.tuple #[.slice none 0 0,.agg #[.int .i64 er,.int .i64 p]])) ((w2.alloc (.cells #[.int .i64 er,.int .i64 p] 117)).setRow b #[.int .i64 er,.int .i64 p])→Q (.panic [{ v:=.iface 117 (.agg #[.int .i64 er,.int .i64 p]),recovered:=false }]) ⟨tmps,[a6u b]⟩ w2:=by
  intro tmps w2 er p h1 h2 h3 h4
  subst hQ
  exact d1d h1 fun w' e=>by subst e;exact ⟨a7f h2 h3 (c9d h1),h4⟩
 clear hQ hops hK
 obtain ⟨o0,a0,b0,c0,d0⟩:=e0
 obtain ⟨o1,a1,b1,c1,d1⟩:=e1
 obtain ⟨o2,a2,b2,c2,d2⟩:=e2
 obtain ⟨o3,a3,b3,c3,d3⟩:=e3
 obtain ⟨o4,a4,b4,c4,d4⟩:=e4
 have m0:∀ {K:Act→World→Prop} {a:Act} {w':World},K (a.put (some 4) (a.tmps.getD 0 undef)) w'→wpOp Tryz.prog ops Q 0 K a w':=fun h=>c2p a0 b0 (d0 _ _) (c0 ▸ h)
 have m1:∀ {K:Act→World→Prop} {a:Act},a.defers=[a6u b]→a.tmps.getD 2 undef=.slice none 0 0→a.tmps.getD 3 undef=.pointer (some ⟨b,0,none⟩)→a.tmps.getD 4 undef=v0→(∀ v w2,w2.heap[b]?=some M9→R (.returned (.tuple #[v,.agg #[.int .i64 0,.int .i64 0]])) w2→K (a.put (some 5) v) w2)→wpOp Tryz.prog ops Q 1 K a w1:=fun {K a} hd h2 h3 h4 h=>d9s a1 b1 (d1 _ _) (by rw [h4];exact hcall)
  (fun v w' hc=>by
   obtain ⟨q1,⟨v',e,_,q2⟩ | ⟨_,_,e,_⟩⟩:=hc
   ·injection e with e;subst e;rw [c1];exact h v w' q1 (q2 _ (.inl rfl))
   ·cases e)
  (fun c w' hc=>by
   obtain ⟨q1,⟨v',e,_,q2⟩ | ⟨er,p,e,q2⟩⟩:=hc
   ·cases e
   ·injection e with e;subst e;have:=hpan a.tmps w' er p q1 h2 h3 q2;rw [← hd] at this;exact this)
  (fun w' hc=>by
   obtain ⟨q1,⟨v',e,_,q2⟩ | ⟨er,p,e,q2⟩⟩:=hc <;> cases e)
 have m2:∀ {K:Act→World→Prop} {a:Act} {w':World},a.tmps.getD 3 undef=.pointer (some ⟨b,0,none⟩)→w'.heap[b]?=some M9→K (a.put (some 6) (.agg #[.int .i64 0,.int .i64 0])) w'→wpOp Tryz.prog ops Q 2 K a w':=fun h1 h2 h=>c2p a2 b2 (d2 _ _ h1 h2) (c2 ▸ h)
 have m3:∀ {K:Act→World→Prop} {a:Act} {w':World},K (a.put (some 2) (a.tmps.getD 5 undef)) w'→wpOp Tryz.prog ops Q 3 K a w':=fun h=>c2p a3 b3 (d3 _ _) (c3 ▸ h)
 have m4:∀ {K:Act→World→Prop} {a:Act} {w':World},a.tmps.getD 3 undef=.pointer (some ⟨b,0,none⟩)→a.tmps.getD 6 undef=.agg #[.int .i64 0,.int .i64 0]→w'.heap[b]?=some M9→K a w'→wpOp Tryz.prog ops Q 4 K a w':=fun h1 h2 h3 h=>d9v a4 b4 (d4 _ _ h1 h2 h3) (c4 ▸ h)
 refine d3o hr0 (m0 ?_) (m2 rfl hb1 ?_)
 ·refine d3o hr1 (m1 rfl rfl rfl rfl fun v w2 k1 k2=>?_) (m2 rfl hb1 ?_)
  ·refine d3o hr4 (m2 rfl k1 ?_) (m3 ?_)
   ·exact a4k hr5 (m3 (a4k hr7 (m4 rfl rfl k1 (c7k hr8 (hend _ _ v k1 rfl rfl k2)))))
   ·exact a4k hr6 (m2 rfl k1 (a4k hr7 (m4 rfl rfl k1 (c7k hr8 (hend _ _ v k1 rfl rfl k2)))))
  ·exact a4k hr3 (m1 rfl rfl rfl rfl fun v w2 k1 k2=>a4k hr5 (m3 (a4k hr7 (m4 rfl rfl k1 (c7k hr8 (hend _ _ v k1 rfl rfl k2))))))
 ·refine a4k hr2 (m0 ?_)
  exact a4k hr3 (m1 rfl rfl rfl rfl fun v w2 k1 k2=>a4k hr5 (m3 (a4k hr7 (m4 rfl rfl k1 (c7k hr8 (hend _ _ v k1 rfl rfl k2))))))
abbrev b6h (e p:Int):D:=.agg [.int .i64 e,.int .i64 p]
theorem e6d {S:k8} {M:Mp} {w:World} (e p:Int):Rd S M w (.agg #[.int .i64 e,.int .i64 p]) (b6h e p):=.agg _ _ (.k (.int _ _) (.k (.int _ _) .nil))
def a4a (dval:D→D→D) (nild:D):V2→Option V2
 | .ret d=>some (.ret (dval d (b6h 0 0)))
 | .pan (.iface t (.agg [.int .i64 e,.int .i64 p]))=>if t=117 then some (.ret (dval nild (b6h e p))) else none
 | .pan _=>none
theorem c2v {w:World} {o:Obj} {k:Nat} (h:k < w.heap.size):(w.alloc o).drew.heap[k]?=w.heap[k]?∧(w.alloc o).heap[k]?=w.heap[k]?:=by
 refine (fun h=>⟨h,h⟩) ?_
 show (w.heap.push o)[k]?=_
 rw [Array.getElem?_push]
 simp [Nat.ne_of_lt h]
theorem d0a {f g:FuncId} {ds:List D} {r r':V2} {ok:Value→Prop} {val:Value→Value→Value} {dval:D→D→D} {nilv:Value} {nild:D} (hc:∀ args w,(callFunc f args).run Tryz.prog w=.ok (.enter f args) w)
  (hwalk:∀ (vs:List Value) (w:World) (R:Ending→World→Prop),vs.length=ds.length→(∀ w1,w1=w.alloc M9∨w1=(w.alloc M9).drew→Calls Tryz.prog g vs.toArray w1 (c0o w.heap.size ok val nilv R))→Calls Tryz.prog f vs.toArray w R)
  (hval:∀ (S:k8) (w:World) (v:Value) (d:D) (e p:Int),(d=nild∨r=.ret d)→Rd S s9 w v d→Rd S s9 w (val v (.agg #[.int .i64 e,.int .i64 p])) (dval d (b6h e p)))
  (hok:∀ (S:k8) (w:World) (v:Value) (d:D),r=.ret d→Rd S s9 w v d→ok v)
  (hnil:∀ (S:k8) (w:World),Rd S s9 w nilv nild)
  (hfr:∀ (S:k8) (w0 w:World) (v:Value) (d:D) (e p:Int),d=nild∨r=.ret d→a2y S w0 w v (dval d (b6h e p)))
  (hg:CM Tryz.prog GG g ds [] r []) (hr:a4a dval nild r=some r'):CM Tryz.prog GG f ds [] r' []:=by
 refine ⟨hc,fun w S M vs hgl hM hwi hh hvs=>?_⟩
 have hMn:M=s9:=funext fun id=>hh.out id (by simp)
 subst hMn
 refine hwalk vs w _ hvs.length fun w1 e1=>?_
 have hsz:w1.heap.size=w.heap.size+1:=by rcases e1 with rfl | rfl <;> (show (w.heap.push _).size=_;simp)
 have hold:∀ k,k < w.heap.size→w1.heap[k]?=w.heap[k]?:=fun k hk=>e1.elim (fun e=>by subst e;exact (c2v hk).2) (fun e=>by subst e;exact (c2v hk).1)
 have hnew:w1.heap[w.heap.size]?=some M9:=by rcases e1 with rfl | rfl <;> (show (w.heap.push _)[w.heap.size]?=_;simp)
 have hg1:GG.pred w1:=GG.stable w w1 hgl fun b hb=>hold b (Nat.lt_of_lt_of_le hb (GG.size w hgl))
 have hw1:S.within w1:=fun b o h=>by have:=hwi b o h;omega
 have hv1:p9 S s9 w1 vs ds:=hvs.ext ⟨fun _ _ h=>h,fun b o h=>by unfold World.cell?;rw [hold b (hwi b o h)],fun _ _ h=>h⟩
 refine (CM.at0 hg hg1 hw1 hv1).mono ?_
 rintro e w2 ⟨hk,S',hgr,hwt,he⟩
 have hos:w1.os=w.os∧w1.tape=w.tape∧w1.output=w.output:=by rcases e1 with rfl | rfl <;> exact ⟨rfl,rfl,rfl⟩
 have hk2:Z8 w s9 w2:=⟨hk.os.trans hos.1,hk.tape.trans hos.2.1,hk.output.trans hos.2.2,by have:=hk.size;omega,fun k hlt _=>(hk.block k oM (fun _ _ h=>by cases h)).trans (hold k hlt)⟩
 have hgr2:S.grown S' w:=⟨hgr.1,fun b o h=>(hgr.2 b o h).imp_right fun h=>by omega⟩
 have hb2:w2.heap[w.heap.size]?=some M9:=(hk.block _ oM (fun _ _ h=>by cases h)).trans hnew
 refine ⟨hb2,?_⟩
 cases r with
 | ret d =>
  obtain ⟨_,v,rfl,hv,_⟩:=he
  simp only [a4a,Option.some.injEq] at hr
  subst hr
  refine .inl ⟨v,rfl,hok _ _ _ _ rfl hv,fun w3 e3=>?_⟩
  have hh3:w3.heap=w2.heap:=by rcases e3 with rfl | rfl <;> rfl
  have ho3:w3.os=w2.os∧w3.tape=w2.tape∧w3.output=w2.output:=by rcases e3 with rfl | rfl <;> exact ⟨rfl,rfl,rfl⟩
  have hv3:Rd S' s9 w3 v d:=hv.ext ⟨fun _ _ h=>h,fun b o h=>by unfold World.cell?;rw [hh3],fun _ _ h=>h⟩
  exact ⟨⟨ho3.1.trans hk2.os,ho3.2.1.trans hk2.tape,ho3.2.2.trans hk2.output,by rw [hh3];exact hk2.size,fun k hlt hm=>by rw [hh3];exact hk2.block k hlt hm⟩,S',hgr2,fun b o h=>by rw [hh3];exact hwt b o h,⟨fun id b h=>by simp at h,fun _ _=>rfl,fun _ _ _ _ _ _ _ h=>by simp at h⟩,_,rfl,hval S' w3 v d 0 0 (.inr rfl) hv3,hfr _ _ _ _ d 0 0 (.inr rfl)⟩
 | pan d =>
  obtain ⟨v,rfl,hv⟩:=he
  unfold a4a at hr
  split at hr
  ·rename_i hh;cases hh
  ·rename_i t er p hd
   split at hr
   ·rename_i ht
    injection hd with hd
    subst hd ht
    injection hr with hr
    subst hr
    cases hv with
    | iface _ v' _ hv =>
     cases hv with
     | agg us _ hv =>
      obtain ⟨us⟩:=us
      cases hv with
      | cons _ _ _ _ h1 hv =>
       cases hv with
       | cons _ _ _ _ h2 hv =>
        cases hv
        cases h1
        cases h2
        refine .inr ⟨er,p,rfl,?_⟩
        have hsz2:=hk.size
        have hold2:∀ k,k < w2.heap.size→k ≠ w.heap.size→∀ o x,((w2.alloc o).setRow w.heap.size x).heap[k]?=w2.heap[k]?:=fun k hk hne o x=>by
         unfold World.setRow World.alloc
         simp only [Array.getElem?_modify,Array.getElem?_push]
         simp [Nat.ne_of_lt hk,Ne.symm hne]
        have hszr:∀ o x,((w2.alloc o).setRow w.heap.size x).heap.size=w2.heap.size+1:=fun o x=>by unfold World.setRow World.alloc;simp
        refine ⟨⟨hk2.os,hk2.tape,hk2.output,by rw [hszr];omega,fun k hlt hm=>(hold2 k oM oM _ _).trans (hk2.block k hlt hm)⟩,S',hgr2,fun b o h=>by rw [hszr];have:=hwt b o h;omega,⟨fun id b h=>by simp at h,fun _ _=>rfl,fun _ _ _ _ _ _ _ h=>by simp at h⟩,_,rfl,hval S' _ nilv nild er p (.inl rfl) (hnil _ _),hfr _ _ _ _ nild er p (.inl rfl)⟩
   ·cases hr
  ·cases hr
end Go.Proofs.YtgipbdffgfbedaaGreatDoor
