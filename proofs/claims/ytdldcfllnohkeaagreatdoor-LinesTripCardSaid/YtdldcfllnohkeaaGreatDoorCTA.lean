/- strings.Builder at this seat: what its methods do. -/
import Derived.Test.YtdldcfllnohkeaaGreatDoorCS
import Derived.Test.YtdldcfllnohkeaaGreatDoorCT0
set_option linter.all false
namespace Go.Proofs.YtdldcfllnohkeaaGreatDoor
open Go.RowKit Go.Shelf
set_option maxRecDepth 100000
def a18:Ren:={ Tryz.lays155_ren with f:=fun n=>if n=167 then 136 else Tryz.lays155_ren.f n }
theorem g0g:Lays.n166 Tryz.prog a18:={ Tryz.lays155 with
 f166:=Tryz.lays155.f166.trans (congrArg some kR)
 f240:=Tryz.lays155.f240.trans (congrArg some kR)
 f276:=Tryz.lays155.f276.trans (congrArg some kR) }
theorem g0h:Lays.n167 Tryz.prog a18:={ Tryz.lays155 with
 f167:=Tryz.func136.trans (congrArg some kR)
 f240:=Tryz.lays155.f240.trans (congrArg some kR)
 f276:=Tryz.lays155.f276.trans (congrArg some kR) }
theorem g0i:Lays.n169 Tryz.prog a18:={ Tryz.lays155 with
 f169:=Tryz.lays155.f169.trans (congrArg some kR) }
theorem BX:Builder.Extra Tryz.prog a18 where
 sizeBuilder:=kR
 liesBuilder:=kR
 t5:=Tryz.lays155.t5
 a5:=Tryz.lays155.a5
 z5:=Tryz.lays155.z5
 v5:=Tryz.lays155.v5
 infoByte:=kR
 cellsByte:=kR
 sizeByte:=kR
 neB5:=dE
abbrev IsB (b:Nat) (bs:List UInt8) (w:World):Prop:=Lib.IsBuilderF 94 5 b b (Lib.byteCells bs) w
theorem c4y (b:Nat) (bs:List UInt8) (c:UInt8) (w:World) (h:IsB b bs w) (hlen:bs.length < 1000000) (hBw:b≤w.heap.size) :
  Calls Tryz.prog 136 #[.pointer (some ⟨b,0,none⟩),.int .u8 c.toNat] w fun e w'=>e=.returned .nilIface∧IsB b (bs ++ [c]) w'∧Below b w w' :=
 (Any.Builder_WriteByte_k g0h BX b b (Lib.byteCells bs) c.toNat w h (by rw [Lib.byteCells_length];omega) hBw).mono fun e w' ⟨h1,h2,h3,_⟩=>⟨h1,by rw [IsB,Lib.byteCells_append];exact .inr h2,h3⟩
theorem T8 (b:Nat) (bs:List UInt8) (s:ByteArray) (w:World) (h:IsB b bs w) (hlen:bs.length+s.size < 1000000) (hBw:b≤w.heap.size) :
  Calls Tryz.prog 55 #[.pointer (some ⟨b,0,none⟩),.string s] w fun e w'=>(∃ v,e=.returned v)∧IsB b (bs ++ s.data.toList) w'∧Below b w w' :=
 (Any.Builder_WriteString_k g0g BX b b (Lib.byteCells bs) s w h (by rw [Lib.byteCells_length];omega) hBw).mono fun e w' ⟨h1,h2,h3,_⟩=>⟨⟨_,h1⟩,by rw [IsB,Lib.byteCells_append,← Lib.strCells_eq];exact .inr h2,h3⟩
theorem a9n (b:Nat) (bs:List UInt8) (w:World) (h:IsB b bs w) (hBw:b≤w.heap.size) :
  Calls Tryz.prog 57 #[.pointer (some ⟨b,0,none⟩)] w fun e w'=>e=.returned (.string ⟨bs.toArray⟩)∧Below b w w' :=
 (Any.Builder_String_any_k g0i BX b b bs w h hBw).mono fun e w' ⟨h1,_,h3,_⟩=>⟨h1,h3⟩
theorem d9o (w:World):IsB w.heap.size [] (w.alloc (.cells #[.pointer none,.slice none 0 0] 94)):=Lib.IsBuilderF.of (Lib.fresh_isBuilder _ _ w)
theorem b7z {b:Nat} {bs:List UInt8} {w w':World} (h:IsB b bs w) (k:∀ j,b≤j→j < w.heap.size→w'.heap[j]?=w.heap[j]?):IsB b bs w':=by
 have one:∀ p,Lib.BuilderAtF 94 5 b b p (Lib.byteCells bs) w→Lib.BuilderAtF 94 5 b b p (Lib.byteCells bs) w':=by
  intro p h
  have hlt:=h.lt
  obtain ⟨hB,v,hb,hown,hne⟩:=h
  refine ⟨hB,v,(k b (Nat.le_refl _) hlt).trans hb,⟨hown.1,?_⟩,hne⟩
  rcases hown.2 with hn | ⟨g,cap,cur,fz,rfl,hb',hgg,rest⟩
  ·exact .inl hn
  ·exact .inr ⟨g,cap,cur,fz,rfl,hb',(k g hb' (Array.getElem?_eq_some_iff.1 hgg).1).trans hgg,rest⟩
 exact h.imp (one _) (one _)
theorem c2g {b:Nat} {bs:List UInt8} {w w':World} (h:IsB b bs w) (k:Below w.heap.size w w'):IsB b bs w':=b7z h fun j _ hj=>k.block j hj
theorem d6t {b:Nat} {bs:List UInt8} {w:World} (h:IsB b bs w):b < w.heap.size:=h.elim (·.lt) (·.lt)
end Go.Proofs.YtdldcfllnohkeaaGreatDoor
namespace Go.Proofs.YtdldcfllnohkeaaGreatDoor
open Go.Abs
set_option maxRecDepth 100000
set_option maxHeartbeats 1000000
theorem CM.at0 {P:Program} {G:b1z} {f:FuncId} {ds:List D} {r:W0} (h:CM P G f ds [] r []) {w:World} {S:l9} {vs:List Value} (hg:G.pred w) (hwi:S.within w) (hvs:u3 S o8 w vs ds) :
  Calls P f vs.toArray w fun e w'=>a0m w o8 w'∧∃ S',S.grown S' w∧S'.within w'∧Abs.Ends S' o8 w w' [] e r :=
 h.2 w S o8 vs hg (fun _ _ _ h=>by cases h) hwi ⟨fun id b h=>by simp at h,fun _ _=>rfl,fun _ _ _ _ _ _ _ h=>by simp at h⟩ hvs
section
variable {P:Program} {md:Region.Mode} {ops:Array Oper} {Q:Exit→Act→World→Prop} {fuel:Nat} {listed:Array Bool} {a:Act} {w:World}
theorem c46 (hr:Region.ready md ops listed=[]) (h:Q .normal a w):wpAny P md ops Q fuel listed a w:=by
 cases fuel with
 | zero=>exact ⟨hr,h⟩
 | succ n=>exact ⟨fun _=>h,fun i hi=>by rw [hr] at hi;cases hi⟩
theorem a0n {i:Nat} (hr:Region.ready md ops listed=[i]) (h:wpOp P ops Q i (wpAny P md ops Q fuel (listed.setIfInBounds i true)) a w):wpAny P md ops Q (fuel+1) listed a w :=
 ⟨fun h=>(by rw [hr] at h;cases h),fun j hj=>(by rw [hr] at hj;cases List.mem_singleton.1 hj;exact h)⟩
theorem b5u {i j:Nat} (hr:Region.ready md ops listed=[i,j]) (h:wpOp P ops Q i (wpAny P md ops Q fuel (listed.setIfInBounds i true)) a w) (k:wpOp P ops Q j (wpAny P md ops Q fuel (listed.setIfInBounds j true)) a w):wpAny P md ops Q (fuel+1) listed a w :=
 ⟨fun h=>(by rw [hr] at h;cases h),fun x hj=>by
  rw [hr] at hj
  rcases List.mem_cons.1 hj with rfl | hj
  ·exact h
  ·cases List.mem_singleton.1 hj;exact k⟩
theorem d4j {i:Nat} {o:Oper} {K:Act→World→Prop} (ho:ops[i]?=some o) (hg:o.guard=none) (h:o.wp P a w K Q):wpOp P ops Q i K a w:=by
 unfold wpOp
 rw [ho]
 simp only []
 rw [if_pos (by simp [Region.wanted,hg])]
 exact .inl h
theorem a7i {i:Nat} {o:Oper} {K:Act→World→Prop} {v:Value} {w':World} (ho:ops[i]?=some o) (hg:o.guard=none) (hr:(execOp a.eval o).run P w=.ok (.value v) w') (h:K (a.put o.dst v) w'):wpOp P ops Q i K a w:=d4j ho hg (by unfold Oper.wp;rw [hr];exact h)
theorem e7h {i:Nat} {o:Oper} {K:Act→World→Prop} {f:FuncId} {args:Array Value} (ho:ops[i]?=some o) (hg:o.guard=none) (hr:(execOp a.eval o).run P w=.ok (.enter f args) w) {R:Ending→World→Prop} (h:Calls P f args w R)
 (hv:∀ v w',R (.returned v) w'→K (a.put o.dst v) w') (hp:∀ c w',R (.panicked c) w'→Q (.panic c) a w') (ho2:∀ w',R .outgrown w'→LetsOut Q):wpOp P ops Q i K a w:=d4j ho hg (by
  unfold Oper.wp;rw [hr]
  refine Calls.mono h fun e w' he=>?_
  cases e with
  | returned v=>exact hv v w' he
  | panicked c=>exact hp c w' he
  | outgrown=>exact ho2 w' he)
end
theorem b9d (w:World) (b:Nat) (x y:Value) (t:TypeId) (hb:w.heap[b]?=some (.cells #[x,y] t (0,0))):(w.setCell ⟨b,0,none⟩ x).setCell ⟨b,1,none⟩ y=w:=by
 unfold World.setCell
 congr 1
 apply Array.ext_getElem?
 intro k
 simp only [Array.getElem?_modify]
 by_cases hkb:b=k
 ·subst hkb
  simp [hb]
 ·simp [hkb]
abbrev J6:Obj:=.cells #[.int .i64 0,.int .i64 0] 45
def c4z (b:Nat) (ok:Value→Prop) (val:Value→Value→Value) (nil:Value) (R:Ending→World→Prop) (e:Ending) (w2:World):Prop :=
 w2.heap[b]?=some J6∧((∃ v,e=.returned v∧ok v∧∀ w3,w3=w2∨w3=w2.drew→R (.returned (val v (.agg #[.int .i64 0,.int .i64 0]))) w3) ∨
  ∃ er p,e=.panicked [{ v:=.iface 107 (.agg #[.int .i64 er,.int .i64 p]),recovered:=false }]∧R (.returned (val nil (.agg #[.int .i64 er,.int .i64 p]))) ((w2.alloc (.cells #[.int .i64 er,.int .i64 p] 107)).setRow b #[.int .i64 er,.int .i64 p]))
theorem c6u {a:Act} {w:World} {b:Nat} {x y:Value} {d:Option Tmp} {t:Tmp} {ty:TypeId} {pos:String} {af:Array Edge} (hp:a.tmps.getD t undef=.pointer (some ⟨b,0,none⟩)) (hb:w.heap[b]?=some (.cells #[x,y] 45 (0,0))) :
  (execOp a.eval { dst:=d,op:=.load 45 (.tmp t),type:=ty,pos:=pos,after:=af,guard:=none }).run Tryz.prog w=.ok (.value (.agg #[x,y])) w:=by
 have h0:w.cell? ⟨b,0,none⟩=some x:=by simp [World.cell?,hb]
 have h1:w.cell? ⟨b,1,none⟩=some y:=by simp [World.cell?,hb]
 simp [execOp,go_sem,Act.eval,hp,h0,h1]
theorem c3f {a:Act} {w:World} {b:Nat} {x y:Int} {x' y':Value} {d:Option Tmp} {t u:Tmp} {ty:TypeId} {pos:String} {af:Array Edge} (hp:a.tmps.getD t undef=.pointer (some ⟨b,0,none⟩)) (hv:a.tmps.getD u undef=.agg #[.int .i64 x,.int .i64 y]) (hb:w.heap[b]?=some (.cells #[x',y'] 45 (0,0))) :
  (execOp a.eval { dst:=d,op:=.store 45 (.tmp t) (.tmp u),type:=ty,pos:=pos,after:=af,guard:=none }).run Tryz.prog w=.ok .skip ((w.setCell ⟨b,0,none⟩ (.int .i64 x)).setCell ⟨b,1,none⟩ (.int .i64 y)):=by
 have h0:w.cell? ⟨b,0,none⟩=some x':=by simp [World.cell?,hb]
 have h1:w.cell? ⟨b,1,none⟩=some y':=by simp [World.cell?,hb]
 have f0:w.frozen? ⟨b,0,none⟩=false:=by simp [World.frozen?,hb]
 have f1:w.frozen? ⟨b,1,none⟩=false:=by simp [World.frozen?,hb]
 simp [execOp,go_sem,Act.eval,hp,h0,h1,hv,f0,f1]
theorem c0z {P:Program} {ops:Array Oper} {Q:Exit→Act→World→Prop} {a:Act} {w w':World} {i:Nat} {o:Oper} {K:Act→World→Prop} (ho:ops[i]?=some o) (hg:o.guard=none) (hr:(execOp a.eval o).run P w=.ok .skip w') (h:K (a.put o.dst undef) w'):wpOp P ops Q i K a w:=d4j ho hg (by unfold Oper.wp;rw [hr];exact h)
theorem b90 {a:Act} {w:World} {d:Option Tmp} {t:Tmp} {ty:TypeId} {pos:String} {af:Array Edge} :
  (execOp a.eval { dst:=d,op:=.call { callee:=.value (.func 46),args:=#[.tmp t],argTypes:=#[9] },type:=ty,pos:=pos,after:=af,guard:=none }).run Tryz.prog w=.ok (.enter 46 #[a.tmps.getD t undef]) w:=by
 simp [execOp,go_sem,Act.eval]
theorem b4t (b:Nat) (w:World):(invoke (.fn (.func 43) #[]) #[.pointer (some ⟨b,0,none⟩)]).run Tryz.prog w=.ok (.enter 43 #[.pointer (some ⟨b,0,none⟩)]) w:=by
 simp [invoke,go_sem]
abbrev a4t (b:Nat):Deferred:={ target:=.fn (.func 43) #[],args:=#[.pointer (some ⟨b,0,none⟩)] }
theorem c2j {fn:Func} {tmps:Array Value} {R:Ending→World→Prop} {b:Nat} {w:World} {v:Value} (hr:(results fn tmps).run Tryz.prog w=.ok v w) (h:R (.returned v) w):Leaves Tryz.prog fn tmps R [a4t b] .returning w:=by
 refine leaves_cons (f:=43) (args:=#[.pointer (some ⟨b,0,none⟩)]) (by simp) (b4t b w) ?_
 refine (d3a (.pointer (some ⟨b,0,none⟩)) w ⟨_,rfl⟩).mono ?_
 rintro e u' w'' ⟨⟨x,rfl⟩,rfl,rfl⟩
 exact ⟨v,hr,h⟩
theorem a8c {fn:Func} {tmps:Array Value} {R:Ending→World→Prop} {b:Nat} {w:World} {er p:Int} {v:Value} (hb:w.heap[b]?=some J6)
  (hr:∀ w',w'=(w.alloc (.cells #[.int .i64 er,.int .i64 p] 107)).setRow b #[.int .i64 er,.int .i64 p]→(results fn tmps).run Tryz.prog w'=.ok v w'∧R (.returned v) w') :
  Leaves Tryz.prog fn tmps R [a4t b] (.panicking [{ v:=.iface 107 (.agg #[.int .i64 er,.int .i64 p]),recovered:=false }]) w:=by
 refine leaves_cons (f:=43) (args:=#[.pointer (some ⟨b,0,none⟩)]) (by simp) (b4t b w) ?_
 refine (c86 b w er p [] _ _ _ hb).mono ?_
 rintro e u' w'' ⟨rfl,rfl,rfl⟩
 obtain ⟨h1,h2⟩:=hr _ rfl
 exact ⟨v,h1,h2⟩
theorem a54 {w:World} {b:Nat} {x y:Value} (hb:w.heap[b]?=some J6) {o:Obj}:((w.alloc o).setRow b #[x,y]).heap[b]?=some (.cells #[x,y] 45 (0,0)):=by
 have hlt:b < w.heap.size:=(Array.getElem?_eq_some_iff.1 hb).1
 unfold World.setRow World.alloc
 simp only [Array.getElem?_modify,Array.getElem?_push]
 simp [Nat.ne_of_lt hlt,hb]
theorem a94 {w:World} {b:Nat} {v x y:Value} {tmps:Array Value} (h2:tmps.getD 2 undef=v) (h3:tmps.getD 3 undef=.pointer (some ⟨b,0,none⟩)) (hb:w.heap[b]?=some (.cells #[x,y] 45 (0,0))) :
  (results Tryz.f17 tmps).run Tryz.prog w=.ok (.tuple #[v,.agg #[x,y]]) w:=by
 have h0:w.cell? ⟨b,0,none⟩=some x:=by simp [World.cell?,hb]
 have h1:w.cell? ⟨b,1,none⟩=some y:=by simp [World.cell?,hb]
 rw [Array.getD_eq_getD_getElem?] at h2 h3
 simp [results,Tryz.results17,go_sem,h2,h3,h0,h1]
theorem d0b {v0:Value} {w:World} {R:Ending→World→Prop}
  (hcall:∀ w1,w1=w.alloc J6∨w1=(w.alloc J6).drew→Calls Tryz.prog 46 #[v0] w1 (c4z w.heap.size (fun _=>True) (fun v e=>.tuple #[v,e]) (.slice none 0 0) R)) :
  Calls Tryz.prog 17 #[v0] w R:=by
 refine calls_of_wp_defers Tryz.func17 rfl ?_
 go_wp2
 rename_i K hK
 refine wp_region_any rfl ?_
 change wpAny Tryz.prog .any _ _ 5 #[false,false,false,false,false] ⟨#[v0,undef,.slice none 0 0,.pointer (some ⟨w.heap.size,0,none⟩),undef,undef,undef],[a4t w.heap.size]⟩ (w.alloc J6).drew
 have hb1:(w.alloc J6).drew.heap[w.heap.size]?=some J6:=by show (w.heap.push J6)[w.heap.size]?=some J6;simp
 have hcall:=hcall _ (.inr rfl)
 generalize (w.alloc J6).drew=w1 at *
 generalize w.heap.size=b at *
 generalize hops:(#[_,_,_,_,_]:Array Oper)=ops
 generalize hQ:Exit.then K (bodyPostD Tryz.prog Tryz.f17 R)=Q
 have hr0:Region.ready .any ops #[false,false,false,false,false]=[0,2]:=by subst hops;kernel_rfl
 have hr1:Region.ready .any ops #[true,false,false,false,false]=[1,2]:=by subst hops;kernel_rfl
 have hr2:Region.ready .any ops #[false,false,true,false,false]=[0]:=by subst hops;kernel_rfl
 have hr3:Region.ready .any ops #[true,false,true,false,false]=[1]:=by subst hops;kernel_rfl
 have hr4:Region.ready .any ops #[true,true,false,false,false]=[2,3]:=by subst hops;kernel_rfl
 have hr5:Region.ready .any ops #[true,true,true,false,false]=[3]:=by subst hops;kernel_rfl
 have hr6:Region.ready .any ops #[true,true,false,true,false]=[2]:=by subst hops;kernel_rfl
 have hr7:Region.ready .any ops #[true,true,true,true,false]=[4]:=by subst hops;kernel_rfl
 have hr8:Region.ready .any ops #[true,true,true,true,true]=[]:=by subst hops;kernel_rfl
 have e0:∃ o,ops[0]?=some o∧o.guard=none∧o.dst=some 4∧∀ (a:Act) w',(execOp a.eval o).run Tryz.prog w'=.ok (.value (a.tmps.getD 0 undef)) w':=by subst hops;exact ⟨_,rfl,rfl,rfl,fun a w'=>rfl⟩
 have e1:∃ o,ops[1]?=some o∧o.guard=none∧o.dst=some 5∧∀ (a:Act) w',(execOp a.eval o).run Tryz.prog w'=.ok (.enter 46 #[a.tmps.getD 4 undef]) w':=by subst hops;exact ⟨_,rfl,rfl,rfl,fun a w'=>b90⟩
 have e2:∃ o,ops[2]?=some o∧o.guard=none∧o.dst=some 6∧∀ (a:Act) w',a.tmps.getD 3 undef=.pointer (some ⟨b,0,none⟩)→w'.heap[b]?=some J6→(execOp a.eval o).run Tryz.prog w'=.ok (.value (.agg #[.int .i64 0,.int .i64 0])) w':=by subst hops;exact ⟨_,rfl,rfl,rfl,fun a w' h1 h2=>c6u h1 h2⟩
 have e3:∃ o,ops[3]?=some o∧o.guard=none∧o.dst=some 2∧∀ (a:Act) w',(execOp a.eval o).run Tryz.prog w'=.ok (.value (a.tmps.getD 5 undef)) w':=by subst hops;exact ⟨_,rfl,rfl,rfl,fun a w'=>rfl⟩
 have e4:∃ o,ops[4]?=some o∧o.guard=none∧o.dst=none∧∀ (a:Act) w',a.tmps.getD 3 undef=.pointer (some ⟨b,0,none⟩)→a.tmps.getD 6 undef=.agg #[.int .i64 0,.int .i64 0]→w'.heap[b]?=some J6→(execOp a.eval o).run Tryz.prog w'=.ok .skip w':=by
  subst hops
  refine ⟨_,rfl,rfl,rfl,fun a w' h1 h2 h3=>?_⟩
  exact (c3f h1 h2 h3).trans (by rw [b9d _ _ _ _ _ h3])
 have hend:∀ (tmps:Array Value) w2 v,w2.heap[b]?=some J6→tmps.getD 2 undef=v→tmps.getD 3 undef=.pointer (some ⟨b,0,none⟩)→R (.returned (.tuple #[v,.agg #[.int .i64 0,.int .i64 0]])) w2→Q .normal ⟨tmps,[a4t b]⟩ w2:=by
  intro tmps w2 v h1 h2 h3 h4
  subst hQ
  refine hK _ _ (wp_ret ?_)
  exact c2j (a94 h2 h3 h1) h4
 have hpan:∀ (tmps:Array Value) w2 er p,w2.heap[b]?=some J6→tmps.getD 2 undef=.slice none 0 0→tmps.getD 3 undef=.pointer (some ⟨b,0,none⟩)→R (.returned (.tuple #[.slice none 0 0,.agg #[.int .i64 er,.int .i64 p]])) ((w2.alloc (.cells #[.int .i64 er,.int .i64 p] 107)).setRow b #[.int .i64 er,.int .i64 p])→Q (.panic [{ v:=.iface 107 (.agg #[.int .i64 er,.int .i64 p]),recovered:=false }]) ⟨tmps,[a4t b]⟩ w2:=by
  intro tmps w2 er p h1 h2 h3 h4
  subst hQ
  exact a8c h1 fun w' e=>by subst e;exact ⟨a94 h2 h3 (a54 h1),h4⟩
 clear hQ hops hK
 obtain ⟨o0,a0,b0,c0,d0⟩:=e0
 obtain ⟨o1,a1,b1,c1,d1⟩:=e1
 obtain ⟨o2,a2,b2,c2,d2⟩:=e2
 obtain ⟨o3,a3,b3,c3,d3⟩:=e3
 obtain ⟨o4,a4,b4,c4,d4⟩:=e4
 have m0:∀ {K:Act→World→Prop} {a:Act} {w':World},K (a.put (some 4) (a.tmps.getD 0 undef)) w'→wpOp Tryz.prog ops Q 0 K a w':=fun h=>a7i a0 b0 (d0 _ _) (c0 ▸ h)
 have m1:∀ {K:Act→World→Prop} {a:Act},a.defers=[a4t b]→a.tmps.getD 2 undef=.slice none 0 0→a.tmps.getD 3 undef=.pointer (some ⟨b,0,none⟩)→a.tmps.getD 4 undef=v0→(∀ v w2,w2.heap[b]?=some J6→R (.returned (.tuple #[v,.agg #[.int .i64 0,.int .i64 0]])) w2→K (a.put (some 5) v) w2)→wpOp Tryz.prog ops Q 1 K a w1:=fun {K a} hd h2 h3 h4 h=>e7h a1 b1 (d1 _ _) (by rw [h4];exact hcall)
  (fun v w' hc=>by
   obtain ⟨q1,⟨v',e,_,q2⟩ | ⟨_,_,e,_⟩⟩:=hc
   ·injection e with e;subst e;rw [c1];exact h v w' q1 (q2 _ (.inl rfl))
   ·cases e)
  (fun c w' hc=>by
   obtain ⟨q1,⟨v',e,_,q2⟩ | ⟨er,p,e,q2⟩⟩:=hc
   ·cases e
   ·injection e with e;subst e;have:=hpan a.tmps w' er p q1 h2 h3 q2;rw [← hd] at this;exact this)
  (fun w' hc=>by
   obtain ⟨q1,⟨v',e,_,q2⟩ | ⟨er,p,e,q2⟩⟩:=hc <;> cases e)
 have m2:∀ {K:Act→World→Prop} {a:Act} {w':World},a.tmps.getD 3 undef=.pointer (some ⟨b,0,none⟩)→w'.heap[b]?=some J6→K (a.put (some 6) (.agg #[.int .i64 0,.int .i64 0])) w'→wpOp Tryz.prog ops Q 2 K a w':=fun h1 h2 h=>a7i a2 b2 (d2 _ _ h1 h2) (c2 ▸ h)
 have m3:∀ {K:Act→World→Prop} {a:Act} {w':World},K (a.put (some 2) (a.tmps.getD 5 undef)) w'→wpOp Tryz.prog ops Q 3 K a w':=fun h=>a7i a3 b3 (d3 _ _) (c3 ▸ h)
 have m4:∀ {K:Act→World→Prop} {a:Act} {w':World},a.tmps.getD 3 undef=.pointer (some ⟨b,0,none⟩)→a.tmps.getD 6 undef=.agg #[.int .i64 0,.int .i64 0]→w'.heap[b]?=some J6→K a w'→wpOp Tryz.prog ops Q 4 K a w':=fun h1 h2 h3 h=>c0z a4 b4 (d4 _ _ h1 h2 h3) (c4 ▸ h)
 refine b5u hr0 (m0 ?_) (m2 rfl hb1 ?_)
 ·refine b5u hr1 (m1 rfl rfl rfl rfl fun v w2 k1 k2=>?_) (m2 rfl hb1 ?_)
  ·refine b5u hr4 (m2 rfl k1 ?_) (m3 ?_)
   ·exact a0n hr5 (m3 (a0n hr7 (m4 rfl rfl k1 (c46 hr8 (hend _ _ v k1 rfl rfl k2)))))
   ·exact a0n hr6 (m2 rfl k1 (a0n hr7 (m4 rfl rfl k1 (c46 hr8 (hend _ _ v k1 rfl rfl k2)))))
  ·exact a0n hr3 (m1 rfl rfl rfl rfl fun v w2 k1 k2=>a0n hr5 (m3 (a0n hr7 (m4 rfl rfl k1 (c46 hr8 (hend _ _ v k1 rfl rfl k2))))))
 ·refine a0n hr2 (m0 ?_)
  exact a0n hr3 (m1 rfl rfl rfl rfl fun v w2 k1 k2=>a0n hr5 (m3 (a0n hr7 (m4 rfl rfl k1 (c46 hr8 (hend _ _ v k1 rfl rfl k2))))))
abbrev a5f (e p:Int):D:=.agg [.int .i64 e,.int .i64 p]
theorem c7v {S:l9} {M:Mp} {w:World} (e p:Int):Rd S M w (.agg #[.int .i64 e,.int .i64 p]) (a5f e p):=.agg _ _ (.k (.int _ _) (.k (.int _ _) .nil))
def a6k (dval:D→D→D) (nild:D):W0→Option W0
 | .ret d=>some (.ret (dval d (a5f 0 0)))
 | .pan (.iface t (.agg [.int .i64 e,.int .i64 p]))=>if t=107 then some (.ret (dval nild (a5f e p))) else none
 | .pan _=>none
theorem c7r {w:World} {o:Obj} {k:Nat} (h:k < w.heap.size):(w.alloc o).drew.heap[k]?=w.heap[k]?∧(w.alloc o).heap[k]?=w.heap[k]?:=by
 refine (fun h=>⟨h,h⟩) ?_
 show (w.heap.push o)[k]?=_
 rw [Array.getElem?_push]
 simp [Nat.ne_of_lt h]
theorem d5y {f g:FuncId} {ds:List D} {r r':W0} {ok:Value→Prop} {val:Value→Value→Value} {dval:D→D→D} {nilv:Value} {nild:D} (hc:∀ args w,(callFunc f args).run Tryz.prog w=.ok (.enter f args) w)
  (hwalk:∀ (vs:List Value) (w:World) (R:Ending→World→Prop),vs.length=ds.length→(∀ w1,w1=w.alloc J6∨w1=(w.alloc J6).drew→Calls Tryz.prog g vs.toArray w1 (c4z w.heap.size ok val nilv R))→Calls Tryz.prog f vs.toArray w R)
  (hval:∀ (S:l9) (w:World) (v:Value) (d:D) (e p:Int),(d=nild∨r=.ret d)→Rd S o8 w v d→Rd S o8 w (val v (.agg #[.int .i64 e,.int .i64 p])) (dval d (a5f e p)))
  (hok:∀ (S:l9) (w:World) (v:Value) (d:D),r=.ret d→Rd S o8 w v d→ok v)
  (hnil:∀ (S:l9) (w:World),Rd S o8 w nilv nild)
  (hfr:∀ (S:l9) (w0 w:World) (v:Value) (d:D) (e p:Int),d=nild∨r=.ret d→a5d S w0 w v (dval d (a5f e p)))
  (hg:CM Tryz.prog GG g ds [] r []) (hr:a6k dval nild r=some r'):CM Tryz.prog GG f ds [] r' []:=by
 refine ⟨hc,fun w S M vs hgl hM hwi hh hvs=>?_⟩
 have hMn:M=o8:=funext fun id=>hh.out id (by simp)
 subst hMn
 refine hwalk vs w _ hvs.length fun w1 e1=>?_
 have hsz:w1.heap.size=w.heap.size+1:=by rcases e1 with rfl | rfl <;> (show (w.heap.push _).size=_;simp)
 have hold:∀ k,k < w.heap.size→w1.heap[k]?=w.heap[k]?:=fun k hk=>e1.elim (fun e=>by subst e;exact (c7r hk).2) (fun e=>by subst e;exact (c7r hk).1)
 have hnew:w1.heap[w.heap.size]?=some J6:=by rcases e1 with rfl | rfl <;> (show (w.heap.push _)[w.heap.size]?=_;simp)
 have hg1:GG.pred w1:=GG.stable w w1 hgl fun b hb=>hold b (Nat.lt_of_lt_of_le hb (GG.size w hgl))
 have hw1:S.within w1:=fun b o h=>by have:=hwi b o h;omega
 have hv1:u3 S o8 w1 vs ds:=hvs.ext ⟨fun _ _ h=>h,fun b o h=>by unfold World.cell?;rw [hold b (hwi b o h)],fun _ _ h=>h⟩
 refine (CM.at0 hg hg1 hw1 hv1).mono ?_
 rintro e w2 ⟨hk,S',hgr,hwt,he⟩
 have hos:w1.os=w.os∧w1.tape=w.tape∧w1.output=w.output:=by rcases e1 with rfl | rfl <;> exact ⟨rfl,rfl,rfl⟩
 have hk2:a0m w o8 w2:=⟨hk.os.trans hos.1,hk.tape.trans hos.2.1,hk.output.trans hos.2.2,by have:=hk.size;omega,fun k hlt _=>(hk.block k oM (fun _ _ h=>by cases h)).trans (hold k hlt)⟩
 have hgr2:S.grown S' w:=⟨hgr.1,fun b o h=>(hgr.2 b o h).imp_right fun h=>by omega⟩
 have hb2:w2.heap[w.heap.size]?=some J6:=(hk.block _ oM (fun _ _ h=>by cases h)).trans hnew
 refine ⟨hb2,?_⟩
 cases r with
 | ret d =>
  obtain ⟨_,v,rfl,hv,_⟩:=he
  simp only [a6k,Option.some.injEq] at hr
  subst hr
  refine .inl ⟨v,rfl,hok _ _ _ _ rfl hv,fun w3 e3=>?_⟩
  have hh3:w3.heap=w2.heap:=by rcases e3 with rfl | rfl <;> rfl
  have ho3:w3.os=w2.os∧w3.tape=w2.tape∧w3.output=w2.output:=by rcases e3 with rfl | rfl <;> exact ⟨rfl,rfl,rfl⟩
  have hv3:Rd S' o8 w3 v d:=hv.ext ⟨fun _ _ h=>h,fun b o h=>by unfold World.cell?;rw [hh3],fun _ _ h=>h⟩
  exact ⟨⟨ho3.1.trans hk2.os,ho3.2.1.trans hk2.tape,ho3.2.2.trans hk2.output,by rw [hh3];exact hk2.size,fun k hlt hm=>by rw [hh3];exact hk2.block k hlt hm⟩,S',hgr2,fun b o h=>by rw [hh3];exact hwt b o h,⟨fun id b h=>by simp at h,fun _ _=>rfl,fun _ _ _ _ _ _ _ h=>by simp at h⟩,_,rfl,hval S' w3 v d 0 0 (.inr rfl) hv3,hfr _ _ _ _ d 0 0 (.inr rfl)⟩
 | pan d =>
  obtain ⟨v,rfl,hv⟩:=he
  unfold a6k at hr
  split at hr
  ·rename_i hh;cases hh
  ·rename_i t er p hd
   split at hr
   ·rename_i ht
    injection hd with hd
    subst hd ht
    injection hr with hr
    subst hr
    cases hv with
    | iface _ v' _ hv =>
     cases hv with
     | agg us _ hv =>
      obtain ⟨us⟩:=us
      cases hv with
      | cons _ _ _ _ h1 hv =>
       cases hv with
       | cons _ _ _ _ h2 hv =>
        cases hv
        cases h1
        cases h2
        refine .inr ⟨er,p,rfl,?_⟩
        have hsz2:=hk.size
        have hold2:∀ k,k < w2.heap.size→k ≠ w.heap.size→∀ o x,((w2.alloc o).setRow w.heap.size x).heap[k]?=w2.heap[k]?:=fun k hk hne o x=>by
         unfold World.setRow World.alloc
         simp only [Array.getElem?_modify,Array.getElem?_push]
         simp [Nat.ne_of_lt hk,Ne.symm hne]
        have hszr:∀ o x,((w2.alloc o).setRow w.heap.size x).heap.size=w2.heap.size+1:=fun o x=>by unfold World.setRow World.alloc;simp
        refine ⟨⟨hk2.os,hk2.tape,hk2.output,by rw [hszr];omega,fun k hlt hm=>(hold2 k oM oM _ _).trans (hk2.block k hlt hm)⟩,S',hgr2,fun b o h=>by rw [hszr];have:=hwt b o h;omega,⟨fun id b h=>by simp at h,fun _ _=>rfl,fun _ _ _ _ _ _ _ h=>by simp at h⟩,_,rfl,hval S' _ nilv nild er p (.inl rfl) (hnil _ _),hfr _ _ _ _ nild er p (.inl rfl)⟩
   ·cases hr
  ·cases hr
end Go.Proofs.YtdldcfllnohkeaaGreatDoor
namespace Go.Abs
noncomputable section
mutual
def dG:G→D
 | .b x=>.bool x
 | .i k n=>.int k n
 | .s x=>.str x
 | .l xs=>.slice xs.length (V3 xs) .no
def V3:List (List G)→List D
 | []=>[]
 | r :: rs=>dGs r ++ V3 rs
def dGs:List G→List D
 | []=>[]
 | g :: gs=>dG g :: dGs gs
end
theorem c5c:∀ gs:List G,dGs gs=gs.map dG
 | []=>by simp [dGs]
 | g :: gs=>by rw [dGs,c5c gs];rfl
theorem a3v (r:List G) (rs:List (List G)):V3 (r :: rs)=r.map dG ++ V3 rs:=by rw [V3,c5c]
theorem f0h (t:j8 Q) (i:Nat):K5 (y8 t) i=den (tQ t i):=by
 rw [Y9];unfold tQ;cases t.get i <;> rfl
mutual
theorem RG.den:∀ {g:G} {x:Q},RG g x→Abs.den x 0=dG g
 | _,_,.b x=>by simp only [Abs.den,dG];rfl
 | _,_,.i k n=>by simp only [Abs.den,dG];rfl
 | _,_,.s x l c h1 h2=>by subst h1 h2;simp only [Abs.den,dG,C2];rfl
 | _,_,.l xs t n off len h1 h2=>by subst h1;simp only [Abs.den,dG];rw [← p9.den h2];rfl
theorem p9.den:∀ {n:Nat} {xs:List (List G)} {t:j8 Q} {off:Nat},p9 n xs t off→rows (y8 t) n off xs.length=V3 xs
 | _,_,_,_,.nil n t off=>by simp only [List.length_nil,rows,V3]
 | _,_,_,_,.cons n r rs t off h1 h2 _ h3=>by
  rw [List.length_cons,rows,V3,p9.den h3,f0h,← h1,A6.den h2,c5c]
theorem A6.den:∀ {gs:List G} {q:Q} {i:Nat},A6 gs q i→t8 (Abs.den q) i gs.length=gs.map dG
 | _,_,_,.nil q i=>by simp only [List.length_nil,t8,List.map_nil]
 | _,_,_,.cons g gs q i h1 h2=>by
  rw [List.length_cons,t8,A6.den h2,List.map_cons,← a3t,RG.den h1]
end
mutual
def dV:GV→D
 | .c g=>dG g
 | .a gs=>.agg (gs.map dG)
 | .t vs=>.tuple (dVs vs)
 | .p id off=>.ptr id off
 | .sl _ xs=>.slice xs.length (V3 xs) .no
 | .fr z xs=>.slice xs.length (V3 xs) (.fr z)
 | .nilI=>.nilIface
 | .fl t e p=>.iface t (.agg [.int .i64 e,.int .i64 p])
 | .raw v=>toD v
def dVs:List GV→List D
 | []=>[]
 | v :: vs=>dV v :: dVs vs
end
theorem c5e:∀ vs:List GV,dVs vs=vs.map dV
 | []=>by simp [dVs]
 | g :: gs=>by rw [dVs,c5e gs];rfl
mutual
theorem RV.toD:∀ {g:GV} {v:V},RV g v→Abs.toD v=dV g
 | _,_,.b x=>by simp only [Abs.toD,dV,dG]
 | _,_,.kn x=>by simp only [Abs.toD,dV,dG]
 | _,_,.i k n=>by simp only [Abs.toD,dV,dG]
 | _,_,.s x l c h1 h2=>by subst h1 h2;simp only [Abs.toD,dV,dG,C2]
 | _,_,.cl xs t n off len h1 h2=>by subst h1;simp only [Abs.toD,dV,dG];rw [p9.den h2]
 | _,_,.q g x h=>by simp only [Abs.toD,dV];exact h.den
 | _,_,.a gs q m h1 h2=>by subst h1;simp only [Abs.toD,dV];rw [h2.den]
 | _,_,.ag gs cs h=>by
  simp only [Abs.toD,dV]
  rw [l7.toD h,c5e,List.map_map]
  exact congrArg D.agg (List.map_congr_left fun g _=>by simp only [Function.comp,dV])
 | _,_,.t gs vs h=>by simp only [Abs.toD,dV];rw [l7.toD h]
 | _,_,.p id off=>by simp only [Abs.toD,dV]
 | _,_,.sl n xs t off len h1 h2=>by subst h1;simp only [Abs.toD,dV];rw [p9.den h2]
 | _,_,.sl0 n t off=>by simp only [Abs.toD,dV,rows,List.length_nil,V3]
 | _,_,.slq n xs x h1 _=>by simp only [Abs.toD,dV];rw [h1.den];simp only [dG]
 | _,_,.fr z xs t off len h1 h2=>by subst h1;simp only [Abs.toD,dV];rw [p9.den h2]
 | _,_,.nilI=>by simp only [Abs.toD,dV]
 | _,_,.fl t e p vs h=>by
  simp only [Abs.toD,dV]
  rw [l7.toD h];simp only [dVs,dV,dG]
 | _,_,.flq t e p q h=>by
  simp only [Abs.toD,dV]
  have:=h.den
  simp only [List.length_cons,List.length_nil,List.map_cons,List.map_nil,dG] at this
  rw [← this]
 | _,_,.raw v=>by simp only [dV]
theorem l7.toD:∀ {gs:List GV} {vs:List V},l7 gs vs→V2 vs=dVs gs
 | _,_,.nil=>by simp only [V2,dVs]
 | _,_,.cons g gs v vs h k=>by simp only [V2,dVs];rw [RV.toD h,l7.toD k]
end
theorem l7.map_toD {gs:List GV} {vs:List V} (h:l7 gs vs):vs.map Abs.toD=gs.map dV:=by rw [← D3,h.toD,c5e]
end
end Go.Abs
