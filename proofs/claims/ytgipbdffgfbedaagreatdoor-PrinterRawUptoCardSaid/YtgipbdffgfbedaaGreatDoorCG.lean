/- What is asked of the package-level variables: a table lies as its text lays it. -/
import Derived.Test.YtgipbdffgfbedaaGreatDoorProg
import Derived.Lib.LaidTab
import Derived.Lib.Space
import Derived.Lib.ItoaNum
import Derived.Tactics
import Derived.Tactics2
import Derived.Recover
import Derived.Test.YtgipbdffgfbedaaGreatDoorCR1
set_option linter.all false
namespace Go.Proofs.YtgipbdffgfbedaaGreatDoor
open Go.Abs
theorem d5i : Tryz.prog.globalNamed "internal/strconv.uint64pow10" = some 5 := kR
theorem d58 {s:String} {g:Nat} {k:IntKind} {t:List Int} (e:Tryz.prog.globalNamed s=some g) {w:World} (h:Lib.TabIs Tryz.prog w s k t):g+1≤w.heap.size:=by
 unfold Lib.TabIs World.var? at h
 rw [e] at h
 simp only [Option.bind_some] at h
 split at h
 ·rename_i hc;exact (Array.getElem?_eq_some_iff.1 hc).1
 ·cases h
theorem c9r {s:String} {g:Nat} {k:IntKind} {t:List Int} (e:Tryz.prog.globalNamed s=some g) {N:Nat} (hN:g < N) {w w':World} (h:Lib.TabIs Tryz.prog w s k t) (hb:∀ b,b < N→w'.heap[b]?=w.heap[b]?):Lib.TabIs Tryz.prog w' s k t:=by
 unfold Lib.TabIs World.var? at h ⊢
 rw [e] at h ⊢
 simp only [Option.bind_some] at h ⊢
 rw [hb _ hN]
 exact h
def gN:Nat:=max (5+1) (0+1)
theorem d38 {w:World} {g:Nat} {v:Value} (h:w.cell? ⟨g,0,none⟩=some v):g+1≤w.heap.size:=by
 rcases Nat.lt_or_ge g w.heap.size with h1 | h1
 ·exact h1
 ·simp [World.cell?,Array.getElem?_eq_none h1] at h
theorem c75 {w w':World} {g:Nat} {v:Value} (h:w.cell? ⟨g,0,none⟩=some v) (e:w'.heap[g]?=w.heap[g]?):w'.cell? ⟨g,0,none⟩=some v:=by
 unfold World.cell? at h ⊢
 rw [e];exact h
def GG : a9k := { N := gN, pred := fun w => Lib.TabIs Tryz.prog w "internal/strconv.uint64pow10" .u64 Lib.pow10Tab ∧ ∃ m : Int, w.cell? ⟨0, 0, none⟩ = some (.int .i64 m), stable := fun _ _ h hb => ⟨c9r d5i dE h.1 hb, h.2.elim fun m hm => ⟨m, c75 hm (hb _ dE)⟩⟩, size := fun _ h => Nat.max_le.2 ⟨d58 d5i h.1, h.2.elim fun _ hm => d38 hm⟩ }
theorem e3h {w : World} (h : GG.pred w) : Lib.TabIs Tryz.prog w "internal/strconv.uint64pow10" .u64 Lib.pow10Tab := h.1
theorem e23:Tryz.prog.follows .mixedOrders=true:=kR
theorem d6z {P : Program} {t : TypeId} {f g : Field} {k l : K3} (hu : P.underlying t = some (.struct #[f, g])) (hs : P.stoodInHeld t = false) (hg : P.eqGuardType P.depth t = false) (hf1 : f.name ≠ "_") (hf2 : f.offset = 0) (hf3 : k.is P f.type)
  (hg1 : g.name ≠ "_") (hg2 : g.offset = 1) (hg3 : l.is P g.type) : c0p P t [k, l] := by
 refine ⟨#[f,g],hu,hs,hg,rfl,fun i x y hx hy=>?_⟩
 rcases i with _ | _ | i
 ·injection hx with hx;injection hy with hy;subst hx hy;exact ⟨hf1,hf2,hf3⟩
 ·injection hx with hx;injection hy with hy;subst hx hy;exact ⟨hg1,hg2,hg3⟩
 ·simp at hy
def EQS:List (TypeId × List K3):=[(23,[.str,.str]),(97,[.int,.int])]
theorem e8g:∀ t ks,(t,ks) ∈ EQS→c0p Tryz.prog t ks:=fun t ks h=>by
 simp only [EQS,List.mem_cons,List.mem_nil_iff,or_false,Prod.mk.injEq] at h
 rcases h with ⟨rfl,rfl⟩ | ⟨rfl,rfl⟩
 ·exact d6z Tryz.underlying23 Tryz.stoodInHeld23 Tryz.eqGuardType23 dE rfl Tryz.underlying9 dE rfl Tryz.underlying9
 ·exact d6z Tryz.underlying97 Tryz.stoodInHeld97 Tryz.eqGuardType97 dE rfl ⟨.i64,kR⟩ dE rfl ⟨.i64,kR⟩
theorem e7m:∀ g F,(g,F) ∈ ([]:List (FuncId × (List D→List (List D)→Option (Bool × V2 × List (List D)))))→∀ ds hs r hs',F ds hs=some (true,r,hs')→CM Tryz.prog GG g ds hs r hs':=fun g F h=>by cases h
noncomputable def X0:Pr:={ P:=Tryz.prog,G:=GG,eqs:=EQS,eqOk:=e8g,mixed:=e23,tab:=[],tabOk:=e7m }
/-- The body of a function. -/
def c96 (f:Func):Code:=f.body.getD .skip
/-- What a function needs. -/
def c8n (X:Pr) (L:Nat→(St→(St→Prop)→Prop)→St→Prop) (J:Nat→Option Cut) (fn:Func) (ds:List D) (hs:List (List D)) (r:V2) (hs':List (List D)):Prop :=
 vc X hs.length L J (c96 fn) 0 0 (Abs.start fn.ntmps ds hs) (fin X.P fn.results.toList hs.length [] r hs') (fun _ _=>False) (fin X.P fn.results.toList hs.length [] r hs') (fun d=>r=.pan d)
def need (X:Pr) (L:Nat→(St→(St→Prop)→Prop)→St→Prop):=c8n X L e8x
theorem f41 {X:Pr} {f:FuncId} {fn:Func} (hf:X.P.funcs[f]?=some fn) (hb:fn.body.isSome=true) (hcall:∀ args w,(callFunc f args).run X.P w=.ok (.enter f args) w) {ds:List D} {hs:List (List D)} {r:V2} {hs':List (List D)}
  {L:Nat→(St→(St→Prop)→Prop)→St→Prop} (hL:∀ p body s,L p body s→a0x hs.length body s) {J:Nat→Option Cut} (h:c8n X L J fn ds hs r hs'):CM X.P X.G f ds hs r hs':=by
 obtain ⟨c,hc⟩:=Option.isSome_iff_exists.1 hb
 refine a73 (J:=J) (gv:=[]) hf hc hcall hL ?_
 unfold c8n c96 at h
 rw [hc] at h
 exact h
theorem f4z {n:Nat}:∀ p body s,e24 p body s→a0x n body s:=fun _ _ _ h=>h.elim
theorem via {p q:Prop} (h:p=q) (hq:q):p:=h ▸ hq
abbrev FF:=FuncId→C2
abbrev LV:=List V
abbrev LB:=List Bx
abbrev TQ:=j0 Q
abbrev KJ:=List V→List Bx→Om
noncomputable section
/-- Results by their forms. -/
def c7x (U:q7) (T:FuncId→Option Sh) (ro:FuncId→Bool):Q6:=fun g bs0 v bs K=>match T g with
 | some s=>c7s U s v fun v=>cond (ro g) (U.same bs0 bs (K v none)) (Y4 U (bs0.map c3e) bs fun bs=>K v (some bs))
 | none=>cond (ro g) (U.same bs0 bs (K v none)) (Y4 U (bs0.map c3e) bs fun bs=>K v (some bs))
theorem d0f (T:FuncId→Option Sh) (ro:FuncId→Bool):a2l (c7x CU T ro):=fun g bs0 v bs K r h=>by
 have key:∀ v:V,cond (ro g) (CU.same bs0 bs (K v none)) (Y4 CU (bs0.map c3e) bs fun bs=>K v (some bs))=some r →
   (∃ bs',bs'.map A3=bs.map A3∧K v (some bs')=some r)∨(bs=bs0∧K v none=some r):=by
  intro v h
  cases hr:ro g with
  | true =>
   rw [hr] at h
   have h:cond (b22 bs0 bs) (K v none) none=some r:=h
   cases he:b22 bs0 bs with
   | true=>rw [he] at h;exact .inr ⟨(c5w he).symm,h⟩
   | false=>rw [he] at h;cases h
  | false =>
   rw [hr] at h
   obtain ⟨bs',e2,h⟩:=U1 h
   exact .inl ⟨bs',e2,h⟩
 unfold c7x at h
 split at h
 ·obtain ⟨v',e1,h⟩:=a9p h
  rcases key v' h with ⟨bs',e2,h⟩ | ⟨e2,h⟩
  ·exact .inl ⟨v',bs',e1,e2,h⟩
  ·exact .inr ⟨v',e1,e2,h⟩
 ·rcases key v h with ⟨bs',e2,h⟩ | ⟨e2,h⟩
  ·exact .inl ⟨v,bs',rfl,e2,h⟩
  ·exact .inr ⟨v,rfl,e2,h⟩
/-- A function, its arguments and O6 of these forms. -/
def c85 (U:q7) (X:Pr) (T:FuncId→Option Sh) (ro:FuncId→Bool) (gv:List (Option Nat)) (f:Func) (vs0:List Sh) (bs0:List ShB) (fn:FuncId→C2) (AL AJ:Nat→Option Ann):C2:=fun vs bs =>
 Z6 U vs0 vs fun vs=>Y4 U bs0 bs fun bs=>d31 U X fn (c7x U T ro) AL AJ gv f vs bs
theorem c5j {a b:List Bx} (h:a.map A3=b.map A3) (hb:b.all M7=true):a.all M7=true∧a.map E0=b.map E0:=by
 have ha:=b7s h.symm hb
 refine ⟨ha,?_⟩
 have hl:a.length=b.length:=by have:=congrArg List.length h;simpa using this
 apply List.ext_getElem
 ·simpa using hl
 ·intro i hi1 hi2
  simp only [List.length_map] at hi1 hi2
  simp only [List.getElem_map]
  have q1:=List.all_eq_true.1 ha _ (List.getElem_mem hi1)
  have q2:=List.all_eq_true.1 hb _ (List.getElem_mem hi2)
  have q3:(a.map A3)[i]?=(b.map A3)[i]?:=by rw [h]
  rw [List.getElem?_map,List.getElem?_map,List.getElem?_eq_getElem hi1,List.getElem?_eq_getElem hi2] at q3
  simp only [Option.map_some] at q3
  injection q3 with q3
  rw [a1u q1,a1u q2] at q3
  injection q3
theorem e0w {X:Pr} {T:FuncId→Option Sh} {ro:FuncId→Bool} {fn:FuncId→C2} (htab:X.tab=[]) (hfn:∀ g,I8 X g (fn g)) {AL AJ:Nat→Option Ann} {gv:List (Option Nat)} {f:FuncId} {F:Func} {vs0:List Sh} {bs0:List ShB} (hf:X.P.funcs[f]?=some F) (hb:F.body.isSome=true)
  (hcall:∀ args w,(callFunc f args).run X.P w=.ok (.enter f args) w):I8 X f (c85 CU X T ro gv F vs0 bs0 fn AL AJ):=by
 intro vs bs x bs' h hok
 unfold c85 at h
 obtain ⟨vs',e1,h⟩:=H6 h
 obtain ⟨bs2,e2,h⟩:=U1 h
 obtain ⟨hok2,eb⟩:=c5j e2 hok
 have:=d8r htab hfn (d0f T ro) hf hb hcall vs' bs2 x bs' h hok2
 rw [e1,eb] at this
 exact this
/-- A function with a deferred call. -/
def d7i (U:q7) (X:Pr) (T:FuncId→Option Sh) (ro:FuncId→Bool) (gv:List (Option Nat)) (f:Func) (vs0:List Sh) (bs0:List ShB) (fn:FuncId→C2) (AL AJ:Nat→Option Ann):C2:=fun vs bs =>
 Z6 U vs0 vs fun vs=>Y4 U bs0 bs fun bs=>c73 U X fn (c7x U T ro) AL AJ gv f vs bs
theorem f4h {X:Pr} {T:FuncId→Option Sh} {ro:FuncId→Bool} {fn:FuncId→C2} (htab:X.tab=[]) (hfn:∀ g,I8 X g (fn g)) {AL AJ:Nat→Option Ann} {gv:List (Option Nat)} {f g:FuncId} {F:Func} {vs0:List Sh} {bs0:List ShB} (hf:X.P.funcs[f]?=some F) (hd:c7z F=some g)
  (hcall:∀ args w,(callFunc f args).run X.P w=.ok (.enter f args) w) (hg:∀ args w,(callFunc g args).run X.P w=.ok (.enter g args) w) (hidle:c7j X.P g):I8 X f (d7i CU X T ro gv F vs0 bs0 fn AL AJ):=by
 intro vs bs x bs' h hok
 unfold d7i at h
 obtain ⟨vs',e1,h⟩:=H6 h
 obtain ⟨bs2,e2,h⟩:=U1 h
 obtain ⟨hok2,eb⟩:=c5j e2 hok
 have:=d32 htab hfn (d0f T ro) hf hd hcall hg hidle vs' bs2 x bs' h hok2
 rw [e1,eb] at this
 exact this
/-- A panic goes on. -/
def pn (U:q7):V→Om:=fun v=>some (.pan (U.rn0 v),[])
/-- The first that answers. -/
def e1v (F G:C2):C2:=fun vs bs=>match F vs bs with
 | some r=>some r
 | none=>G vs bs
theorem f4y {X:Pr} {g:FuncId} {F G:C2} (hF:I8 X g F) (hG:I8 X g G):I8 X g (e1v F G):=fun vs bs x bs' h hok=>by
 unfold e1v at h
 split at h
 ·rename_i r hr
  injection h with h
  subst h
  exact hF vs bs x bs' hr hok
 ·exact hG vs bs x bs' h hok
theorem c6o {X:Pr} {g:FuncId}:I8 X g (fun _ _=>none):=fun _ _ _ _ h=>by cases h
/-- Functions, wrapped: what a table gives is looked up once. -/
structure Wr where
 f:C2
def c7l (w:Wr):C2:=Wr.rec (motive:=fun _=>C2) (fun f=>f) w
/-- A table of functions; fn: the functions that they call. -/
abbrev b2s:=List (FuncId × ((FuncId→C2)→C2))
def b4u (g:FuncId):b2s→Option ((FuncId→C2)→C2)
 | []=>none
 | x :: xs=>bif Nat.beq x.1 g then some x.2 else b4u g xs
/-- What the functions of a table give, run so L0. -/
def e6j (T:b2s) (n:Nat):FuncId→Wr:=Nat.rec (motive:=fun _=>FuncId→Wr) (fun _=>⟨fun _ _=>none⟩) (fun _ ih g=>match b4u g T with
 | some F=>⟨F fun g=>c7l (ih g)⟩
 | none=>⟨fun _ _=>none⟩) n
theorem b8f {g:FuncId} {F:(FuncId→C2)→C2}:∀ {T:b2s},b4u g T=some F→(g,F) ∈ T
 | [],h=>by cases h
 | x :: xs,h=>by
  simp only [b4u] at h
  cases hb:Nat.beq x.1 g with
  | true =>
   rw [hb] at h
   injection h with h
   rw [← h,← Nat.eq_of_beq_eq_true hb]
   exact List.mem_cons_self
  | false=>rw [hb] at h;exact List.mem_cons_of_mem _ (b8f h)
theorem e0z {X:Pr} {T:b2s} (hT:∀ g F,(g,F) ∈ T→∀ fn,(∀ g,I8 X g (fn g))→I8 X g (F fn)):∀ (n:Nat) (g:FuncId),I8 X g (c7l (e6j T n g))
 | 0,g=>c6o
 | n+1,g=>by
  show I8 X g (c7l (match b4u g T with
   | some F=>⟨F fun g=>c7l (e6j T n g)⟩
   | none=>⟨fun _ _=>none⟩))
  split
  ·rename_i F hF
   exact hT g F (b8f hF) _ (e0z hT n)
  ·exact c6o
end
theorem c7u:c7j Tryz.prog 88:=fun v w _=>by
 have key:CallsD Tryz.prog 88 #[v] .returning w fun e u' w'=>e=.returned (.tuple #[])∧u'=.returning∧w'=w:=by
  refine callsD_of_wpS Tryz.func88 rfl fun c₀ cs hu=>?_
  apply wpS_seq
  apply wpS_region
  simp [wpOpsS,go_sem,recoverD,hu,Tryz.ntmps88,Exit.thenS]
  apply wpS_seq
  apply wpS_seq
  apply wpS_region
  simp [wpOpsS,go_sem,Exit.thenS]
  refine wpS_cond (t:=true) (by simp [Act.eval,Array.replicate]) ?_
  simp only [if_true]
  refine wpS_of_wp (wp_ret ?_)
  cases c₀
  simp_all [bodyPostS,results,Tryz.results88,Exit.thenS]
 refine key.mono ?_
 rintro e u' w' ⟨rfl,rfl,rfl⟩
 exact ⟨⟨_,rfl⟩,rfl,rfl⟩
end Go.Proofs.YtgipbdffgfbedaaGreatDoor
namespace Go.Proofs.YtgipbdffgfbedaaGreatDoor
open Go.Abs
noncomputable section
abbrev HG (fn:FF):Prop:=∀ g,I8 X0 g (fn g)
/-- An answer that the function's a73 bears out. -/
def c0n (g:FuncId) (vs:List V) (bs:List Bx) (v:J0) (bs':List Bx):Prop:=bs.all M7=true→CM X0.P X0.G g (vs.map toD) (bs.map E0) (b0h v) (bs'.map E0)
def j4 (g:FuncId) (sp:Sp):Prop:=∀ i vs bs,j6 (sp.A i) vs→RBs (sp.B i) bs→∃ v bs',c0n g vs bs v bs'∧j7 (sp.R i) v∧RBs (sp.B' i) bs'
abbrev Env:=List (FuncId × Sp)
def look (g:FuncId):Env→Option Sp
 | []=>none
 | x :: xs=>bif Nat.beq x.1 g then some x.2 else look g xs
inductive a7r:Env→Prop
 | nil:a7r []
 | cons {g:FuncId} {sp:Sp} {E:Env}:j4 g sp→a7r E→a7r ((g,sp) :: E)
theorem a7r.look {g:FuncId} {sp:Sp} {E:Env} (h:a7r E) (e:look g E=some sp):j4 g sp:=by
 induction h with
 | nil=>cases e
 | @cons g' sp' E' k _ ih =>
  simp only [YtgipbdffgfbedaaGreatDoor.look] at e
  cases hb:Nat.beq g' g with
  | true=>rw [hb] at e;injection e with e;subst e;rw [← Nat.eq_of_beq_eq_true hb];exact k
  | false=>rw [hb] at e;exact ih e
open Classical in
/-- The table of what is known. -/
def c1p (E:Env):FF:=fun g vs bs=>if h:∃ p:J0 × List Bx,c0n g vs bs p.1 p.2∧∃ sp i,look g E=some sp∧j6 (sp.A i) vs∧RBs (sp.B i) bs∧j7 (sp.R i) p.1∧RBs (sp.B' i) p.2 then some (Classical.choose h) else none
theorem d8t (E:Env):HG (c1p E):=fun g vs bs x bs' h=>by
 unfold c1p at h
 split at h
 ·rename_i hc
  injection h with h
  have:=(Classical.choose_spec hc).1
  rw [h] at this
  exact this
 ·cases h
theorem d35 {E:Env} (hE:a7r E) {g:FuncId} {sp:Sp} (e:look g E=some sp):Ans (c1p E) g sp:=fun i vs bs hv hb=>by
 have hx:∃ p:J0 × List Bx,c0n g vs bs p.1 p.2∧∃ sp i,look g E=some sp∧j6 (sp.A i) vs∧RBs (sp.B i) bs∧j7 (sp.R i) p.1∧RBs (sp.B' i) p.2:=by
  obtain ⟨v,bs',h1,h2,h3⟩:=hE.look e i vs bs hv hb
  exact ⟨(v,bs'),h1,sp,i,e,hv,hb,h2,h3⟩
 obtain ⟨h1,sp',j,e',hv',hb',h2,h3⟩:=Classical.choose_spec hx
 rw [e] at e'
 injection e' with e'
 subst e'
 obtain ⟨q1,q2⟩:=sp.inj i j vs bs hv hv' hb hb'
 refine ⟨(Classical.choose hx).1,(Classical.choose hx).2,?_,q1 ▸ h2,q2 ▸ h3⟩
 unfold c1p
 rw [dif_pos hx]
theorem l9 {g:FuncId} {sp:Sp} {F:q7→FF→C2} (hF:∀ fn,HG fn→I8 X0 g (F CU fn)) (E:Env) (hE:a7r E)
  (h:∀ U fn,(∀ g sp,look g E=some sp→Ans fn g sp)→∀ i vs bs,j6 (sp.A i) vs→RBs (sp.B i) bs→g8 U (F U fn vs bs) fun v bs'=>j7 (sp.R i) v∧RBs (sp.B' i) bs'):j4 g sp:=fun i vs bs hv hb=>by
 obtain ⟨v,bs',h1,h2,h3⟩:=h CU (c1p E) (fun g sp e=>d35 hE e) i vs bs hv hb rfl
 exact ⟨v,bs',fun hok=>hF _ (d8t E) vs bs v bs' h1 hok,h2,h3⟩
theorem Q1 {g:FuncId} {sp:Sp} (μ:sp.ι→Nat) (h:∀ n,j4 g (sp.lt μ n)→j4 g (sp.lt μ (n+1))):j4 g sp:=by
 have:∀ n,j4 g (sp.lt μ n):=by
  intro n
  induction n with
  | zero=>intro i;exact absurd i.2 (Nat.not_lt_zero _)
  | succ n ih=>exact h n ih
 intro i
 exact this (μ i+1) ⟨i,Nat.lt_succ_self _⟩
end
end Go.Proofs.YtgipbdffgfbedaaGreatDoor
