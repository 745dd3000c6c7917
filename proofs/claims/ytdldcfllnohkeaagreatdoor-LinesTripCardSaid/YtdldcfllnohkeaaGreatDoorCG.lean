/- What is asked of the package-level variables: a table lies as its text lays it. -/
import Derived.Test.YtdldcfllnohkeaaGreatDoorProg
import Derived.Lib.LaidTab
import Derived.Lib.Space
import Derived.Lib.ItoaNum
import Derived.Tactics
import Derived.Tactics2
import Derived.Recover
import Derived.Test.YtdldcfllnohkeaaGreatDoorCR1
set_option linter.all false
namespace Go.Proofs.YtdldcfllnohkeaaGreatDoor
open Go.Abs
theorem e1d : Tryz.prog.globalNamed "internal/strconv.uint64pow10" = some 1 := kR
theorem e3l {s:String} {g:Nat} {k:IntKind} {t:List Int} (e:Tryz.prog.globalNamed s=some g) {w:World} (h:Lib.TabIs Tryz.prog w s k t):g+1≤w.heap.size:=by
 unfold Lib.TabIs World.var? at h
 rw [e] at h
 simp only [Option.bind_some] at h
 split at h
 ·rename_i hc;exact (Array.getElem?_eq_some_iff.1 hc).1
 ·cases h
theorem d5b {s:String} {g:Nat} {k:IntKind} {t:List Int} (e:Tryz.prog.globalNamed s=some g) {N:Nat} (hN:g < N) {w w':World} (h:Lib.TabIs Tryz.prog w s k t) (hb:∀ b,b < N→w'.heap[b]?=w.heap[b]?):Lib.TabIs Tryz.prog w' s k t:=by
 unfold Lib.TabIs World.var? at h ⊢
 rw [e] at h ⊢
 simp only [Option.bind_some] at h ⊢
 rw [hb _ hN]
 exact h
def gN:Nat:=max (1+1) (0+1)
theorem d98 {w:World} {g:Nat} {v:Value} (h:w.cell? ⟨g,0,none⟩=some v):g+1≤w.heap.size:=by
 rcases Nat.lt_or_ge g w.heap.size with h1 | h1
 ·exact h1
 ·simp [World.cell?,Array.getElem?_eq_none h1] at h
theorem d3o {w w':World} {g:Nat} {v:Value} (h:w.cell? ⟨g,0,none⟩=some v) (e:w'.heap[g]?=w.heap[g]?):w'.cell? ⟨g,0,none⟩=some v:=by
 unfold World.cell? at h ⊢
 rw [e];exact h
def GG : b1z := { N := gN, pred := fun w => Lib.TabIs Tryz.prog w "internal/strconv.uint64pow10" .u64 Lib.pow10Tab ∧ ∃ m : Int, w.cell? ⟨0, 0, none⟩ = some (.int .i64 m), stable := fun _ _ h hb => ⟨d5b e1d dE h.1 hb, h.2.elim fun m hm => ⟨m, d3o hm (hb _ dE)⟩⟩, size := fun _ h => Nat.max_le.2 ⟨e3l e1d h.1, h.2.elim fun _ hm => d98 hm⟩ }
theorem d70 {w : World} (h : GG.pred w) : Lib.TabIs Tryz.prog w "internal/strconv.uint64pow10" .u64 Lib.pow10Tab := h.1
theorem f1i:Tryz.prog.follows .mixedOrders=true:=kR
theorem e4i {P : Program} {t : TypeId} {f g : Field} {k l : K3} (hu : P.underlying t = some (.struct #[f, g])) (hs : P.stoodInHeld t = false) (hg : P.eqGuardType P.depth t = false) (hf1 : f.name ≠ "_") (hf2 : f.offset = 0) (hf3 : k.is P f.type)
  (hg1 : g.name ≠ "_") (hg2 : g.offset = 1) (hg3 : l.is P g.type) : c40 P t [k, l] := by
 refine ⟨#[f,g],hu,hs,hg,rfl,fun i x y hx hy=>?_⟩
 rcases i with _ | _ | i
 ·injection hx with hx;injection hy with hy;subst hx hy;exact ⟨hf1,hf2,hf3⟩
 ·injection hx with hx;injection hy with hy;subst hx hy;exact ⟨hg1,hg2,hg3⟩
 ·simp at hy
def EQS:List (TypeId × List K3):=[(23,[.str,.str]),(45,[.int,.int])]
theorem f8r:∀ t ks,(t,ks) ∈ EQS→c40 Tryz.prog t ks:=fun t ks h=>by
 simp only [EQS,List.mem_cons,List.mem_nil_iff,or_false,Prod.mk.injEq] at h
 rcases h with ⟨rfl,rfl⟩ | ⟨rfl,rfl⟩
 ·exact e4i Tryz.underlying23 Tryz.stoodInHeld23 Tryz.eqGuardType23 dE rfl Tryz.underlying9 dE rfl Tryz.underlying9
 ·exact e4i Tryz.underlying45 Tryz.stoodInHeld45 Tryz.eqGuardType45 dE rfl ⟨.i64,kR⟩ dE rfl ⟨.i64,kR⟩
theorem f7a:∀ g F,(g,F) ∈ ([]:List (FuncId × (List D→List (List D)→Option (Bool × W0 × List (List D)))))→∀ ds hs r hs',F ds hs=some (true,r,hs')→CM Tryz.prog GG g ds hs r hs':=fun g F h=>by cases h
noncomputable def X0:Pr:={ P:=Tryz.prog,G:=GG,eqs:=EQS,eqOk:=f8r,mixed:=f1i,tab:=[],tabOk:=f7a }
/-- The body of a function. -/
def d5u (f:Func):Code:=f.body.getD .skip
/-- What a function needs. -/
def d4e (X:Pr) (L:Nat→(St→(St→Prop)→Prop)→St→Prop) (J:Nat→Option Cut) (fn:Func) (ds:List D) (hs:List (List D)) (r:W0) (hs':List (List D)):Prop :=
 vc X hs.length L J (d5u fn) 0 0 (Abs.start fn.ntmps ds hs) (fin X.P fn.results.toList hs.length [] r hs') (fun _ _=>False) (fin X.P fn.results.toList hs.length [] r hs') (fun d=>r=.pan d)
def need (X:Pr) (L:Nat→(St→(St→Prop)→Prop)→St→Prop):=d4e X L f9e
theorem g2k {X:Pr} {f:FuncId} {fn:Func} (hf:X.P.funcs[f]?=some fn) (hb:fn.body.isSome=true) (hcall:∀ args w,(callFunc f args).run X.P w=.ok (.enter f args) w) {ds:List D} {hs:List (List D)} {r:W0} {hs':List (List D)}
  {L:Nat→(St→(St→Prop)→Prop)→St→Prop} (hL:∀ p body s,L p body s→a2o hs.length body s) {J:Nat→Option Cut} (h:d4e X L J fn ds hs r hs'):CM X.P X.G f ds hs r hs':=by
 obtain ⟨c,hc⟩:=Option.isSome_iff_exists.1 hb
 refine a1x (J:=J) (gv:=[]) hf hc hcall hL ?_
 unfold d4e d5u at h
 rw [hc] at h
 exact h
theorem g2j {n:Nat}:∀ p body s,f1m p body s→a2o n body s:=fun _ _ _ h=>h.elim
theorem via {p q:Prop} (h:p=q) (hq:q):p:=h ▸ hq
abbrev FF:=FuncId→E6
abbrev LV:=List V
abbrev LB:=List Bx
abbrev TQ:=j8 Q
abbrev KJ:=List V→List Bx→Om
noncomputable section
/-- Results by their forms. -/
def d3d (U:v8) (T:FuncId→Option Sh) (ro:FuncId→Bool):V4:=fun g bs0 v bs K=>match T g with
 | some s=>d28 U s v fun v=>cond (ro g) (U.same bs0 bs (K v none)) (a1i U (bs0.map c8d) bs fun bs=>K v (some bs))
 | none=>cond (ro g) (U.same bs0 bs (K v none)) (a1i U (bs0.map c8d) bs fun bs=>K v (some bs))
theorem d54 (T:FuncId→Option Sh) (ro:FuncId→Bool):a4p (d3d CU T ro):=fun g bs0 v bs K r h=>by
 have key:∀ v:V,cond (ro g) (CU.same bs0 bs (K v none)) (a1i CU (bs0.map c8d) bs fun bs=>K v (some bs))=some r →
   (∃ bs',bs'.map C5=bs.map C5∧K v (some bs')=some r)∨(bs=bs0∧K v none=some r):=by
  intro v h
  cases hr:ro g with
  | true =>
   rw [hr] at h
   have h:cond (b53 bs0 bs) (K v none) none=some r:=h
   cases he:b53 bs0 bs with
   | true=>rw [he] at h;exact .inr ⟨(d00 he).symm,h⟩
   | false=>rw [he] at h;cases h
  | false =>
   rw [hr] at h
   obtain ⟨bs',e2,h⟩:=Z0 h
   exact .inl ⟨bs',e2,h⟩
 unfold d3d at h
 split at h
 ·obtain ⟨v',e1,h⟩:=b18 h
  rcases key v' h with ⟨bs',e2,h⟩ | ⟨e2,h⟩
  ·exact .inl ⟨v',bs',e1,e2,h⟩
  ·exact .inr ⟨v',e1,e2,h⟩
 ·rcases key v h with ⟨bs',e2,h⟩ | ⟨e2,h⟩
  ·exact .inl ⟨v,bs',rfl,e2,h⟩
  ·exact .inr ⟨v,rfl,e2,h⟩
/-- A function, its arguments and T0 of these forms. -/
def e21 (U:v8) (X:Pr) (T:FuncId→Option Sh) (ro:FuncId→Bool) (gv:List (Option Nat)) (f:Func) (vs0:List Sh) (bs0:List ShB) (fn:FuncId→E6) (AL AJ:Nat→Option Ann):E6:=fun vs bs =>
 a1t U vs0 vs fun vs=>a1i U bs0 bs fun bs=>d90 U X fn (d3d U T ro) AL AJ gv f vs bs
theorem d0m {a b:List Bx} (h:a.map C5=b.map C5) (hb:b.all Q4=true):a.all Q4=true∧a.map G2=b.map G2:=by
 have ha:=c1q h.symm hb
 refine ⟨ha,?_⟩
 have hl:a.length=b.length:=by have:=congrArg List.length h;simpa using this
 apply List.ext_getElem
 ·simpa using hl
 ·intro i hi1 hi2
  simp only [List.length_map] at hi1 hi2
  simp only [List.getElem_map]
  have q1:=List.all_eq_true.1 ha _ (List.getElem_mem hi1)
  have q2:=List.all_eq_true.1 hb _ (List.getElem_mem hi2)
  have q3:(a.map C5)[i]?=(b.map C5)[i]?:=by rw [h]
  rw [List.getElem?_map,List.getElem?_map,List.getElem?_eq_getElem hi1,List.getElem?_eq_getElem hi2] at q3
  simp only [Option.map_some] at q3
  injection q3 with q3
  rw [a3r q1,a3r q2] at q3
  injection q3
theorem e85 {X:Pr} {T:FuncId→Option Sh} {ro:FuncId→Bool} {fn:FuncId→E6} (htab:X.tab=[]) (hfn:∀ g,O9 X g (fn g)) {AL AJ:Nat→Option Ann} {gv:List (Option Nat)} {f:FuncId} {F:Func} {vs0:List Sh} {bs0:List ShB} (hf:X.P.funcs[f]?=some F) (hb:F.body.isSome=true)
  (hcall:∀ args w,(callFunc f args).run X.P w=.ok (.enter f args) w):O9 X f (e21 CU X T ro gv F vs0 bs0 fn AL AJ):=by
 intro vs bs x bs' h hok
 unfold e21 at h
 obtain ⟨vs',e1,h⟩:=L7 h
 obtain ⟨bs2,e2,h⟩:=Z0 h
 obtain ⟨hok2,eb⟩:=d0m e2 hok
 have:=e6a htab hfn (d54 T ro) hf hb hcall vs' bs2 x bs' h hok2
 rw [e1,eb] at this
 exact this
/-- A function with a deferred call. -/
def e4v (U:v8) (X:Pr) (T:FuncId→Option Sh) (ro:FuncId→Bool) (gv:List (Option Nat)) (f:Func) (vs0:List Sh) (bs0:List ShB) (fn:FuncId→E6) (AL AJ:Nat→Option Ann):E6:=fun vs bs =>
 a1t U vs0 vs fun vs=>a1i U bs0 bs fun bs=>d3l U X fn (d3d U T ro) AL AJ gv f vs bs
theorem g1y {X:Pr} {T:FuncId→Option Sh} {ro:FuncId→Bool} {fn:FuncId→E6} (htab:X.tab=[]) (hfn:∀ g,O9 X g (fn g)) {AL AJ:Nat→Option Ann} {gv:List (Option Nat)} {f g:FuncId} {F:Func} {vs0:List Sh} {bs0:List ShB} (hf:X.P.funcs[f]?=some F) (hd:d3h F=some g)
  (hcall:∀ args w,(callFunc f args).run X.P w=.ok (.enter f args) w) (hg:∀ args w,(callFunc g args).run X.P w=.ok (.enter g args) w) (hidle:d2y X.P g):O9 X f (e4v CU X T ro gv F vs0 bs0 fn AL AJ):=by
 intro vs bs x bs' h hok
 unfold e4v at h
 obtain ⟨vs',e1,h⟩:=L7 h
 obtain ⟨bs2,e2,h⟩:=Z0 h
 obtain ⟨hok2,eb⟩:=d0m e2 hok
 have:=d91 htab hfn (d54 T ro) hf hd hcall hg hidle vs' bs2 x bs' h hok2
 rw [e1,eb] at this
 exact this
/-- A panic goes on. -/
def pn (U:v8):V→Om:=fun v=>some (.pan (U.rn0 v),[])
/-- The first that answers. -/
def f0b (F G:E6):E6:=fun vs bs=>match F vs bs with
 | some r=>some r
 | none=>G vs bs
theorem g2h {X:Pr} {g:FuncId} {F G:E6} (hF:O9 X g F) (hG:O9 X g G):O9 X g (f0b F G):=fun vs bs x bs' h hok=>by
 unfold f0b at h
 split at h
 ·rename_i r hr
  injection h with h
  subst h
  exact hF vs bs x bs' hr hok
 ·exact hG vs bs x bs' h hok
theorem d1w {X:Pr} {g:FuncId}:O9 X g (fun _ _=>none):=fun _ _ _ _ h=>by cases h
/-- Functions, wrapped: what a table gives is looked up once. -/
structure Wr where
 f:E6
def d2z (w:Wr):E6:=Wr.rec (motive:=fun _=>E6) (fun f=>f) w
/-- A table of functions; fn: the functions that they call. -/
abbrev d2x:=List (FuncId × ((FuncId→E6)→E6))
def b75 (g:FuncId):d2x→Option ((FuncId→E6)→E6)
 | []=>none
 | x :: xs=>bif Nat.beq x.1 g then some x.2 else b75 g xs
/-- What the functions of a table give, run so P2. -/
def f58 (T:d2x) (n:Nat):FuncId→Wr:=Nat.rec (motive:=fun _=>FuncId→Wr) (fun _=>⟨fun _ _=>none⟩) (fun _ ih g=>match b75 g T with
 | some F=>⟨F fun g=>d2z (ih g)⟩
 | none=>⟨fun _ _=>none⟩) n
theorem c2n {g:FuncId} {F:(FuncId→E6)→E6}:∀ {T:d2x},b75 g T=some F→(g,F) ∈ T
 | [],h=>by cases h
 | x :: xs,h=>by
  simp only [b75] at h
  cases hb:Nat.beq x.1 g with
  | true =>
   rw [hb] at h
   injection h with h
   rw [← h,← Nat.eq_of_beq_eq_true hb]
   exact List.mem_cons_self
  | false=>rw [hb] at h;exact List.mem_cons_of_mem _ (c2n h)
theorem e9a {X:Pr} {T:d2x} (hT:∀ g F,(g,F) ∈ T→∀ fn,(∀ g,O9 X g (fn g))→O9 X g (F fn)):∀ (n:Nat) (g:FuncId),O9 X g (d2z (f58 T n g))
 | 0,g=>d1w
 | n+1,g=>by
  show O9 X g (d2z (match b75 g T with
   | some F=>⟨F fun g=>d2z (f58 T n g)⟩
   | none=>⟨fun _ _=>none⟩))
  split
  ·rename_i F hF
   exact hT g F (c2n hF) _ (e9a hT n)
  ·exact d1w
end
theorem d3a:d2y Tryz.prog 43:=fun v w _=>by
 have key:CallsD Tryz.prog 43 #[v] .returning w fun e u' w'=>e=.returned (.tuple #[])∧u'=.returning∧w'=w:=by
  refine callsD_of_wpS Tryz.func43 rfl fun c₀ cs hu=>?_
  apply wpS_seq
  apply wpS_region
  simp [wpOpsS,go_sem,recoverD,hu,Tryz.ntmps43,Exit.thenS]
  apply wpS_seq
  apply wpS_seq
  apply wpS_region
  simp [wpOpsS,go_sem,Exit.thenS]
  refine wpS_cond (t:=true) (by simp [Act.eval,Array.replicate]) ?_
  simp only [if_true]
  refine wpS_of_wp (wp_ret ?_)
  cases c₀
  simp_all [bodyPostS,results,Tryz.results43,Exit.thenS]
 refine key.mono ?_
 rintro e u' w' ⟨rfl,rfl,rfl⟩
 exact ⟨⟨_,rfl⟩,rfl,rfl⟩
end Go.Proofs.YtdldcfllnohkeaaGreatDoor
namespace Go.Proofs.YtdldcfllnohkeaaGreatDoor
open Go.Abs
noncomputable section
abbrev HG (fn:FF):Prop:=∀ g,O9 X0 g (fn g)
/-- An answer that the function's a1x bears out. -/
def b5n (g:FuncId) (vs:List V) (bs:List Bx) (v:L6) (bs':List Bx):Prop:=bs.all Q4=true→CM X0.P X0.G g (vs.map toD) (bs.map G2) (a9d v) (bs'.map G2)
def k9 (g:FuncId) (sp:Sp):Prop:=∀ i vs bs,l7 (sp.A i) vs→RBs (sp.B i) bs→∃ v bs',b5n g vs bs v bs'∧l8 (sp.R i) v∧RBs (sp.B' i) bs'
abbrev Env:=List (FuncId × Sp)
def look (g:FuncId):Env→Option Sp
 | []=>none
 | x :: xs=>bif Nat.beq x.1 g then some x.2 else look g xs
inductive b0e:Env→Prop
 | nil:b0e []
 | cons {g:FuncId} {sp:Sp} {E:Env}:k9 g sp→b0e E→b0e ((g,sp) :: E)
theorem b0e.look {g:FuncId} {sp:Sp} {E:Env} (h:b0e E) (e:look g E=some sp):k9 g sp:=by
 induction h with
 | nil=>cases e
 | @cons g' sp' E' k _ ih =>
  simp only [YtdldcfllnohkeaaGreatDoor.look] at e
  cases hb:Nat.beq g' g with
  | true=>rw [hb] at e;injection e with e;subst e;rw [← Nat.eq_of_beq_eq_true hb];exact k
  | false=>rw [hb] at e;exact ih e
open Classical in
/-- The table of what is known. -/
def c51 (E:Env):FF:=fun g vs bs=>if h:∃ p:L6 × List Bx,b5n g vs bs p.1 p.2∧∃ sp i,look g E=some sp∧l7 (sp.A i) vs∧RBs (sp.B i) bs∧l8 (sp.R i) p.1∧RBs (sp.B' i) p.2 then some (Classical.choose h) else none
theorem e6c (E:Env):HG (c51 E):=fun g vs bs x bs' h=>by
 unfold c51 at h
 split at h
 ·rename_i hc
  injection h with h
  have:=(Classical.choose_spec hc).1
  rw [h] at this
  exact this
 ·cases h
theorem d95 {E:Env} (hE:b0e E) {g:FuncId} {sp:Sp} (e:look g E=some sp):Ans (c51 E) g sp:=fun i vs bs hv hb=>by
 have hx:∃ p:L6 × List Bx,b5n g vs bs p.1 p.2∧∃ sp i,look g E=some sp∧l7 (sp.A i) vs∧RBs (sp.B i) bs∧l8 (sp.R i) p.1∧RBs (sp.B' i) p.2:=by
  obtain ⟨v,bs',h1,h2,h3⟩:=hE.look e i vs bs hv hb
  exact ⟨(v,bs'),h1,sp,i,e,hv,hb,h2,h3⟩
 obtain ⟨h1,sp',j,e',hv',hb',h2,h3⟩:=Classical.choose_spec hx
 rw [e] at e'
 injection e' with e'
 subst e'
 obtain ⟨q1,q2⟩:=sp.inj i j vs bs hv hv' hb hb'
 refine ⟨(Classical.choose hx).1,(Classical.choose hx).2,?_,q1 ▸ h2,q2 ▸ h3⟩
 unfold c51
 rw [dif_pos hx]
theorem n9 {g:FuncId} {sp:Sp} {F:v8→FF→E6} (hF:∀ fn,HG fn→O9 X0 g (F CU fn)) (E:Env) (hE:b0e E)
  (h:∀ U fn,(∀ g sp,look g E=some sp→Ans fn g sp)→∀ i vs bs,l7 (sp.A i) vs→RBs (sp.B i) bs→j5 U (F U fn vs bs) fun v bs'=>l8 (sp.R i) v∧RBs (sp.B' i) bs'):k9 g sp:=fun i vs bs hv hb=>by
 obtain ⟨v,bs',h1,h2,h3⟩:=h CU (c51 E) (fun g sp e=>d95 hE e) i vs bs hv hb rfl
 exact ⟨v,bs',fun hok=>hF _ (e6c E) vs bs v bs' h1 hok,h2,h3⟩
theorem a3x {g:FuncId} {sp:Sp} (μ:sp.ι→Nat) (h:∀ n,k9 g (sp.lt μ n)→k9 g (sp.lt μ (n+1))):k9 g sp:=by
 have:∀ n,k9 g (sp.lt μ n):=by
  intro n
  induction n with
  | zero=>intro i;exact absurd i.2 (Nat.not_lt_zero _)
  | succ n ih=>exact h n ih
 intro i
 exact this (μ i+1) ⟨i,Nat.lt_succ_self _⟩
end
end Go.Proofs.YtdldcfllnohkeaaGreatDoor
