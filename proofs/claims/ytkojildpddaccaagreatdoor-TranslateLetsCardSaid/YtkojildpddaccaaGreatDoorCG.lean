/- What is asked of the package-level variables: a table lies as its text lays it. -/
import Derived.Test.YtkojildpddaccaaGreatDoorProg
import Derived.Lib.LaidTab
import Derived.Lib.Space
import Derived.Lib.ItoaNum
import Derived.Tactics
import Derived.Tactics2
import Derived.Recover
import Derived.Test.YtkojildpddaccaaGreatDoorCR1
set_option linter.all false
namespace Go.Proofs.YtkojildpddaccaaGreatDoor
open Go.Abs
theorem e1b : Tryz.prog.globalNamed "internal/strconv.uint64pow10" = some 0 := kR
theorem e4g {s:String} {g:Nat} {k:IntKind} {t:List Int} (e:Tryz.prog.globalNamed s=some g) {w:World} (h:Lib.TabIs Tryz.prog w s k t):g+1≤w.heap.size:=by
 unfold Lib.TabIs World.var? at h
 rw [e] at h
 simp only [Option.bind_some] at h
 split at h
 ·rename_i hc;exact (Array.getElem?_eq_some_iff.1 hc).1
 ·cases h
theorem d3u {s:String} {g:Nat} {k:IntKind} {t:List Int} (e:Tryz.prog.globalNamed s=some g) {N:Nat} (hN:g < N) {w w':World} (h:Lib.TabIs Tryz.prog w s k t) (hb:∀ b,b < N→w'.heap[b]?=w.heap[b]?):Lib.TabIs Tryz.prog w' s k t:=by
 unfold Lib.TabIs World.var? at h ⊢
 rw [e] at h ⊢
 simp only [Option.bind_some] at h ⊢
 rw [hb _ hN]
 exact h
def gN:Nat:=0+1
def GG : b7u := { N := gN, pred := fun w => Lib.TabIs Tryz.prog w "internal/strconv.uint64pow10" .u64 Lib.pow10Tab ∧ True, stable := fun _ _ h hb => ⟨d3u e1b dE h.1 hb, trivial⟩, size := fun _ h => e4g e1b h.1 }
theorem d57 {w : World} (h : GG.pred w) : Lib.TabIs Tryz.prog w "internal/strconv.uint64pow10" .u64 Lib.pow10Tab := h.1
theorem f6u:Tryz.prog.follows .mixedOrders=true:=kR
theorem e5v {P : Program} {t : TypeId} {f g : Field} {k l : K3} (hu : P.underlying t = some (.struct #[f, g])) (hs : P.stoodInHeld t = false) (hg : P.eqGuardType P.depth t = false) (hf1 : f.name ≠ "_") (hf2 : f.offset = 0) (hf3 : k.is P f.type)
  (hg1 : g.name ≠ "_") (hg2 : g.offset = 1) (hg3 : l.is P g.type) : c14 P t [k, l] := by
 refine ⟨#[f,g],hu,hs,hg,rfl,fun i x y hx hy=>?_⟩
 rcases i with _ | _ | i
 ·injection hx with hx;injection hy with hy;subst hx hy;exact ⟨hf1,hf2,hf3⟩
 ·injection hx with hx;injection hy with hy;subst hx hy;exact ⟨hg1,hg2,hg3⟩
 ·simp at hy
def EQS:List (TypeId × List K3):=[(33,[.str,.str]),(98,[.int,.int])]
theorem g3w:∀ t ks,(t,ks) ∈ EQS→c14 Tryz.prog t ks:=fun t ks h=>by
 simp only [EQS,List.mem_cons,List.mem_nil_iff,or_false,Prod.mk.injEq] at h
 rcases h with ⟨rfl,rfl⟩ | ⟨rfl,rfl⟩
 ·exact e5v Tryz.underlying33 Tryz.stoodInHeld33 Tryz.eqGuardType33 dE rfl Tryz.underlying9 dE rfl Tryz.underlying9
 ·exact e5v Tryz.underlying98 Tryz.stoodInHeld98 Tryz.eqGuardType98 dE rfl ⟨.i64,kR⟩ dE rfl ⟨.i64,kR⟩
theorem g0r:∀ g F,(g,F) ∈ ([]:List (FuncId × (List D→List (List D)→Option (Bool × Res × List (List D)))))→∀ ds hs r hs',F ds hs=some (true,r,hs')→CM Tryz.prog GG g ds hs r hs':=fun g F h=>by cases h
noncomputable def X0:Pr:={ P:=Tryz.prog,G:=GG,eqs:=EQS,eqOk:=g3w,mixed:=f6u,tab:=[],tabOk:=g0r }
/-- The body of a function. -/
def d35 (f:Func):Code:=f.body.getD .skip
/-- What a function needs. -/
def d1n (X:Pr) (L:Nat→(St→(St→Prop)→Prop)→St→Prop) (J:Nat→Option Cut) (fn:Func) (ds:List D) (hs:List (List D)) (r:Res) (hs':List (List D)):Prop :=
 vc X hs.length L J (d35 fn) 0 0 (Abs.start fn.ntmps ds hs) (fin X.P fn.results.toList hs.length [] r hs') (fun _ _=>False) (fin X.P fn.results.toList hs.length [] r hs') (fun d=>r=.pan d)
def need (X:Pr) (L:Nat→(St→(St→Prop)→Prop)→St→Prop):=d1n X L g4r
theorem h0u {X:Pr} {f:FuncId} {fn:Func} (hf:X.P.funcs[f]?=some fn) (hb:fn.body.isSome=true) (hcall:∀ args w,(callFunc f args).run X.P w=.ok (.enter f args) w) {ds:List D} {hs:List (List D)} {r:Res} {hs':List (List D)}
  {L:Nat→(St→(St→Prop)→Prop)→St→Prop} (hL:∀ p body s,L p body s→a1n hs.length body s) {J:Nat→Option Cut} (h:d1n X L J fn ds hs r hs'):CM X.P X.G f ds hs r hs':=by
 obtain ⟨c,hc⟩:=Option.isSome_iff_exists.1 hb
 refine a2h (J:=J) (gv:=[]) hf hc hcall hL ?_
 unfold d1n d35 at h
 rw [hc] at h
 exact h
theorem h0t {n:Nat}:∀ p body s,f6y p body s→a1n n body s:=fun _ _ _ h=>h.elim
theorem via {p q:Prop} (h:p=q) (hq:q):p:=h ▸ hq
abbrev FF:=FuncId→D8
abbrev LV:=List V
abbrev LB:=List Bx
abbrev TQ:=s6 Q
abbrev KJ:=List V→List Bx→Om
noncomputable section
/-- Results by their forms. -/
def d0s (U:B0) (T:FuncId→Option Sh) (ro:FuncId→Bool):T5:=fun g bs0 v bs K=>match T g with
 | some s=>d0m U s v fun v=>cond (ro g) (U.same bs0 bs (K v none)) (a0m U (bs0.map c5h) bs fun bs=>K v (some bs))
 | none=>cond (ro g) (U.same bs0 bs (K v none)) (a0m U (bs0.map c5h) bs fun bs=>K v (some bs))
theorem d4a (T:FuncId→Option Sh) (ro:FuncId→Bool):a3g (d0s CU T ro):=fun g bs0 v bs K r h=>by
 have key:∀ v:V,cond (ro g) (CU.same bs0 bs (K v none)) (a0m CU (bs0.map c5h) bs fun bs=>K v (some bs))=some r →
   (∃ bs',bs'.map D6=bs.map D6∧K v (some bs')=some r)∨(bs=bs0∧K v none=some r):=by
  intro v h
  cases hr:ro g with
  | true =>
   rw [hr] at h
   have h:cond (b4g bs0 bs) (K v none) none=some r:=h
   cases he:b4g bs0 bs with
   | true=>rw [he] at h;exact .inr ⟨(c7g he).symm,h⟩
   | false=>rw [he] at h;cases h
  | false =>
   rw [hr] at h
   obtain ⟨bs',e2,h⟩:=W6 h
   exact .inl ⟨bs',e2,h⟩
 unfold d0s at h
 split at h
 ·obtain ⟨v',e1,h⟩:=b0z h
  rcases key v' h with ⟨bs',e2,h⟩ | ⟨e2,h⟩
  ·exact .inl ⟨v',bs',e1,e2,h⟩
  ·exact .inr ⟨v',e1,e2,h⟩
 ·rcases key v h with ⟨bs',e2,h⟩ | ⟨e2,h⟩
  ·exact .inl ⟨v,bs',rfl,e2,h⟩
  ·exact .inr ⟨v,rfl,e2,h⟩
/-- A function, its arguments and R4 of these forms. -/
def d3k (U:B0) (X:Pr) (T:FuncId→Option Sh) (ro:FuncId→Bool) (gv:List (Option Nat)) (f:Func) (vs0:List Sh) (bs0:List ShB) (fn:FuncId→D8) (AL AJ:Nat→Option Ann):D8:=fun vs bs =>
 a0w U vs0 vs fun vs=>a0m U bs0 bs fun bs=>d92 U X fn (d0s U T ro) AL AJ gv f vs bs
theorem c65 {a b:List Bx} (h:a.map D6=b.map D6) (hb:b.all O6=true):a.all O6=true∧a.map J3=b.map J3:=by
 have ha:=b9g h.symm hb
 refine ⟨ha,?_⟩
 have hl:a.length=b.length:=by have:=congrArg List.length h;simpa using this
 apply List.ext_getElem
 ·simpa using hl
 ·intro i hi1 hi2
  simp only [List.length_map] at hi1 hi2
  simp only [List.getElem_map]
  have q1:=List.all_eq_true.1 ha _ (List.getElem_mem hi1)
  have q2:=List.all_eq_true.1 hb _ (List.getElem_mem hi2)
  have q3:(a.map D6)[i]?=(b.map D6)[i]?:=by rw [h]
  rw [List.getElem?_map,List.getElem?_map,List.getElem?_eq_getElem hi1,List.getElem?_eq_getElem hi2] at q3
  simp only [Option.map_some] at q3
  injection q3 with q3
  rw [a2e q1,a2e q2] at q3
  injection q3
theorem f2t {X:Pr} {T:FuncId→Option Sh} {ro:FuncId→Bool} {fn:FuncId→D8} (htab:X.tab=[]) (hfn:∀ g,E3 X g (fn g)) {AL AJ:Nat→Option Ann} {gv:List (Option Nat)} {f:FuncId} {F:Func} {vs0:List Sh} {bs0:List ShB} (hf:X.P.funcs[f]?=some F) (hb:F.body.isSome=true)
  (hcall:∀ args w,(callFunc f args).run X.P w=.ok (.enter f args) w):E3 X f (d3k CU X T ro gv F vs0 bs0 fn AL AJ):=by
 intro vs bs x bs' h hok
 unfold d3k at h
 obtain ⟨vs',e1,h⟩:=K2 h
 obtain ⟨bs2,e2,h⟩:=W6 h
 obtain ⟨hok2,eb⟩:=c65 e2 hok
 have:=e8t htab hfn (d4a T ro) hf hb hcall vs' bs2 x bs' h hok2
 rw [e1,eb] at this
 exact this
/-- A function with a deferred call. -/
def e7f (U:B0) (X:Pr) (T:FuncId→Option Sh) (ro:FuncId→Bool) (gv:List (Option Nat)) (f:Func) (vs0:List Sh) (bs0:List ShB) (fn:FuncId→D8) (AL AJ:Nat→Option Ann):D8:=fun vs bs =>
 a0w U vs0 vs fun vs=>a0m U bs0 bs fun bs=>d06 U X fn (d0s U T ro) AL AJ gv f vs bs
theorem g86 {X:Pr} {T:FuncId→Option Sh} {ro:FuncId→Bool} {fn:FuncId→D8} (htab:X.tab=[]) (hfn:∀ g,E3 X g (fn g)) {AL AJ:Nat→Option Ann} {gv:List (Option Nat)} {f g:FuncId} {F:Func} {vs0:List Sh} {bs0:List ShB} (hf:X.P.funcs[f]?=some F) (hd:d00 F=some g)
  (hcall:∀ args w,(callFunc f args).run X.P w=.ok (.enter f args) w) (hg:∀ args w,(callFunc g args).run X.P w=.ok (.enter g args) w) (hidle:d9d X.P g):E3 X f (e7f CU X T ro gv F vs0 bs0 fn AL AJ):=by
 intro vs bs x bs' h hok
 unfold e7f at h
 obtain ⟨vs',e1,h⟩:=K2 h
 obtain ⟨bs2,e2,h⟩:=W6 h
 obtain ⟨hok2,eb⟩:=c65 e2 hok
 have:=d93 htab hfn (d4a T ro) hf hd hcall hg hidle vs' bs2 x bs' h hok2
 rw [e1,eb] at this
 exact this
/-- A panic goes on. -/
def pn (U:B0):V→Om:=fun v=>some (.pan (U.rn0 v),[])
/-- The first that answers. -/
def b7v (F G:D8):D8:=fun vs bs=>match F vs bs with
 | some r=>some r
 | none=>G vs bs
theorem b2e {X:Pr} {g:FuncId} {F G:D8} (hF:E3 X g F) (hG:E3 X g G):E3 X g (b7v F G):=fun vs bs x bs' h hok=>by
 unfold b7v at h
 split at h
 ·rename_i r hr
  injection h with h
  subst h
  exact hF vs bs x bs' hr hok
 ·exact hG vs bs x bs' h hok
theorem c70 {X:Pr} {g:FuncId}:E3 X g (fun _ _=>none):=fun _ _ _ _ h=>by cases h
/-- Functions, wrapped: what a table gives is looked up once. -/
structure Wr where
 f:D8
def a2c (w:Wr):D8:=Wr.rec (motive:=fun _=>D8) (fun f=>f) w
/-- A table of functions; fn: the functions that they call. -/
abbrev a1k:=List (FuncId × ((FuncId→D8)→D8))
def a6k (g:FuncId):a1k→Option ((FuncId→D8)→D8)
 | []=>none
 | x :: xs=>bif Nat.beq x.1 g then some x.2 else a6k g xs
/-- What the functions of a table give, run so E0. -/
def a7r (T:a1k) (n:Nat):FuncId→Wr:=Nat.rec (motive:=fun _=>FuncId→Wr) (fun _=>⟨fun _ _=>none⟩) (fun _ ih g=>match a6k g T with
 | some F=>⟨F fun g=>a2c (ih g)⟩
 | none=>⟨fun _ _=>none⟩) n
theorem b92 {g:FuncId} {F:(FuncId→D8)→D8}:∀ {T:a1k},a6k g T=some F→(g,F) ∈ T
 | [],h=>by cases h
 | x :: xs,h=>by
  simp only [a6k] at h
  cases hb:Nat.beq x.1 g with
  | true =>
   rw [hb] at h
   injection h with h
   rw [← h,← Nat.eq_of_beq_eq_true hb]
   exact List.mem_cons_self
  | false=>rw [hb] at h;exact List.mem_cons_of_mem _ (b92 h)
theorem a8m {X:Pr} {T:a1k} (hT:∀ g F,(g,F) ∈ T→∀ fn,(∀ g,E3 X g (fn g))→E3 X g (F fn)):∀ (n:Nat) (g:FuncId),E3 X g (a2c (a7r T n g))
 | 0,g=>c70
 | n+1,g=>by
  show E3 X g (a2c (match a6k g T with
   | some F=>⟨F fun g=>a2c (a7r T n g)⟩
   | none=>⟨fun _ _=>none⟩))
  split
  ·rename_i F hF
   exact hT g F (b92 hF) _ (a8m hT n)
  ·exact c70
end
end Go.Proofs.YtkojildpddaccaaGreatDoor
namespace Go.Proofs.YtkojildpddaccaaGreatDoor
open Go.Abs
noncomputable section
abbrev HG (fn:FF):Prop:=∀ g,E3 X0 g (fn g)
/-- An answer that the function's a2h bears out. -/
def d9c (g:FuncId) (vs:List V) (bs:List Bx) (v:H4) (bs':List Bx):Prop:=bs.all O6=true→CM X0.P X0.G g (vs.map toD) (bs.map J3) (a7p v) (bs'.map J3)
def s9 (g:FuncId) (sp:Sp):Prop:=∀ i vs bs,t7 (sp.A i) vs→s5 (sp.B i) bs→∃ v bs',d9c g vs bs v bs'∧u0 (sp.R i) v∧s5 (sp.B' i) bs'
abbrev Env:=List (FuncId × Sp)
def look (g:FuncId):Env→Option Sp
 | []=>none
 | x :: xs=>bif Nat.beq x.1 g then some x.2 else look g xs
inductive a84:Env→Prop
 | nil:a84 []
 | cons {g:FuncId} {sp:Sp} {E:Env}:s9 g sp→a84 E→a84 ((g,sp) :: E)
theorem a84.look {g:FuncId} {sp:Sp} {E:Env} (h:a84 E) (e:look g E=some sp):s9 g sp:=by
 induction h with
 | nil=>cases e
 | @cons g' sp' E' k _ ih =>
  simp only [YtkojildpddaccaaGreatDoor.look] at e
  cases hb:Nat.beq g' g with
  | true=>rw [hb] at e;injection e with e;subst e;rw [← Nat.eq_of_beq_eq_true hb];exact k
  | false=>rw [hb] at e;exact ih e
open Classical in
/-- The table of what is known. -/
def c3p (E:Env):FF:=fun g vs bs=>if h:∃ p:H4 × List Bx,d9c g vs bs p.1 p.2∧∃ sp i,look g E=some sp∧t7 (sp.A i) vs∧s5 (sp.B i) bs∧u0 (sp.R i) p.1∧s5 (sp.B' i) p.2 then some (Classical.choose h) else none
theorem e8x (E:Env):HG (c3p E):=fun g vs bs x bs' h=>by
 unfold c3p at h
 split at h
 ·rename_i hc
  injection h with h
  have:=(Classical.choose_spec hc).1
  rw [h] at this
  exact this
 ·cases h
theorem e0a {E:Env} (hE:a84 E) {g:FuncId} {sp:Sp} (e:look g E=some sp):Ans (c3p E) g sp:=fun i vs bs hv hb=>by
 have hx:∃ p:H4 × List Bx,d9c g vs bs p.1 p.2∧∃ sp i,look g E=some sp∧t7 (sp.A i) vs∧s5 (sp.B i) bs∧u0 (sp.R i) p.1∧s5 (sp.B' i) p.2:=by
  obtain ⟨v,bs',h1,h2,h3⟩:=hE.look e i vs bs hv hb
  exact ⟨(v,bs'),h1,sp,i,e,hv,hb,h2,h3⟩
 obtain ⟨h1,sp',j,e',hv',hb',h2,h3⟩:=Classical.choose_spec hx
 rw [e] at e'
 injection e' with e'
 subst e'
 obtain ⟨q1,q2⟩:=sp.inj i j vs bs hv hv' hb hb'
 refine ⟨(Classical.choose hx).1,(Classical.choose hx).2,?_,q1 ▸ h2,q2 ▸ h3⟩
 unfold c3p
 rw [dif_pos hx]
theorem u2 {g:FuncId} {sp:Sp} {F:B0→FF→D8} (hF:∀ fn,HG fn→E3 X0 g (F CU fn)) (E:Env) (hE:a84 E)
  (h:∀ U fn,(∀ g sp,look g E=some sp→Ans fn g sp)→∀ i vs bs,t7 (sp.A i) vs→s5 (sp.B i) bs→s4 U (F U fn vs bs) fun v bs'=>u0 (sp.R i) v∧s5 (sp.B' i) bs'):s9 g sp:=fun i vs bs hv hb=>by
 obtain ⟨v,bs',h1,h2,h3⟩:=h CU (c3p E) (fun g sp e=>e0a hE e) i vs bs hv hb rfl
 exact ⟨v,bs',fun hok=>hF _ (e8x E) vs bs v bs' h1 hok,h2,h3⟩
theorem J4 {g:FuncId} {sp:Sp} (μ:sp.ι→Nat) (h:∀ n,s9 g (sp.lt μ n)→s9 g (sp.lt μ (n+1))):s9 g sp:=by
 have:∀ n,s9 g (sp.lt μ n):=by
  intro n
  induction n with
  | zero=>intro i;exact absurd i.2 (Nat.not_lt_zero _)
  | succ n ih=>exact h n ih
 intro i
 exact this (μ i+1) ⟨i,Nat.lt_succ_self _⟩
end
end Go.Proofs.YtkojildpddaccaaGreatDoor
