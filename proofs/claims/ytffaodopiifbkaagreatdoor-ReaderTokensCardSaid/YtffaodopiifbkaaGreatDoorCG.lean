/- What is asked of the package-level variables: a table lies as its text lays it. -/
import Derived.Test.YtffaodopiifbkaaGreatDoorProg
import Derived.Test.YtffaodopiifbkaaGreatDoorCA1
import Derived.Lib.LaidTab
import Derived.Lib.Space
import Derived.Lib.ItoaNum
import Derived.Test.YtffaodopiifbkaaGreatDoorCA3
import Derived.Test.YtffaodopiifbkaaGreatDoorCQ2
import Derived.Tactics
import Derived.Tactics2
import Derived.Defers
import Derived.Recover
import Derived.Test.YtffaodopiifbkaaGreatDoorCR1
set_option linter.all false
namespace Go.Proofs.YtffaodopiifbkaaGreatDoor
open Go.Abs
theorem d2e : Tryz.prog.globalNamed "internal/strconv.uint64pow10" = some 1 := by kernel_rfl
theorem d6q {s:String} {g:Nat} {k:IntKind} {t:List Int} (e:Tryz.prog.globalNamed s=some g) {w:World} (h:Lib.TabIs Tryz.prog w s k t):g+1≤w.heap.size:=by
 unfold Lib.TabIs World.var? at h
 rw [e] at h
 simp only [Option.bind_some] at h
 split at h
 ·rename_i hc;exact (Array.getElem?_eq_some_iff.1 hc).1
 ·cases h
theorem c86 {s:String} {g:Nat} {k:IntKind} {t:List Int} (e:Tryz.prog.globalNamed s=some g) {N:Nat} (hN:g < N) {w w':World} (h:Lib.TabIs Tryz.prog w s k t) (hb:∀ b,b < N→w'.heap[b]?=w.heap[b]?):Lib.TabIs Tryz.prog w' s k t:=by
 unfold Lib.TabIs World.var? at h ⊢
 rw [e] at h ⊢
 simp only [Option.bind_some] at h ⊢
 rw [hb _ hN]
 exact h
def gN:Nat:=1+1
def GG : b7e := { N := gN, pred := fun w => Lib.TabIs Tryz.prog w "internal/strconv.uint64pow10" .u64 Lib.pow10Tab, stable := fun _ _ h hb => c86 d2e (by decide) h hb, size := fun _ h => d6q d2e h }
end Go.Proofs.YtffaodopiifbkaaGreatDoor
namespace Go.Proofs.YtffaodopiifbkaaGreatDoor
open Go.Abs

theorem e6b:Tryz.prog.follows .mixedOrders=true:=by kernel_rfl
theorem d7d {P : Program} {t : TypeId} {f g : Field} {k l : K3} (hu : P.underlying t = some (.struct #[f, g])) (hs : P.stoodInHeld t = false) (hg : P.eqGuardType P.depth t = false) (hf1 : f.name ≠ "_") (hf2 : f.offset = 0) (hf3 : k.is P f.type)
  (hg1 : g.name ≠ "_") (hg2 : g.offset = 1) (hg3 : l.is P g.type) : c2h P t [k, l] := by
 refine ⟨#[f,g],hu,hs,hg,rfl,fun i x y hx hy=>?_⟩
 rcases i with _ | _ | i
 ·injection hx with hx;injection hy with hy;subst hx hy;exact ⟨hf1,hf2,hf3⟩
 ·injection hx with hx;injection hy with hy;subst hx hy;exact ⟨hg1,hg2,hg3⟩
 ·simp at hy
def EQS:List (TypeId × List K3):=[(26,[.str,.str]),(32,[.int,.int])]
theorem e7z:∀ t ks,(t,ks) ∈ EQS→c2h Tryz.prog t ks:=fun t ks h=>by
 simp only [EQS,List.mem_cons,List.mem_nil_iff,or_false,Prod.mk.injEq] at h
 rcases h with ⟨rfl,rfl⟩ | ⟨rfl,rfl⟩
 ·exact d7d Tryz.underlying26 Tryz.stoodInHeld26 Tryz.eqGuardType26 (by decide) rfl Tryz.underlying9 (by decide) rfl Tryz.underlying9
 ·exact d7d Tryz.underlying32 Tryz.stoodInHeld32 Tryz.eqGuardType32 (by decide) rfl ⟨.i64,by kernel_rfl⟩ (by decide) rfl ⟨.i64,by kernel_rfl⟩
theorem e3a:∀ g F,(g,F) ∈ ([]:List (FuncId × (List D→List (List D)→Option (Bool × T0 × List (List D)))))→∀ ds hs r hs',F ds hs=some (true,r,hs')→CM Tryz.prog GG g ds hs r hs':=fun g F h=>by cases h
noncomputable def X0:Pr:={ P:=Tryz.prog,G:=GG,eqs:=EQS,eqOk:=e7z,mixed:=e6b,tab:=[],tabOk:=e3a }
/-- The body of a function. -/
def c9c (f:Func):Code:=f.body.getD .skip
/-- What a function needs. -/
def c8v (X:Pr) (L:Nat→(St→(St→Prop)→Prop)→St→Prop) (J:Nat→Option Cut) (fn:Func) (ds:List D) (hs:List (List D)) (r:T0) (hs':List (List D)):Prop :=
 vc X hs.length L J (c9c fn) 0 0 (Abs.start fn.ntmps ds hs) (fin X.P fn.results.toList hs.length [] r hs') (fun _ _=>False) (fin X.P fn.results.toList hs.length [] r hs') (fun d=>r=.pan d)
def need (X:Pr) (L:Nat→(St→(St→Prop)→Prop)→St→Prop):=c8v X L e9k
theorem f3t {X:Pr} {f:FuncId} {fn:Func} (hf:X.P.funcs[f]?=some fn) (hb:fn.body.isSome=true) (hcall:∀ args w,(callFunc f args).run X.P w=.ok (.enter f args) w) {ds:List D} {hs:List (List D)} {r:T0} {hs':List (List D)}
  {L:Nat→(St→(St→Prop)→Prop)→St→Prop} (hL:∀ p body s,L p body s→a1s hs.length body s) {J:Nat→Option Cut} (h:c8v X L J fn ds hs r hs'):CM X.P X.G f ds hs r hs':=by
 obtain ⟨c,hc⟩:=Option.isSome_iff_exists.1 hb
 refine a8p (J:=J) (gv:=[]) hf hc hcall hL ?_
 unfold c8v c9c at h
 rw [hc] at h
 exact h
theorem f3r {n:Nat}:∀ p body s,e2x p body s→a1s n body s:=fun _ _ _ h=>h.elim
theorem via {p q:Prop} (h:p=q) (hq:q):p:=h ▸ hq
end Go.Proofs.YtffaodopiifbkaaGreatDoor
namespace Go.Proofs.YtffaodopiifbkaaGreatDoor
open Go.Abs
abbrev FF:=FuncId→E1
abbrev LV:=List V
abbrev LB:=List Bx
abbrev TQ:=j8 Q
abbrev KJ:=List V→List Bx→Om
noncomputable section
/-- Results by their forms. -/
def c8i (U:w7) (T:FuncId→Option Sh) (ro:FuncId→Bool):R2:=fun g bs0 v bs K=>match T g with
 | some s=>c8s U s v fun v=>cond (ro g) (U.same bs0 bs (K v none)) (a0d U (bs0.map c3s) bs fun bs=>K v (some bs))
 | none=>cond (ro g) (U.same bs0 bs (K v none)) (a0d U (bs0.map c3s) bs fun bs=>K v (some bs))
theorem d07 (T:FuncId→Option Sh) (ro:FuncId→Bool):a26 (c8i CU T ro):=fun g bs0 v bs K r h=>by
 have key:∀ v:V,cond (ro g) (CU.same bs0 bs (K v none)) (a0d CU (bs0.map c3s) bs fun bs=>K v (some bs))=some r →
   (∃ bs',bs'.map C1=bs.map C1∧K v (some bs')=some r)∨(bs=bs0∧K v none=some r):=by
  intro v h
  cases hr:ro g with
  | true =>
   rw [hr] at h
   have h:cond (b26 bs0 bs) (K v none) none=some r:=h
   cases he:b26 bs0 bs with
   | true=>rw [he] at h;exact .inr ⟨(c51 he).symm,h⟩
   | false=>rw [he] at h;cases h
  | false =>
   rw [hr] at h
   obtain ⟨bs',e2,h⟩:=V4 h
   exact .inl ⟨bs',e2,h⟩
 unfold c8i at h
 split at h
 ·obtain ⟨v',e1,h⟩:=b0s h
  rcases key v' h with ⟨bs',e2,h⟩ | ⟨e2,h⟩
  ·exact .inl ⟨v',bs',e1,e2,h⟩
  ·exact .inr ⟨v',e1,e2,h⟩
 ·rcases key v h with ⟨bs',e2,h⟩ | ⟨e2,h⟩
  ·exact .inl ⟨v,bs',rfl,e2,h⟩
  ·exact .inr ⟨v,rfl,e2,h⟩
/-- A function, its arguments and P5 of these forms. -/
def d4r (U:w7) (X:Pr) (T:FuncId→Option Sh) (ro:FuncId→Bool) (gv:List (Option Nat)) (f:Func) (vs0:List Sh) (bs0:List ShB) (fn:FuncId→E1) (AL AJ:Nat→Option Ann):E1:=fun vs bs =>
 a0l U vs0 vs fun vs=>a0d U bs0 bs fun bs=>d2p U X fn (c8i U T ro) AL AJ gv f vs bs
theorem c59 {a b:List Bx} (h:a.map C1=b.map C1) (hb:b.all N9=true):a.all N9=true∧a.map G2=b.map G2:=by
 have ha:=b8h h.symm hb
 refine ⟨ha,?_⟩
 have hl:a.length=b.length:=by have:=congrArg List.length h;simpa using this
 apply List.ext_getElem
 ·simpa using hl
 ·intro i hi1 hi2
  simp only [List.length_map] at hi1 hi2
  simp only [List.getElem_map]
  have q1:=List.all_eq_true.1 ha _ (List.getElem_mem hi1)
  have q2:=List.all_eq_true.1 hb _ (List.getElem_mem hi2)
  have q3:(a.map C1)[i]?=(b.map C1)[i]?:=by rw [h]
  rw [List.getElem?_map,List.getElem?_map,List.getElem?_eq_getElem hi1,List.getElem?_eq_getElem hi2] at q3
  simp only [Option.map_some] at q3
  injection q3 with q3
  rw [a19 q1,a19 q2] at q3
  injection q3
theorem d9a {X:Pr} {T:FuncId→Option Sh} {ro:FuncId→Bool} {fn:FuncId→E1} (htab:X.tab=[]) (hfn:∀ g,L7 X g (fn g)) {AL AJ:Nat→Option Ann} {gv:List (Option Nat)} {f:FuncId} {F:Func} {vs0:List Sh} {bs0:List ShB} (hf:X.P.funcs[f]?=some F) (hb:F.body.isSome=true)
  (hcall:∀ args w,(callFunc f args).run X.P w=.ok (.enter f args) w):L7 X f (d4r CU X T ro gv F vs0 bs0 fn AL AJ):=by
 intro vs bs x bs' h hok
 unfold d4r at h
 obtain ⟨vs',e1,h⟩:=J5 h
 obtain ⟨bs2,e2,h⟩:=V4 h
 obtain ⟨hok2,eb⟩:=c59 e2 hok
 have:=e1u htab hfn (d07 T ro) hf hb hcall vs' bs2 x bs' h hok2
 rw [e1,eb] at this
 exact this
/-- A function with a deferred call. -/
def d67 (U:w7) (X:Pr) (T:FuncId→Option Sh) (ro:FuncId→Bool) (gv:List (Option Nat)) (f:Func) (vs0:List Sh) (bs0:List ShB) (fn:FuncId→E1) (AL AJ:Nat→Option Ann):E1:=fun vs bs =>
 a0l U vs0 vs fun vs=>a0d U bs0 bs fun bs=>c7y U X fn (c8i U T ro) AL AJ gv f vs bs
theorem f1f {X:Pr} {T:FuncId→Option Sh} {ro:FuncId→Bool} {fn:FuncId→E1} (htab:X.tab=[]) (hfn:∀ g,L7 X g (fn g)) {AL AJ:Nat→Option Ann} {gv:List (Option Nat)} {f g:FuncId} {F:Func} {vs0:List Sh} {bs0:List ShB} (hf:X.P.funcs[f]?=some F) (hd:c8n F=some g)
  (hcall:∀ args w,(callFunc f args).run X.P w=.ok (.enter f args) w) (hg:∀ args w,(callFunc g args).run X.P w=.ok (.enter g args) w) (hidle:c6y X.P g):L7 X f (d67 CU X T ro gv F vs0 bs0 fn AL AJ):=by
 intro vs bs x bs' h hok
 unfold d67 at h
 obtain ⟨vs',e1,h⟩:=J5 h
 obtain ⟨bs2,e2,h⟩:=V4 h
 obtain ⟨hok2,eb⟩:=c59 e2 hok
 have:=d6c htab hfn (d07 T ro) hf hd hcall hg hidle vs' bs2 x bs' h hok2
 rw [e1,eb] at this
 exact this
/-- A panic goes on. -/
def pn (U:w7):V→Om:=fun v=>some (.pan (U.rn0 v),[])
/-- The first that answers. -/
def e39 (F G:E1):E1:=fun vs bs=>match F vs bs with
 | some r=>some r
 | none=>G vs bs
theorem f3j {X:Pr} {g:FuncId} {F G:E1} (hF:L7 X g F) (hG:L7 X g G):L7 X g (e39 F G):=fun vs bs x bs' h hok=>by
 unfold e39 at h
 split at h
 ·rename_i r hr
  injection h with h
  subst h
  exact hF vs bs x bs' hr hok
 ·exact hG vs bs x bs' h hok
theorem c5e {X:Pr} {g:FuncId}:L7 X g (fun _ _=>none):=fun _ _ _ _ h=>by cases h
/-- Functions, wrapped: what a table gives is looked up once. -/
structure Wr where
 f:E1
def c65 (w:Wr):E1:=Wr.rec (motive:=fun _=>E1) (fun f=>f) w
/-- A table of functions; fn: the functions that they call. -/
abbrev c85:=List (FuncId × ((FuncId→E1)→E1))
def b5r (g:FuncId):c85→Option ((FuncId→E1)→E1)
 | []=>none
 | x :: xs=>bif Nat.beq x.1 g then some x.2 else b5r g xs
/-- What the functions of a table give, run so L9. -/
def e57 (T:c85) (n:Nat):FuncId→Wr:=Nat.rec (motive:=fun _=>FuncId→Wr) (fun _=>⟨fun _ _=>none⟩) (fun _ ih g=>match b5r g T with
 | some F=>⟨F fun g=>c65 (ih g)⟩
 | none=>⟨fun _ _=>none⟩) n
theorem b8o {g:FuncId} {F:(FuncId→E1)→E1}:∀ {T:c85},b5r g T=some F→(g,F) ∈ T
 | [],h=>by cases h
 | x :: xs,h=>by
  simp only [b5r] at h
  cases hb:Nat.beq x.1 g with
  | true =>
   rw [hb] at h
   injection h with h
   rw [← h,← Nat.eq_of_beq_eq_true hb]
   exact List.mem_cons_self
  | false=>rw [hb] at h;exact List.mem_cons_of_mem _ (b8o h)
theorem d77 {X:Pr} {T:c85} (hT:∀ g F,(g,F) ∈ T→∀ fn,(∀ g,L7 X g (fn g))→L7 X g (F fn)):∀ (n:Nat) (g:FuncId),L7 X g (c65 (e57 T n g))
 | 0,g=>c5e
 | n+1,g=>by
  show L7 X g (c65 (match b5r g T with
   | some F=>⟨F fun g=>c65 (e57 T n g)⟩
   | none=>⟨fun _ _=>none⟩))
  split
  ·rename_i F hF
   exact hT g F (b8o hF) _ (d77 hT n)
  ·exact c5e
end
end Go.Proofs.YtffaodopiifbkaaGreatDoor
namespace Go.Proofs.YtffaodopiifbkaaGreatDoor
open Go.Abs
theorem c8q:c6y Tryz.prog 49:=fun v w _=>by
 have key:CallsD Tryz.prog 49 #[v] .returning w fun e u' w'=>e=.returned (.tuple #[])∧u'=.returning∧w'=w:=by
  refine callsD_of_wpS Tryz.func49 rfl fun c₀ cs hu=>?_
  apply wpS_seq
  apply wpS_region
  simp [wpOpsS,go_sem,recoverD,hu,Tryz.ntmps49,Exit.thenS]
  apply wpS_seq
  apply wpS_seq
  apply wpS_region
  simp [wpOpsS,go_sem,Exit.thenS]
  refine wpS_cond (t:=true) (by simp [Act.eval,Array.replicate]) ?_
  simp only [if_true]
  refine wpS_of_wp (wp_ret ?_)
  cases c₀
  simp_all [bodyPostS,results,Tryz.results49,Exit.thenS]
 refine key.mono ?_
 rintro e u' w' ⟨rfl,rfl,rfl⟩
 exact ⟨⟨_,rfl⟩,rfl,rfl⟩
end Go.Proofs.YtffaodopiifbkaaGreatDoor
namespace Go.Proofs.YtffaodopiifbkaaGreatDoor
open Go.Abs
noncomputable section
abbrev HG (fn:FF):Prop:=∀ g,L7 X0 g (fn g)
/-- An answer that the function's a8p bears out. -/
def b3k (g:FuncId) (vs:List V) (bs:List Bx) (v:G3) (bs':List Bx):Prop:=bs.all N9=true→CM X0.P X0.G g (vs.map toD) (bs.map G2) (a7k v) (bs'.map G2)
def l5 (g:FuncId) (sp:Sp):Prop:=∀ i vs bs,l9 (sp.A i) vs→RBs (sp.B i) bs→∃ v bs',b3k g vs bs v bs'∧m8 (sp.R i) v∧RBs (sp.B' i) bs'
abbrev Env:=List (FuncId × Sp)
def look (g:FuncId):Env→Option Sp
 | []=>none
 | x :: xs=>bif Nat.beq x.1 g then some x.2 else look g xs
inductive a82:Env→Prop
 | nil:a82 []
 | cons {g:FuncId} {sp:Sp} {E:Env}:l5 g sp→a82 E→a82 ((g,sp) :: E)
theorem a82.look {g:FuncId} {sp:Sp} {E:Env} (h:a82 E) (e:look g E=some sp):l5 g sp:=by
 induction h with
 | nil=>cases e
 | @cons g' sp' E' k _ ih =>
  simp only [YtffaodopiifbkaaGreatDoor.look] at e
  cases hb:Nat.beq g' g with
  | true=>rw [hb] at e;injection e with e;subst e;rw [← Nat.eq_of_beq_eq_true hb];exact k
  | false=>rw [hb] at e;exact ih e
open Classical in
/-- The table of what is known. -/
def c2v (E:Env):FF:=fun g vs bs=>if h:∃ p:G3 × List Bx,b3k g vs bs p.1 p.2∧∃ sp i,look g E=some sp∧l9 (sp.A i) vs∧RBs (sp.B i) bs∧m8 (sp.R i) p.1∧RBs (sp.B' i) p.2 then some (Classical.choose h) else none
theorem d9s (E:Env):HG (c2v E):=fun g vs bs x bs' h=>by
 unfold c2v at h
 split at h
 ·rename_i hc
  injection h with h
  have:=(Classical.choose_spec hc).1
  rw [h] at this
  exact this
 ·cases h
theorem d4v {E:Env} (hE:a82 E) {g:FuncId} {sp:Sp} (e:look g E=some sp):Ans (c2v E) g sp:=fun i vs bs hv hb=>by
 have hx:∃ p:G3 × List Bx,b3k g vs bs p.1 p.2∧∃ sp i,look g E=some sp∧l9 (sp.A i) vs∧RBs (sp.B i) bs∧m8 (sp.R i) p.1∧RBs (sp.B' i) p.2:=by
  obtain ⟨v,bs',h1,h2,h3⟩:=hE.look e i vs bs hv hb
  exact ⟨(v,bs'),h1,sp,i,e,hv,hb,h2,h3⟩
 obtain ⟨h1,sp',j,e',hv',hb',h2,h3⟩:=Classical.choose_spec hx
 rw [e] at e'
 injection e' with e'
 subst e'
 obtain ⟨q1,q2⟩:=sp.inj i j vs bs hv hv' hb hb'
 refine ⟨(Classical.choose hx).1,(Classical.choose hx).2,?_,q1 ▸ h2,q2 ▸ h3⟩
 unfold c2v
 rw [dif_pos hx]
theorem v7 {g:FuncId} {sp:Sp} {F:w7→FF→E1} (hF:∀ fn,HG fn→L7 X0 g (F CU fn)) (E:Env) (hE:a82 E)
  (h:∀ U fn,(∀ g sp,look g E=some sp→Ans fn g sp)→∀ i vs bs,l9 (sp.A i) vs→RBs (sp.B i) bs→j3 U (F U fn vs bs) fun v bs'=>m8 (sp.R i) v∧RBs (sp.B' i) bs'):l5 g sp:=fun i vs bs hv hb=>by
 obtain ⟨v,bs',h1,h2,h3⟩:=h CU (c2v E) (fun g sp e=>d4v hE e) i vs bs hv hb rfl
 exact ⟨v,bs',fun hok=>hF _ (d9s E) vs bs v bs' h1 hok,h2,h3⟩
theorem b4a {g:FuncId} {sp:Sp} (μ:sp.ι→Nat) (h:∀ n,l5 g (sp.lt μ n)→l5 g (sp.lt μ (n+1))):l5 g sp:=by
 have:∀ n,l5 g (sp.lt μ n):=by
  intro n
  induction n with
  | zero=>intro i;exact absurd i.2 (Nat.not_lt_zero _)
  | succ n ih=>exact h n ih
 intro i
 exact this (μ i+1) ⟨i,Nat.lt_succ_self _⟩
end
end Go.Proofs.YtffaodopiifbkaaGreatDoor
