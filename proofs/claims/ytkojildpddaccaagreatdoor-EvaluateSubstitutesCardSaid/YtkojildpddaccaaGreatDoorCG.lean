/- What is asked of the package-level variables: a table lies as its text lays it. -/
import Derived.Test.YtkojildpddaccaaGreatDoorProg
import Derived.Lib.LaidTab
import Derived.Lib.Space
import Derived.Lib.ItoaNum
import Derived.Tactics
import Derived.Tactics2
import Derived.Recover
import Derived.Test.YtkojildpddaccaaGreatDoorCR1
set_option linter.all false
namespace Go.Proofs.YtkojildpddaccaaGreatDoor
open Go.Abs
theorem e26 : Tryz.prog.globalNamed "internal/strconv.uint64pow10" = some 0 := kR
theorem e4d {s:String} {g:Nat} {k:IntKind} {t:List Int} (e:Tryz.prog.globalNamed s=some g) {w:World} (h:Lib.TabIs Tryz.prog w s k t):g+1≤w.heap.size:=by
 unfold Lib.TabIs World.var? at h;rw [e] at h;simp only [Option.bind_some] at h;split at h
 ·rename_i hc;exact (Array.getElem?_eq_some_iff.1 hc).1
 ·cases h
theorem d41 {s:String} {g:Nat} {k:IntKind} {t:List Int} (e:Tryz.prog.globalNamed s=some g) {N:Nat} (hN:g < N) {w w':World} (h:Lib.TabIs Tryz.prog w s k t) (hb:∀ b,b < N→w'.heap[b]?=w.heap[b]?):Lib.TabIs Tryz.prog w' s k t:=by
 unfold Lib.TabIs World.var? at h ⊢;rw [e] at h ⊢;simp only [Option.bind_some] at h ⊢;rw [hb _ hN];exact h
def gN:Nat:=0+1
def GG : c0e := { N := gN, pred := fun w => Lib.TabIs Tryz.prog w "internal/strconv.uint64pow10" .u64 Lib.pow10Tab ∧ True, stable := fun _ _ h hb => ⟨d41 e26 dE h.1 hb, trivial⟩, size := fun _ h => e4d e26 h.1 }
theorem c72 {w : World} (h : GG.pred w) : Lib.TabIs Tryz.prog w "internal/strconv.uint64pow10" .u64 Lib.pow10Tab := h.1
theorem f49:Tryz.prog.follows .mixedOrders=true:=kR
theorem e5g {P : Program} {t : TypeId} {f g : Field} {k l : K3} (hu : P.underlying t = some (.struct #[f, g])) (hs : P.stoodInHeld t = false) (hg : P.eqGuardType P.depth t = false) (hf1 : f.name ≠ "_") (hf2 : f.offset = 0) (hf3 : k.is P f.type)
  (hg1 : g.name ≠ "_") (hg2 : g.offset = 1) (hg3 : l.is P g.type) : a6g P t [k, l] := by
 refine ⟨#[f,g],hu,hs,hg,rfl,fun i x y hx hy=>?_⟩;rcases i with _ | _ | i
 ·injection hx with hx;injection hy with hy;subst hx hy;exact ⟨hf1,hf2,hf3⟩
 ·injection hx with hx;injection hy with hy;subst hx hy;exact ⟨hg1,hg2,hg3⟩
 ·simp at hy
def EQS:List (TypeId × List K3):=[(33,[.str,.str]),(98,[.int,.int])]
theorem g4b:∀ t ks,(t,ks) ∈ EQS→a6g Tryz.prog t ks:=fun t ks h=>by
 simp only [EQS,List.mem_cons,List.mem_nil_iff,or_false,Prod.mk.injEq] at h;rcases h with ⟨rfl,rfl⟩ | ⟨rfl,rfl⟩
 ·exact e5g Tryz.underlying33 Tryz.stoodInHeld33 Tryz.eqGuardType33 dE rfl Tryz.underlying9 dE rfl Tryz.underlying9
 ·exact e5g Tryz.underlying98 Tryz.stoodInHeld98 Tryz.eqGuardType98 dE rfl ⟨.i64,kR⟩ dE rfl ⟨.i64,kR⟩
theorem g08:∀ g F,(g,F) ∈ ([]:List (FuncId × (List D→List (List D)→Option (Bool × Res × List (List D)))))→∀ ds hs r hs',F ds hs=some (true,r,hs')→CM Tryz.prog GG g ds hs r hs':=fun g F h=>by cases h
noncomputable def X0:Pr:={ P:=Tryz.prog,G:=GG,eqs:=EQS,eqOk:=g4b,mixed:=f49,tab:=[],tabOk:=g08 }
/-- The body of a function. -/
def d5j (f:Func):Code:=f.body.getD .skip
/-- What a function needs. -/
def d39 (X:Pr) (L:Nat→(St→(St→Prop)→Prop)→St→Prop) (J:Nat→Option Cut) (fn:Func) (ds:List D) (hs:List (List D)) (r:Res) (hs':List (List D)):Prop :=
 vc X hs.length L J (d5j fn) 0 0 (Abs.start fn.ntmps ds hs) (fin X.P fn.results.toList hs.length [] r hs') (fun _ _=>False) (fin X.P fn.results.toList hs.length [] r hs') (fun d=>r=.pan d)
def need (X:Pr) (L:Nat→(St→(St→Prop)→Prop)→St→Prop):=d39 X L g40
theorem h1l {X:Pr} {f:FuncId} {fn:Func} (hf:X.P.funcs[f]?=some fn) (hb:fn.body.isSome=true) (hcall:∀ args w,(callFunc f args).run X.P w=.ok (.enter f args) w) {ds:List D} {hs:List (List D)} {r:Res} {hs':List (List D)}
  {L:Nat→(St→(St→Prop)→Prop)→St→Prop} (hL:∀ p body s,L p body s→a2g hs.length body s) {J:Nat→Option Cut} (h:d39 X L J fn ds hs r hs'):CM X.P X.G f ds hs r hs':=by
 obtain ⟨c,hc⟩:=Option.isSome_iff_exists.1 hb;refine a3c (J:=J) (gv:=[]) hf hc hcall hL ?_;unfold d39 d5j at h;rw [hc] at h;exact h
theorem h1k {n:Nat}:∀ p body s,f5e p body s→a2g n body s:=fun _ _ _ h=>h.elim
theorem via {p q:Prop} (h:p=q) (hq:q):p:=h ▸ hq
abbrev FF:=FuncId→F3
abbrev LV:=List V
abbrev LB:=List Bx
abbrev TQ:=u1 Q
abbrev KJ:=List V→List Bx→Om
noncomputable section
/-- Results by their forms. -/
def d28 (U:C3) (T:FuncId→Option Sh) (ro:FuncId→Bool):V9:=fun g bs0 v bs K=>match T g with
 | some s=>d21 U s v fun v=>cond (ro g) (U.same bs0 bs (K v none)) (a07 U (bs0.map c8o) bs fun bs=>K v (some bs))
 | none=>cond (ro g) (U.same bs0 bs (K v none)) (a07 U (bs0.map c8o) bs fun bs=>K v (some bs))
theorem d5o (T:FuncId→Option Sh) (ro:FuncId→Bool):a4a (d28 CU T ro):=fun g bs0 v bs K r h=>by
 have key:∀ v:V,cond (ro g) (CU.same bs0 bs (K v none)) (a07 CU (bs0.map c8o) bs fun bs=>K v (some bs))=some r →
   (∃ bs',bs'.map D4=bs.map D4∧K v (some bs')=some r)∨(bs=bs0∧K v none=some r):=by
  intro v h;cases hr:ro g with
  | true =>
   rw [hr] at h;have h:cond (b6m bs0 bs) (K v none) none=some r:=h;cases he:b6m bs0 bs with
   | true=>rw [he] at h;exact .inr ⟨(d0u he).symm,h⟩
   | false=>rw [he] at h;cases h
  | false =>
   rw [hr] at h;obtain ⟨bs',e2,h⟩:=Z5 h;exact .inl ⟨bs',e2,h⟩
 unfold d28 at h;split at h
 ·obtain ⟨v',e1,h⟩:=b2j h;rcases key v' h with ⟨bs',e2,h⟩ | ⟨e2,h⟩
  ·exact .inl ⟨v',bs',e1,e2,h⟩
  ·exact .inr ⟨v',e1,e2,h⟩
 ·rcases key v h with ⟨bs',e2,h⟩ | ⟨e2,h⟩
  ·exact .inl ⟨v,bs',rfl,e2,h⟩
  ·exact .inr ⟨v,rfl,e2,h⟩
/-- A function, its arguments and T0 of these forms. -/
def d4t (U:C3) (X:Pr) (T:FuncId→Option Sh) (ro:FuncId→Bool) (gv:List (Option Nat)) (f:Func) (vs0:List Sh) (bs0:List ShB) (fn:FuncId→F3) (AL AJ:Nat→Option Ann):F3:=fun vs bs =>
 a1q U vs0 vs fun vs=>a07 U bs0 bs fun bs=>e1r U X fn (d28 U T ro) AL AJ gv f vs bs
theorem d0m {a b:List Bx} (h:a.map D4=b.map D4) (hb:b.all L2=true):a.all L2=true∧a.map K1=b.map K1:=by
 have ha:=c15 h.symm hb;refine ⟨ha,?_⟩;have hl:a.length=b.length:=by have:=congrArg List.length h;simpa using this
 apply List.ext_getElem
 ·simpa using hl
 ·intro i hi1 hi2;simp only [List.length_map] at hi1 hi2;simp only [List.getElem_map];have q1:=List.all_eq_true.1 ha _ (List.getElem_mem hi1);have q2:=List.all_eq_true.1 hb _ (List.getElem_mem hi2);have q3:(a.map D4)[i]?=(b.map D4)[i]?:=by rw [h]
  rw [List.getElem?_map,List.getElem?_map,List.getElem?_eq_getElem hi1,List.getElem?_eq_getElem hi2] at q3;simp only [Option.map_some] at q3;injection q3 with q3;have q4:a7a (D4 a[i])=a7a (D4 b[i]):=by rw [q3]
  rw [a3o q1,a3o q2] at q4;injection q4
theorem f1j {X:Pr} {T:FuncId→Option Sh} {ro:FuncId→Bool} {fn:FuncId→F3} (htab:X.tab=[]) (hfn:∀ g,G8 X g (fn g)) {AL AJ:Nat→Option Ann} {gv:List (Option Nat)} {f:FuncId} {F:Func} {vs0:List Sh} {bs0:List ShB} (hf:X.P.funcs[f]?=some F) (hb:F.body.isSome=true)
  (hcall:∀ args w,(callFunc f args).run X.P w=.ok (.enter f args) w):G8 X f (d4t CU X T ro gv F vs0 bs0 fn AL AJ):=by
 intro vs bs x bs' h hok;unfold d4t at h;obtain ⟨vs',e1,h⟩:=M3 h;obtain ⟨bs2,e2,h⟩:=Z5 h;obtain ⟨hok2,eb⟩:=d0m e2 hok;have:=e7d htab hfn (d5o T ro) hf hb hcall vs' bs2 x bs' h hok2;rw [e1,eb] at this;exact this
/-- A function with a deferred call. -/
def e51 (U:C3) (X:Pr) (T:FuncId→Option Sh) (ro:FuncId→Bool) (gv:List (Option Nat)) (f:Func) (vs0:List Sh) (bs0:List ShB) (fn:FuncId→F3) (AL AJ:Nat→Option Ann):F3:=fun vs bs =>
 a1q U vs0 vs fun vs=>a07 U bs0 bs fun bs=>d3q U X fn (d28 U T ro) AL AJ gv f vs bs
theorem g9q {X:Pr} {T:FuncId→Option Sh} {ro:FuncId→Bool} {fn:FuncId→F3} (htab:X.tab=[]) (hfn:∀ g,G8 X g (fn g)) {AL AJ:Nat→Option Ann} {gv:List (Option Nat)} {f g:FuncId} {F:Func} {vs0:List Sh} {bs0:List ShB} (hf:X.P.funcs[f]?=some F) (hd:d3j F=some g)
  (hcall:∀ args w,(callFunc f args).run X.P w=.ok (.enter f args) w) (hg:∀ args w,(callFunc g args).run X.P w=.ok (.enter g args) w) (hidle:e00 X.P g):G8 X f (e51 CU X T ro gv F vs0 bs0 fn AL AJ):=by
 intro vs bs x bs' h hok;unfold e51 at h;obtain ⟨vs',e1,h⟩:=M3 h;obtain ⟨bs2,e2,h⟩:=Z5 h;obtain ⟨hok2,eb⟩:=d0m e2 hok;have:=e1s htab hfn (d5o T ro) hf hd hcall hg hidle vs' bs2 x bs' h hok2;rw [e1,eb] at this;exact this
/-- A panic goes on. -/
def pn (U:C3):V→Om:=fun v=>some (.pan (U.rn0 v),[])
/-- The first that answers. -/
def f2t (F G:F3):F3:=fun vs bs=>match F vs bs with
 | some r=>some r
 | none=>G vs bs
theorem h1j {X:Pr} {g:FuncId} {F G:F3} (hF:G8 X g F) (hG:G8 X g G):G8 X g (f2t F G):=fun vs bs x bs' h hok=>by
 unfold f2t at h;split at h
 ·rename_i r hr;injection h with h;subst h;exact hF vs bs x bs' hr hok
 ·exact hG vs bs x bs' h hok
theorem d1d {X:Pr} {g:FuncId}:G8 X g (fun _ _=>none):=fun _ _ _ _ h=>by cases h
/-- Functions, wrapped: what a table gives is looked up once. -/
structure Wr where
 f:F3
def a4s (w:Wr):F3:=Wr.rec (motive:=fun _=>F3) (fun f=>f) w
/-- A table of functions; fn: the functions that they call. -/
abbrev a28:=List (FuncId × ((FuncId→F3)→F3))
def a7t (g:FuncId):a28→Option ((FuncId→F3)→F3)
 | []=>none
 | x :: xs=>bif Nat.beq x.1 g then some x.2 else a7t g xs
/-- What the functions of a table give, run so E8. -/
def b1f (T:a28) (n:Nat):FuncId→Wr:=Nat.rec (motive:=fun _=>FuncId→Wr) (fun _=>⟨fun _ _=>none⟩) (fun _ ih g=>match a7t g T with
 | some F=>⟨F fun g=>a4s (ih g)⟩
 | none=>⟨fun _ _=>none⟩) n
theorem c2w {g:FuncId} {F:(FuncId→F3)→F3}:∀ {T:a28},a7t g T=some F→(g,F) ∈ T
 | [],h=>by cases h
 | x :: xs,h=>by
  simp only [a7t] at h;cases hb:Nat.beq x.1 g with
  | true =>
   rw [hb] at h;injection h with h;rw [← h,← Nat.eq_of_beq_eq_true hb];exact List.mem_cons_self
  | false=>rw [hb] at h;exact List.mem_cons_of_mem _ (c2w h)
theorem b44 {X:Pr} {T:a28} (hT:∀ g F,(g,F) ∈ T→∀ fn,(∀ g,G8 X g (fn g))→G8 X g (F fn)):∀ (n:Nat) (g:FuncId),G8 X g (a4s (b1f T n g))
 | 0,g=>d1d
 | n+1,g=>by
  show G8 X g (a4s (match a7t g T with
   | some F=>⟨F fun g=>a4s (b1f T n g)⟩
   | none=>⟨fun _ _=>none⟩))
  split
  ·rename_i F hF;exact hT g F (c2w hF) _ (b44 hT n)
  ·exact d1d
end
end Go.Proofs.YtkojildpddaccaaGreatDoor
namespace Go.Proofs.YtkojildpddaccaaGreatDoor
open Go.Abs
noncomputable section
abbrev HG (fn:FF):Prop:=∀ g,G8 X0 g (fn g)
/-- An answer that the function's a3c bears out. -/
def e0z (g:FuncId) (vs:List V) (bs:List Bx) (v:K0) (bs':List Bx):Prop:=bs.all L2=true→CM X0.P X0.G g (vs.map toD) (bs.map K1) (b3h v) (bs'.map K1)
def v8 (g:FuncId) (sp:Sp):Prop:=∀ i vs bs,z7 (sp.A i) vs→u0 (sp.B i) bs→∃ v bs',e0z g vs bs v bs'∧A3 (sp.R i) v∧u0 (sp.B' i) bs'
abbrev Env:=List (FuncId × Sp)
def look (g:FuncId):Env→Option Sp
 | []=>none
 | x :: xs=>bif Nat.beq x.1 g then some x.2 else look g xs
inductive b0b:Env→Prop
 | nil:b0b []
 | cons {g:FuncId} {sp:Sp} {E:Env}:v8 g sp→b0b E→b0b ((g,sp) :: E)
theorem b0b.look {g:FuncId} {sp:Sp} {E:Env} (h:b0b E) (e:look g E=some sp):v8 g sp:=by
 induction h with
 | nil=>cases e
 | @cons g' sp' E' k _ ih =>
  simp only [YtkojildpddaccaaGreatDoor.look] at e;cases hb:Nat.beq g' g with
  | true=>rw [hb] at e;injection e with e;subst e;rw [← Nat.eq_of_beq_eq_true hb];exact k
  | false=>rw [hb] at e;exact ih e
open Classical in
/-- The table of what is known. -/
def c6v (E:Env):FF:=fun g vs bs=>if h:∃ p:K0 × List Bx,e0z g vs bs p.1 p.2∧∃ sp i,look g E=some sp∧z7 (sp.A i) vs∧u0 (sp.B i) bs∧A3 (sp.R i) p.1∧u0 (sp.B' i) p.2 then some (Classical.choose h) else none
theorem e7k (E:Env):HG (c6v E):=fun g vs bs x bs' h=>by
 unfold c6v at h;split at h
 ·rename_i hc;injection h with h;have:=(Classical.choose_spec hc).1;rw [h] at this;exact this
 ·cases h
theorem e10 {E:Env} (hE:b0b E) {g:FuncId} {sp:Sp} (e:look g E=some sp):Ans (c6v E) g sp:=fun i vs bs hv hb=>by
 have hx:∃ p:K0 × List Bx,e0z g vs bs p.1 p.2∧∃ sp i,look g E=some sp∧z7 (sp.A i) vs∧u0 (sp.B i) bs∧A3 (sp.R i) p.1∧u0 (sp.B' i) p.2:=by
  obtain ⟨v,bs',h1,h2,h3⟩:=hE.look e i vs bs hv hb;exact ⟨(v,bs'),h1,sp,i,e,hv,hb,h2,h3⟩
 obtain ⟨h1,sp',j,e',hv',hb',h2,h3⟩:=Classical.choose_spec hx;rw [e] at e';injection e' with e';subst e';obtain ⟨q1,q2⟩:=sp.inj i j vs bs hv hv' hb hb';refine ⟨(Classical.choose hx).1,(Classical.choose hx).2,?_,q1 ▸ h2,q2 ▸ h3⟩;unfold c6v;rw [dif_pos hx]
theorem A8 {g:FuncId} {sp:Sp} {F:C3→FF→F3} (hF:∀ fn,HG fn→G8 X0 g (F CU fn)) (E:Env) (hE:b0b E)
  (h:∀ U fn,(∀ g sp,look g E=some sp→Ans fn g sp)→∀ i vs bs,z7 (sp.A i) vs→u0 (sp.B i) bs→t6 U (F U fn vs bs) fun v bs'=>A3 (sp.R i) v∧u0 (sp.B' i) bs'):v8 g sp:=fun i vs bs hv hb=>by
 obtain ⟨v,bs',h1,h2,h3⟩:=h CU (c6v E) (fun g sp e=>e10 hE e) i vs bs hv hb rfl;exact ⟨v,bs',fun hok=>hF _ (e7k E) vs bs v bs' h1 hok,h2,h3⟩
theorem Y2 {g:FuncId} {sp:Sp} (μ:sp.ι→Nat) (h:∀ n,v8 g (sp.lt μ n)→v8 g (sp.lt μ (n+1))):v8 g sp:=by
 have:∀ n,v8 g (sp.lt μ n):=by
  intro n
  induction n with
  | zero=>intro i;exact absurd i.2 (Nat.not_lt_zero _)
  | succ n ih=>exact h n ih
 intro i;exact this (μ i+1) ⟨i,Nat.lt_succ_self _⟩
end
end Go.Proofs.YtkojildpddaccaaGreatDoor
