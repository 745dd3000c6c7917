/- What is asked of the package-level variables: a table lies as its text lays it. -/
import Derived.Test.YtffaodopiifbkaaGreatDoorProg
import Derived.Lib.LaidTab
import Derived.Lib.Space
import Derived.Lib.ItoaNum
import Derived.Tactics
import Derived.Tactics2
import Derived.Recover
import Derived.Test.YtffaodopiifbkaaGreatDoorKR1
set_option linter.all false
namespace Go.Proofs.YtffaodopiifbkaaGreatDoor
open Go.Abs
theorem d63 : Tryz.prog.globalNamed "internal/strconv.uint64pow10" = some 1 := kR
theorem d9l {s:String} {g:Nat} {k:IntKind} {t:List Int} (e:Tryz.prog.globalNamed s=some g) {w:World} (h:Lib.TabIs Tryz.prog w s k t):g+1≤w.heap.size:=by
 unfold Lib.TabIs World.var? at h
 rw [e] at h
 simp only [Option.bind_some] at h
 split at h
 ·rename_i hc;exact (Array.getElem?_eq_some_iff.1 hc).1
 ·cases h
theorem c88 {s:String} {g:Nat} {k:IntKind} {t:List Int} (e:Tryz.prog.globalNamed s=some g) {N:Nat} (hN:g < N) {w w':World} (h:Lib.TabIs Tryz.prog w s k t) (hb:∀ b,b < N→w'.heap[b]?=w.heap[b]?):Lib.TabIs Tryz.prog w' s k t:=by
 unfold Lib.TabIs World.var? at h ⊢
 rw [e] at h ⊢
 simp only [Option.bind_some] at h ⊢
 rw [hb _ hN]
 exact h
def gN:Nat:=max (1+1) (0+1)
theorem d5u {w:World} {g:Nat} {v:Value} (h:w.cell? ⟨g,0,none⟩=some v):g+1≤w.heap.size:=by
 rcases Nat.lt_or_ge g w.heap.size with h1 | h1
 ·exact h1
 ·simp [World.cell?,Array.getElem?_eq_none h1] at h
theorem c8w {w w':World} {g:Nat} {v:Value} (h:w.cell? ⟨g,0,none⟩=some v) (e:w'.heap[g]?=w.heap[g]?):w'.cell? ⟨g,0,none⟩=some v:=by
 unfold World.cell? at h ⊢
 rw [e];exact h
def GG : b0h := { N := gN, pred := fun w => Lib.TabIs Tryz.prog w "internal/strconv.uint64pow10" .u64 Lib.pow10Tab ∧ ∃ m : Int, w.cell? ⟨0, 0, none⟩ = some (.int .i64 m), stable := fun _ _ h hb => ⟨c88 d63 dE h.1 hb, h.2.elim fun m hm => ⟨m, c8w hm (hb _ dE)⟩⟩, size := fun _ h => Nat.max_le.2 ⟨d9l d63 h.1, h.2.elim fun _ hm => d5u hm⟩ }
theorem d1e {w : World} (h : GG.pred w) : Lib.TabIs Tryz.prog w "internal/strconv.uint64pow10" .u64 Lib.pow10Tab := h.1
theorem e6b:Tryz.prog.follows .mixedOrders=true:=kR
theorem d92 {P : Program} {t : TypeId} {f g : Field} {k l : K3} (hu : P.underlying t = some (.struct #[f, g])) (hs : P.stoodInHeld t = false) (hg : P.eqGuardType P.depth t = false) (hf1 : f.name ≠ "_") (hf2 : f.offset = 0) (hf3 : k.is P f.type)
  (hg1 : g.name ≠ "_") (hg2 : g.offset = 1) (hg3 : l.is P g.type) : c1z P t [k, l] := by
 refine ⟨#[f,g],hu,hs,hg,rfl,fun i x y hx hy=>?_⟩
 rcases i with _ | _ | i
 ·injection hx with hx;injection hy with hy;subst hx hy;exact ⟨hf1,hf2,hf3⟩
 ·injection hx with hx;injection hy with hy;subst hx hy;exact ⟨hg1,hg2,hg3⟩
 ·simp at hy
def EQS:List (TypeId × List K3):=[(26,[.str,.str]),(32,[.int,.int])]
theorem f3r:∀ t ks,(t,ks) ∈ EQS→c1z Tryz.prog t ks:=fun t ks h=>by
 simp only [EQS,List.mem_cons,List.mem_nil_iff,or_false,Prod.mk.injEq] at h
 rcases h with ⟨rfl,rfl⟩ | ⟨rfl,rfl⟩
 ·exact d92 Tryz.underlying26 Tryz.stoodInHeld26 Tryz.eqGuardType26 dE rfl Tryz.underlying9 dE rfl Tryz.underlying9
 ·exact d92 Tryz.underlying32 Tryz.stoodInHeld32 Tryz.eqGuardType32 dE rfl ⟨.i64,kR⟩ dE rfl ⟨.i64,kR⟩
theorem f1c:∀ g F,(g,F) ∈ ([]:List (FuncId × (List D→List (List D)→Option (Bool × T6 × List (List D)))))→∀ ds hs r hs',F ds hs=some (true,r,hs')→CM Tryz.prog GG g ds hs r hs':=fun g F h=>by cases h
noncomputable def X0:Pr:={ P:=Tryz.prog,G:=GG,eqs:=EQS,eqOk:=f3r,mixed:=e6b,tab:=[],tabOk:=f1c }
/-- The body of a function. -/
def d4k (f:Func):Code:=f.body.getD .skip
/-- What a function needs. -/
def d09 (X:Pr) (L:Nat→(St→(St→Prop)→Prop)→St→Prop) (J:Nat→Option Cut) (fn:Func) (ds:List D) (hs:List (List D)) (r:T6) (hs':List (List D)):Prop :=
 vc X hs.length L J (d4k fn) 0 0 (Abs.start fn.ntmps ds hs) (fin X.P fn.results.toList hs.length [] r hs') (fun _ _=>False) (fin X.P fn.results.toList hs.length [] r hs') (fun d=>r=.pan d)
def need (X:Pr) (L:Nat→(St→(St→Prop)→Prop)→St→Prop):=d09 X L f3h
theorem f71 {X:Pr} {f:FuncId} {fn:Func} (hf:X.P.funcs[f]?=some fn) (hb:fn.body.isSome=true) (hcall:∀ args w,(callFunc f args).run X.P w=.ok (.enter f args) w) {ds:List D} {hs:List (List D)} {r:T6} {hs':List (List D)}
  {L:Nat→(St→(St→Prop)→Prop)→St→Prop} (hL:∀ p body s,L p body s→a1d hs.length body s) {J:Nat→Option Cut} (h:d09 X L J fn ds hs r hs'):CM X.P X.G f ds hs r hs':=by
 obtain ⟨c,hc⟩:=Option.isSome_iff_exists.1 hb
 refine a0n (J:=J) (gv:=[]) hf hc hcall hL ?_
 unfold d09 d4k at h
 rw [hc] at h
 exact h
theorem f75 {n:Nat}:∀ p body s,e84 p body s→a1d n body s:=fun _ _ _ h=>h.elim
theorem via {p q:Prop} (h:p=q) (hq:q):p:=h ▸ hq
abbrev FF:=FuncId→B7
abbrev LV:=List V
abbrev LB:=List Bx
abbrev TQ:=j0 Q
abbrev KJ:=List V→List Bx→Om
noncomputable section
/-- Results by their forms. -/
def c9r (U:q8) (T:FuncId→Option Sh) (ro:FuncId→Bool):Q6:=fun g bs0 v bs K=>match T g with
 | some s=>d08 U s v fun v=>cond (ro g) (U.same bs0 bs (K v none)) (Z0 U (bs0.map c4m) bs fun bs=>K v (some bs))
 | none=>cond (ro g) (U.same bs0 bs (K v none)) (Z0 U (bs0.map c4m) bs fun bs=>K v (some bs))
theorem d32 (T:FuncId→Option Sh) (ro:FuncId→Bool):a2u (c9r CU T ro):=fun g bs0 v bs K r h=>by
 have key:∀ v:V,cond (ro g) (CU.same bs0 bs (K v none)) (Z0 CU (bs0.map c4m) bs fun bs=>K v (some bs))=some r →
   (∃ bs',bs'.map x9=bs.map x9∧K v (some bs')=some r)∨(bs=bs0∧K v none=some r):=by
  intro v h
  cases hr:ro g with
  | true =>
   rw [hr] at h
   have h:cond (b4g bs0 bs) (K v none) none=some r:=h
   cases he:b4g bs0 bs with
   | true=>rw [he] at h;exact .inr ⟨(c6t he).symm,h⟩
   | false=>rw [he] at h;cases h
  | false =>
   rw [hr] at h
   obtain ⟨bs',e2,h⟩:=U6 h
   exact .inl ⟨bs',e2,h⟩
 unfold c9r at h
 split at h
 ·obtain ⟨v',e1,h⟩:=a90 h
  rcases key v' h with ⟨bs',e2,h⟩ | ⟨e2,h⟩
  ·exact .inl ⟨v',bs',e1,e2,h⟩
  ·exact .inr ⟨v',e1,e2,h⟩
 ·rcases key v h with ⟨bs',e2,h⟩ | ⟨e2,h⟩
  ·exact .inl ⟨v,bs',rfl,e2,h⟩
  ·exact .inr ⟨v,rfl,e2,h⟩
/-- A function, its arguments and O3 of these forms. -/
def d7u (U:q8) (X:Pr) (T:FuncId→Option Sh) (ro:FuncId→Bool) (gv:List (Option Nat)) (f:Func) (vs0:List Sh) (bs0:List ShB) (fn:FuncId→B7) (AL AJ:Nat→Option Ann):B7:=fun vs bs =>
 Z6 U vs0 vs fun vs=>Z0 U bs0 bs fun bs=>d7x U X fn (c9r U T ro) AL AJ gv f vs bs
theorem c7k {a b:List Bx} (h:a.map x9=b.map x9) (hb:b.all L9=true):a.all L9=true∧a.map G0=b.map G0:=by
 have ha:=b8g h.symm hb
 refine ⟨ha,?_⟩
 have hl:a.length=b.length:=by have:=congrArg List.length h;simpa using this
 apply List.ext_getElem
 ·simpa using hl
 ·intro i hi1 hi2
  simp only [List.length_map] at hi1 hi2
  simp only [List.getElem_map]
  have q1:=List.all_eq_true.1 ha _ (List.getElem_mem hi1)
  have q2:=List.all_eq_true.1 hb _ (List.getElem_mem hi2)
  have q3:(a.map x9)[i]?=(b.map x9)[i]?:=by rw [h]
  rw [List.getElem?_map,List.getElem?_map,List.getElem?_eq_getElem hi1,List.getElem?_eq_getElem hi2] at q3
  simp only [Option.map_some] at q3
  injection q3 with q3
  rw [a2b q1,a2b q2] at q3
  injection q3
theorem e41 {X:Pr} {T:FuncId→Option Sh} {ro:FuncId→Bool} {fn:FuncId→B7} (htab:X.tab=[]) (hfn:∀ g,K4 X g (fn g)) {AL AJ:Nat→Option Ann} {gv:List (Option Nat)} {f:FuncId} {F:Func} {vs0:List Sh} {bs0:List ShB} (hf:X.P.funcs[f]?=some F) (hb:F.body.isSome=true)
  (hcall:∀ args w,(callFunc f args).run X.P w=.ok (.enter f args) w):K4 X f (d7u CU X T ro gv F vs0 bs0 fn AL AJ):=by
 intro vs bs x bs' h hok
 unfold d7u at h
 obtain ⟨vs',e1,h⟩:=H2 h
 obtain ⟨bs2,e2,h⟩:=U6 h
 obtain ⟨hok2,eb⟩:=c7k e2 hok
 have:=e30 htab hfn (d32 T ro) hf hb hcall vs' bs2 x bs' h hok2
 rw [e1,eb] at this
 exact this
/-- A function with a deferred call. -/
def e01 (U:q8) (X:Pr) (T:FuncId→Option Sh) (ro:FuncId→Bool) (gv:List (Option Nat)) (f:Func) (vs0:List Sh) (bs0:List ShB) (fn:FuncId→B7) (AL AJ:Nat→Option Ann):B7:=fun vs bs =>
 Z6 U vs0 vs fun vs=>Z0 U bs0 bs fun bs=>c81 U X fn (c9r U T ro) AL AJ gv f vs bs
theorem f7w {X:Pr} {T:FuncId→Option Sh} {ro:FuncId→Bool} {fn:FuncId→B7} (htab:X.tab=[]) (hfn:∀ g,K4 X g (fn g)) {AL AJ:Nat→Option Ann} {gv:List (Option Nat)} {f g:FuncId} {F:Func} {vs0:List Sh} {bs0:List ShB} (hf:X.P.funcs[f]?=some F) (hd:c9a F=some g)
  (hcall:∀ args w,(callFunc f args).run X.P w=.ok (.enter f args) w) (hg:∀ args w,(callFunc g args).run X.P w=.ok (.enter g args) w) (hidle:c9t X.P g):K4 X f (e01 CU X T ro gv F vs0 bs0 fn AL AJ):=by
 intro vs bs x bs' h hok
 unfold e01 at h
 obtain ⟨vs',e1,h⟩:=H2 h
 obtain ⟨bs2,e2,h⟩:=U6 h
 obtain ⟨hok2,eb⟩:=c7k e2 hok
 have:=d9m htab hfn (d32 T ro) hf hd hcall hg hidle vs' bs2 x bs' h hok2
 rw [e1,eb] at this
 exact this
/-- A panic goes on. -/
def pn (U:q8):V→Om:=fun v=>some (.pan (U.rn0 v),[])
/-- The first that answers. -/
def f1w (F G:B7):B7:=fun vs bs=>match F vs bs with
 | some r=>some r
 | none=>G vs bs
theorem f70 {X:Pr} {g:FuncId} {F G:B7} (hF:K4 X g F) (hG:K4 X g G):K4 X g (f1w F G):=fun vs bs x bs' h hok=>by
 unfold f1w at h
 split at h
 ·rename_i r hr
  injection h with h
  subst h
  exact hF vs bs x bs' hr hok
 ·exact hG vs bs x bs' h hok
theorem c6o {X:Pr} {g:FuncId}:K4 X g (fun _ _=>none):=fun _ _ _ _ h=>by cases h
/-- Functions, wrapped: what a table gives is looked up once. -/
structure Wr where
 f:B7
def d0q (w:Wr):B7:=Wr.rec (motive:=fun _=>B7) (fun f=>f) w
/-- A table of functions; fn: the functions that they call. -/
abbrev d0k:=List (FuncId × ((FuncId→B7)→B7))
def b59 (g:FuncId):d0k→Option ((FuncId→B7)→B7)
 | []=>none
 | x :: xs=>bif Nat.beq x.1 g then some x.2 else b59 g xs
/-- What the functions of a table give, run so K0. -/
def e8h (T:d0k) (n:Nat):FuncId→Wr:=Nat.rec (motive:=fun _=>FuncId→Wr) (fun _=>⟨fun _ _=>none⟩) (fun _ ih g=>match b59 g T with
 | some F=>⟨F fun g=>d0q (ih g)⟩
 | none=>⟨fun _ _=>none⟩) n
theorem b9s {g:FuncId} {F:(FuncId→B7)→B7}:∀ {T:d0k},b59 g T=some F→(g,F) ∈ T
 | [],h=>by cases h
 | x :: xs,h=>by
  simp only [b59] at h
  cases hb:Nat.beq x.1 g with
  | true =>
   rw [hb] at h
   injection h with h
   rw [← h,← Nat.eq_of_beq_eq_true hb]
   exact List.mem_cons_self
  | false=>rw [hb] at h;exact List.mem_cons_of_mem _ (b9s h)
theorem e5e {X:Pr} {T:d0k} (hT:∀ g F,(g,F) ∈ T→∀ fn,(∀ g,K4 X g (fn g))→K4 X g (F fn)):∀ (n:Nat) (g:FuncId),K4 X g (d0q (e8h T n g))
 | 0,g=>c6o
 | n+1,g=>by
  show K4 X g (d0q (match b59 g T with
   | some F=>⟨F fun g=>d0q (e8h T n g)⟩
   | none=>⟨fun _ _=>none⟩))
  split
  ·rename_i F hF
   exact hT g F (b9s hF) _ (e5e hT n)
  ·exact c6o
end
theorem d0w:c9t Tryz.prog 49:=fun v w _=>by
 have key:CallsD Tryz.prog 49 #[v] .returning w fun e u' w'=>e=.returned (.tuple #[])∧u'=.returning∧w'=w:=by
  refine callsD_of_wpS Tryz.func49 rfl fun c₀ cs hu=>?_
  apply wpS_seq
  apply wpS_region
  simp [wpOpsS,go_sem,recoverD,hu,Tryz.ntmps49,Exit.thenS]
  apply wpS_seq
  apply wpS_seq
  apply wpS_region
  simp [wpOpsS,go_sem,Exit.thenS]
  refine wpS_cond (t:=true) (by simp [Act.eval,Array.replicate]) ?_
  simp only [if_true]
  refine wpS_of_wp (wp_ret ?_)
  cases c₀
  simp_all [bodyPostS,results,Tryz.results49,Exit.thenS]
 refine key.mono ?_
 rintro e u' w' ⟨rfl,rfl,rfl⟩
 exact ⟨⟨_,rfl⟩,rfl,rfl⟩
end Go.Proofs.YtffaodopiifbkaaGreatDoor
namespace Go.Proofs.YtffaodopiifbkaaGreatDoor
open Go.Abs
noncomputable section
abbrev HG (fn:FF):Prop:=∀ g,K4 X0 g (fn g)
/-- An answer that the function's a0n bears out. -/
def c4t (g:FuncId) (vs:List V) (bs:List Bx) (v:H6) (bs':List Bx):Prop:=bs.all L9=true→CM X0.P X0.G g (vs.map toD) (bs.map G0) (b0m v) (bs'.map G0)
def j5 (g:FuncId) (sp:Sp):Prop:=∀ i vs bs,j6 (sp.A i) vs→g9 (sp.B i) bs→∃ v bs',c4t g vs bs v bs'∧j7 (sp.R i) v∧g9 (sp.B' i) bs'
abbrev Env:=List (FuncId × Sp)
def look (g:FuncId):Env→Option Sp
 | []=>none
 | x :: xs=>bif Nat.beq x.1 g then some x.2 else look g xs
inductive a88:Env→Prop
 | nil:a88 []
 | cons {g:FuncId} {sp:Sp} {E:Env}:j5 g sp→a88 E→a88 ((g,sp) :: E)
theorem a88.look {g:FuncId} {sp:Sp} {E:Env} (h:a88 E) (e:look g E=some sp):j5 g sp:=by
 induction h with
 | nil=>cases e
 | @cons g' sp' E' k _ ih =>
  simp only [YtffaodopiifbkaaGreatDoor.look] at e
  cases hb:Nat.beq g' g with
  | true=>rw [hb] at e;injection e with e;subst e;rw [← Nat.eq_of_beq_eq_true hb];exact k
  | false=>rw [hb] at e;exact ih e
open Classical in
/-- The table of what is known. -/
def c2p (E:Env):FF:=fun g vs bs=>if h:∃ p:H6 × List Bx,c4t g vs bs p.1 p.2∧∃ sp i,look g E=some sp∧j6 (sp.A i) vs∧g9 (sp.B i) bs∧j7 (sp.R i) p.1∧g9 (sp.B' i) p.2 then some (Classical.choose h) else none
theorem e3v (E:Env):HG (c2p E):=fun g vs bs x bs' h=>by
 unfold c2p at h
 split at h
 ·rename_i hc
  injection h with h
  have:=(Classical.choose_spec hc).1
  rw [h] at this
  exact this
 ·cases h
theorem d5f {E:Env} (hE:a88 E) {g:FuncId} {sp:Sp} (e:look g E=some sp):Ans (c2p E) g sp:=fun i vs bs hv hb=>by
 have hx:∃ p:H6 × List Bx,c4t g vs bs p.1 p.2∧∃ sp i,look g E=some sp∧j6 (sp.A i) vs∧g9 (sp.B i) bs∧j7 (sp.R i) p.1∧g9 (sp.B' i) p.2:=by
  obtain ⟨v,bs',h1,h2,h3⟩:=hE.look e i vs bs hv hb
  exact ⟨(v,bs'),h1,sp,i,e,hv,hb,h2,h3⟩
 obtain ⟨h1,sp',j,e',hv',hb',h2,h3⟩:=Classical.choose_spec hx
 rw [e] at e'
 injection e' with e'
 subst e'
 obtain ⟨q1,q2⟩:=sp.inj i j vs bs hv hv' hb hb'
 refine ⟨(Classical.choose hx).1,(Classical.choose hx).2,?_,q1 ▸ h2,q2 ▸ h3⟩
 unfold c2p
 rw [dif_pos hx]
theorem k8 {g:FuncId} {sp:Sp} {F:q8→FF→B7} (hF:∀ fn,HG fn→K4 X0 g (F CU fn)) (E:Env) (hE:a88 E)
  (h:∀ U fn,(∀ g sp,look g E=some sp→Ans fn g sp)→∀ i vs bs,j6 (sp.A i) vs→g9 (sp.B i) bs→g8 U (F U fn vs bs) fun v bs'=>j7 (sp.R i) v∧g9 (sp.B' i) bs'):j5 g sp:=fun i vs bs hv hb=>by
 obtain ⟨v,bs',h1,h2,h3⟩:=h CU (c2p E) (fun g sp e=>d5f hE e) i vs bs hv hb rfl
 exact ⟨v,bs',fun hok=>hF _ (e3v E) vs bs v bs' h1 hok,h2,h3⟩
theorem Q0 {g:FuncId} {sp:Sp} (μ:sp.ι→Nat) (h:∀ n,j5 g (sp.lt μ n)→j5 g (sp.lt μ (n+1))):j5 g sp:=by
 have:∀ n,j5 g (sp.lt μ n):=by
  intro n
  induction n with
  | zero=>intro i;exact absurd i.2 (Nat.not_lt_zero _)
  | succ n ih=>exact h n ih
 intro i
 exact this (μ i+1) ⟨i,Nat.lt_succ_self _⟩
end
end Go.Proofs.YtffaodopiifbkaaGreatDoor
