/- What is asked of the package-level variables: a table lies as its text lays it. -/
import Derived.Test.YtffaodopiifbkaaGreatDoorProg
import Derived.Lib.LaidTab
import Derived.Lib.Space
import Derived.Lib.ItoaNum
import Derived.Tactics
import Derived.Tactics2
import Derived.Recover
import Derived.Test.YtffaodopiifbkaaGreatDoorCR1
set_option linter.all false
namespace Go.Proofs.YtffaodopiifbkaaGreatDoor
open Go.Abs
theorem e4i : Tryz.prog.globalNamed "internal/strconv.uint64pow10" = some 1 := kR
theorem e4o {s:String} {g:Nat} {k:IntKind} {t:List Int} (e:Tryz.prog.globalNamed s=some g) {w:World} (h:Lib.TabIs Tryz.prog w s k t):g+1≤w.heap.size:=by
 unfold Lib.TabIs World.var? at h
 rw [e] at h
 simp only [Option.bind_some] at h
 split at h
 ·rename_i hc;exact (Array.getElem?_eq_some_iff.1 hc).1
 ·cases h
theorem d5d {s:String} {g:Nat} {k:IntKind} {t:List Int} (e:Tryz.prog.globalNamed s=some g) {N:Nat} (hN:g < N) {w w':World} (h:Lib.TabIs Tryz.prog w s k t) (hb:∀ b,b < N→w'.heap[b]?=w.heap[b]?):Lib.TabIs Tryz.prog w' s k t:=by
 unfold Lib.TabIs World.var? at h ⊢
 rw [e] at h ⊢
 simp only [Option.bind_some] at h ⊢
 rw [hb _ hN]
 exact h
def gN:Nat:=max (1+1) (0+1)
theorem d90 {w:World} {g:Nat} {v:Value} (h:w.cell? ⟨g,0,none⟩=some v):g+1≤w.heap.size:=by
 rcases Nat.lt_or_ge g w.heap.size with h1 | h1
 ·exact h1
 ·simp [World.cell?,Array.getElem?_eq_none h1] at h
theorem d3c {w w':World} {g:Nat} {v:Value} (h:w.cell? ⟨g,0,none⟩=some v) (e:w'.heap[g]?=w.heap[g]?):w'.cell? ⟨g,0,none⟩=some v:=by
 unfold World.cell? at h ⊢
 rw [e];exact h
def GG : b27 := { N := gN, pred := fun w => Lib.TabIs Tryz.prog w "internal/strconv.uint64pow10" .u64 Lib.pow10Tab ∧ ∃ m : Int, w.cell? ⟨0, 0, none⟩ = some (.int .i64 m), stable := fun _ _ h hb => ⟨d5d e4i dE h.1 hb, h.2.elim fun m hm => ⟨m, d3c hm (hb _ dE)⟩⟩, size := fun _ h => Nat.max_le.2 ⟨e4o e4i h.1, h.2.elim fun _ hm => d90 hm⟩ }
theorem d68 {w : World} (h : GG.pred w) : Lib.TabIs Tryz.prog w "internal/strconv.uint64pow10" .u64 Lib.pow10Tab := h.1
theorem f6k:Tryz.prog.follows .mixedOrders=true:=kR
theorem e5f {P : Program} {t : TypeId} {f g : Field} {k l : K3} (hu : P.underlying t = some (.struct #[f, g])) (hs : P.stoodInHeld t = false) (hg : P.eqGuardType P.depth t = false) (hf1 : f.name ≠ "_") (hf2 : f.offset = 0) (hf3 : k.is P f.type)
  (hg1 : g.name ≠ "_") (hg2 : g.offset = 1) (hg3 : l.is P g.type) : c5c P t [k, l] := by
 refine ⟨#[f,g],hu,hs,hg,rfl,fun i x y hx hy=>?_⟩
 rcases i with _ | _ | i
 ·injection hx with hx;injection hy with hy;subst hx hy;exact ⟨hf1,hf2,hf3⟩
 ·injection hx with hx;injection hy with hy;subst hx hy;exact ⟨hg1,hg2,hg3⟩
 ·simp at hy
def EQS:List (TypeId × List K3):=[(26,[.str,.str]),(32,[.int,.int])]
theorem f80:∀ t ks,(t,ks) ∈ EQS→c5c Tryz.prog t ks:=fun t ks h=>by
 simp only [EQS,List.mem_cons,List.mem_nil_iff,or_false,Prod.mk.injEq] at h
 rcases h with ⟨rfl,rfl⟩ | ⟨rfl,rfl⟩
 ·exact e5f Tryz.underlying26 Tryz.stoodInHeld26 Tryz.eqGuardType26 dE rfl Tryz.underlying9 dE rfl Tryz.underlying9
 ·exact e5f Tryz.underlying32 Tryz.stoodInHeld32 Tryz.eqGuardType32 dE rfl ⟨.i64,kR⟩ dE rfl ⟨.i64,kR⟩
theorem f43:∀ g F,(g,F) ∈ ([]:List (FuncId × (List D→List (List D)→Option (Bool × V1 × List (List D)))))→∀ ds hs r hs',F ds hs=some (true,r,hs')→CM Tryz.prog GG g ds hs r hs':=fun g F h=>by cases h
noncomputable def X0:Pr:={ P:=Tryz.prog,G:=GG,eqs:=EQS,eqOk:=f80,mixed:=f6k,tab:=[],tabOk:=f43 }
/-- The body of a function. -/
def d80 (f:Func):Code:=f.body.getD .skip
/-- What a function needs. -/
def d3b (X:Pr) (L:Nat→(St→(St→Prop)→Prop)→St→Prop) (J:Nat→Option Cut) (fn:Func) (ds:List D) (hs:List (List D)) (r:V1) (hs':List (List D)):Prop :=
 vc X hs.length L J (d80 fn) 0 0 (Abs.start fn.ntmps ds hs) (fin X.P fn.results.toList hs.length [] r hs') (fun _ _=>False) (fin X.P fn.results.toList hs.length [] r hs') (fun d=>r=.pan d)
def need (X:Pr) (L:Nat→(St→(St→Prop)→Prop)→St→Prop):=d3b X L f79
theorem g2v {X:Pr} {f:FuncId} {fn:Func} (hf:X.P.funcs[f]?=some fn) (hb:fn.body.isSome=true) (hcall:∀ args w,(callFunc f args).run X.P w=.ok (.enter f args) w) {ds:List D} {hs:List (List D)} {r:V1} {hs':List (List D)}
  {L:Nat→(St→(St→Prop)→Prop)→St→Prop} (hL:∀ p body s,L p body s→a2r hs.length body s) {J:Nat→Option Cut} (h:d3b X L J fn ds hs r hs'):CM X.P X.G f ds hs r hs':=by
 obtain ⟨c,hc⟩:=Option.isSome_iff_exists.1 hb
 refine a13 (J:=J) (gv:=[]) hf hc hcall hL ?_
 unfold d3b d80 at h
 rw [hc] at h
 exact h
theorem g2t {n:Nat}:∀ p body s,f50 p body s→a2r n body s:=fun _ _ _ h=>h.elim
theorem via {p q:Prop} (h:p=q) (hq:q):p:=h ▸ hq
abbrev FF:=FuncId→E5
abbrev LV:=List V
abbrev LB:=List Bx
abbrev TQ:=j9 Q
abbrev KJ:=List V→List Bx→Om
noncomputable section
/-- Results by their forms. -/
def d33 (U:x5) (T:FuncId→Option Sh) (ro:FuncId→Bool):U7:=fun g bs0 v bs K=>match T g with
 | some s=>d4g U s v fun v=>cond (ro g) (U.same bs0 bs (K v none)) (a1f U (bs0.map c7w) bs fun bs=>K v (some bs))
 | none=>cond (ro g) (U.same bs0 bs (K v none)) (a1f U (bs0.map c7w) bs fun bs=>K v (some bs))
theorem d6e (T:FuncId→Option Sh) (ro:FuncId→Bool):a40 (d33 CU T ro):=fun g bs0 v bs K r h=>by
 have key:∀ v:V,cond (ro g) (CU.same bs0 bs (K v none)) (a1f CU (bs0.map c7w) bs fun bs=>K v (some bs))=some r →
   (∃ bs',bs'.map C3=bs.map C3∧K v (some bs')=some r)∨(bs=bs0∧K v none=some r):=by
  intro v h
  cases hr:ro g with
  | true =>
   rw [hr] at h
   have h:cond (b6e bs0 bs) (K v none) none=some r:=h
   cases he:b6e bs0 bs with
   | true=>rw [he] at h;exact .inr ⟨(d1w he).symm,h⟩
   | false=>rw [he] at h;cases h
  | false =>
   rw [hr] at h
   obtain ⟨bs',e2,h⟩:=Z3 h
   exact .inl ⟨bs',e2,h⟩
 unfold d33 at h
 split at h
 ·obtain ⟨v',e1,h⟩:=b2j h
  rcases key v' h with ⟨bs',e2,h⟩ | ⟨e2,h⟩
  ·exact .inl ⟨v',bs',e1,e2,h⟩
  ·exact .inr ⟨v',e1,e2,h⟩
 ·rcases key v h with ⟨bs',e2,h⟩ | ⟨e2,h⟩
  ·exact .inl ⟨v,bs',rfl,e2,h⟩
  ·exact .inr ⟨v,rfl,e2,h⟩
/-- A function, its arguments and S4 of these forms. -/
def e3c (U:x5) (X:Pr) (T:FuncId→Option Sh) (ro:FuncId→Bool) (gv:List (Option Nat)) (f:Func) (vs0:List Sh) (bs0:List ShB) (fn:FuncId→E5) (AL AJ:Nat→Option Ann):E5:=fun vs bs =>
 a1s U vs0 vs fun vs=>a1f U bs0 bs fun bs=>e4f U X fn (d33 U T ro) AL AJ gv f vs bs
theorem d1d {a b:List Bx} (h:a.map C3=b.map C3) (hb:b.all P7=true):a.all P7=true∧a.map J3=b.map J3:=by
 have ha:=c3c h.symm hb
 refine ⟨ha,?_⟩
 have hl:a.length=b.length:=by have:=congrArg List.length h;simpa using this
 apply List.ext_getElem
 ·simpa using hl
 ·intro i hi1 hi2
  simp only [List.length_map] at hi1 hi2
  simp only [List.getElem_map]
  have q1:=List.all_eq_true.1 ha _ (List.getElem_mem hi1)
  have q2:=List.all_eq_true.1 hb _ (List.getElem_mem hi2)
  have q3:(a.map C3)[i]?=(b.map C3)[i]?:=by rw [h]
  rw [List.getElem?_map,List.getElem?_map,List.getElem?_eq_getElem hi1,List.getElem?_eq_getElem hi2] at q3
  simp only [Option.map_some] at q3
  injection q3 with q3
  rw [a3q q1,a3q q2] at q3
  injection q3
theorem e9s {X:Pr} {T:FuncId→Option Sh} {ro:FuncId→Bool} {fn:FuncId→E5} (htab:X.tab=[]) (hfn:∀ g,O2 X g (fn g)) {AL AJ:Nat→Option Ann} {gv:List (Option Nat)} {f:FuncId} {F:Func} {vs0:List Sh} {bs0:List ShB} (hf:X.P.funcs[f]?=some F) (hb:F.body.isSome=true)
  (hcall:∀ args w,(callFunc f args).run X.P w=.ok (.enter f args) w):O2 X f (e3c CU X T ro gv F vs0 bs0 fn AL AJ):=by
 intro vs bs x bs' h hok
 unfold e3c at h
 obtain ⟨vs',e1,h⟩:=L2 h
 obtain ⟨bs2,e2,h⟩:=Z3 h
 obtain ⟨hok2,eb⟩:=d1d e2 hok
 have:=e89 htab hfn (d6e T ro) hf hb hcall vs' bs2 x bs' h hok2
 rw [e1,eb] at this
 exact this
/-- A function with a deferred call. -/
def e40 (U:x5) (X:Pr) (T:FuncId→Option Sh) (ro:FuncId→Bool) (gv:List (Option Nat)) (f:Func) (vs0:List Sh) (bs0:List ShB) (fn:FuncId→E5) (AL AJ:Nat→Option Ann):E5:=fun vs bs =>
 a1s U vs0 vs fun vs=>a1f U bs0 bs fun bs=>d4p U X fn (d33 U T ro) AL AJ gv f vs bs
theorem g11 {X:Pr} {T:FuncId→Option Sh} {ro:FuncId→Bool} {fn:FuncId→E5} (htab:X.tab=[]) (hfn:∀ g,O2 X g (fn g)) {AL AJ:Nat→Option Ann} {gv:List (Option Nat)} {f g:FuncId} {F:Func} {vs0:List Sh} {bs0:List ShB} (hf:X.P.funcs[f]?=some F) (hd:d4r F=some g)
  (hcall:∀ args w,(callFunc f args).run X.P w=.ok (.enter f args) w) (hg:∀ args w,(callFunc g args).run X.P w=.ok (.enter g args) w) (hidle:d5z X.P g):O2 X f (e40 CU X T ro gv F vs0 bs0 fn AL AJ):=by
 intro vs bs x bs' h hok
 unfold e40 at h
 obtain ⟨vs',e1,h⟩:=L2 h
 obtain ⟨bs2,e2,h⟩:=Z3 h
 obtain ⟨hok2,eb⟩:=d1d e2 hok
 have:=e3u htab hfn (d6e T ro) hf hd hcall hg hidle vs' bs2 x bs' h hok2
 rw [e1,eb] at this
 exact this
/-- A panic goes on. -/
def pn (U:x5):V→Om:=fun v=>some (.pan (U.rn0 v),[])
/-- The first that answers. -/
def f1m (F G:E5):E5:=fun vs bs=>match F vs bs with
 | some r=>some r
 | none=>G vs bs
theorem g2u {X:Pr} {g:FuncId} {F G:E5} (hF:O2 X g F) (hG:O2 X g G):O2 X g (f1m F G):=fun vs bs x bs' h hok=>by
 unfold f1m at h
 split at h
 ·rename_i r hr
  injection h with h
  subst h
  exact hF vs bs x bs' hr hok
 ·exact hG vs bs x bs' h hok
theorem d2l {X:Pr} {g:FuncId}:O2 X g (fun _ _=>none):=fun _ _ _ _ h=>by cases h
/-- Functions, wrapped: what a table gives is looked up once. -/
structure Wr where
 f:E5
def d4u (w:Wr):E5:=Wr.rec (motive:=fun _=>E5) (fun f=>f) w
/-- A table of functions; fn: the functions that they call. -/
abbrev d3r:=List (FuncId × ((FuncId→E5)→E5))
def b8m (g:FuncId):d3r→Option ((FuncId→E5)→E5)
 | []=>none
 | x :: xs=>bif Nat.beq x.1 g then some x.2 else b8m g xs
/-- What the functions of a table give, run so O3. -/
def f7g (T:d3r) (n:Nat):FuncId→Wr:=Nat.rec (motive:=fun _=>FuncId→Wr) (fun _=>⟨fun _ _=>none⟩) (fun _ ih g=>match b8m g T with
 | some F=>⟨F fun g=>d4u (ih g)⟩
 | none=>⟨fun _ _=>none⟩) n
theorem c3e {g:FuncId} {F:(FuncId→E5)→E5}:∀ {T:d3r},b8m g T=some F→(g,F) ∈ T
 | [],h=>by cases h
 | x :: xs,h=>by
  simp only [b8m] at h
  cases hb:Nat.beq x.1 g with
  | true =>
   rw [hb] at h
   injection h with h
   rw [← h,← Nat.eq_of_beq_eq_true hb]
   exact List.mem_cons_self
  | false=>rw [hb] at h;exact List.mem_cons_of_mem _ (c3e h)
theorem e79 {X:Pr} {T:d3r} (hT:∀ g F,(g,F) ∈ T→∀ fn,(∀ g,O2 X g (fn g))→O2 X g (F fn)):∀ (n:Nat) (g:FuncId),O2 X g (d4u (f7g T n g))
 | 0,g=>d2l
 | n+1,g=>by
  show O2 X g (d4u (match b8m g T with
   | some F=>⟨F fun g=>d4u (f7g T n g)⟩
   | none=>⟨fun _ _=>none⟩))
  split
  ·rename_i F hF
   exact hT g F (c3e hF) _ (e79 hT n)
  ·exact d2l
end
theorem d5l:d5z Tryz.prog 49:=fun v w _=>by
 have key:CallsD Tryz.prog 49 #[v] .returning w fun e u' w'=>e=.returned (.tuple #[])∧u'=.returning∧w'=w:=by
  refine callsD_of_wpS Tryz.func49 rfl fun c₀ cs hu=>?_
  apply wpS_seq
  apply wpS_region
  simp [wpOpsS,go_sem,recoverD,hu,Tryz.ntmps49,Exit.thenS]
  apply wpS_seq
  apply wpS_seq
  apply wpS_region
  simp [wpOpsS,go_sem,Exit.thenS]
  refine wpS_cond (t:=true) (by simp [Act.eval,Array.replicate]) ?_
  simp only [if_true]
  refine wpS_of_wp (wp_ret ?_)
  cases c₀
  simp_all [bodyPostS,results,Tryz.results49,Exit.thenS]
 refine key.mono ?_
 rintro e u' w' ⟨rfl,rfl,rfl⟩
 exact ⟨⟨_,rfl⟩,rfl,rfl⟩
end Go.Proofs.YtffaodopiifbkaaGreatDoor
namespace Go.Proofs.YtffaodopiifbkaaGreatDoor
open Go.Abs
noncomputable section
abbrev HG (fn:FF):Prop:=∀ g,O2 X0 g (fn g)
/-- An answer that the function's a13 bears out. -/
def b6w (g:FuncId) (vs:List V) (bs:List Bx) (v:L3) (bs':List Bx):Prop:=bs.all P7=true→CM X0.P X0.G g (vs.map toD) (bs.map J3) (a8w v) (bs'.map J3)
def l5 (g:FuncId) (sp:Sp):Prop:=∀ i vs bs,l8 (sp.A i) vs→j5 (sp.B i) bs→∃ v bs',b6w g vs bs v bs'∧l9 (sp.R i) v∧j5 (sp.B' i) bs'
abbrev Env:=List (FuncId × Sp)
def look (g:FuncId):Env→Option Sp
 | []=>none
 | x :: xs=>bif Nat.beq x.1 g then some x.2 else look g xs
inductive b0w:Env→Prop
 | nil:b0w []
 | cons {g:FuncId} {sp:Sp} {E:Env}:l5 g sp→b0w E→b0w ((g,sp) :: E)
theorem b0w.look {g:FuncId} {sp:Sp} {E:Env} (h:b0w E) (e:look g E=some sp):l5 g sp:=by
 induction h with
 | nil=>cases e
 | @cons g' sp' E' k _ ih =>
  simp only [YtffaodopiifbkaaGreatDoor.look] at e
  cases hb:Nat.beq g' g with
  | true=>rw [hb] at e;injection e with e;subst e;rw [← Nat.eq_of_beq_eq_true hb];exact k
  | false=>rw [hb] at e;exact ih e
open Classical in
/-- The table of what is known. -/
def c8v (E:Env):FF:=fun g vs bs=>if h:∃ p:L3 × List Bx,b6w g vs bs p.1 p.2∧∃ sp i,look g E=some sp∧l8 (sp.A i) vs∧j5 (sp.B i) bs∧l9 (sp.R i) p.1∧j5 (sp.B' i) p.2 then some (Classical.choose h) else none
theorem e7p (E:Env):HG (c8v E):=fun g vs bs x bs' h=>by
 unfold c8v at h
 split at h
 ·rename_i hc
  injection h with h
  have:=(Classical.choose_spec hc).1
  rw [h] at this
  exact this
 ·cases h
theorem e0p {E:Env} (hE:b0w E) {g:FuncId} {sp:Sp} (e:look g E=some sp):Ans (c8v E) g sp:=fun i vs bs hv hb=>by
 have hx:∃ p:L3 × List Bx,b6w g vs bs p.1 p.2∧∃ sp i,look g E=some sp∧l8 (sp.A i) vs∧j5 (sp.B i) bs∧l9 (sp.R i) p.1∧j5 (sp.B' i) p.2:=by
  obtain ⟨v,bs',h1,h2,h3⟩:=hE.look e i vs bs hv hb
  exact ⟨(v,bs'),h1,sp,i,e,hv,hb,h2,h3⟩
 obtain ⟨h1,sp',j,e',hv',hb',h2,h3⟩:=Classical.choose_spec hx
 rw [e] at e'
 injection e' with e'
 subst e'
 obtain ⟨q1,q2⟩:=sp.inj i j vs bs hv hv' hb hb'
 refine ⟨(Classical.choose hx).1,(Classical.choose hx).2,?_,q1 ▸ h2,q2 ▸ h3⟩
 unfold c8v
 rw [dif_pos hx]
theorem n6 {g:FuncId} {sp:Sp} {F:x5→FF→E5} (hF:∀ fn,HG fn→O2 X0 g (F CU fn)) (E:Env) (hE:b0w E)
  (h:∀ U fn,(∀ g sp,look g E=some sp→Ans fn g sp)→∀ i vs bs,l8 (sp.A i) vs→j5 (sp.B i) bs→j6 U (F U fn vs bs) fun v bs'=>l9 (sp.R i) v∧j5 (sp.B' i) bs'):l5 g sp:=fun i vs bs hv hb=>by
 obtain ⟨v,bs',h1,h2,h3⟩:=h CU (c8v E) (fun g sp e=>e0p hE e) i vs bs hv hb rfl
 exact ⟨v,bs',fun hok=>hF _ (e7p E) vs bs v bs' h1 hok,h2,h3⟩
theorem a32 {g:FuncId} {sp:Sp} (μ:sp.ι→Nat) (h:∀ n,l5 g (sp.lt μ n)→l5 g (sp.lt μ (n+1))):l5 g sp:=by
 have:∀ n,l5 g (sp.lt μ n):=by
  intro n
  induction n with
  | zero=>intro i;exact absurd i.2 (Nat.not_lt_zero _)
  | succ n ih=>exact h n ih
 intro i
 exact this (μ i+1) ⟨i,Nat.lt_succ_self _⟩
end
end Go.Proofs.YtffaodopiifbkaaGreatDoor
