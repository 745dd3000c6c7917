/- What is asked of the package-level variables: a table lies as its text lays it. -/
import Derived.Test.YtffaodopiifbkaaGreatDoorProg
import Derived.Test.YtffaodopiifbkaaGreatDoorCA1
import Derived.Lib.LaidTab
import Derived.Lib.Space
import Derived.Lib.ItoaNum
import Derived.Test.YtffaodopiifbkaaGreatDoorCA3
import Derived.Test.YtffaodopiifbkaaGreatDoorCQ2
import Derived.Tactics
import Derived.Tactics2
import Derived.Defers
import Derived.Recover
import Derived.Test.YtffaodopiifbkaaGreatDoorCR1
set_option linter.all false
namespace Go.Proofs.YtffaodopiifbkaaGreatDoor
open Go.Abs
theorem powG : Tryz.prog.globalNamed "internal/strconv.uint64pow10" = some 1 := by kernel_rfl
theorem tab_size {s : String} {g : Nat} {k : IntKind} {t : List Int} (e : Tryz.prog.globalNamed s = some g) {w : World} (h : Lib.TabIs Tryz.prog w s k t) : g + 1 ≤ w.heap.size := by
 unfold Lib.TabIs World.var? at h
 rw [e] at h
 simp only [Option.bind_some] at h
 split at h
 ·rename_i hc; exact (Array.getElem?_eq_some_iff.1 hc).1
 ·cases h
theorem tab_stable {s : String} {g : Nat} {k : IntKind} {t : List Int} (e : Tryz.prog.globalNamed s = some g) {N : Nat} (hN : g < N) {w w' : World} (h : Lib.TabIs Tryz.prog w s k t) (hb : ∀ b, b < N → w'.heap[b]? = w.heap[b]?) : Lib.TabIs Tryz.prog w' s k t := by
 unfold Lib.TabIs World.var? at h ⊢
 rw [e] at h ⊢
 simp only [Option.bind_some] at h ⊢
 rw [hb _ hN]
 exact h
def gN : Nat := 1 + 1
def GG : Glob := { N := gN, pred := fun w => Lib.TabIs Tryz.prog w "internal/strconv.uint64pow10" .u64 Lib.pow10Tab, stable := fun _ _ h hb => tab_stable powG (by decide) h hb, size := fun _ h => tab_size powG h }
end Go.Proofs.YtffaodopiifbkaaGreatDoor
namespace Go.Proofs.YtffaodopiifbkaaGreatDoor
open Go.Abs

theorem mixedO : Tryz.prog.follows .mixedOrders = true := by kernel_rfl
theorem flat2 {P : Program} {t : TypeId} {f g : Field} {k l : K3} (hu : P.underlying t = some (.struct #[f, g])) (hs : P.stoodInHeld t = false) (hg : P.eqGuardType P.depth t = false) (hf1 : f.name ≠ "_") (hf2 : f.offset = 0) (hf3 : k.is P f.type)
  (hg1 : g.name ≠ "_") (hg2 : g.offset = 1) (hg3 : l.is P g.type) : FlatEq P t [k, l] := by
 refine ⟨#[f, g], hu, hs, hg, rfl, fun i x y hx hy => ?_⟩
 rcases i with _ | _ | i
 ·injection hx with hx; injection hy with hy; subst hx hy; exact ⟨hf1, hf2, hf3⟩
 ·injection hx with hx; injection hy with hy; subst hx hy; exact ⟨hg1, hg2, hg3⟩
 ·simp at hy
def EQS : List (TypeId × List K3) := [(26, [.str, .str]), (32, [.int, .int])]
theorem eqOks : ∀ t ks, (t, ks) ∈ EQS → FlatEq Tryz.prog t ks := fun t ks h => by
 simp only [EQS, List.mem_cons, List.mem_nil_iff, or_false, Prod.mk.injEq] at h
 rcases h with ⟨rfl, rfl⟩ | ⟨rfl, rfl⟩
 ·exact flat2 Tryz.underlying26 Tryz.stoodInHeld26 Tryz.eqGuardType26 (by decide) rfl Tryz.underlying9 (by decide) rfl Tryz.underlying9
 ·exact flat2 Tryz.underlying32 Tryz.stoodInHeld32 Tryz.eqGuardType32 (by decide) rfl ⟨.i64, by kernel_rfl⟩ (by decide) rfl ⟨.i64, by kernel_rfl⟩
theorem tabOk0 : ∀ g F, (g, F) ∈ ([] : List (FuncId × (List D → List (List D) → Option (Bool × Res × List (List D))))) → ∀ ds hs r hs', F ds hs = some (true, r, hs') → CM Tryz.prog GG g ds hs r hs' := fun g F h => by cases h
noncomputable def X0 : Pr := { P := Tryz.prog, G := GG, eqs := EQS, eqOk := eqOks, mixed := mixedO, tab := [], tabOk := tabOk0 }
/-- The body of a function. -/
def bodyOf (f : Func) : Code := f.body.getD .skip
/-- What a function needs. -/
def needJ (X : Pr) (L : Nat → (St → (St → Prop) → Prop) → St → Prop) (J : Nat → Option Cut) (fn : Func) (ds : List D) (hs : List (List D)) (r : Res) (hs' : List (List D)) : Prop :=
 vc X hs.length L J (bodyOf fn) 0 0 (Abs.start fn.ntmps ds hs) (fin X.P fn.results.toList hs.length [] r hs') (fun _ _ => False) (fin X.P fn.results.toList hs.length [] r hs') (fun d => r = .pan d)
def need (X : Pr) (L : Nat → (St → (St → Prop) → Prop) → St → Prop) := needJ X L noCut
theorem of_need {X : Pr} {f : FuncId} {fn : Func} (hf : X.P.funcs[f]? = some fn) (hb : fn.body.isSome = true) (hcall : ∀ args w, (callFunc f args).run X.P w = .ok (.enter f args) w) {ds : List D} {hs : List (List D)} {r : Res} {hs' : List (List D)}
  {L : Nat → (St → (St → Prop) → Prop) → St → Prop} (hL : ∀ p body s, L p body s → VLoop hs.length body s) {J : Nat → Option Cut} (h : needJ X L J fn ds hs r hs') : CM X.P X.G f ds hs r hs' := by
 obtain ⟨c, hc⟩ := Option.isSome_iff_exists.1 hb
 refine contract (J := J) (gv := []) hf hc hcall hL ?_
 unfold needJ bodyOf at h
 rw [hc] at h
 exact h
theorem noLoops {n : Nat} : ∀ p body s, noLoop p body s → VLoop n body s := fun _ _ _ h => h.elim
theorem via {p q : Prop} (h : p = q) (hq : q) : p := h ▸ hq
end Go.Proofs.YtffaodopiifbkaaGreatDoor
namespace Go.Proofs.YtffaodopiifbkaaGreatDoor
open Go.Abs
abbrev FF := FuncId → FunT
abbrev LV := List V
abbrev LB := List Bx
abbrev TQ := Tre Q
abbrev KJ := List V → List Bx → Om
noncomputable section
/-- Results by their forms. -/
def crOf (U : CombU) (T : FuncId → Option Sh) (ro : FuncId → Bool) : CastT := fun g bs0 v bs K => match T g with
 | some s => cast U s v fun v => cond (ro g) (U.same bs0 bs (K v none)) (castBs U (bs0.map shapeB) bs fun bs => K v (some bs))
 | none => cond (ro g) (U.same bs0 bs (K v none)) (castBs U (bs0.map shapeB) bs fun bs => K v (some bs))
theorem crOfOk (T : FuncId → Option Sh) (ro : FuncId → Bool) : CastOk (crOf CU T ro) := fun g bs0 v bs K r h => by
 have key : ∀ v : V, cond (ro g) (CU.same bs0 bs (K v none)) (castBs CU (bs0.map shapeB) bs fun bs => K v (some bs)) = some r →
   (∃ bs', bs'.map toB = bs.map toB ∧ K v (some bs') = some r) ∨ (bs = bs0 ∧ K v none = some r) := by
  intro v h
  cases hr : ro g with
  | true =>
   rw [hr] at h
   have h : cond (eqBs bs0 bs) (K v none) none = some r := h
   cases he : eqBs bs0 bs with
   | true => rw [he] at h; exact .inr ⟨(eqBs_eq he).symm, h⟩
   | false => rw [he] at h; cases h
  | false =>
   rw [hr] at h
   obtain ⟨bs', e2, h⟩ := castBs_some h
   exact .inl ⟨bs', e2, h⟩
 unfold crOf at h
 split at h
 ·obtain ⟨v', e1, h⟩ := cast_some h
  rcases key v' h with ⟨bs', e2, h⟩ | ⟨e2, h⟩
  ·exact .inl ⟨v', bs', e1, e2, h⟩
  ·exact .inr ⟨v', e1, e2, h⟩
 ·rcases key v h with ⟨bs', e2, h⟩ | ⟨e2, h⟩
  ·exact .inl ⟨v, bs', rfl, e2, h⟩
  ·exact .inr ⟨v, rfl, e2, h⟩
/-- A function, its arguments and boxes of these forms. -/
def resF (U : CombU) (X : Pr) (T : FuncId → Option Sh) (ro : FuncId → Bool) (gv : List (Option Nat)) (f : Func) (vs0 : List Sh) (bs0 : List ShB) (fn : FuncId → FunT) (AL AJ : Nat → Option Ann) : FunT := fun vs bs =>
 castL U vs0 vs fun vs => castBs U bs0 bs fun bs => evFn U X fn (crOf U T ro) AL AJ gv f vs bs
theorem boxD_of {a b : List Bx} (h : a.map toB = b.map toB) (hb : b.all boxOk = true) : a.all boxOk = true ∧ a.map boxD = b.map boxD := by
 have ha := all_boxOk h.symm hb
 refine ⟨ha, ?_⟩
 have hl : a.length = b.length := by have := congrArg List.length h; simpa using this
 apply List.ext_getElem
 ·simpa using hl
 ·intro i hi1 hi2
  simp only [List.length_map] at hi1 hi2
  simp only [List.getElem_map]
  have q1 := List.all_eq_true.1 ha _ (List.getElem_mem hi1)
  have q2 := List.all_eq_true.1 hb _ (List.getElem_mem hi2)
  have q3 : (a.map toB)[i]? = (b.map toB)[i]? := by rw [h]
  rw [List.getElem?_map, List.getElem?_map, List.getElem?_eq_getElem hi1, List.getElem?_eq_getElem hi2] at q3
  simp only [Option.map_some] at q3
  injection q3 with q3
  rw [boxD_eq q1, boxD_eq q2] at q3
  injection q3
theorem resF_ok {X : Pr} {T : FuncId → Option Sh} {ro : FuncId → Bool} {fn : FuncId → FunT} (htab : X.tab = []) (hfn : ∀ g, FnOk X g (fn g)) {AL AJ : Nat → Option Ann} {gv : List (Option Nat)} {f : FuncId} {F : Func} {vs0 : List Sh} {bs0 : List ShB} (hf : X.P.funcs[f]? = some F) (hb : F.body.isSome = true)
  (hcall : ∀ args w, (callFunc f args).run X.P w = .ok (.enter f args) w) : FnOk X f (resF CU X T ro gv F vs0 bs0 fn AL AJ) := by
 intro vs bs x bs' h hok
 unfold resF at h
 obtain ⟨vs', e1, h⟩ := castL_some h
 obtain ⟨bs2, e2, h⟩ := castBs_some h
 obtain ⟨hok2, eb⟩ := boxD_of e2 hok
 have := evFn_ok htab hfn (crOfOk T ro) hf hb hcall vs' bs2 x bs' h hok2
 rw [e1, eb] at this
 exact this
/-- A function with a deferred call. -/
def resFD (U : CombU) (X : Pr) (T : FuncId → Option Sh) (ro : FuncId → Bool) (gv : List (Option Nat)) (f : Func) (vs0 : List Sh) (bs0 : List ShB) (fn : FuncId → FunT) (AL AJ : Nat → Option Ann) : FunT := fun vs bs =>
 castL U vs0 vs fun vs => castBs U bs0 bs fun bs => evFnD U X fn (crOf U T ro) AL AJ gv f vs bs
theorem resFD_ok {X : Pr} {T : FuncId → Option Sh} {ro : FuncId → Bool} {fn : FuncId → FunT} (htab : X.tab = []) (hfn : ∀ g, FnOk X g (fn g)) {AL AJ : Nat → Option Ann} {gv : List (Option Nat)} {f g : FuncId} {F : Func} {vs0 : List Sh} {bs0 : List ShB} (hf : X.P.funcs[f]? = some F) (hd : defFn F = some g)
  (hcall : ∀ args w, (callFunc f args).run X.P w = .ok (.enter f args) w) (hg : ∀ args w, (callFunc g args).run X.P w = .ok (.enter g args) w) (hidle : Idle X.P g) : FnOk X f (resFD CU X T ro gv F vs0 bs0 fn AL AJ) := by
 intro vs bs x bs' h hok
 unfold resFD at h
 obtain ⟨vs', e1, h⟩ := castL_some h
 obtain ⟨bs2, e2, h⟩ := castBs_some h
 obtain ⟨hok2, eb⟩ := boxD_of e2 hok
 have := evFnD_ok htab hfn (crOfOk T ro) hf hd hcall hg hidle vs' bs2 x bs' h hok2
 rw [e1, eb] at this
 exact this
/-- A panic goes on. -/
def pn (U : CombU) : V → Om := fun v => some (.pan (U.rn0 v), [])
/-- The first that answers. -/
def altF (F G : FunT) : FunT := fun vs bs => match F vs bs with
 | some r => some r
 | none => G vs bs
theorem altF_ok {X : Pr} {g : FuncId} {F G : FunT} (hF : FnOk X g F) (hG : FnOk X g G) : FnOk X g (altF F G) := fun vs bs x bs' h hok => by
 unfold altF at h
 split at h
 ·rename_i r hr
  injection h with h
  subst h
  exact hF vs bs x bs' hr hok
 ·exact hG vs bs x bs' h hok
theorem none_ok {X : Pr} {g : FuncId} : FnOk X g (fun _ _ => none) := fun _ _ _ _ h => by cases h
/-- Functions, wrapped: what a table gives is looked up once. -/
structure Wr where
 f : FunT
def appW (w : Wr) : FunT := Wr.rec (motive := fun _ => FunT) (fun f => f) w
/-- A table of functions; fn: the functions that they call. -/
abbrev FTab := List (FuncId × ((FuncId → FunT) → FunT))
def lookF (g : FuncId) : FTab → Option ((FuncId → FunT) → FunT)
 | [] => none
 | x :: xs => bif Nat.beq x.1 g then some x.2 else lookF g xs
/-- What the functions of a table give, run so deep. -/
def runW (T : FTab) (n : Nat) : FuncId → Wr := Nat.rec (motive := fun _ => FuncId → Wr) (fun _ => ⟨fun _ _ => none⟩) (fun _ ih g => match lookF g T with
 | some F => ⟨F fun g => appW (ih g)⟩
 | none => ⟨fun _ _ => none⟩) n
theorem lookF_mem {g : FuncId} {F : (FuncId → FunT) → FunT} : ∀ {T : FTab}, lookF g T = some F → (g, F) ∈ T
 | [], h => by cases h
 | x :: xs, h => by
  simp only [lookF] at h
  cases hb : Nat.beq x.1 g with
  | true =>
   rw [hb] at h
   injection h with h
   rw [← h, ← Nat.eq_of_beq_eq_true hb]
   exact List.mem_cons_self
  | false => rw [hb] at h; exact List.mem_cons_of_mem _ (lookF_mem h)
theorem runW_ok {X : Pr} {T : FTab} (hT : ∀ g F, (g, F) ∈ T → ∀ fn, (∀ g, FnOk X g (fn g)) → FnOk X g (F fn)) : ∀ (n : Nat) (g : FuncId), FnOk X g (appW (runW T n g))
 | 0, g => none_ok
 | n + 1, g => by
  show FnOk X g (appW (match lookF g T with
   | some F => ⟨F fun g => appW (runW T n g)⟩
   | none => ⟨fun _ _ => none⟩))
  split
  ·rename_i F hF
   exact hT g F (lookF_mem hF) _ (runW_ok hT n)
  ·exact none_ok
end
end Go.Proofs.YtffaodopiifbkaaGreatDoor
namespace Go.Proofs.YtffaodopiifbkaaGreatDoor
open Go.Abs
theorem catch_idle : Idle Tryz.prog 49 := fun v w _ => by
 have key : CallsD Tryz.prog 49 #[v] .returning w fun e u' w' => e = .returned (.tuple #[]) ∧ u' = .returning ∧ w' = w := by
  refine callsD_of_wpS Tryz.func49 rfl fun c₀ cs hu => ?_
  apply wpS_seq
  apply wpS_region
  simp [wpOpsS, go_sem, recoverD, hu, Tryz.ntmps49, Exit.thenS]
  apply wpS_seq
  apply wpS_seq
  apply wpS_region
  simp [wpOpsS, go_sem, Exit.thenS]
  refine wpS_cond (t := true) (by simp [Act.eval, Array.replicate]) ?_
  simp only [if_true]
  refine wpS_of_wp (wp_ret ?_)
  cases c₀
  simp_all [bodyPostS, results, Tryz.results49, Exit.thenS]
 refine key.mono ?_
 rintro e u' w' ⟨rfl, rfl, rfl⟩
 exact ⟨⟨_, rfl⟩, rfl, rfl⟩
end Go.Proofs.YtffaodopiifbkaaGreatDoor
namespace Go.Proofs.YtffaodopiifbkaaGreatDoor
open Go.Abs
noncomputable section
abbrev HG (fn : FF) : Prop := ∀ g, FnOk X0 g (fn g)
/-- An answer that the function's contract bears out. -/
def AnsT (g : FuncId) (vs : List V) (bs : List Bx) (v : VRes) (bs' : List Bx) : Prop := bs.all boxOk = true → CM X0.P X0.G g (vs.map toD) (bs.map boxD) (resD v) (bs'.map boxD)
def Know (g : FuncId) (sp : Sp) : Prop := ∀ i vs bs, RVs (sp.A i) vs → RBs (sp.B i) bs → ∃ v bs', AnsT g vs bs v bs' ∧ RRes (sp.R i) v ∧ RBs (sp.B' i) bs'
abbrev Env := List (FuncId × Sp)
def look (g : FuncId) : Env → Option Sp
 | [] => none
 | x :: xs => bif Nat.beq x.1 g then some x.2 else look g xs
inductive EnvOk : Env → Prop
 | nil : EnvOk []
 | cons {g : FuncId} {sp : Sp} {E : Env} : Know g sp → EnvOk E → EnvOk ((g, sp) :: E)
theorem EnvOk.look {g : FuncId} {sp : Sp} {E : Env} (h : EnvOk E) (e : look g E = some sp) : Know g sp := by
 induction h with
 | nil => cases e
 | @cons g' sp' E' k _ ih =>
  simp only [YtffaodopiifbkaaGreatDoor.look] at e
  cases hb : Nat.beq g' g with
  | true => rw [hb] at e; injection e with e; subst e; rw [← Nat.eq_of_beq_eq_true hb]; exact k
  | false => rw [hb] at e; exact ih e
open Classical in
/-- The table of what is known. -/
def fnOf (E : Env) : FF := fun g vs bs => if h : ∃ p : VRes × List Bx, AnsT g vs bs p.1 p.2 ∧ ∃ sp i, look g E = some sp ∧ RVs (sp.A i) vs ∧ RBs (sp.B i) bs ∧ RRes (sp.R i) p.1 ∧ RBs (sp.B' i) p.2 then some (Classical.choose h) else none
theorem fnOf_ok (E : Env) : HG (fnOf E) := fun g vs bs x bs' h => by
 unfold fnOf at h
 split at h
 ·rename_i hc
  injection h with h
  have := (Classical.choose_spec hc).1
  rw [h] at this
  exact this
 ·cases h
theorem fnOf_ans {E : Env} (hE : EnvOk E) {g : FuncId} {sp : Sp} (e : look g E = some sp) : Ans (fnOf E) g sp := fun i vs bs hv hb => by
 have hx : ∃ p : VRes × List Bx, AnsT g vs bs p.1 p.2 ∧ ∃ sp i, look g E = some sp ∧ RVs (sp.A i) vs ∧ RBs (sp.B i) bs ∧ RRes (sp.R i) p.1 ∧ RBs (sp.B' i) p.2 := by
  obtain ⟨v, bs', h1, h2, h3⟩ := hE.look e i vs bs hv hb
  exact ⟨(v, bs'), h1, sp, i, e, hv, hb, h2, h3⟩
 obtain ⟨h1, sp', j, e', hv', hb', h2, h3⟩ := Classical.choose_spec hx
 rw [e] at e'
 injection e' with e'
 subst e'
 obtain ⟨q1, q2⟩ := sp.inj i j vs bs hv hv' hb hb'
 refine ⟨(Classical.choose hx).1, (Classical.choose hx).2, ?_, q1 ▸ h2, q2 ▸ h3⟩
 unfold fnOf
 rw [dif_pos hx]
theorem know {g : FuncId} {sp : Sp} {F : CombU → FF → FunT} (hF : ∀ fn, HG fn → FnOk X0 g (F CU fn)) (E : Env) (hE : EnvOk E)
  (h : ∀ U fn, (∀ g sp, look g E = some sp → Ans fn g sp) → ∀ i vs bs, RVs (sp.A i) vs → RBs (sp.B i) bs → Sat U (F U fn vs bs) fun v bs' => RRes (sp.R i) v ∧ RBs (sp.B' i) bs') : Know g sp := fun i vs bs hv hb => by
 obtain ⟨v, bs', h1, h2, h3⟩ := h CU (fnOf E) (fun g sp e => fnOf_ans hE e) i vs bs hv hb rfl
 exact ⟨v, bs', fun hok => hF _ (fnOf_ok E) vs bs v bs' h1 hok, h2, h3⟩
theorem know_rec {g : FuncId} {sp : Sp} (μ : sp.ι → Nat) (h : ∀ n, Know g (sp.lt μ n) → Know g (sp.lt μ (n + 1))) : Know g sp := by
 have : ∀ n, Know g (sp.lt μ n) := by
  intro n
  induction n with
  | zero => intro i; exact absurd i.2 (Nat.not_lt_zero _)
  | succ n ih => exact h n ih
 intro i
 exact this (μ i + 1) ⟨i, Nat.lt_succ_self _⟩
end
end Go.Proofs.YtffaodopiifbkaaGreatDoor
