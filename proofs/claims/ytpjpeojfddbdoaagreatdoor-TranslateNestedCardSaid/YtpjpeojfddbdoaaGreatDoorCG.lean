/- The program of this seat; its functions by the forms of their arguments; the forms of results. -/
import Derived.Test.YtpjpeojfddbdoaaGreatDoorProg
import Derived.Test.YtpjpeojfddbdoaaGreatDoorCA3
import Derived.Test.YtpjpeojfddbdoaaGreatDoorCQ2
namespace Go.Proofs.YtpjpeojfddbdoaaGreatDoor
open Go.Abs

theorem mixedO : Tryz.prog.follows .mixedOrders = true := by kernel_rfl
def GG : Glob := { N := 0, pred := fun _ => True, stable := fun _ _ h _ => h, size := fun _ _ => Nat.zero_le _ }
theorem flat2 {P : Program} {t : TypeId} {f g : Field} {k l : K3} (hu : P.underlying t = some (.struct #[f, g])) (hs : P.stoodInHeld t = false) (hg : P.eqGuardType P.depth t = false) (hf1 : f.name ≠ "_") (hf2 : f.offset = 0) (hf3 : k.is P f.type)
    (hg1 : g.name ≠ "_") (hg2 : g.offset = 1) (hg3 : l.is P g.type) : FlatEq P t [k, l] := by
  refine ⟨#[f, g], hu, hs, hg, rfl, fun i x y hx hy => ?_⟩
  rcases i with _ | _ | i
  · injection hx with hx; injection hy with hy; subst hx hy; exact ⟨hf1, hf2, hf3⟩
  · injection hx with hx; injection hy with hy; subst hx hy; exact ⟨hg1, hg2, hg3⟩
  · simp at hy
def EQS : List (TypeId × List K3) := [(27, [.str, .str]), (46, [.int, .int])]
theorem eqOks : ∀ t ks, (t, ks) ∈ EQS → FlatEq Tryz.prog t ks := fun t ks h => by
  simp only [EQS, List.mem_cons, List.mem_nil_iff, or_false, Prod.mk.injEq] at h
  rcases h with ⟨rfl, rfl⟩ | ⟨rfl, rfl⟩
  · exact flat2 Tryz.underlying27 Tryz.stoodInHeld27 Tryz.eqGuardType27 (by decide) rfl Tryz.underlying9 (by decide) rfl Tryz.underlying9
  · exact flat2 Tryz.underlying46 Tryz.stoodInHeld46 Tryz.eqGuardType46 (by decide) rfl ⟨.i64, by kernel_rfl⟩ (by decide) rfl ⟨.i64, by kernel_rfl⟩
theorem tabOk0 : ∀ g F, (g, F) ∈ ([] : List (FuncId × (List D → List (List D) → Option (Bool × Res × List (List D))))) → ∀ ds hs r hs', F ds hs = some (true, r, hs') → CM Tryz.prog GG g ds hs r hs' := fun g F h => by cases h
noncomputable def X0 : Pr := { P := Tryz.prog, G := GG, eqs := EQS, eqOk := eqOks, mixed := mixedO, tab := [], tabOk := tabOk0 }
/-- The body of a function. -/
def bodyOf (f : Func) : Code := f.body.getD .skip
/-- What a function needs. -/
def needJ (X : Pr) (L : Nat → (St → (St → Prop) → Prop) → St → Prop) (J : Nat → Option Cut) (fn : Func) (ds : List D) (hs : List (List D)) (r : Res) (hs' : List (List D)) : Prop :=
  vc X hs.length L J (bodyOf fn) 0 0 (Abs.start fn.ntmps ds hs) (fin X.P fn.results.toList hs.length [] r hs') (fun _ _ => False) (fin X.P fn.results.toList hs.length [] r hs') (fun d => r = .pan d)
def need (X : Pr) (L : Nat → (St → (St → Prop) → Prop) → St → Prop) := needJ X L noCut
theorem of_need {X : Pr} {f : FuncId} {fn : Func} (hf : X.P.funcs[f]? = some fn) (hb : fn.body.isSome = true) (hcall : ∀ args w, (callFunc f args).run X.P w = .ok (.enter f args) w) {ds : List D} {hs : List (List D)} {r : Res} {hs' : List (List D)}
    {L : Nat → (St → (St → Prop) → Prop) → St → Prop} (hL : ∀ p body s, L p body s → VLoop hs.length body s) {J : Nat → Option Cut} (h : needJ X L J fn ds hs r hs') : CM X.P X.G f ds hs r hs' := by
  obtain ⟨c, hc⟩ := Option.isSome_iff_exists.1 hb
  refine contract (J := J) (gv := []) hf hc hcall hL ?_
  unfold needJ bodyOf at h
  rw [hc] at h
  exact h
theorem noLoops {n : Nat} : ∀ p body s, noLoop p body s → VLoop n body s := fun _ _ _ h => h.elim
theorem via {p q : Prop} (h : p = q) (hq : q) : p := h ▸ hq
end Go.Proofs.YtpjpeojfddbdoaaGreatDoor
namespace Go.Proofs.YtpjpeojfddbdoaaGreatDoor
open Go.Abs
abbrev FF := FuncId → FunT
abbrev LV := List V
abbrev LB := List Bx
abbrev TQ := Tre Q
abbrev KJ := List V → List Bx → Om
noncomputable section
/-- Results by their forms. -/
def crOf (U : CombU) (T : FuncId → Option Sh) : CastT := fun g bs0 v bs K => match T g with
  | some s => cast U s v fun v => castBs U (bs0.map shapeB) bs fun bs => K v bs
  | none => castBs U (bs0.map shapeB) bs fun bs => K v bs
theorem crOfOk (T : FuncId → Option Sh) : CastOk (crOf CU T) := fun g bs0 v bs K r h => by
  unfold crOf at h
  split at h
  · obtain ⟨v', e1, h⟩ := cast_some h
    obtain ⟨bs', e2, h⟩ := castBs_some h
    exact ⟨v', bs', e1, e2, h⟩
  · obtain ⟨bs', e2, h⟩ := castBs_some h
    exact ⟨v, bs', rfl, e2, h⟩
/-- A function, its arguments and boxes of these forms. -/
def resF (U : CombU) (X : Pr) (T : FuncId → Option Sh) (gv : List (Option Nat)) (f : Func) (vs0 : List Sh) (bs0 : List ShB) (fn : FuncId → FunT) (AL AJ : Nat → Option Ann) : FunT := fun vs bs =>
  castL U vs0 vs fun vs => castBs U bs0 bs fun bs => evFn U X fn (crOf U T) AL AJ gv f vs bs
theorem boxD_of {a b : List Bx} (h : a.map toB = b.map toB) (hb : b.all boxOk = true) : a.all boxOk = true ∧ a.map boxD = b.map boxD := by
  have ha := all_boxOk h.symm hb
  refine ⟨ha, ?_⟩
  have hl : a.length = b.length := by have := congrArg List.length h; simpa using this
  apply List.ext_getElem
  · simpa using hl
  · intro i hi1 hi2
    simp only [List.length_map] at hi1 hi2
    simp only [List.getElem_map]
    have q1 := List.all_eq_true.1 ha _ (List.getElem_mem hi1)
    have q2 := List.all_eq_true.1 hb _ (List.getElem_mem hi2)
    have q3 : (a.map toB)[i]? = (b.map toB)[i]? := by rw [h]
    rw [List.getElem?_map, List.getElem?_map, List.getElem?_eq_getElem hi1, List.getElem?_eq_getElem hi2] at q3
    simp only [Option.map_some] at q3
    injection q3 with q3
    rw [boxD_eq q1, boxD_eq q2] at q3
    injection q3
theorem resF_ok {X : Pr} {T : FuncId → Option Sh} {fn : FuncId → FunT} (htab : X.tab = []) (hfn : ∀ g, FnOk X g (fn g)) {AL AJ : Nat → Option Ann} {gv : List (Option Nat)} {f : FuncId} {F : Func} {vs0 : List Sh} {bs0 : List ShB} (hf : X.P.funcs[f]? = some F) (hb : F.body.isSome = true)
    (hcall : ∀ args w, (callFunc f args).run X.P w = .ok (.enter f args) w) : FnOk X f (resF CU X T gv F vs0 bs0 fn AL AJ) := by
  intro vs bs x bs' h hok
  unfold resF at h
  obtain ⟨vs', e1, h⟩ := castL_some h
  obtain ⟨bs2, e2, h⟩ := castBs_some h
  obtain ⟨hok2, eb⟩ := boxD_of e2 hok
  have := evFn_ok htab hfn (crOfOk T) hf hb hcall vs' bs2 x bs' h hok2
  rw [e1, eb] at this
  exact this
/-- The first that answers. -/
def altF (F G : FunT) : FunT := fun vs bs => match F vs bs with
  | some r => some r
  | none => G vs bs
theorem altF_ok {X : Pr} {g : FuncId} {F G : FunT} (hF : FnOk X g F) (hG : FnOk X g G) : FnOk X g (altF F G) := fun vs bs x bs' h hok => by
  unfold altF at h
  split at h
  · rename_i r hr
    injection h with h
    subst h
    exact hF vs bs x bs' hr hok
  · exact hG vs bs x bs' h hok
theorem none_ok {X : Pr} {g : FuncId} : FnOk X g (fun _ _ => none) := fun _ _ _ _ h => by cases h
/-- Functions, wrapped: what a table gives is looked up once. -/
structure Wr where
  f : FunT
def appW (w : Wr) : FunT := Wr.rec (motive := fun _ => FunT) (fun f => f) w
/-- A table of functions; fn: the functions that they call. -/
abbrev FTab := List (FuncId × ((FuncId → FunT) → FunT))
def lookF (g : FuncId) : FTab → Option ((FuncId → FunT) → FunT)
  | [] => none
  | x :: xs => bif Nat.beq x.1 g then some x.2 else lookF g xs
/-- What the functions of a table give, run so deep. -/
def runW (T : FTab) (n : Nat) : FuncId → Wr := Nat.rec (motive := fun _ => FuncId → Wr) (fun _ => ⟨fun _ _ => none⟩) (fun _ ih g => match lookF g T with
  | some F => ⟨F fun g => appW (ih g)⟩
  | none => ⟨fun _ _ => none⟩) n
theorem lookF_mem {g : FuncId} {F : (FuncId → FunT) → FunT} : ∀ {T : FTab}, lookF g T = some F → (g, F) ∈ T
  | [], h => by cases h
  | x :: xs, h => by
    simp only [lookF] at h
    cases hb : Nat.beq x.1 g with
    | true =>
      rw [hb] at h
      injection h with h
      rw [← h, ← Nat.eq_of_beq_eq_true hb]
      exact List.mem_cons_self
    | false => rw [hb] at h; exact List.mem_cons_of_mem _ (lookF_mem h)
theorem runW_ok {X : Pr} {T : FTab} (hT : ∀ g F, (g, F) ∈ T → ∀ fn, (∀ g, FnOk X g (fn g)) → FnOk X g (F fn)) : ∀ (n : Nat) (g : FuncId), FnOk X g (appW (runW T n g))
  | 0, g => none_ok
  | n + 1, g => by
    show FnOk X g (appW (match lookF g T with
      | some F => ⟨F fun g => appW (runW T n g)⟩
      | none => ⟨fun _ _ => none⟩))
    split
    · rename_i F hF
      exact hT g F (lookF_mem hF) _ (runW_ok hT n)
    · exact none_ok
end
end Go.Proofs.YtpjpeojfddbdoaaGreatDoor
namespace Go.Proofs.YtpjpeojfddbdoaaGreatDoor
open Go.Abs
/-- The forms of the functions' results. -/
def tabR : FuncId → Option Sh := fun g => bif Nat.blt g 99 then bif Nat.blt g 51 then bif Nat.blt g 27 then bif Nat.blt g 15 then bif Nat.blt g 9 then bif Nat.blt g 6 then bif Nat.blt g 4 then bif Nat.beq g 3 then some .bool else none else bif Nat.blt g 5 then bif Nat.beq g 4 then some .bool else none else bif Nat.beq g 5 then some .bool else none else bif Nat.blt g 7 then bif Nat.beq g 6 then some (.int .i64) else none else bif Nat.blt g 8 then bif Nat.beq g 7 then some (.slice 32 .no) else none else bif Nat.beq g 8 then some (.a 7) else none else bif Nat.blt g 12 then bif Nat.blt g 10 then bif Nat.beq g 9 then some (.slice 2 .no) else none else bif Nat.blt g 11 then bif Nat.beq g 10 then some (.a 7) else none else bif Nat.beq g 11 then some (.a 2) else none else bif Nat.blt g 13 then bif Nat.beq g 12 then some (.tuple [(.a 11), (.int .i64)]) else none else bif Nat.blt g 14 then bif Nat.beq g 13 then some (.tuple [(.a 11), (.int .i64)]) else none else bif Nat.beq g 14 then some .bool else none else bif Nat.blt g 21 then bif Nat.blt g 18 then bif Nat.blt g 16 then bif Nat.beq g 15 then some (.a 7) else none else bif Nat.blt g 17 then bif Nat.beq g 16 then some (.tuple [(.a 7), (.a 2)]) else none else bif Nat.beq g 17 then some (.slice 2 .no) else none else bif Nat.blt g 19 then bif Nat.beq g 18 then some (.a 11) else none else bif Nat.blt g 20 then bif Nat.beq g 19 then some (.a 11) else none else bif Nat.beq g 20 then some (.a 11) else none else bif Nat.blt g 24 then bif Nat.blt g 22 then bif Nat.beq g 21 then some (.a 2) else none else bif Nat.blt g 23 then bif Nat.beq g 22 then some (.slice 7 .no) else none else bif Nat.beq g 23 then some (.a 32) else none else bif Nat.blt g 25 then bif Nat.beq g 24 then some (.slice 2 .no) else none else bif Nat.blt g 26 then bif Nat.beq g 25 then some (.a 7) else none else bif Nat.beq g 26 then some (.a 7) else none else bif Nat.blt g 39 then bif Nat.blt g 33 then bif Nat.blt g 30 then bif Nat.blt g 28 then bif Nat.beq g 27 then some (.tuple [(.a 11), (.int .i64)]) else none else bif Nat.blt g 29 then bif Nat.beq g 28 then some .bool else none else bif Nat.beq g 29 then some (.tuple [(.a 11), (.int .i64)]) else none else bif Nat.blt g 31 then bif Nat.beq g 30 then some .bool else none else bif Nat.blt g 32 then bif Nat.beq g 31 then some .bool else none else bif Nat.beq g 32 then some .bool else none else bif Nat.blt g 36 then bif Nat.blt g 34 then bif Nat.beq g 33 then some (.a 7) else none else bif Nat.blt g 35 then bif Nat.beq g 34 then some .str else none else bif Nat.beq g 35 then some (.tuple [(.slice 7 .no), (.a 2)]) else none else bif Nat.blt g 37 then bif Nat.beq g 36 then some (.a 2) else none else bif Nat.blt g 38 then bif Nat.beq g 37 then some (.tuple [(.slice 5 .no), (.a 2)]) else none else bif Nat.beq g 38 then some (.tuple [(.a 7), (.a 2)]) else none else bif Nat.blt g 45 then bif Nat.blt g 42 then bif Nat.blt g 40 then bif Nat.beq g 39 then some (.slice 2 (.fr 2)) else none else bif Nat.blt g 41 then bif Nat.beq g 40 then some (.a 11) else none else bif Nat.beq g 41 then some .str else none else bif Nat.blt g 43 then bif Nat.beq g 42 then some (.tuple [(.slice 7 .no), .bool]) else none else bif Nat.blt g 44 then bif Nat.beq g 43 then some (.a 7) else none else bif Nat.beq g 44 then some (.tuple [(.a 7), .bool]) else none else bif Nat.blt g 48 then bif Nat.blt g 46 then bif Nat.beq g 45 then some (.slice 2 (.fr 2)) else none else bif Nat.blt g 47 then bif Nat.beq g 46 then some .bool else none else bif Nat.beq g 47 then some (.a 11) else none else bif Nat.blt g 49 then bif Nat.beq g 48 then some (.a 11) else none else bif Nat.blt g 50 then bif Nat.beq g 49 then some (.a 11) else none else bif Nat.beq g 50 then some (.tuple [(.slice 7 .no), .bool]) else none else bif Nat.blt g 75 then bif Nat.blt g 63 then bif Nat.blt g 57 then bif Nat.blt g 54 then bif Nat.blt g 52 then bif Nat.beq g 51 then some (.tuple [(.a 11), (.int .i64)]) else none else bif Nat.blt g 53 then bif Nat.beq g 52 then some (.tuple [(.a 11), (.int .i64)]) else none else bif Nat.beq g 53 then some (.tuple [(.a 2), (.slice 7 .no), .bool]) else none else bif Nat.blt g 55 then bif Nat.beq g 54 then some (.int .i64) else none else bif Nat.blt g 56 then bif Nat.beq g 55 then some (.tuple [(.a 7), (.int .i64)]) else none else bif Nat.beq g 56 then some (.tuple [(.int .i64), .bool]) else none else bif Nat.blt g 60 then bif Nat.blt g 58 then bif Nat.beq g 57 then some (.a 11) else none else bif Nat.blt g 59 then bif Nat.beq g 58 then some (.int .i64) else none else bif Nat.beq g 59 then some (.int .i64) else none else bif Nat.blt g 61 then bif Nat.beq g 60 then some .bool else none else bif Nat.blt g 62 then bif Nat.beq g 61 then some .bool else none else bif Nat.beq g 62 then some (.tuple [(.a 11), .bool]) else none else bif Nat.blt g 69 then bif Nat.blt g 66 then bif Nat.blt g 64 then bif Nat.beq g 63 then some (.tuple [(.a 11), (.int .i64)]) else none else bif Nat.blt g 65 then bif Nat.beq g 64 then some (.tuple [(.a 7), .bool]) else none else bif Nat.beq g 65 then some .bool else none else bif Nat.blt g 67 then bif Nat.beq g 66 then some (.tuple [(.a 15), .bool]) else none else bif Nat.blt g 68 then bif Nat.beq g 67 then some .bool else none else bif Nat.beq g 68 then some (.tuple [(.a 7), .bool, (.int .i64)]) else none else bif Nat.blt g 72 then bif Nat.blt g 70 then bif Nat.beq g 69 then some (.tuple [(.int .i64), .bool]) else none else bif Nat.blt g 71 then bif Nat.beq g 70 then some (.int .i64) else none else bif Nat.beq g 71 then some (.int .i64) else none else bif Nat.blt g 73 then bif Nat.beq g 72 then some .bool else none else bif Nat.blt g 74 then bif Nat.beq g 73 then some (.tuple [.str, .str]) else none else bif Nat.beq g 74 then some .str else none else bif Nat.blt g 87 then bif Nat.blt g 81 then bif Nat.blt g 78 then bif Nat.blt g 76 then bif Nat.beq g 75 then some (.int .i64) else none else bif Nat.blt g 77 then bif Nat.beq g 76 then some (.tuple [(.int .i64), .bool]) else none else bif Nat.beq g 77 then some (.tuple [(.a 5), (.int .i64), (.a 2)]) else none else bif Nat.blt g 79 then bif Nat.beq g 78 then some (.a 7) else none else bif Nat.blt g 80 then bif Nat.beq g 79 then some (.tuple [(.a 2), (.int .i64)]) else none else bif Nat.beq g 80 then some (.tuple [(.a 7), (.a 2)]) else none else bif Nat.blt g 84 then bif Nat.blt g 82 then bif Nat.beq g 81 then some .bool else none else bif Nat.blt g 83 then bif Nat.beq g 82 then some .bool else none else bif Nat.beq g 83 then some (.slice 2 .no) else none else bif Nat.blt g 85 then bif Nat.beq g 84 then some .bool else none else bif Nat.blt g 86 then bif Nat.beq g 85 then some .bool else none else bif Nat.beq g 86 then some (.a 7) else none else bif Nat.blt g 93 then bif Nat.blt g 90 then bif Nat.blt g 88 then bif Nat.beq g 87 then some (.a 11) else none else bif Nat.blt g 89 then bif Nat.beq g 88 then some (.a 11) else none else bif Nat.beq g 89 then some .bool else none else bif Nat.blt g 91 then bif Nat.beq g 90 then some (.tuple [(.slice 1 .no), .bool]) else none else bif Nat.blt g 92 then bif Nat.beq g 91 then some .bool else none else bif Nat.beq g 92 then some .bool else none else bif Nat.blt g 96 then bif Nat.blt g 94 then bif Nat.beq g 93 then some .bool else none else bif Nat.blt g 95 then bif Nat.beq g 94 then some .bool else none else bif Nat.beq g 95 then some (.tuple [(.a 15), .bool]) else none else bif Nat.blt g 97 then bif Nat.beq g 96 then some .bool else none else bif Nat.blt g 98 then bif Nat.beq g 97 then some (.tuple [(.a 7), .bool]) else none else bif Nat.beq g 98 then some (.a 7) else none else bif Nat.blt g 147 then bif Nat.blt g 123 then bif Nat.blt g 111 then bif Nat.blt g 105 then bif Nat.blt g 102 then bif Nat.blt g 100 then bif Nat.beq g 99 then some (.tuple [(.a 7), (.int .i64), (.int .i64)]) else none else bif Nat.blt g 101 then bif Nat.beq g 100 then some (.tuple [(.int .i64), .bool]) else none else bif Nat.beq g 101 then some (.int .i64) else none else bif Nat.blt g 103 then bif Nat.beq g 102 then some (.int .i64) else none else bif Nat.blt g 104 then bif Nat.beq g 103 then some .bool else none else bif Nat.beq g 104 then some .bool else none else bif Nat.blt g 108 then bif Nat.blt g 106 then bif Nat.beq g 105 then some .bool else none else bif Nat.blt g 107 then bif Nat.beq g 106 then some .bool else none else bif Nat.beq g 107 then some .bool else none else bif Nat.blt g 109 then bif Nat.beq g 108 then some .bool else none else bif Nat.blt g 110 then bif Nat.beq g 109 then some (.tuple [(.slice 2 .no), (.slice 7 .no), (.int .i64)]) else none else bif Nat.beq g 110 then some (.a 7) else none else bif Nat.blt g 117 then bif Nat.blt g 114 then bif Nat.blt g 112 then bif Nat.beq g 111 then some (.tuple [(.a 7), .bool]) else none else bif Nat.blt g 113 then bif Nat.beq g 112 then some (.tuple [(.a 7), (.int .i64), (.int .i64)]) else none else bif Nat.beq g 113 then some (.slice 9 .no) else none else bif Nat.blt g 115 then bif Nat.beq g 114 then some (.tuple [(.int .i64), .bool]) else none else bif Nat.blt g 116 then bif Nat.beq g 115 then some (.int .i64) else none else bif Nat.beq g 116 then some (.int .i64) else none else bif Nat.blt g 120 then bif Nat.blt g 118 then bif Nat.beq g 117 then some .bool else none else bif Nat.blt g 119 then bif Nat.beq g 118 then some (.tuple [.bool, (.slice 1 .no)]) else none else bif Nat.beq g 119 then some .str else none else bif Nat.blt g 121 then bif Nat.beq g 120 then some (.tuple [(.slice 1 .no), (.slice 1 .no)]) else none else bif Nat.blt g 122 then bif Nat.beq g 121 then some .str else none else bif Nat.beq g 122 then some .str else none else bif Nat.blt g 135 then bif Nat.blt g 129 then bif Nat.blt g 126 then bif Nat.blt g 124 then bif Nat.beq g 123 then some (.int .i64) else none else bif Nat.blt g 125 then bif Nat.beq g 124 then some .bool else none else bif Nat.beq g 125 then some .bool else none else bif Nat.blt g 127 then bif Nat.beq g 126 then some (.tuple [.str, (.int .i64), (.a 2)]) else none else bif Nat.blt g 128 then bif Nat.beq g 127 then some (.a 2) else none else bif Nat.beq g 128 then some .bool else none else bif Nat.blt g 132 then bif Nat.blt g 130 then bif Nat.beq g 129 then some (.int .i64) else none else bif Nat.blt g 131 then bif Nat.beq g 130 then some (.tuple [(.a 5), (.int .i64), (.a 2)]) else none else bif Nat.beq g 131 then some (.tuple [.str, .str, .bool]) else none else bif Nat.blt g 133 then bif Nat.beq g 132 then some .str else none else bif Nat.blt g 134 then bif Nat.beq g 133 then some (.int .i64) else none else bif Nat.beq g 134 then some (.tuple [(.a 2), .bool]) else none else bif Nat.blt g 141 then bif Nat.blt g 138 then bif Nat.blt g 136 then bif Nat.beq g 135 then some (.a 7) else none else bif Nat.blt g 137 then bif Nat.beq g 136 then some (.int .i64) else none else bif Nat.beq g 137 then some (.tuple [(.int .i64), .bool]) else none else bif Nat.blt g 139 then bif Nat.beq g 138 then some .bool else none else bif Nat.blt g 140 then bif Nat.beq g 139 then some .bool else none else bif Nat.beq g 140 then some (.a 7) else none else bif Nat.blt g 144 then bif Nat.blt g 142 then bif Nat.beq g 141 then some (.a 7) else none else bif Nat.blt g 143 then bif Nat.beq g 142 then some (.a 7) else none else bif Nat.beq g 143 then some (.a 7) else none else bif Nat.blt g 145 then bif Nat.beq g 144 then some (.tuple [(.a 7), .bool]) else none else bif Nat.blt g 146 then bif Nat.beq g 145 then some (.a 7) else none else bif Nat.beq g 146 then some (.tuple [(.a 7), .bool]) else none else bif Nat.blt g 173 then bif Nat.blt g 161 then bif Nat.blt g 154 then bif Nat.blt g 151 then bif Nat.blt g 149 then bif Nat.beq g 147 then some (.a 7) else none else bif Nat.blt g 150 then bif Nat.beq g 149 then some (.tuple [(.int .i64), .bool]) else none else bif Nat.beq g 150 then some (.tuple [(.a 37), .bool]) else none else bif Nat.blt g 152 then bif Nat.beq g 151 then some (.int .i64) else none else bif Nat.blt g 153 then bif Nat.beq g 152 then some .bool else none else bif Nat.beq g 153 then some (.int .i64) else none else bif Nat.blt g 157 then bif Nat.blt g 155 then bif Nat.beq g 154 then some .bool else none else bif Nat.blt g 156 then bif Nat.beq g 155 then some .bool else none else bif Nat.beq g 156 then some (.a 7) else none else bif Nat.blt g 158 then bif Nat.beq g 157 then some (.a 7) else none else bif Nat.blt g 159 then bif Nat.beq g 158 then some (.a 7) else none else bif Nat.beq g 159 then some (.a 7) else none else bif Nat.blt g 167 then bif Nat.blt g 164 then bif Nat.blt g 162 then bif Nat.beq g 161 then some (.tuple [(.int .i64), .bool]) else none else bif Nat.blt g 163 then bif Nat.beq g 162 then some (.tuple [(.a 37), .bool]) else none else bif Nat.beq g 163 then some (.slice 11 .no) else none else bif Nat.blt g 165 then bif Nat.beq g 164 then some .bool else none else bif Nat.blt g 166 then bif Nat.beq g 165 then some .bool else none else bif Nat.beq g 166 then some (.slice 1 .no) else none else bif Nat.blt g 170 then bif Nat.blt g 168 then bif Nat.beq g 167 then some (.int .i64) else none else bif Nat.blt g 169 then bif Nat.beq g 168 then some (.slice 1 .no) else none else bif Nat.beq g 169 then some .str else none else bif Nat.blt g 171 then bif Nat.beq g 170 then some .bool else none else bif Nat.blt g 172 then bif Nat.beq g 171 then some (.int .i64) else none else bif Nat.beq g 172 then some (.a 7) else none else bif Nat.blt g 192 then bif Nat.blt g 186 then bif Nat.blt g 179 then bif Nat.blt g 177 then bif Nat.beq g 173 then some (.a 7) else none else bif Nat.blt g 178 then bif Nat.beq g 177 then some (.int .i64) else none else bif Nat.beq g 178 then some .bool else none else bif Nat.blt g 180 then bif Nat.beq g 179 then some .bool else none else bif Nat.blt g 181 then bif Nat.beq g 180 then some .bool else none else bif Nat.beq g 181 then some .bool else none else bif Nat.blt g 189 then bif Nat.blt g 187 then bif Nat.beq g 186 then some (.tuple [(.int .i64), (.int .i64), .bool]) else none else bif Nat.blt g 188 then bif Nat.beq g 187 then some (.slice 37 .no) else none else bif Nat.beq g 188 then some .str else none else bif Nat.blt g 190 then bif Nat.beq g 189 then some (.int .i64) else none else bif Nat.blt g 191 then bif Nat.beq g 190 then some (.tuple []) else none else bif Nat.beq g 191 then some (.tuple [(.slice 1 .no), .str]) else none else bif Nat.blt g 217 then bif Nat.blt g 199 then bif Nat.blt g 193 then bif Nat.beq g 192 then some (.a 7) else none else bif Nat.blt g 198 then bif Nat.beq g 193 then some .str else none else bif Nat.beq g 198 then some .bool else none else bif Nat.blt g 200 then bif Nat.beq g 199 then some (.int .i64) else none else bif Nat.blt g 216 then bif Nat.beq g 200 then some (.tuple [.str, .str]) else none else bif Nat.beq g 216 then some .str else none else bif Nat.blt g 220 then bif Nat.blt g 218 then bif Nat.beq g 217 then some .str else none else bif Nat.blt g 219 then bif Nat.beq g 218 then some .str else none else bif Nat.beq g 219 then some .str else none else bif Nat.blt g 246 then bif Nat.beq g 220 then some (.tuple [.str, .str]) else none else bif Nat.blt g 264 then bif Nat.beq g 246 then some .str else none else bif Nat.beq g 264 then some .bool else none
end Go.Proofs.YtpjpeojfddbdoaaGreatDoor
