/- Typed data, what stands for it in runs, and the rules by which a function's text is walked over data that are not known. No program in sight. -/
import Derived.Test.YtccafnaghnbpeaaGreatDoorCQ2
set_option linter.all false
namespace Go.Abs
noncomputable section
open Go.Abs

inductive G where
 | b (x : Bool)
 | i (k : IntKind) (n : Int)
 | s (x : List UInt8)
 | l (xs : List (List G))

mutual
/-- A value of one cell stands for this. -/
inductive RG : G → Q → Prop
 | b (x : Bool) : RG (.b x) (.bool x)
 | i (k : IntKind) (n : Int) : RG (.i k n) (.int k n)
 | s (x : List UInt8) (l c : Nat) : l = x.length → c = code x → RG (.s x) (.str l c)
 | l (xs : List (List G)) (t : Tre Q) (n off len : Nat) : len = xs.length → Rws n xs t off → RG (.l xs) (.slice t n off len)
/-- The elements, n cells each, stand in a tree from a place on. -/
inductive Rws : Nat → List (List G) → Tre Q → Nat → Prop
 | nil (n : Nat) (t : Tre Q) (off : Nat) : Rws n [] t off
 | cons (n : Nat) (r : List G) (rs : List (List G)) (t : Tre Q) (off : Nat) : r.length = n → Cel r (tQ t off) 0 → (∀ g, r = [g] → RG g (tQ t off)) → Rws n rs t (off + 1) → Rws n (r :: rs) t off
/-- The cells stand in a value from a place on. -/
inductive Cel : List G → Q → Nat → Prop
 | nil (q : Q) (i : Nat) : Cel [] q i
 | cons (g : G) (gs : List G) (q : Q) (i : Nat) : RG g (celQ q i) → Cel gs q (i + 1) → Cel (g :: gs) q i
end

def Row (r : List G) (q : Q) : Prop := Cel r q 0 ∧ ∀ g, r = [g] → RG g q
theorem Cel.get {gs : List G} : ∀ {q : Q} {i j : Nat} {g : G}, Cel gs q i → gs[j]? = some g → RG g (celQ q (i + j)) := by
 induction gs with
 | nil => intro q i j g h e; simp at e
 | cons x gs ih =>
  intro q i j g h e
  cases h with
  | cons _ _ _ _ h1 h2 =>
   cases j with
   | zero => simp at e; subst e; simpa using h1
   | succ j =>
    have := ih h2 (j := j) (by simpa using e)
    rw [show i + 1 + j = i + (j + 1) by omega] at this
    exact this
theorem Cel.of {gs : List G} : ∀ {q : Q} {i : Nat}, (∀ j g, gs[j]? = some g → RG g (celQ q (i + j))) → Cel gs q i := by
 induction gs with
 | nil => intro q i _; exact .nil q i
 | cons x gs ih =>
  intro q i h
  refine .cons _ _ _ _ (by simpa using h 0 x (by simp)) (ih fun j g e => ?_)
  have := h (j + 1) g (by simpa using e)
  rw [show i + 1 + j = i + (j + 1) by omega]
  exact this
theorem Rws.get {n : Nat} {xs : List (List G)} : ∀ {t : Tre Q} {off j : Nat} {r : List G}, Rws n xs t off → xs[j]? = some r → r.length = n ∧ Row r (tQ t (off + j)) := by
 induction xs with
 | nil => intro t off j r h e; simp at e
 | cons x xs ih =>
  intro t off j r h e
  cases h with
  | cons _ _ _ _ _ h1 h2 h2' h3 =>
   cases j with
   | zero => simp at e; subst e; exact ⟨h1, h2, h2'⟩
   | succ j =>
    have := ih h3 (j := j) (by simpa using e)
    rw [show off + 1 + j = off + (j + 1) by omega] at this
    exact this
theorem Rws.of {n : Nat} {xs : List (List G)} : ∀ {t : Tre Q} {off : Nat}, (∀ j r, xs[j]? = some r → r.length = n ∧ Row r (tQ t (off + j))) → Rws n xs t off := by
 induction xs with
 | nil => intro t off _; exact .nil n t off
 | cons x xs ih =>
  intro t off h
  refine .cons _ _ _ _ _ (h 0 x (by simp)).1 (h 0 x (by simp)).2.1 (h 0 x (by simp)).2.2 (ih fun j r e => ?_)
  have := h (j + 1) r (by simpa using e)
  rw [show off + 1 + j = off + (j + 1) by omega]
  exact this
theorem Rws.take {n : Nat} {xs : List (List G)} {t : Tre Q} {off : Nat} (h : Rws n xs t off) (k : Nat) : Rws n (xs.take k) t off := .of fun j r e => by
 rw [List.getElem?_take] at e
 split at e
 ·exact h.get e
 ·cases e
theorem Rws.drop {n : Nat} {xs : List (List G)} {t : Tre Q} {off : Nat} (h : Rws n xs t off) (k : Nat) : Rws n (xs.drop k) t (off + k) := .of fun j r e => by
 rw [List.getElem?_drop] at e
 rw [Nat.add_assoc]
 exact h.get e
theorem celQ_single (x : Q) (h : ∀ i, celQ x i = Nat.rec (motive := fun _ => Q) x (fun _ _ => .no) i) (h2 : ∀ i, subQ x i = Nat.rec (motive := fun _ => Q) x (fun _ _ => .no) i) (k j : Nat) : celQ (subQ x k) j = celQ x (k + j) := by
 rw [h2]
 cases k with
 | zero => show celQ x j = celQ x (0 + j); rw [Nat.zero_add]
 | succ k =>
  rw [h, show k + 1 + j = (k + j) + 1 by omega]
  cases j <;> rfl
theorem celQ_subQ (x : Q) (k j : Nat) : celQ (subQ x k) j = celQ x (k + j) := by
 cases x with
 | agg cs off => show gL cs (off + k + j) = gL cs (off + (k + j)); rw [Nat.add_assoc]
 | aggt t off => show tQ t (off + k + j) = tQ t (off + (k + j)); rw [Nat.add_assoc]
 | _ => exact celQ_single _ (fun _ => rfl) (fun _ => rfl) k j
theorem Cel.drop {gs : List G} {q : Q} (k : Nat) (h : Cel gs q 0) : Cel (gs.drop k) (subQ q k) 0 := .of fun j g e => by
 rw [celQ_subQ]
 rw [List.getElem?_drop] at e
 have := h.get e
 rw [show 0 + (k + j) = k + (0 + j) by omega] at this
 exact this
theorem Cel.take {gs : List G} {q : Q} {i : Nat} (k : Nat) (h : Cel gs q i) : Cel (gs.take k) q i := .of fun j g e => by
 rw [List.getElem?_take] at e
 split at e
 ·exact h.get e
 ·cases e

mutual
theorem RG.inj : ∀ {g g' : G} {x : Q}, RG g x → RG g' x → g = g'
 | _, _, _, .b x, h => by cases h; rfl
 | _, _, _, .i k n, h => by cases h; rfl
 | _, _, _, .s x l c h1 h2, h => by cases h with | s y _ _ h3 h4 => rw [← dec_code x, ← h1, ← h2, h3, h4, dec_code]
 | _, _, _, .l xs t n off len h1 h2, h => by cases h with | l ys _ _ _ _ h3 h4 => rw [Rws.inj h2 h4 (h1.symm.trans h3)]
theorem Rws.inj : ∀ {n : Nat} {xs ys : List (List G)} {t : Tre Q} {off : Nat}, Rws n xs t off → Rws n ys t off → xs.length = ys.length → xs = ys
 | _, _, ys, _, _, .nil n t off, h, e => by cases ys with | nil => rfl | cons _ _ => simp at e
 | _, _, _, _, _, .cons n r rs t off h1 h2 _ h3, h, e => by
  cases h with
  | nil => simp at e
  | cons _ r' rs' _ _ k1 k2 _ k3 => rw [Cel.inj h2 k2 (h1.trans k1.symm), Rws.inj h3 k3 (by simpa using e)]
theorem Cel.inj : ∀ {gs gs' : List G} {q : Q} {i : Nat}, Cel gs q i → Cel gs' q i → gs.length = gs'.length → gs = gs'
 | _, gs', _, _, .nil q i, h, e => by cases gs' with | nil => rfl | cons _ _ => simp at e
 | _, _, _, _, .cons g gs q i h1 h2, h, e => by
  cases h with
  | nil => simp at e
  | cons g' gs' _ _ k1 k2 => rw [RG.inj h1 k1, Cel.inj h2 k2 (by simpa using e)]
end

inductive GV where
 | c (g : G)
 | a (gs : List G)
 | t (vs : List GV)
 | p (id off : Nat)
 | sl (n : Nat) (xs : List (List G))
 | fr (z : Nat) (xs : List (List G))
 | nilI
 | fl (t : TypeId) (e p : Int)
 | raw (v : V)

mutual
inductive RV : GV → V → Prop
 | b (x : Bool) : RV (.c (.b x)) (.bool x)
 | kn (x : Bool) : RV (.c (.b x)) (.known x)
 | i (k : IntKind) (n : Int) : RV (.c (.i k n)) (.int k n)
 | s (x : List UInt8) (l c : Nat) : l = x.length → c = code x → RV (.c (.s x)) (.str l c)
 | cl (xs : List (List G)) (t : Tre Q) (n off len : Nat) : len = xs.length → Rws n xs t off → RV (.c (.l xs)) (.slice t n off len .no)
 | q (g : G) (x : Q) : RG g x → RV (.c g) (.q x)
 | a (gs : List G) (q : Q) (m : Nat) : m = gs.length → Cel gs q 0 → RV (.a gs) (.a q m)
 | ag (gs : List G) (cs : List V) : RVs (gs.map .c) cs → RV (.a gs) (.agg cs)
 | t (gs : List GV) (vs : List V) : RVs gs vs → RV (.t gs) (.tuple vs)
 | p (id off : Nat) : RV (.p id off) (.ptr id off)
 | sl (n : Nat) (xs : List (List G)) (t : Tre Q) (off len : Nat) : len = xs.length → Rws n xs t off → RV (.sl n xs) (.slice t n off len .no)
 | sl0 (n : Nat) (t : Tre Q) (off : Nat) : RV (.sl n []) (.slice t 0 off 0 .no)
 | slq (n : Nat) (xs : List (List G)) (x : Q) : RG (.l xs) x → (∀ r ∈ xs, r.length = n) → RV (.sl n xs) (.q x)
 | fr (z : Nat) (xs : List (List G)) (t : Tre Q) (off len : Nat) : len = xs.length → Rws z xs t off → RV (.fr z xs) (.slice t z off len (.fr z))
 | nilI : RV .nilI .nilIface
 | fl (t : TypeId) (e p : Int) (vs : List V) : RVs [.c (.i .i64 e), .c (.i .i64 p)] vs → RV (.fl t e p) (.iface t (.agg vs))
 | flq (t : TypeId) (e p : Int) (q : Q) : Cel [.i .i64 e, .i .i64 p] q 0 → RV (.fl t e p) (.iface t (.a q 2))
 | raw (v : V) : RV (.raw v) v
inductive RVs : List GV → List V → Prop
 | nil : RVs [] []
 | cons (g : GV) (gs : List GV) (v : V) (vs : List V) : RV g v → RVs gs vs → RVs (g :: gs) (v :: vs)
end
theorem RVs.length : ∀ {gs : List GV} {vs : List V}, RVs gs vs → gs.length = vs.length
 | [], _, h => by cases h; rfl
 | g :: gs, _, h => by cases h with | cons _ _ _ vs _ h => simp [h.length]
theorem RVs.two {g g' : GV} {gs gs' : List GV} {vs : List V} (h : RVs (g :: gs) vs) (k : RVs (g' :: gs') vs) : ∃ v l, RV g v ∧ RV g' v ∧ RVs gs l ∧ RVs gs' l := by
 cases h with | cons _ _ v l h1 h2 => cases k with | cons _ _ _ _ k1 k2 => exact ⟨v, l, h1, k1, h2, k2⟩
inductive RB : List G → Bx → Prop
 | opa (gs : List G) (q : Q) (m : Nat) : m = gs.length → Cel gs q 0 → RB gs (.opa q m)
 | cells (gs : List G) (cs : List V) : RVs (gs.map .c) cs → RB gs (.cells cs)
inductive RBs : List (List G) → List Bx → Prop
 | nil : RBs [] []
 | cons (g : List G) (gs : List (List G)) (b : Bx) (bs : List Bx) : RB g b → RBs gs bs → RBs (g :: gs) (b :: bs)
inductive GRes where
 | ret (v : GV)
 | pan (v : GV)
inductive RRes : GRes → VRes → Prop
 | ret (g : GV) (v : V) : RV g v → RRes (.ret g) (.ret v)
 | pan (g : GV) (v : V) : RV g v → RRes (.pan g) (.pan v)

theorem RV.c_inj {g g' : G} {v : V} (h : RV (.c g) v) (k : RV (.c g') v) : g = g' := by
 cases h with
 | b x => cases k; rfl
 | kn x => cases k; rfl
 | i => cases k; rfl
 | s x l c h1 h2 => cases k with | s y _ _ k1 k2 => rw [← dec_code x, ← h1, ← h2, k1, k2, dec_code]
 | cl xs t n off len h1 h2 => cases k with | cl ys _ _ _ _ k1 k2 => rw [Rws.inj h2 k2 (h1.symm.trans k1)]
 | q _ x h => cases k with | q _ _ k => exact h.inj k
theorem RVs.c_inj : ∀ {gs gs' : List G} {vs : List V}, RVs (gs.map .c) vs → RVs (gs'.map .c) vs → gs = gs'
 | [], gs', _, h, k => by
  cases h
  cases gs' with
  | nil => rfl
  | cons => cases k
 | g :: gs, gs', _, h, k => by
  cases h with
  | cons _ _ v vs h1 h2 =>
   cases gs' with
   | nil => cases k
   | cons g' gs' => cases k with | cons _ _ _ _ k1 k2 => rw [h1.c_inj k1, RVs.c_inj h2 k2]
theorem RV.a_inj {gs gs' : List G} {v : V} (h : RV (.a gs) v) (k : RV (.a gs') v) : gs = gs' := by
 cases h with
 | a _ q m h1 h2 => cases k with | a _ _ _ k1 k2 => exact h2.inj k2 (h1.symm.trans k1)
 | ag _ cs h => cases k with | ag _ _ k => exact h.c_inj k
theorem RV.sl_inj {n n' : Nat} {xs ys : List (List G)} {v : V} (h : RV (.sl n xs) v) (k : RV (.sl n' ys) v) : xs = ys := by
 cases h with
 | sl _ _ t off len h1 h2 =>
  cases k with
  | sl _ _ _ _ _ k1 k2 => exact Rws.inj h2 k2 (h1.symm.trans k1)
  | sl0 => simpa using h1.symm
 | sl0 _ t off =>
  cases k with
  | sl _ _ _ _ _ k1 k2 => exact (List.length_eq_zero_iff.1 k1.symm).symm
  | sl0 => rfl
 | slq _ _ x h _ => cases k with | slq _ _ _ k _ => have := h.inj k; injection this
theorem RB.inj {gs gs' : List G} {b : Bx} (h : RB gs b) (k : RB gs' b) : gs = gs' := by
 cases h with
 | opa q m h1 h2 => cases k with | opa _ _ k1 k2 => exact h2.inj k2 (h1.symm.trans k1)
 | cells cs h => cases k with | cells _ k => exact h.c_inj k
abbrev KJ' := List V → List Bx → Om
def Sat (U : CombU) (M : Om) (P : VRes → List Bx → Prop) : Prop := U = CU → ∃ v bs, M = some (v, bs) ∧ P v bs
def Says (U : CombU) (b : Bool) (p : Prop) : Prop := U = CU → (b = true ↔ p)

section
variable {U : CombU} {P : VRes → List Bx → Prop}
theorem CUfQ (x : Q) (K : Q → Om) : CU.fQ x K = K x := fQ_eq x K
theorem CUfI (x : Int) (K : Int → Om) : CU.fI x K = K x := fI_eq x K
theorem CUfN (x : Nat) (K : Nat → Om) : CU.fN x K = K x := fN_eq x K
theorem CUfB (x : Bool) (K : Bool → Om) : CU.fB x K = K x := fB_eq x K
theorem trT : Says U true True := fun _ => by simp
theorem trF : Says U false False := fun _ => by simp
theorem trNot {b : Bool} {p : Prop} (h : Says U b p) : Says U (U.bnot b) (¬p) := fun e => by
 have := h e; subst e; rw [← this]; show bnot b = true ↔ _; cases b <;> simp [bnot]
theorem trAnd {a b : Bool} {p q : Prop} (h : Says U a p) (k : Says U b q) : Says U (U.band a b) (p ∧ q) := fun e => by
 rw [← h e, ← k e]; subst e; show band a b = true ↔ _; cases a <;> cases b <;> simp [band]
theorem trLt {a b : Int} : Says U (U.iLt a b) (a < b) := fun e => by subst e; show iLt a b = true ↔ _; rw [iLt_eq]; simp
theorem trLe {a b : Int} : Says U (U.iLe a b) (a ≤ b) := fun e => by subst e; show iLe a b = true ↔ _; rw [iLe_eq]; simp
theorem trEq {a b : Int} : Says U (U.iEq a b) (a = b) := fun e => by subst e; show iEq a b = true ↔ _; rw [iEq_eq]; simp
theorem trLtN {a : Int} {n : Nat} : Says U (U.iLt a (U.iOfN n)) (a < (n : Int)) := fun e => by subst e; exact trLt rfl
theorem trLeN {a : Int} {n : Nat} : Says U (U.iLe a (U.iOfN n)) (a ≤ (n : Int)) := fun e => by subst e; exact trLe rfl
theorem trnLe {a b : Nat} : Says U (U.nLe a b) (a ≤ b) := fun e => by subst e; show Nat.ble a b = true ↔ _; rw [Nat.ble_eq]
theorem trnLe1 {a k b : Nat} : Says U (U.nLe (U.nAdd a k) b) (a + k ≤ b) := fun e => by subst e; exact trnLe rfl
theorem trnLe2 {a k m b : Nat} : Says U (U.nLe (U.nMul (U.nAdd a k) m) b) ((a + k) * m ≤ b) := fun e => by subst e; exact trnLe rfl
theorem trnLe3 {a : Int} {m b : Nat} : Says U (U.nLe (U.nMul (U.iNat a) m) b) (a.toNat * m ≤ b) := fun e => by subst e; show Nat.ble (iNat a * m) b = true ↔ _; rw [iNat_eq, Nat.ble_eq]
theorem trnLe4 {a : Int} {b : Nat} : Says U (U.nLe (U.iNat a) b) (a.toNat ≤ b) := fun e => by subst e; show Nat.ble (iNat a) b = true ↔ _; rw [iNat_eq, Nat.ble_eq]
theorem trnEq {a b : Nat} : Says U (U.nEq a b) (a = b) := fun e => by subst e; show Nat.beq a b = true ↔ _; rw [Nat.beq_eq]
theorem trS {l c l' c' : Nat} : Says U (U.sEq l c l' c') (dec l c = dec l' c') := fun e => by subst e; show sEq l c l' c' = true ↔ _; rw [sEq_eq]; simp
theorem trSS {x y : List UInt8} : Says U (U.sEq x.length (code x) y.length (code y)) (x = y) := fun e => by rw [trS e, dec_code, dec_code]
theorem trSL {x : List UInt8} {l c : Nat} : Says U (U.sEq x.length (code x) l c) (x = dec l c) := fun e => by rw [trS e, dec_code]
theorem trV {b : Bool} : Says U b (b = true) := fun _ => Iff.rfl

theorem sRet {v : VRes} {bs : List Bx} (h : P v bs) : Sat U (some (v, bs)) P := fun _ => ⟨v, bs, rfl, h⟩
theorem sRetU {v : VRes} {bs : List Bx} (h : U = CU → P v bs) : Sat U (some (v, bs)) P := fun e => ⟨v, bs, rfl, h e⟩
theorem cuEq (a b : Int) : CU.iEq a b = decide (a = b) := by show iEq a b = _; rw [iEq_eq]; rfl
theorem cuLt (a b : Int) : CU.iLt a b = decide (a < b) := by show iLt a b = _; rw [iLt_eq]
theorem cuLe (a b : Int) : CU.iLe a b = decide (a ≤ b) := by show iLe a b = _; rw [iLe_eq]
theorem cuNot (a : Bool) : CU.bnot a = !a := by cases a <;> rfl
theorem cuSL (x : List UInt8) (l c : Nat) : CU.sEq x.length (code x) l c = decide (x = dec l c) := by
 show sEq _ _ _ _ = _; rw [sEq_eq, dec_code]; by_cases h : x = dec l c <;> simp [h]
theorem sCons {v : V} {l : List V} {K : V → List V → Om} (h : Sat U (K v l) P) : Sat U (U.uCons (v :: l) K) P := fun e => by have := h e; subst e; exact this
theorem sConsR {g : GV} {gs : List GV} {vs : List V} {K : V → List V → Om} (hv : RVs (g :: gs) vs) (h : ∀ v l, RV g v → RVs gs l → Sat U (K v l) P) : Sat U (U.uCons vs K) P := by
 cases hv with | cons _ _ v l h1 h2 => exact sCons (h v l h1 h2)
theorem sNil {K : Om} (h : Sat U K P) : Sat U (U.uNil [] K) P := fun e => by have := h e; subst e; exact this
theorem sNilR {vs : List V} {K : Om} (hv : RVs [] vs) (h : Sat U K P) : Sat U (U.uNil vs K) P := by cases hv; exact sNil h
theorem sConsB {v : Bx} {l : List Bx} {K : Bx → List Bx → Om} (h : Sat U (K v l) P) : Sat U (U.uConsB (v :: l) K) P := fun e => by have := h e; subst e; exact this
theorem sConsBR {g : List G} {gs : List (List G)} {vs : List Bx} {K : Bx → List Bx → Om} (hv : RBs (g :: gs) vs) (h : ∀ v l, RB g v → RBs gs l → Sat U (K v l) P) : Sat U (U.uConsB vs K) P := by
 cases hv with | cons _ _ v l h1 h2 => exact sConsB (h v l h1 h2)
theorem sNilB {K : Om} (h : Sat U K P) : Sat U (U.uNilB [] K) P := fun e => by have := h e; subst e; exact this
theorem sNilBR {vs : List Bx} {K : Om} (hv : RBs [] vs) (h : Sat U K P) : Sat U (U.uNilB vs K) P := by cases hv; exact sNilB h
theorem sP {id off : Nat} {K : Om} (h : Sat U K P) : Sat U (U.uP id off (.ptr id off) K) P := fun e => by
 have := h e; subst e
 show ∃ v bs, cond (Nat.beq id id) (cond (Nat.beq off off) K none) none = some (v, bs) ∧ P v bs
 rw [Nat.beq_refl, Nat.beq_refl]; exact this
theorem sPR {id off : Nat} {v : V} {K : Om} (hv : RV (.p id off) v) (h : Sat U K P) : Sat U (U.uP id off v K) P := by cases hv; exact sP h
theorem sI {k : IntKind} {n : Int} {v : V} {K : Int → Om} (hv : RV (.c (.i k n)) v) (h : Sat U (K n) P) : Sat U (U.uI k v K) P := fun e => by
 have := h e; subst e
 cases hv with
 | i => show ∃ v bs, cond (ikEq k k) (K n) none = some (v, bs) ∧ P v bs; rw [ikEq_refl]; exact this
 | q _ x hx => cases hx; show ∃ v bs, cond (ikEq k k) (K n) none = some (v, bs) ∧ P v bs; rw [ikEq_refl]; exact this
theorem sIV {k : IntKind} {n : Int} {K : Int → Om} (h : Sat U (K n) P) : Sat U (U.uI k (.int k n) K) P := sI (.i k n) h
theorem sB {x : Bool} {v : V} {K : Bool → Om} (hv : RV (.c (.b x)) v) (h : Sat U (K x) P) : Sat U (U.uB v K) P := fun e => by
 have := h e; subst e
 cases hv with
 | b => exact this
 | kn => exact this
 | q _ _ hx => cases hx; exact this
theorem sBV {x : Bool} {K : Bool → Om} (h : Sat U (K x) P) : Sat U (U.uB (.bool x) K) P := sB (.b x) h
theorem sBK {x : Bool} {K : Bool → Om} (h : Sat U (K x) P) : Sat U (U.uB (.known x) K) P := sB (.kn x) h
theorem sS {x : List UInt8} {v : V} {K : Nat → Nat → Om} (hv : RV (.c (.s x)) v) (h : Sat U (K x.length (code x)) P) : Sat U (U.uS v K) P := fun e => by
 have := h e; subst e
 cases hv with
 | s _ l c h1 h2 => subst h1 h2; exact this
 | q _ _ hx => cases hx with | s _ l c h1 h2 => subst h1 h2; exact this
theorem sSV {l c : Nat} {K : Nat → Nat → Om} (h : Sat U (K l c) P) : Sat U (U.uS (.str l c) K) P := fun e => by have := h e; subst e; exact this
theorem Rws.len {n : Nat} {xs : List (List G)} {t : Tre Q} {off : Nat} (h : Rws n xs t off) : ∀ r ∈ xs, r.length = n := fun r hr => by
 obtain ⟨j, hj⟩ := List.getElem?_of_mem hr
 exact (h.get hj).1
theorem sCSl {n : Nat} {xs : List (List G)} {x : Q} {K : Tre Q → Nat → Nat → Om} (hx : RG (.l xs) x) (hn : ∀ r ∈ xs, r.length = n) (h : ∀ t off, Rws n xs t off → Sat U (K t off xs.length) P) : Sat U (U.cSl n x K) P := fun e => by
 subst e
 cases hx with
 | l _ t n' off len h1 h2 =>
  subst h1
  show ∃ v bs, cond (Nat.beq n n') (K t off xs.length) (cond (Nat.beq xs.length 0) (K .nil 0 0) none) = some (v, bs) ∧ P v bs
  cases xs with
  | nil =>
   cases Nat.beq n n' with
   | true => exact h t off (.nil _ _ _) rfl
   | false => exact h .nil 0 (.nil _ _ _) rfl
  | cons r rs =>
   have h3 := hn r List.mem_cons_self
   have h4 := h2.len r List.mem_cons_self
   have : n = n' := h3.symm.trans h4
   subst this
   rw [Nat.beq_refl]
   exact h t off h2 rfl
theorem sSl {n : Nat} {xs : List (List G)} {v : V} {K : Tre Q → Nat → Nat → Om} (hv : RV (.sl (n + 1) xs) v) (h : ∀ t off, Rws (n + 1) xs t off → Sat U (K t off xs.length) P) : Sat U (U.uSl (n + 1) 0 v K) P := by
 cases hv with
 | sl _ _ t off len h1 h2 =>
  subst h1
  intro e
  have := h t off h2 e
  subst e
  show ∃ v bs, cond (Nat.beq (n + 1) (n + 1)) (K t off xs.length) (chk (nEq xs.length 0) (K .nil 0 0)) = some (v, bs) ∧ P v bs
  rw [Nat.beq_refl]; exact this
 | sl0 _ t off =>
  intro e
  have := h .nil 0 (.nil _ _ _) e
  subst e
  exact this
 | slq _ _ x hx hn =>
  intro e
  have := sCSl (U := U) (P := P) (K := K) hx hn h e
  subst e
  exact this
theorem sSlV {n c : Nat} {z : Cap} {t : Tre Q} {off len : Nat} {K : Tre Q → Nat → Nat → Om} (hc : capN z = c) (h : Sat U (K t off len) P) : Sat U (U.uSl (n + 1) c (.slice t (n + 1) off len z) K) P := fun e => by
 have := h e; subst e
 show ∃ v bs, cond (Nat.beq (capN z) c) (cond (Nat.beq (n + 1) (n + 1)) (K t off len) (chk (nEq len 0) (K .nil 0 0))) none = some (v, bs) ∧ P v bs
 rw [hc, Nat.beq_refl, Nat.beq_refl]; exact this
theorem sSlN {n c : Nat} {z : Cap} {t : Tre Q} {off : Nat} {K : Tre Q → Nat → Nat → Om} (hc : capN z = c) (h : Sat U (K .nil 0 0) P) : Sat U (U.uSl n c (.slice t 0 off 0 z) K) P := fun e => by
 have := h e; subst e
 show ∃ v bs, cond (Nat.beq (capN z) c) (K .nil 0 0) none = some (v, bs) ∧ P v bs
 rw [hc, Nat.beq_refl]; exact this
theorem sCSlM {α : Type} {f : α → List G} {n : Nat} {ys : List α} {x : Q} {K : Tre Q → Nat → Nat → Om} (hx : RG (.l (ys.map f)) x) (hn : ∀ r ∈ ys.map f, r.length = n) (h : ∀ t off, Rws n (ys.map f) t off → Sat U (K t off ys.length) P) : Sat U (U.cSl n x K) P :=
 sCSl hx hn fun t off k => by rw [List.length_map]; exact h t off k
theorem sSlM {α : Type} {f : α → List G} {n : Nat} {ys : List α} {v : V} {K : Tre Q → Nat → Nat → Om} (hv : RV (.sl (n + 1) (ys.map f)) v) (h : ∀ t off, Rws (n + 1) (ys.map f) t off → Sat U (K t off ys.length) P) : Sat U (U.uSl (n + 1) 0 v K) P :=
 sSl hv fun t off k => by rw [List.length_map]; exact h t off k
theorem exQ_c {g : G} {v : V} (h : RV (.c g) v) : ∃ x, uA.exQ v = some x ∧ RG g x := by
 cases h with
 | b x => exact ⟨_, rfl, .b x⟩
 | kn x => exact ⟨_, rfl, .b x⟩
 | i k n => exact ⟨_, rfl, .i k n⟩
 | s x l c h1 h2 => exact ⟨_, rfl, .s x l c h1 h2⟩
 | cl xs t n off len h1 h2 => exact ⟨_, rfl, .l xs t n off len h1 h2⟩
 | q _ x h => exact ⟨_, rfl, h⟩
inductive CelL : List G → List Q → Prop
 | nil : CelL [] []
 | cons (g : G) (gs : List G) (q : Q) (qs : List Q) : RG g q → CelL gs qs → CelL (g :: gs) (q :: qs)
theorem CelL.get : ∀ {gs : List G} {qs : List Q}, CelL gs qs → ∀ {j g}, gs[j]? = some g → RG g (gL qs j)
 | _, _, .nil, j, g, e => by simp at e
 | _, _, .cons g gs q qs h1 h2, 0, g', e => by simp at e; subst e; exact h1
 | _, _, .cons g gs q qs h1 h2, j + 1, g', e => CelL.get h2 (j := j) (by simpa using e)
theorem CelL.cel {gs : List G} {qs : List Q} (h : CelL gs qs) : Cel gs (.agg qs 0) 0 := .of fun j g e => by
 have := h.get e
 show RG g (gL qs (0 + (0 + j)))
 rw [Nat.zero_add, Nat.zero_add]; exact this
theorem exQs_c : ∀ {gs : List G} {cs : List V}, RVs (gs.map .c) cs → ∃ qs, uA.exQs cs = some qs ∧ CelL gs qs
 | [], _, h => by cases h; exact ⟨[], rfl, .nil⟩
 | g :: gs, _, h => by
  cases h with
  | cons _ _ v vs h1 h2 =>
   obtain ⟨x, e1, k1⟩ := exQ_c h1
   obtain ⟨qs, e2, k2⟩ := exQs_c h2
   exact ⟨x :: qs, by simp only [uA.exQs, e1, e2], .cons _ _ _ _ k1 k2⟩
theorem sA {m : Nat} {gs : List G} {q : Q} {K : Q → Om} (h : Sat U (K q) P) : Sat U (U.uA m (.a q m) K) P := fun e => by
 have := h e; subst e
 show ∃ v bs, cond (Nat.beq m m) (K q) none = some (v, bs) ∧ P v bs
 rw [Nat.beq_refl]; exact this
theorem sAR {gs : List G} {v : V} {K : Q → Om} {m : Nat} (hv : RV (.a gs) v) (hm : gs.length = m) (h : ∀ q, Cel gs q 0 → Sat U (K q) P) : Sat U (U.uA m v K) P := by
 subst hm
 cases hv with
 | a _ q m' h1 h2 => subst h1; exact sA (gs := gs) (h q h2)
 | ag _ cs hv =>
  obtain ⟨qs, e1, k1⟩ := exQs_c hv
  intro e
  have := h _ k1.cel e
  subst e
  have hl : cs.length = gs.length := by have := hv.length; simpa using this.symm
  show ∃ v bs, cond (Nat.beq cs.length gs.length) (match uA.exQs cs with
   | some qs => K (.agg qs 0)
   | none => none) none = some (v, bs) ∧ P v bs
  rw [hl, Nat.beq_refl, e1]
  exact this
theorem sBoR {gs : List G} {b : Bx} {K : Q → Om} {m : Nat} (hv : RB gs b) (hm : gs.length = m) (h : ∀ q, Cel gs q 0 → Sat U (K q) P) : Sat U (U.uBo m b K) P := by
 subst hm
 cases hv with
 | opa q m' h1 h2 =>
  subst h1
  intro e
  have := h q h2 e
  subst e
  show ∃ v bs, cond (Nat.beq gs.length gs.length) (K q) none = some (v, bs) ∧ P v bs
  rw [Nat.beq_refl]; exact this
 | cells cs hv =>
  obtain ⟨qs, e1, k1⟩ := exQs_c hv
  intro e
  have := h _ k1.cel e
  subst e
  have hl : cs.length = gs.length := by have := hv.length; simpa using this.symm
  show ∃ v bs, cond (Nat.beq cs.length gs.length) (match uA.exQs cs with
   | some qs => K (.agg qs 0)
   | none => none) none = some (v, bs) ∧ P v bs
  rw [hl, Nat.beq_refl, e1]
  exact this
theorem upTo_c {gs : List G} {x : Q} : ∀ {l : List G} (i : Nat), (∀ j g, l[j]? = some g → gs[i + j]? = some g) → Cel gs x 0 → RVs (l.map .c) ((upTo i l.length).map fun i => .q (celQ x i))
 | [], i, _, _ => .nil
 | g :: l, i, hl, h => by
  have h1 := h.get (hl 0 g (by simp))
  rw [Nat.zero_add, Nat.add_zero] at h1
  exact .cons _ _ _ _ (.q _ _ h1) (upTo_c (i + 1) (fun j g e => by rw [show i + 1 + j = i + (j + 1) by omega]; exact hl (j + 1) g (by simpa using e)) h)
theorem sBcR {gs : List G} {b : Bx} {K : List V → Om} (hv : RB gs b) (h : ∀ cs, RVs (gs.map .c) cs → Sat U (K cs) P) : Sat U (U.uBc b K) P := by
 cases hv with
 | opa q m h1 h2 =>
  subst h1
  intro e
  have := h _ (upTo_c (l := gs) 0 (fun j g e => by rw [Nat.zero_add]; exact e) h2) e
  subst e
  exact this
 | cells cs hv => intro e; have := h cs hv e; subst e; exact this
theorem sTu {gs : List GV} {v : V} {K : List V → Om} (hv : RV (.t gs) v) (h : ∀ vs, RVs gs vs → Sat U (K vs) P) : Sat U (U.uTu v K) P := by
 cases hv with | t _ vs hv => exact fun e => by have := h vs hv e; subst e; exact this
theorem sBo {m : Nat} {q : Q} {K : Q → Om} (h : Sat U (K q) P) : Sat U (U.uBo m (.opa q m) K) P := fun e => by
 have := h e; subst e
 show ∃ v bs, cond (Nat.beq m m) (K q) none = some (v, bs) ∧ P v bs
 rw [Nat.beq_refl]; exact this
theorem sBc {cs : List V} {K : List V → Om} (h : Sat U (K cs) P) : Sat U (U.uBc (.cells cs) K) P := fun e => by have := h e; subst e; exact this
theorem sBs {id len : Nat} {K : Nat → Om} (h : Sat U (K len) P) : Sat U (U.uBs id (.bslice id len) K) P := fun e => by
 have := h e; subst e
 show ∃ v bs, cond (Nat.beq id id) (K len) none = some (v, bs) ∧ P v bs
 rw [Nat.beq_refl]; exact this
theorem sBr {t : Tre Q} {len : Nat} {K : Tre Q → Nat → Om} (h : Sat U (K t len) P) : Sat U (U.uBr (.row t len) K) P := fun e => by have := h e; subst e; exact this
theorem sBt {z l : Nat} {K : Nat → Om} (h : Sat U (K l) P) : Sat U (U.uBt z (.tok l z) K) P := fun e => by
 have := h e; subst e
 show ∃ v bs, cond (Nat.beq z z) (K l) none = some (v, bs) ∧ P v bs
 rw [Nat.beq_refl]; exact this
theorem sCI {k : IntKind} {n : Int} {x : Q} {K : Int → Om} (hx : RG (.i k n) x) (h : Sat U (K n) P) : Sat U (U.cI k x K) P := fun e => by
 have := h e; subst e; cases hx
 show ∃ v bs, cond (ikEq k k) (K n) none = some (v, bs) ∧ P v bs
 rw [ikEq_refl]; exact this
theorem sCB {b : Bool} {x : Q} {K : Bool → Om} (hx : RG (.b b) x) (h : Sat U (K b) P) : Sat U (U.cB x K) P := fun e => by have := h e; subst e; cases hx; exact this
theorem sCS {s : List UInt8} {x : Q} {K : Nat → Nat → Om} (hx : RG (.s s) x) (h : Sat U (K s.length (code s)) P) : Sat U (U.cS x K) P := fun e => by
 have := h e; subst e
 cases hx with | s _ l c h1 h2 => subst h1 h2; exact this
theorem sCS' {gs : List G} {q : Q} {i : Nat} {s : List UInt8} {K : Nat → Nat → Om} (hq : Cel gs q 0) (hi : gs[i]? = some (.s s)) (h : Sat U (K s.length (code s)) P) : Sat U (U.cS (U.celQ q i) K) P := fun e => by
 subst e; have := hq.get hi; rw [Nat.zero_add] at this; exact sCS this h rfl
theorem sfCel {gs : List G} {q : Q} {i : Nat} {g : G} {K : Q → Om} (hq : Cel gs q 0) (hi : gs[i]? = some g) (h : ∀ x, RG g x → Sat U (K x) P) : Sat U (U.fQ (U.celQ q i) K) P := fun e => by
 subst e; have := hq.get hi; rw [Nat.zero_add] at this
 have := h _ this rfl
 rw [CUfQ]; exact this
theorem sfSub {gs : List G} {q : Q} {i : Nat} {K : Q → Om} (hq : Cel gs q 0) (h : ∀ x, Cel (gs.drop i) x 0 → Sat U (K x) P) : Sat U (U.fQ (U.subQ q i) K) P := fun e => by
 subst e; have := h _ (hq.drop i) rfl
 rw [CUfQ]; exact this
theorem sfSub0 {gs : List G} {q : Q} {K : Q → Om} (hq : Cel gs q 0) (h : ∀ x, Cel gs x 0 → Sat U (K x) P) : Sat U (U.fQ (U.subQ q 0) K) P := sfSub hq h
theorem sfT {n : Nat} {xs : List (List G)} {r : List G} {t : Tre Q} {off : Nat} {i : Int} {K : Q → Om} (ht : Rws n xs t off) (hi : xs[i.toNat]? = some r) (h : ∀ x, Cel r x 0 → Sat U (K x) P) : Sat U (U.fQ (U.tQ t (U.nAdd off (U.iNat i))) K) P := fun e => by
 subst e; have := h _ (ht.get hi).2.1 rfl
 rw [CUfQ]
 show ∃ v bs, K (tQ t (Nat.add off (iNat i))) = some (v, bs) ∧ P v bs
 rw [iNat_eq]; exact this
theorem sfTm {α : Type} {f : α → List G} {n : Nat} {xs : List α} {y : α} {t : Tre Q} {off : Nat} {i : Int} {K : Q → Om} (ht : Rws n (xs.map f) t off) (hi : xs[i.toNat]? = some y) (h : ∀ x, Cel (f y) x 0 → Sat U (K x) P) : Sat U (U.fQ (U.tQ t (U.nAdd off (U.iNat i))) K) P :=
 sfT ht (by rw [List.getElem?_map, hi]; rfl) h
theorem sfTi {α : Type} {f : α → List G} {n : Nat} {xs : List α} {t : Tre Q} {off : Nat} {i : Nat} {K : Q → Om} (ht : Rws n (xs.map f) t off) (hi : i < xs.length) (h : ∀ x, Cel (f xs[i]) x 0 → Sat U (K x) P) : Sat U (U.fQ (U.tQ t (U.nAdd off (U.iNat (i : Int)))) K) P :=
 sfTm ht (by rw [Int.toNat_natCast]; exact List.getElem?_eq_getElem hi) h
theorem sfB {x : Bool} {K : Bool → Om} (h : Sat U (K x) P) : Sat U (U.fB x K) P := fun e => by have := h e; subst e; rw [CUfB]; exact this
theorem sfOfN {n : Nat} {K : Int → Om} (h : Sat U (K n) P) : Sat U (U.fI (U.iOfN n) K) P := fun e => by have := h e; subst e; rw [CUfI]; exact this
theorem sfAddN {a b : Nat} {K : Nat → Om} (h : Sat U (K (a + b)) P) : Sat U (U.fN (U.nAdd a b) K) P := fun e => by have := h e; subst e; rw [CUfN]; exact this
theorem sfAddNI {a : Nat} {b : Int} {K : Nat → Om} (h : Sat U (K (a + b.toNat)) P) : Sat U (U.fN (U.nAdd a (U.iNat b)) K) P := fun e => by
 have := h e; subst e; rw [CUfN]
 show ∃ v bs, K (a + iNat b) = some (v, bs) ∧ P v bs
 rw [iNat_eq]; exact this
theorem sfSubNI {a b : Int} {K : Nat → Om} (h : Sat U (K (a.toNat - b.toNat)) P) : Sat U (U.fN (U.nSub (U.iNat a) (U.iNat b)) K) P := fun e => by
 have := h e; subst e; rw [CUfN]
 show ∃ v bs, K (iNat a - iNat b) = some (v, bs) ∧ P v bs
 rw [iNat_eq, iNat_eq]; exact this
theorem sfMulI {a : Int} {b : Nat} {K : Nat → Om} (h : Sat U (K (a.toNat * b)) P) : Sat U (U.fN (U.nMul (U.iNat a) b) K) P := fun e => by
 have := h e; subst e; rw [CUfN]
 show ∃ v bs, K (iNat a * b) = some (v, bs) ∧ P v bs
 rw [iNat_eq]; exact this
theorem sfTk {xs : List (List G)} {g : G} {t : Tre Q} {k : Nat} {K : Q → Om} (ht : Rws 1 xs t 0) (hi : xs[k]? = some [g]) (h : ∀ x, RG g x → Sat U (K x) P) : Sat U (U.fQ (U.tQ t k) K) P := fun e => by
 subst e
 have := (ht.get hi).2.2 g rfl
 rw [Nat.zero_add] at this
 have := h _ this rfl
 rw [CUfQ]; exact this
theorem sfNat {b : Int} {K : Nat → Om} (h : Sat U (K b.toNat) P) : Sat U (U.fN (U.iNat b) K) P := fun e => by
 have := h e; subst e; rw [CUfN]
 show ∃ v bs, K (iNat b) = some (v, bs) ∧ P v bs
 rw [iNat_eq]; exact this
theorem wr_i64 {e m : Int} (h : e = m) (h1 : -9223372036854775808 ≤ m) (h2 : m < 9223372036854775808) : wr .i64 e = m := by
 subst h; rw [wr_eq]; exact wrap_same .i64 _ (by show _ < ((9223372036854775808 : Nat) : Int); omega) (by show -((9223372036854775808 : Nat) : Int) ≤ _; omega)
theorem sfWrA {a b : Int} {K : Int → Om} (hr : -9223372036854775808 ≤ a + b ∧ a + b < 9223372036854775808) (h : Sat U (K (a + b)) P) : Sat U (U.fI (U.wr .i64 (U.iAdd a b)) K) P := fun e => by
 have := h e; subst e; rw [CUfI]
 show ∃ v bs, K (wr .i64 (iAdd a b)) = some (v, bs) ∧ P v bs
 rw [wr_i64 (iAdd_eq a b) hr.1 hr.2]; exact this
theorem sfWrS {a b : Int} {K : Int → Om} (hr : -9223372036854775808 ≤ a - b ∧ a - b < 9223372036854775808) (h : Sat U (K (a - b)) P) : Sat U (U.fI (U.wr .i64 (U.iSub a b)) K) P := fun e => by
 have := h e; subst e; rw [CUfI]
 show ∃ v bs, K (wr .i64 (iSub a b)) = some (v, bs) ∧ P v bs
 rw [wr_i64 (iSub_eq a b) hr.1 hr.2]; exact this
theorem sfWrM {a b : Int} {K : Int → Om} (hr : -9223372036854775808 ≤ a * b ∧ a * b < 9223372036854775808) (h : Sat U (K (a * b)) P) : Sat U (U.fI (U.wr .i64 (U.iMul a b)) K) P := fun e => by
 have := h e; subst e; rw [CUfI]
 show ∃ v bs, K (wr .i64 (iMul a b)) = some (v, bs) ∧ P v bs
 rw [wr_i64 (iMul_eq a b) hr.1 hr.2]; exact this
theorem sfWrQ {a b : Int} {K : Int → Om} (hr : -9223372036854775808 ≤ a.tdiv b ∧ a.tdiv b < 9223372036854775808) (h : Sat U (K (a.tdiv b)) P) : Sat U (U.fI (U.wr .i64 (U.iQuo a b)) K) P := fun e => by
 have := h e; subst e; rw [CUfI]
 show ∃ v bs, K (wr .i64 (iQuo a b)) = some (v, bs) ∧ P v bs
 rw [wr_i64 (iQuo_eq a b) hr.1 hr.2]; exact this
theorem sfRem {a b : Int} {K : Int → Om} (h : Sat U (K (a.tmod b)) P) : Sat U (U.fI (U.iRem a b) K) P := fun e => by
 have := h e; subst e; rw [CUfI]
 show ∃ v bs, K (iRem a b) = some (v, bs) ∧ P v bs
 rw [iRem_eq]; exact this
theorem sfRemN {n m : Nat} {e M : Int} {K : Int → Om} (he : e = n) (hM : M = m) (h : Sat U (K ((n % m : Nat) : Int)) P) : Sat U (U.fI (U.iRem e M) K) P := by
 subst he hM
 exact sfRem (by rw [Int.ofNat_tmod] at *; exact h)
theorem sfWrQN {n m : Nat} {e M : Int} {K : Int → Om} (he : e = n) (hM : M = m) (hn : n < 9223372036854775808) (h : Sat U (K ((n / m : Nat) : Int)) P) : Sat U (U.fI (U.wr .i64 (U.iQuo e M)) K) P := by
 subst he hM
 have hd := Nat.div_le_self n m
 have e1 : (n : Int).tdiv m = ((n / m : Nat) : Int) := (Int.ofNat_tdiv n m).symm
 generalize n / m = q at *
 have e2 : -9223372036854775808 ≤ (q : Int) ∧ (q : Int) < 9223372036854775808 := by omega
 exact sfWrQ (by rw [e1]; exact e2) (by rw [e1]; exact h)
theorem sfIdx {x : List UInt8} {i : Int} {K : Int → Om} (hi : i.toNat < x.length) (h : Sat U (K ((x.getD i.toNat 0).toNat : Int)) P) : Sat U (U.fI (U.iOfN (U.sIdx (code x) (U.iNat i))) K) P := fun e => by
 have := h e; subst e; rw [CUfI]
 show ∃ v bs, K ((sIdx (code x) (iNat i) : Nat) : Int) = some (v, bs) ∧ P v bs
 rw [iNat_eq, ← sIdx_eq hi, dec_code]; exact this
theorem mapLen {α : Type} {f : α → List G} {n : Nat} (hf : ∀ x, (f x).length = n) {xs : List α} : ∀ r ∈ xs.map f, r.length = n := fun r hr => by
 obtain ⟨x, _, rfl⟩ := List.mem_map.1 hr; exact hf x
theorem rvB {x y : Bool} (h : x = y) : RV (.c (.b x)) (.bool y) := h ▸ .b x
theorem rvK {x y : Bool} (h : x = y) : RV (.c (.b x)) (.known y) := h ▸ .kn x
theorem rvI {k : IntKind} {x y : Int} (h : x = y) : RV (.c (.i k x)) (.int k y) := h ▸ .i k x
theorem sfIdxN {x : List UInt8} {i : Nat} {K : Int → Om} (hi : i < x.length) (h : Sat U (K ((x.getD i 0).toNat : Int)) P) : Sat U (U.fI (U.iOfN (U.sIdx (code x) (U.iNat (i : Int)))) K) P := sfIdx (i := (i : Int)) (by rw [Int.toNat_natCast]; exact hi) (by rw [Int.toNat_natCast]; exact h)
theorem sfBE {b x : Bool} {K : Bool → Om} (hb : U = CU → b = x) (h : Sat U (K x) P) : Sat U (U.fB b K) P := fun e => by
 have e1 := hb e; have := h e; subst e e1; rw [CUfB]; exact this
theorem cuSel (c a b : Bool) : CU.bsel c a b = cond c a b := by cases c <;> rfl
theorem sfBSelN {a b : Bool} {K : Bool → Om} (h : Sat U (K (a != b)) P) : Sat U (U.fB (U.bsel a (U.bnot b) b) K) P :=
 sfBE (fun e => by subst e; rw [cuSel, cuNot]; cases a <;> cases b <;> rfl) h
theorem sfBSelE {a b : Bool} {K : Bool → Om} (h : Sat U (K (a == b)) P) : Sat U (U.fB (U.bsel a b (U.bnot b)) K) P :=
 sfBE (fun e => by subst e; rw [cuSel, cuNot]; cases a <;> cases b <;> rfl) h
theorem sfIsel {c : Bool} {p : Prop} {a b : Int} {K : Int → Om} (hc : Says U c p) (h : p → Sat U (K a) P) (k : ¬p → Sat U (K b) P) : Sat U (U.fI (U.isel c a b) K) P := fun e => by
 have h1 := hc e
 cases c with
 | true => have := h (h1.1 rfl) e; subst e; rw [CUfI]; exact this
 | false => have := k (fun hp => by cases h1.2 hp) e; subst e; rw [CUfI]; exact this
theorem sChk {b : Bool} {p : Prop} {x : Om} (ht : Says U b p) (hp : p) (h : Sat U x P) : Sat U (U.chk b x) P := fun e => by
 have h1 := (ht e).2 hp; have := h e; subst e h1; exact this
theorem sCnd {b : Bool} {p : Prop} {x y : Om} (ht : Says U b p) (h : p → Sat U x P) (k : ¬p → Sat U y P) : Sat U (U.cnd b x y) P := fun e => by
 have h1 := ht e
 cases b with
 | true => have := h (h1.1 rfl) e; subst e; exact this
 | false => have := k (fun hp => by cases h1.2 hp) e; subst e; exact this
theorem sCndT {x y : Om} (h : Sat U x P) : Sat U (U.cnd true x y) P := sCnd trT (fun _ => h) (fun k => absurd trivial k)
theorem sCndF {x y : Om} (h : Sat U y P) : Sat U (U.cnd false x y) P := sCnd trF (fun k => k.elim) (fun _ => h)
theorem sCndN {b : Bool} {x y : Om} (h : Sat U (U.cnd b y x) P) : Sat U (U.cnd (U.bnot b) x y) P := fun e => by
 have := h e; subst e
 show ∃ v bs, cnd (bnot b) x y = some (v, bs) ∧ P v bs
 rw [cnd_eq]
 have h2 : ∃ v bs, cnd b y x = some (v, bs) ∧ P v bs := this
 rw [cnd_eq] at h2
 cases b <;> exact h2
theorem sJn {f : KJ' → Om} {g : KJ'} (h : Sat U (f g) P) : Sat U (U.jn f g) P := fun e => by have := h e; subst e; exact this
theorem sJnP {f : KJ' → Om} {g : KJ'} (J : List V → List Bx → Prop) (hg : ∀ vs bs, J vs bs → Sat U (g vs bs) P) (hf : ∀ c : KJ', (∀ vs bs, J vs bs → Sat U (c vs bs) P) → Sat U (f c) P) : Sat U (U.jn f g) P := sJn (hf g hg)
def lpN (n : Nat) (body : (List V → List Bx → Om) → List V → List Bx → Om) : List V → List Bx → Om :=
 Nat.rec (motive := fun _ => List V → List Bx → Om) (fun _ _ => none) (fun _ ih => body ih) n
theorem lp_N : lp = lpN FUEL := rfl
theorem sLpN {β : Type} {body : KJ' → KJ'} (Inv : β → List V → List Bx → Prop) (μ : β → Nat)
  (step : ∀ (self : KJ') x vs bs, Inv x vs bs → (∀ y vs' bs', Inv y vs' bs' → μ y < μ x → Sat U (self vs' bs') P) → Sat U (body self vs bs) P) : ∀ n x vs bs, μ x < n → Inv x vs bs → Sat U (lpN n body vs bs) P := by
 intro n
 induction n with
 | zero => intro x vs bs h; omega
 | succ n ih =>
  intro x vs bs hx hi
  exact step _ x vs bs hi fun y vs' bs' hy hlt => ih y vs' bs' (by omega) hy
theorem lpU (e : U = CU) : U.lp = lpN FUEL := by subst e; exact lp_N
theorem sLp {β : Type} {body : KJ' → KJ'} {vs0 : List V} {bs0 : List Bx} (Inv : β → List V → List Bx → Prop) (μ : β → Nat) (x0 : β) (h0 : Inv x0 vs0 bs0) (hμ : μ x0 < FUEL)
  (step : ∀ (self : KJ') x vs bs, Inv x vs bs → (∀ y vs' bs', Inv y vs' bs' → μ y < μ x → Sat U (self vs' bs') P) → Sat U (body self vs bs) P) : Sat U (U.lp body vs0 bs0) P := fun e => by
 rw [lpU e]
 exact sLpN Inv μ step FUEL x0 vs0 bs0 hμ h0 e
theorem set_get {t : Tre Q} {x : Q} {i : Nat} (h : i + 2 ≤ 281474976710656) : tQ (t.set .no x deep i) i = x := by
 rw [tQ_eq, Tre.get_set _ _ deep _ _ (show i + 2 ≤ 281474976710656 from h)]; rfl
theorem set_get_ne {t : Tre Q} {x : Q} {i k : Nat} (h : k ≠ i) : tQ (t.set .no x deep i) k = tQ t k := by
 rw [tQ_eq, tQ_eq]
 rcases Tre.get_set_ne2 .no x deep t i k h with h | ⟨h1, h2⟩
 ·rw [h]
 ·rw [h1, h2]; rfl
theorem aT_rows {n : Nat} {t2 : Tre Q} {ys : List (List G)} : ∀ {j : Nat} {xs : List (List G)} {t : Tre Q} {off : Nat} {K : Tre Q → Om}, Rws n xs t off → Rws n ys t2 j → off + xs.length + ys.length + 1 ≤ 281474976710656 →
  ∃ t', Rws n (xs ++ ys) t' off ∧ aT t2 ys.length t (off + xs.length) j K = K t' := by
 induction ys with
 | nil => intro j xs t off K h _ _; exact ⟨t, by simpa using h, rfl⟩
 | cons y ys ih =>
  intro j xs t off K h1 h2 h3
  cases h2 with
  | cons _ _ _ _ _ k1 k2 k2' k3 =>
   simp only [List.length_cons] at h3
   have hs : Rws n (xs ++ [y]) (t.set .no (tQ t2 j) deep (off + xs.length)) off := .of fun k r e => by
    by_cases hk : k < xs.length
    ·rw [List.getElem?_append_left hk] at e
     rw [set_get_ne (by omega)]
     exact h1.get e
    ·by_cases hk2 : k = xs.length
     ·subst hk2
      simp at e
      subst e
      rw [set_get (by omega)]
      exact ⟨k1, k2, k2'⟩
     ·rw [List.getElem?_eq_none (by simp; omega)] at e; cases e
   obtain ⟨t', h4, h5⟩ := ih (K := K) hs k3 (by simp; omega)
   refine ⟨t', by simpa using h4, ?_⟩
   show cond (Nat.ble (Nat.add (off + xs.length) 2) 281474976710656) (fQ (tQ t2 j) fun e => setK e deep t (off + xs.length) fun t => aT t2 ys.length t (off + xs.length + 1) (j + 1) K) none = K t'
   have hb : Nat.ble (Nat.add (off + xs.length) 2) 281474976710656 = true := by
    rw [Nat.ble_eq]; show off + xs.length + 2 ≤ _; omega
   rw [hb, fQ_eq, setK_eq]
   simp only [List.length_append, List.length_cons, List.length_nil] at h5
   exact h5
theorem sAT {n : Nat} {xs ys : List (List G)} {t t2 : Tre Q} {off j a m : Nat} {K : Tre Q → Om} (ht : Rws n xs t off) (ht2 : Rws n ys t2 j) (ha : a = xs.length) (hm : m = ys.length) (hb : off + xs.length + ys.length + 1 ≤ 281474976710656)
  (h : ∀ t', Rws n (xs ++ ys) t' off → Sat U (K t') P) : Sat U (U.aT t2 m t (U.nAdd off a) j K) P := fun e => by
 obtain ⟨t', h1, h2⟩ := aT_rows (K := K) ht ht2 hb
 have := h t' h1 e
 subst e ha hm
 show ∃ v bs, aT t2 ys.length t (off + xs.length) j K = some (v, bs) ∧ P v bs
 rw [h2]; exact this
theorem sAT1 {n : Nat} {xs : List (List G)} {r : List G} {q : Q} {t : Tre Q} {off a : Nat} {K : Tre Q → Om} (ht : Rws n xs t off) (hr : U = CU → Row r q) (hn : r.length = n) (ha : a = xs.length) (hb : off + xs.length + 2 ≤ 281474976710656)
  (h : ∀ t', Rws n (xs ++ [r]) t' off → Sat U (K t') P) : Sat U (U.aT (.node q .nil .nil) 1 t (U.nAdd off a) 0 K) P := fun e =>
 sAT ht (ys := [r]) (t2 := .node q .nil .nil) (j := 0) (.cons _ _ _ _ _ hn (hr e).1 (hr e).2 (.nil _ _ _)) ha rfl (by simpa using hb) h e
theorem RG.cel0 {g : G} {q : Q} (h : RG g q) : celQ q 0 = q := by cases h <;> rfl
theorem row1 {g : G} {q : Q} (h : RG g q) : Row [g] q := ⟨.cons _ _ _ _ (by rw [h.cel0]; exact h) (.nil _ _), fun g' e => by cases e; exact h⟩
theorem rowN {r : List G} {q : Q} (hn : r.length ≠ 1) (h : Cel r q 0) : Row r q := ⟨h, fun g e => by subst e; exact absurd rfl hn⟩
theorem zT_rows {n : Nat} {r : List G} {x : Q} (hr : Row r x) (hn : r.length = n) : ∀ (m : Nat) {xs : List (List G)} {t : Tre Q} {off : Nat} {K : Tre Q → Om}, Rws n xs t off → off + xs.length + m + 1 ≤ 281474976710656 →
  ∃ t', Rws n (xs ++ List.replicate m r) t' off ∧ zT x m t (off + xs.length) K = K t'
 | 0, xs, t, off, K, h, _ => ⟨t, by simpa using h, rfl⟩
 | m + 1, xs, t, off, K, h1, h3 => by
  have hs : Rws n (xs ++ [r]) (t.set .no x deep (off + xs.length)) off := .of fun k r' e => by
   by_cases hk : k < xs.length
   ·rw [List.getElem?_append_left hk] at e
    rw [set_get_ne (by omega)]
    exact h1.get e
   ·by_cases hk2 : k = xs.length
    ·subst hk2
     simp at e
     subst e
     rw [set_get (by omega)]
     exact ⟨hn, hr⟩
    ·rw [List.getElem?_eq_none (by simp; omega)] at e; cases e
  obtain ⟨t', h4, h5⟩ := zT_rows hr hn m (K := K) hs (by simp; omega)
  refine ⟨t', by rw [List.append_assoc] at h4; exact h4, ?_⟩
  show cond (Nat.ble (Nat.add (off + xs.length) 2) 281474976710656) (setK x deep t (off + xs.length) fun t => zT x m t (off + xs.length + 1) K) none = K t'
  have hb : Nat.ble (Nat.add (off + xs.length) 2) 281474976710656 = true := by
   rw [Nat.ble_eq]; show off + xs.length + 2 ≤ _; omega
  rw [hb, setK_eq]
  simp only [List.length_append, List.length_cons, List.length_nil] at h5
  exact h5
theorem sZT {n m : Nat} {r : List G} {x : Q} {K : Tre Q → Om} (hr : U = CU → Row r x) (hn : r.length = n) (hm : m ≤ 140737488355328) (h : ∀ t', Rws n (List.replicate m r) t' 0 → Sat U (K t') P) : Sat U (U.zT x m .nil 0 K) P := fun e => by
 obtain ⟨t', h1, h2⟩ := zT_rows (hr e) hn m (K := K) (Rws.nil n .nil 0) (by simp; omega)
 rw [List.nil_append] at h1
 have := h t' h1 e
 subst e
 show ∃ v bs, zT x m .nil 0 K = some (v, bs) ∧ P v bs
 have h2 : zT x m .nil 0 K = K t' := h2
 rw [h2]; exact this
theorem sST {n : Nat} {xs : List (List G)} {r : List G} {x : Q} {t : Tre Q} {off i : Nat} {K : Tre Q → Om} (ht : Rws n xs t off) (hr : U = CU → Row r x) (hn : r.length = n) (hi : i < xs.length) (hb : off + i + 2 ≤ 281474976710656)
  (h : ∀ t', Rws n (xs.set i r) t' off → Sat U (K t') P) : Sat U (U.sT t (off + i) x K) P := fun e => by
 have hs : Rws n (xs.set i r) (t.set .no x deep (off + i)) off := .of fun k r' e' => by
  by_cases hk : k = i
  ·subst hk
   rw [List.getElem?_set_self (by omega)] at e'
   injection e' with e'
   subst e'
   rw [set_get (by omega)]
   exact ⟨hn, hr e⟩
  ·rw [List.getElem?_set_ne (by omega)] at e'
   rw [set_get_ne (by omega)]
   exact ht.get e'
 have := h _ hs e
 subst e
 show ∃ v bs, setK x deep t (off + i) K = some (v, bs) ∧ P v bs
 rw [setK_eq]; exact this
theorem sST0 {n : Nat} {xs : List (List G)} {r : List G} {x : Q} {t : Tre Q} {i : Nat} {K : Tre Q → Om} (ht : Rws n xs t 0) (hr : U = CU → Row r x) (hn : r.length = n) (hi : i < xs.length) (hb : i + 2 ≤ 281474976710656)
  (h : ∀ t', Rws n (xs.set i r) t' 0 → Sat U (K t') P) : Sat U (U.sT t i x K) P := fun e => by
 have h2 := sST (off := 0) (i := i) (K := K) ht hr hn hi (by omega) h e
 rw [Nat.zero_add] at h2
 exact h2
inductive TokS (id n : Nat) (xs : List (List G)) : V → Prop
 | a (t : Tre Q) (len : Nat) : len = xs.length → Rws n xs t 0 → TokS id n xs (.slice t n 0 len (.tok id))
 | b : xs = [] → TokS id n xs (.slice .nil 0 0 0 (.tok id))
theorem sSlT {id n c : Nat} {xs : List (List G)} {v : V} {K : Tre Q → Nat → Nat → Om} (hv : TokS id (n + 1) xs v) (hc : capN (.tok id) = c) (h : ∀ t, Rws (n + 1) xs t 0 → Sat U (K t 0 xs.length) P) : Sat U (U.uSl (n + 1) c v K) P := by
 cases hv with
 | a t len h1 h2 => subst h1; exact sSlV hc (h t h2)
 | b h1 => subst h1; exact sSlN hc (h .nil (.nil _ _ _))
theorem sSlTM {α : Type} {f : α → List G} {id n c : Nat} {ys : List α} {v : V} {K : Tre Q → Nat → Nat → Om} (hv : TokS id (n + 1) (ys.map f) v) (hc : capN (.tok id) = c) (h : ∀ t, Rws (n + 1) (ys.map f) t 0 → Sat U (K t 0 ys.length) P) : Sat U (U.uSl (n + 1) c v K) P :=
 sSlT hv hc fun t k => by rw [List.length_map]; exact h t k
theorem sfWr64 {e m : Int} {K : Int → Om} (he : e = m) (hr : -9223372036854775808 ≤ m ∧ m < 9223372036854775808) (h : Sat U (K m) P) : Sat U (U.fI (U.wr .i64 e) K) P := fun e' => by
 have := h e'; subst e'; rw [CUfI]
 show ∃ v bs, K (wr .i64 e) = some (v, bs) ∧ P v bs
 rw [wr_i64 he hr.1 hr.2]; exact this
theorem wr_u8 {e : Int} (h1 : 0 ≤ e) (h2 : e < 256) : wr .u8 e = e := by
 rw [wr_eq]; exact wrap_same .u8 _ (by show _ < ((256 : Nat) : Int); omega) (by show -((0 : Nat) : Int) ≤ _; omega)
theorem sfWr8S {a b m : Int} {K : Int → Om} (he : a - b = m) (hr : 0 ≤ m ∧ m < 256) (h : Sat U (K m) P) : Sat U (U.fI (U.wr .u8 (U.iSub a b)) K) P := fun e' => by
 have := h e'; subst e'; rw [CUfI]
 show ∃ v bs, K (wr .u8 (iSub a b)) = some (v, bs) ∧ P v bs
 rw [iSub_eq, he, wr_u8 hr.1 hr.2]; exact this
theorem sfWr8 {e m : Int} {K : Int → Om} (he : e = m) (hr : 0 ≤ m ∧ m < 256) (h : Sat U (K m) P) : Sat U (U.fI (U.wr .u8 e) K) P := fun e' => by
 have := h e'; subst e'; rw [CUfI]
 show ∃ v bs, K (wr .u8 e) = some (v, bs) ∧ P v bs
 rw [he, wr_u8 hr.1 hr.2]; exact this
def bg (b : UInt8) : List G := [.i .u8 b.toNat]
theorem bT_code {ys : List UInt8} : ∀ {t : Tre Q} {off : Nat} {K : Nat → Om}, Rws 1 (ys.map bg) t off → bT t ys.length off K = K (code ys) := by
 induction ys with
 | nil => intro t off K _; rfl
 | cons y ys ih =>
  intro t off K h
  cases h with
  | cons _ _ _ _ _ h1 h2 h2' h3 =>
   have h5 := h2' _ rfl
   have h6 : t.get off = some (.int .u8 y.toNat) := by
    rw [tQ_eq] at h5
    cases hg : t.get off with
    | none => rw [hg] at h5; cases h5
    | some q => rw [hg] at h5; simp at h5; cases h5; rfl
   show (match t.get off with
    | some (.int .u8 n) => bT t ys.length (off + 1) fun c => fN (Nat.add (Nat.mod (iNat n) 256) (Nat.mul 256 c)) K
    | _ => none) = _
   rw [h6]
   simp only []
   rw [ih h3, fN_eq]
   have := y.toNat_lt
   have e : Nat.add (Nat.mod (iNat (y.toNat : Int)) 256) (Nat.mul 256 (code ys)) = code (y :: ys) := by
    rw [iNat_eq]
    show y.toNat % 256 + 256 * code ys = y.toNat + 256 * code ys
    omega
   rw [e]
theorem sBT {ys : List UInt8} {t : Tre Q} {off m : Nat} {K : Nat → Om} (ht : Rws 1 (ys.map bg) t off) (hm : m = ys.length) (h : Sat U (K (code ys)) P) : Sat U (U.bT t m off K) P := fun e => by
 have := h e
 subst e hm
 show ∃ v bs, bT t ys.length off K = some (v, bs) ∧ P v bs
 rw [bT_code ht]; exact this
structure Sp where
 ι : Type
 A : ι → List GV
 B : ι → List (List G)
 R : ι → GRes
 B' : ι → List (List G)
 inj : ∀ i j vs bs, RVs (A i) vs → RVs (A j) vs → RBs (B i) bs → RBs (B j) bs → R i = R j ∧ B' i = B' j
def Ans (fn : FuncId → FunT) (g : FuncId) (sp : Sp) : Prop := ∀ i vs bs, RVs (sp.A i) vs → RBs (sp.B i) bs → ∃ v bs', fn g vs bs = some (v, bs') ∧ RRes (sp.R i) v ∧ RBs (sp.B' i) bs'
theorem sCall {fn : FuncId → FunT} {g : FuncId} {sp : Sp} (hg : Ans fn g sp) (i : sp.ι) {vs : List V} {bs : List Bx} {K : V → List Bx → Om} {Kp : V → Om} {r : GV} (hr : sp.R i = .ret r) (hv : RVs (sp.A i) vs) (hb : RBs (sp.B i) bs)
  (hk : ∀ v bs', RV r v → RBs (sp.B' i) bs' → Sat U (K v bs') P) : Sat U (U.bind (fn g vs bs) K Kp) P := fun e => by
 obtain ⟨v, bs', h1, h2, h3⟩ := hg i vs bs hv hb
 rw [hr] at h2
 cases h2 with
 | ret _ v h2 =>
  have := hk v bs' h2 h3 e
  subst e
  rw [h1]
  exact this
def Sp.lt (sp : Sp) (μ : sp.ι → Nat) (n : Nat) : Sp where
 ι := { i : sp.ι // μ i < n }
 A i := sp.A i.1
 B i := sp.B i.1
 R i := sp.R i.1
 B' i := sp.B' i.1
 inj i j := sp.inj i.1 j.1
end
end
end Go.Abs
