/- Evaluation in plain Lean: what has to hold for a term to have a value with a property. -/
import Derived.Test.YtccafnaghnbpeaaGreatDoorCR9d
import Derived.Test.YtccafnaghnbpeaaGreatDoorCS0
set_option linter.all false
namespace Go.Proofs.YtccafnaghnbpeaaGreatDoor
open Go.Abs LQ
set_option maxRecDepth 100000
set_option maxHeartbeats 4000000
noncomputable section
def W (L : List (List F)) (E : Prop) (t : T) (env : Bds) (l : Nat) (Q : O → Nat → Prop) : Prop :=
 ∃ n r, evT apO L n t env l = some r ∧ (r.2.1 = 0 ∧ Q r.1 r.2.2 ∨ r.2.1 ≠ 0 ∧ E)
variable {L : List (List F)} {E : Prop}
theorem W.mono {t : T} {env : Bds} {l : Nat} {Q Q' : O → Nat → Prop} (h : W L E t env l Q) (k : ∀ o m, Q o m → Q' o m) : W L E t env l Q' := by
 obtain ⟨n, r, h1, h2⟩ := h
 exact ⟨n, r, h1, h2.imp (fun h => ⟨h.1, k _ _ h.2⟩) id⟩
theorem W_v {s : Sy} {env : Bds} {l : Nat} {Q : O → Nat → Prop} {o : O} (hn : env.length < 90000) (h : valOf env s = some o) (k : Q o l) : W L E (.v s) env l Q := by
 refine ⟨1, (o, 0, l), ?_, .inl ⟨rfl, k⟩⟩
 show evS apO L _ (.v s) env l = _
 rw [evS, if_neg (by omega), h]
theorem W_c {o : O} {env : Bds} {l : Nat} {Q : O → Nat → Prop} (k : Q o l) : W L E (.c o) env l Q := ⟨1, (o, 0, l), rfl, .inl ⟨rfl, k⟩⟩
def WA (L : List (List F)) (E : Prop) : List T → Bds → Nat → (List O → Nat → Prop) → Prop
 | [], _, l, Q => Q [] l
 | t :: ts, env, l, Q => W L E t env l fun x m => WA L E ts env m fun xs k => Q (x :: xs) k
theorem WA.ev {ts : List T} {env : Bds} : ∀ {l : Nat} {Q : List O → Nat → Prop} {acc : List O}, WA L E ts env l Q →
  ∃ n q, evA (fun t l => evT apO L n t env l) ts l acc = some q ∧ ((∃ os m, q = .inr (acc ++ os, m) ∧ Q os m) ∨ (∃ p, q = .inl p ∧ p.1 ≠ 0 ∧ E)) := by
 induction ts with
 | nil => intro l Q acc h; exact ⟨0, _, rfl, .inl ⟨[], l, by rw [List.append_nil], h⟩⟩
 | cons t ts ih =>
  intro l Q acc ⟨n, r, h1, h2⟩
  rcases h2 with ⟨h0, h2⟩ | ⟨h0, h2⟩
  ·obtain ⟨m, q, k1, k2⟩ := ih (acc := acc ++ [r.1]) h2
   refine ⟨max n m, q, ?_, ?_⟩
   ·rw [evA, evT_le (Nat.le_max_left n m) h1]
    simp only [if_pos h0]
    exact evA_mono (fun t l r => evT_le (Nat.le_max_right n m)) k1
   ·rcases k2 with ⟨os, m, e, k⟩ | k
    ·exact .inl ⟨r.1 :: os, m, by rw [e, List.append_assoc]; rfl, k⟩
    ·exact .inr k
  ·refine ⟨n, .inl (r.2.1, r.2.2), ?_, .inr ⟨_, rfl, h0, h2⟩⟩
   rw [evA, h1]
   simp only [if_neg h0]
theorem W_if {a b c : T} {env : Bds} {l : Nat} {Q : O → Nat → Prop} (h0 : l < 1 → E)
  (h : 1 ≤ l → W L E a env (l - 1) fun x m => bif O.eqb x nilO then W L E c env m Q else W L E b env m Q) : W L E (.call (lispS, dec 2 26217) [a, b, c]) env l Q := by
 by_cases hl : l < 1
 ·exact ⟨1, (.no, 9, l), by show evS apO L _ _ _ _ = _; rw [evS, if_neg (by simp), if_pos hl], .inr ⟨show (9 : Int) ≠ 0 by decide, h0 hl⟩⟩
 obtain ⟨n, r, h1, h2⟩ := h (by omega)
 have key : ∀ N, evT apO L (N + 1) (.call (lispS, dec 2 26217) [a, b, c]) env l = evI (fun t l => evT apO L N t env l) [a, b, c] (l - 1) := fun N => by
  show evS apO L _ _ _ _ = _
  rw [evS, if_neg (by simp), if_neg hl]
  have e1 : arOf L (lispS, dec 2 26217) = some 3 := rfl
  rw [e1]
  rfl
 rcases h2 with ⟨h0, h2⟩ | ⟨h0, h2⟩
 ·cases hx : O.eqb r.1 nilO with
  | true =>
   rw [hx] at h2
   obtain ⟨m, r2, k1, k2⟩ := h2
   refine ⟨max n m + 1, r2, ?_, k2⟩
   rw [key, evI, evT_le (Nat.le_max_left n m) h1]
   simp only [if_pos h0, hx, if_true]
   exact evT_le (Nat.le_max_right n m) k1
  | false =>
   rw [hx] at h2
   obtain ⟨m, r2, k1, k2⟩ := h2
   refine ⟨max n m + 1, r2, ?_, k2⟩
   rw [key, evI, evT_le (Nat.le_max_left n m) h1]
   simp only [if_pos h0, hx, Bool.false_eq_true, if_false]
   exact evT_le (Nat.le_max_right n m) k1
 ·refine ⟨n + 1, r, ?_, .inr ⟨h0, h2⟩⟩
  rw [key, evI, h1]
  simp only [if_neg h0]
def WPr (E : Prop) (f : Sy) (os : List O) (Q : O → Prop) : Prop := ∃ q, apO f os = some q ∧ (q.2 = 0 ∧ Q q.1 ∨ q.2 ≠ 0 ∧ E)
theorem W_prim {f : Sy} {xs : List T} {env : Bds} {l : Nat} {Q : O → Nat → Prop} {k : Int} (hf : primOf f = some k) (hk : k = xs.length) (hx : xs.length < 90000) (hi : isC (.call f xs) (dec 2 26217) 3 = false) (h0 : l < 1 → E)
  (h : 1 ≤ l → WA L E xs env (l - 1) fun os m => WPr E f os fun o => Q o m) : W L E (.call f xs) env l Q := by
 by_cases hl : l < 1
 ·exact ⟨1, (.no, 9, l), by show evS apO L _ _ _ _ = _; rw [evS, if_neg (by omega), if_pos hl], .inr ⟨show (9 : Int) ≠ 0 by decide, h0 hl⟩⟩
 obtain ⟨n, q, h1, h2⟩ := (h (by omega)).ev (acc := [])
 have key : evT apO L (n + 1) (.call f xs) env l = evC apO L (evT apO L n) f xs env (l - 1) := by
  show evS apO L _ _ _ _ = _
  rw [evS, if_neg (by omega), if_neg hl]
  have e1 : arOf L f = some k := by rw [arOf, hf]
  rw [e1]
  simp only [if_pos hk, hf, hi, Option.isNone_some, Bool.false_eq_true, false_and, if_false]
 rcases h2 with ⟨os, m, e, h2⟩ | ⟨p, e, h3, h2⟩
 ·obtain ⟨q2, k1, k2⟩ := h2
  refine ⟨n + 1, (q2.1, q2.2, m), ?_, k2⟩
  rw [key, evC, h1, e]
  simp only [hf, List.nil_append, k1, Option.map_some]
 ·refine ⟨n + 1, (.no, p.1, p.2), ?_, .inr ⟨h3, h2⟩⟩
  rw [key, evC, h1, e]
theorem W_fn {f : Sy} {xs : List T} {env : Bds} {l : Nat} {Q : O → Nat → Prop} {fn : F} (hf : primOf f = none) (hF : fnd L f = some fn) (hc : fn.cl = 1) (hk : fn.ps.length = xs.length) (hx : xs.length < 90000) (h0 : l < 1 → E)
  (h : 1 ≤ l → WA L E xs env (l - 1) fun os m => W L E fn.bo (List.zip fn.ps os) m Q) : W L E (.call f xs) env l Q := by
 by_cases hl : l < 1
 ·exact ⟨1, (.no, 9, l), by show evS apO L _ _ _ _ = _; rw [evS, if_neg (by omega), if_pos hl], .inr ⟨show (9 : Int) ≠ 0 by decide, h0 hl⟩⟩
 obtain ⟨n, q, h1, h2⟩ := (h (by omega)).ev (acc := [])
 have hi : isC (.call f xs) (dec 2 26217) 3 = false := by
  rw [isC]
  by_cases e : f = (lispS, dec 2 26217)
  ·subst e; exact absurd hf (by decide)
  ·rw [decide_eq_false e]; rfl
 have key : ∀ N, evT apO L (N + 1) (.call f xs) env l = evC apO L (evT apO L N) f xs env (l - 1) := fun N => by
  show evS apO L _ _ _ _ = _
  rw [evS, if_neg (by omega), if_neg hl]
  have e1 : arOf L f = some (xs.length : Int) := by rw [arOf, hf, hF]; simp only [Option.map_some, hk]
  have e2 : clOf L f = 1 := by rw [clOf, hF]; exact hc
  rw [e1]
  simp only [if_true, hi, e2, ne_eq, not_true_eq_false, and_false, Bool.false_eq_true, if_false]
 rcases h2 with ⟨os, m, e, h2⟩ | ⟨p, e, h3, h2⟩
 ·obtain ⟨N, r2, k1, k2⟩ := h2
  refine ⟨max n N + 1, r2, ?_, k2⟩
  have h1' := evA_mono (rec' := fun t l => evT apO L (max n N) t env l) (fun t l r => evT_le (Nat.le_max_left n N)) h1
  rw [key, evC, h1', e]
  simp only [hf, hF, List.nil_append]
  exact evT_le (Nat.le_max_right n N) k1
 ·refine ⟨n + 1, (.no, p.1, p.2), ?_, .inr ⟨h3, h2⟩⟩
  rw [key, evC, h1, e]
end
end Go.Proofs.YtccafnaghnbpeaaGreatDoor
namespace Go.Proofs.YtccafnaghnbpeaaGreatDoor
open Go.Abs LQ
set_option maxRecDepth 100000
set_option maxHeartbeats 4000000
noncomputable section
def ok (o : O) : Prop := o.size ≤ 3000 ∧ o.fm = true
theorem fm_num {n : Int} {d : Nat} (h : (O.num n d).fm = true) : (showInt n).length ≤ 102 ∧ (showNat d).length ≤ 102 := by
 have h := of_decide_eq_true h
 obtain ⟨_, h1, h2⟩ := h
 unfold digitsS at h1 h2
 rw [decVal_showInt] at h1
 rw [decVal_showNat, Int.natAbs_natCast] at h2
 have k1 := showInt_len n
 have k2 := showNat_len d
 constructor <;> omega
theorem fm_sm : ∀ {o : O}, o.fm = true → o.sm
 | .num n d, h => by have := fm_num h; exact ⟨by omega, by omega⟩
 | .sy s, h => by
  change named s = true at h
  unfold named validPkg at h
  simp only [Bool.and_eq_true, decide_eq_true_eq] at h
  exact ⟨by omega, by omega⟩
 | .tx s, h => by have h : s.length ≤ 200 := of_decide_eq_true h; show s.length < 9000; omega
 | .co a d, h => by
  change (a.fm && d.fm) = true at h
  rw [Bool.and_eq_true] at h
  exact ⟨fm_sm h.1, fm_sm h.2⟩
 | .no, h => by cases h
theorem fm_fx {o : O} (h : o.fm = true) : o.fx := by
 have k0 : (showInt 0).length ≤ 11 := showInt_small (by decide)
 have k1 : (showNat 1).length ≤ 11 := by rw [← showInt_nat]; exact showInt_small (by decide)
 cases o with
 | num n d => have := fm_num h; exact ⟨show (showInt n).length < 2000 by omega, show (showNat d).length < 2000 by omega⟩
 | _ => exact ⟨show (showInt 0).length < 2000 by omega, show (showNat 1).length < 2000 by omega⟩
theorem apV_ok {o : O} (h : ok o) : apV o = some (o, 0) := by
 unfold apV
 rw [if_pos (fm_sm h.2), if_pos (by rw [decide_eq_true h.1, h.2]; rfl)]
theorem ok_co {a d : O} (h : ok (.co a d)) : ok a ∧ ok d := by
 obtain ⟨h1, h2⟩ := h
 have e : (O.co a d).size = 1 + a.size + d.size := rfl
 change (a.fm && d.fm) = true at h2
 rw [Bool.and_eq_true] at h2
 exact ⟨⟨by omega, h2.1⟩, ⟨by omega, h2.2⟩⟩
theorem ok_num (n : Int) (h : -1000000000 < n ∧ n < 1000000000) : ok (.num n 1) := by
 refine ⟨by show 1 ≤ 3000; decide, decide_eq_true ⟨?_, ?_, ?_⟩⟩
 ·rw [reduceS_qn, decVal_showInt, decVal_showNat]
  show (showInt (qn n 1).1, showNat (qn n 1).2) = _
  rw [qn_one]
 ·unfold digitsS
  rw [decVal_showInt]
  have := digs_small (n := n.natAbs) (k := 9) (by omega)
  omega
 ·unfold digitsS
  rw [decVal_showNat, Int.natAbs_natCast]
  have := digs_small (n := 1) (k := 1) (by decide)
  omega
theorem pkg_lisp : validPkg lispS = true := by
 unfold validPkg
 rw [pkg_in (i := 0) (by decide) (by decide), pkg_in (i := 1) (by decide) (by decide), pkg_in (i := 2) (by decide) (by decide), pkg_in (i := 3) (by decide) (by decide), pkg_end (by decide)]
 decide
theorem ok_lisp {s : Str} (h : 1 ≤ s.length ∧ s.length ≤ 40) : ok (.sy (lispS, s)) := by
 refine ⟨by show 1 ≤ 3000; decide, ?_⟩
 show named _ = true
 unfold named
 rw [pkg_lisp, decide_eq_true h]; rfl
theorem ok_nil : ok nilO := ok_lisp (by decide)
theorem ok_t : ok tO := ok_lisp (by decide)
theorem ok_truth (b : Bool) : ok (truthO b) := by cases b; exact ok_nil; exact ok_t
theorem eqb_truth (b : Bool) : O.eqb (truthO b) nilO = !b := by
 cases b
 ·exact O.eqb_t.2 rfl
 ·refine O.eqb_f.2 fun h => ?_
  injection h with h
  exact absurd (congrArg Prod.snd h) (by decide)
theorem ite_truth {b : Bool} {p q : Prop} : (bif O.eqb (truthO b) nilO then p else q) = (bif b then q else p) := by
 rw [eqb_truth]
 cases b <;> rfl
theorem ok_car {o : O} (h : ok o) : ok (carO o) := by cases o with | co a d => exact (ok_co h).1 | _ => exact ok_nil
theorem ok_cdr {o : O} (h : ok o) : ok (cdrO o) := by cases o with | co a d => exact (ok_co h).2 | _ => exact ok_nil
theorem int_fx (n : Int) (h : -1000000000 < n ∧ n < 1000000000) : (O.num n 1).fx := fm_fx (ok_num n h).2
theorem sum_int (a b : Int) : sumO (.num a 1) (.num b 1) = .num (a + b) 1 := by
 show numO (qn (a * (1 : Nat) + b * (1 : Nat)) ((1 : Nat) * (1 : Nat))) = _
 rw [show a * ((1 : Nat) : Int) + b * ((1 : Nat) : Int) = a + b by omega, show (((1 : Nat) : Int) * ((1 : Nat) : Int)) = 1 by decide, qn_one]
 rfl
theorem less_int (a b : Int) : lessO (.num a 1) (.num b 1) = decide (a < b) := by
 show decide (cmpZ (a * (1 : Nat)) (b * (1 : Nat)) < 0) = _
 rw [show a * ((1 : Nat) : Int) = a by omega, show b * ((1 : Nat) : Int) = b by omega]
 unfold cmpZ
 apply decide_eq_decide.2
 split
 ·exact ⟨fun _ => ‹_›, fun _ => by decide⟩
 ·split
  ·exact ⟨fun h => absurd h (by decide), fun h => by omega⟩
  ·exact ⟨fun h => absurd h (by decide), fun h => by omega⟩
section
variable {L : List (List F)} {E : Prop} {env : Bds} {l : Nat} {Q : O → Nat → Prop}
theorem W_p1 {s : Str} {t : T} {r : O → O} (hf : primOf (lispS, s) = some 1) (hn : ¬ s = dec 2 26217) (ho : ∀ x, oneO s x = some (r x)) (h0 : l < 1 → E) (h : 1 ≤ l → W L E t env (l - 1) fun x m => ok (r x) ∧ Q (r x) m) : W L E (.call (lispS, s) [t]) env l Q :=
 W_prim hf rfl (by decide : 1 < 90000) (by rw [isC, decide_eq_false (fun e => hn (congrArg Prod.snd e))]; rfl) h0 fun hl => (h hl).mono fun x m k => ⟨(r x, 0), by
  unfold apO
  rw [hf]
  show (if ((1 : Nat) : Int) = 1 then _ else _) = _
  rw [if_pos (by decide)]
  show (oneO s x).bind apV = _
  rw [ho x]
  exact apV_ok k.1, .inl ⟨rfl, k.2⟩⟩
theorem W_p2 {s : Str} {t u : T} (hf : primOf (lispS, s) = some 2) (hn : ¬ s = dec 2 26217) (h0 : l < 1 → E) (h : 1 ≤ l → W L E t env (l - 1) fun x m => W L E u env m fun y k => ∃ o, twoO s x y = some o ∧ ok o ∧ Q o k) : W L E (.call (lispS, s) [t, u]) env l Q :=
 W_prim hf rfl (by decide : 2 < 90000) (by rw [isC, decide_eq_false (fun e => hn (congrArg Prod.snd e))]; rfl) h0 fun hl => (h hl).mono fun x m k => k.mono fun y m2 k => by
  obtain ⟨o, k1, k2, k3⟩ := k
  refine ⟨(o, 0), ?_, .inl ⟨rfl, k3⟩⟩
  unfold apO
  rw [hf]
  show (if ((2 : Nat) : Int) = 2 then _ else _) = _
  rw [if_pos (by decide)]
  show (twoO s x y).bind apV = _
  rw [k1]
  exact apV_ok k2
abbrev sCar : Str := dec 3 7496035
abbrev sCdr : Str := dec 3 7496803
abbrev sConsp : Str := dec 5 482972954467
abbrev sIntp : Str := dec 8 8102650174351109737
abbrev sEqual : Str := dec 5 465491554661
abbrev sConsF : Str := dec 4 1936617315
abbrev sPlus : Str := dec 8 3111276449750739298
abbrev sLt : Str := dec 1 60
theorem W_car {t : T} (h0 : l < 1 → E) (h : 1 ≤ l → W L E t env (l - 1) fun x m => ok x ∧ Q (carO x) m) : W L E (.call (lispS, sCar) [t]) env l Q :=
 W_p1 (r := carO) rfl (by decide) (fun _ => rfl) h0 fun hl => (h hl).mono fun _ _ k => ⟨ok_car k.1, k.2⟩
theorem W_cdr {t : T} (h0 : l < 1 → E) (h : 1 ≤ l → W L E t env (l - 1) fun x m => ok x ∧ Q (cdrO x) m) : W L E (.call (lispS, sCdr) [t]) env l Q :=
 W_p1 (r := cdrO) rfl (by decide) (fun _ => rfl) h0 fun hl => (h hl).mono fun _ _ k => ⟨ok_cdr k.1, k.2⟩
theorem W_consp {t : T} (h0 : l < 1 → E) (h : 1 ≤ l → W L E t env (l - 1) fun x m => Q (truthO x.isCo) m) : W L E (.call (lispS, sConsp) [t]) env l Q :=
 W_p1 (r := fun x => truthO x.isCo) rfl (by decide) (fun _ => rfl) h0 fun hl => (h hl).mono fun _ _ k => ⟨ok_truth _, k⟩
theorem W_intp {t : T} (h0 : l < 1 → E) (h : 1 ≤ l → W L E t env (l - 1) fun x m => Q (truthO x.isInt) m) : W L E (.call (lispS, sIntp) [t]) env l Q :=
 W_p1 (r := fun x => truthO x.isInt) rfl (by decide) (fun _ => rfl) h0 fun hl => (h hl).mono fun _ _ k => ⟨ok_truth _, k⟩
theorem W_equal {t u : T} (h0 : l < 1 → E) (h : 1 ≤ l → W L E t env (l - 1) fun x m => W L E u env m fun y k => Q (truthO (O.eqb x y)) k) : W L E (.call (lispS, sEqual) [t, u]) env l Q :=
 W_p2 rfl (by decide) h0 fun hl => (h hl).mono fun _ _ k => k.mono fun _ _ k => ⟨_, rfl, ok_truth _, k⟩
theorem W_cons {t u : T} (h0 : l < 1 → E) (h : 1 ≤ l → W L E t env (l - 1) fun x m => W L E u env m fun y k => ok (.co x y) ∧ Q (.co x y) k) : W L E (.call (lispS, sConsF) [t, u]) env l Q :=
 W_p2 rfl (by decide) h0 fun hl => (h hl).mono fun _ _ k => k.mono fun _ _ k => ⟨_, rfl, k.1, k.2⟩
theorem W_plus {t u : T} (h0 : l < 1 → E) (h : 1 ≤ l → W L E t env (l - 1) fun x m => W L E u env m fun y k => ∃ a b : Int, x = .num a 1 ∧ y = .num b 1 ∧ (-100000000 < a ∧ a < 100000000) ∧ (-100000000 < b ∧ b < 100000000) ∧ Q (.num (a + b) 1) k) : W L E (.call (lispS, sPlus) [t, u]) env l Q :=
 W_p2 rfl (by decide) h0 fun hl => (h hl).mono fun x _ k => k.mono fun y _ ⟨a, b, ha, hb, h1, h2, k⟩ => ⟨.num (a + b) 1, by
  show (if x.fx ∧ y.fx then some (sumO x y) else none) = _
  subst ha hb
  rw [if_pos ⟨int_fx a ⟨by omega, by omega⟩, int_fx b ⟨by omega, by omega⟩⟩, sum_int], ok_num _ ⟨by omega, by omega⟩, k⟩
theorem W_less {t u : T} (h0 : l < 1 → E) (h : 1 ≤ l → W L E t env (l - 1) fun x m => W L E u env m fun y k => ok x ∧ ok y ∧ Q (truthO (lessO x y)) k) : W L E (.call (lispS, sLt) [t, u]) env l Q :=
 W_p2 rfl (by decide) h0 fun hl => (h hl).mono fun x _ k => k.mono fun y _ ⟨h1, h2, k⟩ => ⟨_, by
  show (if x.fx ∧ y.fx then some (truthO (lessO x y)) else none) = _
  rw [if_pos ⟨fm_fx h1.2, fm_fx h2.2⟩], ok_truth _, k⟩
end
end
end Go.Proofs.YtccafnaghnbpeaaGreatDoor
namespace Go.Proofs.YtccafnaghnbpeaaGreatDoor
open Go.Abs LQ
set_option maxRecDepth 100000
set_option maxHeartbeats 4000000
noncomputable section
variable {E : Prop} {env : Bds} {l : Nat} {Q : O → Nat → Prop}
theorem W_f0 {t0 : T} (h0 : l < 1 → E) (h : 1 ≤ l → W PL E t0 env (l - 1) fun x0 m0 => W PL E (.call y3 [.v y1, .c (.sy y4), .c (.sy y2)]) [(y1, x0)] m0 Q) : W PL E (.call y0 [t0]) env l Q :=
 W_fn (fn := fn0) (by rfl) fnd0 rfl rfl (show 1 < 90000 by decide) h0 h
theorem W_f9 {t0 : T} (h0 : l < 1 → E) (h : 1 ≤ l → W PL E t0 env (l - 1) fun x0 m0 => W PL E (.call y3 [.call y18 [.v y9], .call y0 [.call y20 [.v y9, .c (.num 0 1)]], .c (.sy y4)]) [(y9, x0)] m0 Q) : W PL E (.call y19 [t0]) env l Q :=
 W_fn (fn := fn9) (by rfl) fnd9 rfl rfl (show 1 < 90000 by decide) h0 h
theorem W_f10 {t0 : T} (h0 : l < 1 → E) (h : 1 ≤ l → W PL E t0 env (l - 1) fun x0 m0 => W PL E (.call y3 [.call y18 [.v y9], .call y20 [.c (.num 0 1), .v y9], .c (.sy y4)]) [(y9, x0)] m0 Q) : W PL E (.call y21 [t0]) env l Q :=
 W_fn (fn := fn10) (by rfl) fnd10 rfl rfl (show 1 < 90000 by decide) h0 h
theorem W_f12 {t0 : T} (h0 : l < 1 → E) (h : 1 ≤ l → W PL E t0 env (l - 1) fun x0 m0 => W PL E (.call y3 [.call y18 [.v y9], .call y0 [.call y20 [.c (.num 0 1), .v y9]], .c (.sy y2)]) [(y9, x0)] m0 Q) : W PL E (.call y23 [t0]) env l Q :=
 W_fn (fn := fn12) (by rfl) fnd12 rfl rfl (show 1 < 90000 by decide) h0 h
theorem W_f13 {t0 : T} (h0 : l < 1 → E) (h : 1 ≤ l → W PL E t0 env (l - 1) fun x0 m0 => W PL E fn13.bo [(y9, x0)] m0 Q) : W PL E (.call y24 [t0]) env l Q :=
 W_fn (fn := fn13) (by rfl) fnd13 rfl rfl (show 1 < 90000 by decide) h0 h
theorem W_f14 {t0 : T} (h0 : l < 1 → E) (h : 1 ≤ l → W PL E t0 env (l - 1) fun x0 m0 => W PL E (.call y0 [.call y13 [.v y9]]) [(y9, x0)] m0 Q) : W PL E (.call y28 [t0]) env l Q :=
 W_fn (fn := fn14) (by rfl) fnd14 rfl rfl (show 1 < 90000 by decide) h0 h
theorem W_f15 {t0 : T} (h0 : l < 1 → E) (h : 1 ≤ l → W PL E t0 env (l - 1) fun x0 m0 => W PL E (.call y3 [.call y13 [.v y9], .call y26 [.call y26 [.v y9]], .c (.num 0 1)]) [(y9, x0)] m0 Q) : W PL E (.call y29 [t0]) env l Q :=
 W_fn (fn := fn15) (by rfl) fnd15 rfl rfl (show 1 < 90000 by decide) h0 h
theorem W_f16 {t0 : T} (h0 : l < 1 → E) (h : 1 ≤ l → W PL E t0 env (l - 1) fun x0 m0 => W PL E (.call y3 [.call y13 [.v y9], .call y27 [.call y26 [.v y9]], .v y9]) [(y9, x0)] m0 Q) : W PL E (.call y30 [t0]) env l Q :=
 W_fn (fn := fn16) (by rfl) fnd16 rfl rfl (show 1 < 90000 by decide) h0 h
theorem W_f17 {t0 : T} (h0 : l < 1 → E) (h : 1 ≤ l → W PL E t0 env (l - 1) fun x0 m0 => W PL E (.call y3 [.call y13 [.v y9], .call y27 [.v y9], .c (.num 0 1)]) [(y9, x0)] m0 Q) : W PL E (.call y31 [t0]) env l Q :=
 W_fn (fn := fn17) (by rfl) fnd17 rfl rfl (show 1 < 90000 by decide) h0 h
theorem W_f18 {t0 t1 : T} (h0 : l < 1 → E) (h : 1 ≤ l → W PL E t0 env (l - 1) fun x0 m0 => W PL E t1 env m0 fun x1 m1 => W PL E fn18.bo [(y9, x0), (y33, x1)] m1 Q) : W PL E (.call y32 [t0, t1]) env l Q :=
 W_fn (fn := fn18) (by rfl) fnd18 rfl rfl (show 2 < 90000 by decide) h0 h
theorem W_f19 {t0 : T} (h0 : l < 1 → E) (h : 1 ≤ l → W PL E t0 env (l - 1) fun x0 m0 => W PL E fn19.bo [(y9, x0)] m0 Q) : W PL E (.call y34 [t0]) env l Q :=
 W_fn (fn := fn19) (by rfl) fnd19 rfl rfl (show 1 < 90000 by decide) h0 h
theorem W_f20 {t0 : T} (h0 : l < 1 → E) (h : 1 ≤ l → W PL E t0 env (l - 1) fun x0 m0 => W PL E fn20.bo [(y9, x0)] m0 Q) : W PL E (.call y35 [t0]) env l Q :=
 W_fn (fn := fn20) (by rfl) fnd20 rfl rfl (show 1 < 90000 by decide) h0 h
theorem b_f20 : fn20.bo = .call y3 [.call y13 [.v y9], .call y25 [.c (.num 1 1), .call y35 [.call y27 [.v y9]]], .c (.num 0 1)] := rfl
theorem W_f22 {t0 t1 : T} (h0 : l < 1 → E) (h : 1 ≤ l → W PL E t0 env (l - 1) fun x0 m0 => W PL E t1 env m0 fun x1 m1 => W PL E fn22.bo [(y9, x0), (y33, x1)] m1 Q) : W PL E (.call y37 [t0, t1]) env l Q :=
 W_fn (fn := fn22) (by rfl) fnd22 rfl rfl (show 2 < 90000 by decide) h0 h
theorem b_f22 : fn22.bo = .call y3 [.call y13 [.v y9], .call y38 [.call y26 [.v y9], .call y37 [.call y27 [.v y9], .v y33]], .v y33] := rfl
theorem W_f23 {t0 : T} (h0 : l < 1 → E) (h : 1 ≤ l → W PL E t0 env (l - 1) fun x0 m0 => W PL E fn23.bo [(y9, x0)] m0 Q) : W PL E (.call y39 [t0]) env l Q :=
 W_fn (fn := fn23) (by rfl) fnd23 rfl rfl (show 1 < 90000 by decide) h0 h
theorem b_f23 : fn23.bo = .call y3 [.call y13 [.v y9], .call y37 [.call y39 [.call y27 [.v y9]], .call y38 [.call y26 [.v y9], .c (.sy y4)]], .c (.sy y4)] := rfl
theorem W_f24 {t0 t1 : T} (h0 : l < 1 → E) (h : 1 ≤ l → W PL E t0 env (l - 1) fun x0 m0 => W PL E t1 env m0 fun x1 m1 => W PL E fn24.bo [(y41, x0), (y9, x1)] m1 Q) : W PL E (.call y40 [t0, t1]) env l Q :=
 W_fn (fn := fn24) (by rfl) fnd24 rfl rfl (show 2 < 90000 by decide) h0 h
theorem b_f24 : fn24.bo = .call y3 [.call y13 [.v y9], .call y3 [.call y10 [.v y41, .call y26 [.v y9]], .v y9, .call y40 [.v y41, .call y27 [.v y9]]], .c (.sy y4)] := rfl
theorem W_f26 {t0 t1 : T} (h0 : l < 1 → E) (h : 1 ≤ l → W PL E t0 env (l - 1) fun x0 m0 => W PL E t1 env m0 fun x1 m1 => W PL E fn26.bo [(y46, x0), (y9, x1)] m1 Q) : W PL E (.call y45 [t0, t1]) env l Q :=
 W_fn (fn := fn26) (by rfl) fnd26 rfl rfl (show 2 < 90000 by decide) h0 h
theorem b_f26 : fn26.bo = .call y3 [.call y23 [.v y46], .call y26 [.v y9], .call y45 [.call y25 [.c (.num (-1) 1), .v y46], .call y27 [.v y9]]] := rfl
theorem W_f27 {t0 t1 t2 : T} (h0 : l < 1 → E) (h : 1 ≤ l → W PL E t0 env (l - 1) fun x0 m0 => W PL E t1 env m0 fun x1 m1 => W PL E t2 env m1 fun x2 m2 => W PL E fn27.bo [(y46, x0), (y48, x1), (y9, x2)] m2 Q) : W PL E (.call y47 [t0, t1, t2]) env l Q :=
 W_fn (fn := fn27) (by rfl) fnd27 rfl rfl (show 3 < 90000 by decide) h0 h
theorem b_f27 : fn27.bo = .call y3 [.call y23 [.v y46], .call y38 [.v y48, .call y27 [.v y9]], .call y38 [.call y26 [.v y9], .call y47 [.call y25 [.c (.num (-1) 1), .v y46], .v y48, .call y27 [.v y9]]]] := rfl
end
end Go.Proofs.YtccafnaghnbpeaaGreatDoor
