/- Ordinals: what o-p and o< give. -/
import Derived.Test.YtonniadanikanaaGreatDoorCS3
import Derived.Test.YtonniadanikanaaGreatDoorCRB
set_option linter.all false
namespace Go.Proofs.YtonniadanikanaaGreatDoor
open Go.Abs LQ
set_option maxRecDepth 100000
set_option maxHeartbeats 4000000
noncomputable section
def infO : O → Bool
 | .co (.co _ _) _ => true
 | _ => false
def natO : O → Bool
 | .num n d => decide (d = 1) && decide (0 ≤ n)
 | _ => false
def zeroO : O → Bool
 | .num n _ => decide (n = 0)
 | _ => false
def expO : O → O
 | .co (.co e _) _ => e
 | _ => .num 0 1
def coefO : O → O
 | .co (.co _ c) _ => c
 | o => o
def restO : O → O
 | .co (.co _ _) r => r
 | _ => .num 0 1
theorem infO_iff {a : O} (h : infO a = true) : ∃ e c r, a = .co (.co e c) r := by
 match a, h with
 | .co (.co e c) r, _ => exact ⟨e, c, r, rfl⟩
theorem exp_size {a : O} (h : infO a = true) : (expO a).size < a.size := by
 obtain ⟨e, c, r, rfl⟩ := infO_iff h
 show e.size < 1 + (1 + e.size + c.size) + r.size
 omega
theorem rest_size {a : O} (h : infO a = true) : (restO a).size < a.size := by
 obtain ⟨e, c, r, rfl⟩ := infO_iff h
 show r.size < 1 + (1 + e.size + c.size) + r.size
 omega
def lessOrd (a b : O) : Bool :=
 if h : infO a = true ∧ infO b = true then
  bif O.eqb (expO a) (expO b) then (bif O.eqb (coefO a) (coefO b) then lessOrd (restO a) (restO b) else lessO (coefO a) (coefO b)) else lessOrd (expO a) (expO b)
 else bif infO a || infO b then infO b else lessO a b
termination_by a.size
decreasing_by
 ·exact rest_size h.1
 ·exact exp_size h.1
def normOrd (o : O) : Bool :=
 if h : infO o = true then normOrd (expO o) && (!zeroO (expO o)) && natO (coefO o) && (!zeroO (coefO o)) && normOrd (restO o) && lessOrd (expO (restO o)) (expO o) else natO o
termination_by o.size
decreasing_by
 ·exact exp_size h
 ·exact rest_size h
theorem lessOrd_co (e c r e' c' r' : O) : lessOrd (.co (.co e c) r) (.co (.co e' c') r') = bif O.eqb e e' then (bif O.eqb c c' then lessOrd r r' else lessO c c') else lessOrd e e' := by
 rw [lessOrd, dif_pos ⟨rfl, rfl⟩]
 rfl
theorem normOrd_co (e c r : O) : normOrd (.co (.co e c) r) = (normOrd e && (!zeroO e) && natO c && (!zeroO c) && normOrd r && lessOrd (expO r) e) := by
 rw [normOrd, dif_pos (show infO (.co (.co e c) r) = true from rfl)]
 rfl
theorem normOrd_fin {o : O} (h : infO o = false) : normOrd o = natO o := by rw [normOrd, dif_neg (by rw [h]; decide)]
theorem natO_iff {o : O} (h : natO o = true) : ∃ n : Int, 0 ≤ n ∧ o = .num n 1 := by
 cases o with
 | num n d =>
  change (decide (d = 1) && decide (0 ≤ n)) = true at h
  rw [Bool.and_eq_true] at h
  exact ⟨n, of_decide_eq_true h.2, by rw [of_decide_eq_true h.1]⟩
 | _ => cases h
theorem norm_cases {o : O} (h : normOrd o = true) : (∃ n : Int, 0 ≤ n ∧ o = .num n 1) ∨ ∃ e c r, o = .co (.co e c) r ∧ normOrd e = true ∧ zeroO e = false ∧ natO c = true ∧ zeroO c = false ∧ normOrd r = true ∧ lessOrd (expO r) e = true := by
 cases hi : infO o with
 | false => rw [normOrd_fin hi] at h; exact .inl (natO_iff h)
 | true =>
  obtain ⟨e, c, r, rfl⟩ := infO_iff hi
  rw [normOrd_co] at h
  simp only [Bool.and_eq_true, Bool.not_eq_true'] at h
  exact .inr ⟨e, c, r, rfl, h.1.1.1.1.1, h.1.1.1.1.2, h.1.1.1.2, h.1.1.2, h.1.2, h.2⟩
theorem ok_int0 {n : Int} {d : Nat} (h : ok (.num n d)) (h0 : n = 0) : d = 1 := by
 subst h0
 have h := (of_decide_eq_true h.2).1
 rw [reduceS_qn, decVal_showInt, decVal_showNat] at h
 injection h with _ h
 have h := showNat_inj h
 unfold qn at h
 split at h
 ·exact h.symm
 ·rename_i hd
  simp only [Int.natAbs_zero, Nat.gcd_zero_left, Int.natAbs_natCast] at h
  rw [← h, Nat.div_self (by omega)]
section
variable {l : Nat} {Q : O → Nat → Prop}
theorem W_finp {E : Prop} {t : T} {env : Bds} (h0 : l < 1 → E) (h : 1 ≤ l → W PL E t env (l - 1) fun x m => (m < 3 → E) ∧ ∀ m', Q (truthO (!x.isCo)) m') : W PL E (.call (lispS, dec 6 123619517017455) [t]) env l Q :=
 W_f14 h0 fun hl => (h hl).mono fun x m ⟨hm, q⟩ => by
  refine W_f0 (fun _ => hm (by omega)) fun _ => W_consp (fun _ => hm (by omega)) fun _ => W_v0 (by simp) ?_
  refine W_if (fun _ => hm (by omega)) fun _ => W_v0 (by simp) ?_
  simp only [ite_truth]
  generalize x.isCo = b at *
  cases b
  ·exact W_c (q _)
  ·exact W_c (q _)
theorem W_fe {t : T} {env : Bds} (h : W PL True t env (l - 1) fun x _ => ok x ∧ (infO x = true ∨ x.isCo = false) ∧ ∀ m', Q (expO x) m') : W PL True (.call (lispS, dec 16 154763657438445722016110534213293714799) [t]) env l Q :=
 W_f15 (fun _ => trivial) fun _ => h.mono fun x m ⟨ho, hi, q⟩ => by
  refine W_if (fun _ => trivial) fun _ => W_consp (fun _ => trivial) fun _ => W_v0 (by simp) ?_
  simp only [ite_truth]
  rcases hi with hi | hi
  ·obtain ⟨e, c, r, rfl⟩ := infO_iff hi
   simp only [O.isCo, cond_true]
   exact W_car (fun _ => trivial) fun _ => W_car (fun _ => trivial) fun _ => W_v0 (by simp) ⟨ho, (ok_co ho).1, q _⟩
  ·have e0 : expO x = .num 0 1 := by cases x with | co _ _ => cases hi | _ => rfl
   rw [e0] at q
   rw [hi, cond_false]
   exact W_c (q _)
theorem W_fc {t : T} {env : Bds} (h : W PL True t env (l - 1) fun x _ => ok x ∧ infO x = true ∧ ∀ m', Q (coefO x) m') : W PL True (.call (lispS, dec 19 2596503303086219638716254741629954753688907119) [t]) env l Q :=
 W_f16 (fun _ => trivial) fun _ => h.mono fun x m ⟨ho, hi, q⟩ => by
  refine W_if (fun _ => trivial) fun _ => W_consp (fun _ => trivial) fun _ => W_v0 (by simp) ?_
  simp only [ite_truth]
  obtain ⟨e, c, r, rfl⟩ := infO_iff hi
  simp only [O.isCo, cond_true]
  exact W_cdr (fun _ => trivial) fun _ => W_car (fun _ => trivial) fun _ => W_v0 (by simp) ⟨ho, (ok_co ho).1, q _⟩
theorem W_rs {t : T} {env : Bds} (h : W PL True t env (l - 1) fun x _ => ok x ∧ infO x = true ∧ ∀ m', Q (restO x) m') : W PL True (.call (lispS, dec 6 128038972042607) [t]) env l Q :=
 W_f17 (fun _ => trivial) fun _ => h.mono fun x m ⟨ho, hi, q⟩ => by
  refine W_if (fun _ => trivial) fun _ => W_consp (fun _ => trivial) fun _ => W_v0 (by simp) ?_
  simp only [ite_truth]
  obtain ⟨e, c, r, rfl⟩ := infO_iff hi
  simp only [O.isCo, cond_true]
  exact W_cdr (fun _ => trivial) fun _ => W_v0 (by simp) ⟨ho, q _⟩
theorem ols_b : ∀ (n : Nat) {a b : O}, a.size < n → normOrd a = true → normOrd b = true → ok a → ok b → ∀ {l : Nat} {Q : O → Nat → Prop}, (∀ m, Q (truthO (lessOrd a b)) m) → W PL True fn18.bo [(vX, a), (vY, b)] l Q
 | 0, a, b, hn, _, _, _, _, _, _, _ => absurd hn (Nat.not_lt_zero _)
 | n + 1, a, b, hn, ha, hb, oa, ob, l, Q, k => by
  rw [b_f18]
  refine W_if (fun _ => trivial) fun _ => W_finp (fun _ => trivial) fun _ => W_v0 (by simp) ⟨fun _ => trivial, fun m => ?_⟩
  simp only [ite_truth]
  rcases norm_cases ha with ⟨i, hi, rfl⟩ | ⟨e, c, r, rfl, he, _, hc, _, hr, _⟩
  ·simp only [O.isCo, Bool.not_false, cond_true]
   (refine Ze ?_;with_reducible intros)
   simp only [ite_truth]
   rcases norm_cases hb with ⟨j, hj, rfl⟩ | ⟨e', c', r', rfl, _⟩
   ·simp only [O.isCo, cond_false]
    (refine Ze ?_;with_reducible intros)
    refine ⟨oa, ob, ?_⟩
    have : lessOrd (.num i 1) (.num j 1) = lessO (.num i 1) (.num j 1) := by rw [lessOrd, dif_neg (by intro h; cases h.1)]; rfl
    rw [← this]
    exact k _
   ·simp only [O.isCo, cond_true]
    (refine Ze ?_;with_reducible intros)
    have : lessOrd (.num i 1) (.co (.co e' c') r') = true := by rw [lessOrd, dif_neg (by intro h; cases h.1)]; rfl
    rw [this] at k
    exact k _
  ·simp only [O.isCo, Bool.not_true, cond_false]
   refine W_if (fun _ => trivial) fun _ => W_finp (fun _ => trivial) fun _ => W_v1 (by simp) (by decide) ⟨fun _ => trivial, fun m => ?_⟩
   simp only [ite_truth]
   rcases norm_cases hb with ⟨j, hj, rfl⟩ | ⟨e', c', r', rfl, he', _, hc', _, hr', _⟩
   ·simp only [O.isCo, Bool.not_false, cond_true]
    (refine Ze ?_;with_reducible intros)
    have : lessOrd (.co (.co e c) r) (.num j 1) = false := by rw [lessOrd, dif_neg (by intro h; cases h.2)]; rfl
    rw [this] at k
    exact k _
   ·simp only [O.isCo, Bool.not_true, cond_false]
    have o1 := ok_co oa
    have o2 := ok_co ob
    have o3 := ok_co o1.1
    have o4 := ok_co o2.1
    have z1 : (O.co (O.co e c) r).size = 1 + (1 + e.size + c.size) + r.size := rfl
    rw [lessOrd_co] at k
    have hx : infO (.co (.co e c) r) = true := rfl
    have hy : infO (.co (.co e' c') r') = true := rfl
    refine W_if (fun _ => trivial) fun _ => W_f0 (fun _ => trivial) fun _ => W_equal (fun _ => trivial) fun _ => W_fe (W_v0 (by simp) ⟨oa, .inl hx, fun _ => W_fe (W_v1 (by simp) (by decide) ⟨ob, .inl hy, fun _ => ?_⟩)⟩)
    refine W_if (fun _ => trivial) fun _ => W_v0 (by simp) ?_
    simp only [ite_truth, expO]
    cases he9 : O.eqb e e' with
    | false =>
     rw [he9] at k
     rw [cond_false]
     refine W_c (o := truthO true) ?_
     simp only [ite_truth, cond_true]
     refine W_f18 (fun _ => trivial) fun _ => W_fe (W_v0 (by simp) ⟨oa, .inl hx, fun _ => W_fe (W_v1 (by simp) (by decide) ⟨ob, .inl hy, fun _ => ?_⟩)⟩)
     exact ols_b n (by show e.size < n; omega) he he' o3.1 o4.1 k
    | true =>
     rw [he9] at k
     rw [cond_true]
     refine W_c (o := truthO false) ?_
     simp only [ite_truth, cond_false]
     refine W_if (fun _ => trivial) fun _ => W_f0 (fun _ => trivial) fun _ => W_equal (fun _ => trivial) fun _ => W_fc (W_v0 (by simp) ⟨oa, hx, fun _ => W_fc (W_v1 (by simp) (by decide) ⟨ob, hy, fun _ => ?_⟩)⟩)
     refine W_if (fun _ => trivial) fun _ => W_v0 (by simp) ?_
     simp only [ite_truth, coefO]
     cases hc9 : O.eqb c c' with
     | false =>
      rw [hc9] at k
      rw [cond_false]
      refine W_c (o := truthO true) ?_
      simp only [ite_truth, cond_true]
      exact W_less (fun _ => trivial) fun _ => W_fc (W_v0 (by simp) ⟨oa, hx, fun _ => W_fc (W_v1 (by simp) (by decide) ⟨ob, hy, fun _ => ⟨o3.2, o4.2, k _⟩⟩)⟩)
     | true =>
      rw [hc9] at k
      rw [cond_true]
      refine W_c (o := truthO false) ?_
      simp only [ite_truth, cond_false]
      refine W_if (fun _ => trivial) fun _ => W_c (o := truthO true) ?_
      simp only [ite_truth, cond_true]
      refine W_f18 (fun _ => trivial) fun _ => W_rs (W_v0 (by simp) ⟨oa, hx, fun _ => W_rs (W_v1 (by simp) (by decide) ⟨ob, hy, fun _ => ?_⟩)⟩)
      exact ols_b n (by show r.size < n; omega) hr hr' o1.2 o2.2 k
theorem op_b : ∀ (n : Nat) {a : O}, a.size < n → ok a → ∀ {l : Nat} {Q : O → Nat → Prop}, (∀ m, Q (truthO (normOrd a)) m) → W PL True fn19.bo [(vX, a)] l Q
 | 0, a, hn, _, _, _, _ => absurd hn (Nat.not_lt_zero _)
 | n + 1, a, hn, oa, l, Q, k => by
  have fin : ∀ {o : O}, o.isCo = false → ok o → ∀ {l : Nat} {Q : O → Nat → Prop}, (∀ m, Q (truthO (natO o)) m) → W PL True (.call (lispS, dec 4 1886675310) [.v (lispS, dec 1 120)]) [(vX, o)] l Q := fun {o} hc ho l Q k => by
   refine W_f9 (fun _ => trivial) fun _ => W_v0 (by simp) ?_
   refine W_if (fun _ => trivial) fun _ => W_intp (fun _ => trivial) fun _ => W_v0 (by simp) ?_
   simp only [ite_truth]
   cases hi : o.isInt with
   | true =>
    obtain ⟨i, rfl⟩ : ∃ i, o = .num i 1 := by
     cases o with
     | num i d => exact ⟨i, by rw [of_decide_eq_true hi]⟩
     | _ => cases hi
    rw [cond_true]
    refine W_f0 (fun _ => trivial) fun _ => W_less (fun _ => trivial) fun _ => W_v0 (by simp) (W_c ⟨ho, ok_num 0 (by decide), ?_⟩)
    refine W_if (fun _ => trivial) fun _ => W_v0 (by simp) ?_
    simp only [ite_truth, less_int]
    have e : natO (.num i 1) = !decide (i < 0) := by
     show (decide (1 = 1) && decide (0 ≤ i)) = _
     by_cases h : i < 0
     ·rw [decide_eq_true h, decide_eq_false (by omega : ¬ 0 ≤ i)]; rfl
     ·rw [decide_eq_false h, decide_eq_true (by omega : 0 ≤ i)]; rfl
    rw [e] at k
    by_cases h : i < 0
    ·rw [decide_eq_true h] at k ⊢
     exact W_c (o := truthO false) (k _)
    ·rw [decide_eq_false h] at k ⊢
     exact W_c (o := truthO true) (k _)
   | false =>
    have e : natO o = false := by
     cases o with
     | num i d => change decide (d = 1) = false at hi; show (decide (d = 1) && _) = false; rw [hi]; rfl
     | _ => rfl
    rw [e] at k
    rw [cond_false]
    exact W_c (o := truthO false) (k _)
  rw [b_f19]
  refine W_if (fun _ => trivial) fun _ => W_finp (fun _ => trivial) fun _ => W_v0 (by simp) ⟨fun _ => trivial, fun m => ?_⟩
  simp only [ite_truth]
  cases hc : a.isCo with
  | false =>
   rw [Bool.not_false, cond_true]
   have hi : infO a = false := by cases a with | co _ _ => cases hc | _ => rfl
   rw [normOrd_fin hi] at k
   exact fin hc oa k
  | true =>
   rw [Bool.not_true, cond_false]
   refine W_if (fun _ => trivial) fun _ => W_consp (fun _ => trivial) fun _ => W_car (fun _ => trivial) fun _ => W_v0 (by simp) ⟨oa, ?_⟩
   simp only [ite_truth]
   cases hi : infO a with
   | false =>
    have hk : (carO a).isCo = false := by
     match a, hc, hi with
     | .co (.num _ _) _, _, _ => rfl
     | .co (.sy _) _, _, _ => rfl
     | .co (.tx _) _, _, _ => rfl
     | .co .no _, _, _ => rfl
    rw [hk, cond_false]
    rw [normOrd_fin hi] at k
    have e : natO a = false := by cases a with | co _ _ => rfl | _ => cases hc
    rw [e] at k
    exact W_c (o := truthO false) (k _)
   | true =>
   obtain ⟨e, c, r, rfl⟩ := infO_iff hi
   have o1 := ok_co oa
   have o3 := ok_co o1.1
   have z1 : (O.co (O.co e c) r).size = 1 + (1 + e.size + c.size) + r.size := rfl
   have no : ∀ m, (normOrd e && (!zeroO e) && natO c && (!zeroO c) && normOrd r && lessOrd (expO r) e) = false → W PL True (.c (.sy (lispS, dec 3 7104878))) [(vX, .co (.co e c) r)] m Q := fun m h => by
    have := k m
    rw [normOrd_co, h] at this
    exact W_c (o := truthO false) this
   rw [normOrd_co] at k
   show bif O.isCo (.co e c) then _ else _
   simp only [O.isCo, cond_true]
   refine W_if (fun _ => trivial) fun _ => W_f19 (fun _ => trivial) fun _ => W_fe (W_v0 (by simp) ⟨oa, .inl hi, fun _ => op_b n (by show e.size < n; omega) o3.1 fun m => ?_⟩)
   simp only [ite_truth, expO]
   cases h1 : normOrd e with
   | false => exact no _ (by rw [h1]; rfl)
   | true =>
   rw [cond_true]
   refine W_if (fun _ => trivial) fun _ => W_f0 (fun _ => trivial) fun _ => W_equal (fun _ => trivial) fun _ => W_fe (W_v0 (by simp) ⟨oa, .inl hi, fun _ => W_c ?_⟩)
   refine W_if (fun _ => trivial) fun _ => W_v0 (by simp) ?_
   simp only [ite_truth, expO]
   have hz : O.eqb e (.num 0 1) = zeroO e := by
    cases hz : zeroO e with
    | true =>
     cases e with
     | num i d => have h0 : i = 0 := of_decide_eq_true hz; have hd := ok_int0 o3.1 h0; rw [h0, hd]; exact O.eqb_t.2 rfl
     | _ => cases hz
    | false => exact O.eqb_f.2 fun h => by rw [h] at hz; cases hz
   rw [hz]
   cases h2 : zeroO e with
   | true =>
    rw [cond_true]
    refine W_c (o := truthO false) ?_
    simp only [ite_truth, cond_false]
    exact no _ (by rw [h1, h2]; rfl)
   | false =>
   rw [cond_false]
   refine W_c (o := truthO true) ?_
   simp only [ite_truth, cond_true]
   refine W_if (fun _ => trivial) fun _ => W_f10 (fun _ => trivial) fun _ => W_fc (W_v0 (by simp) ⟨oa, hi, fun _ => ?_⟩)
   simp only [coefO]
   have hp : ∀ {l : Nat} {Q : O → Nat → Prop}, (∀ m, Q (truthO (natO c && !zeroO c)) m) → W PL True (.call (lispS, dec 2 26217) [.call (lispS, dec 8 8102650174351109737) [.v (lispS, dec 1 120)], .call (lispS, dec 1 60) [.c (.num 0 1), .v (lispS, dec 1 120)], .c (.sy (lispS, dec 3 7104878))]) [(vX, c)] l Q := fun {l Q} k => by
    refine W_if (fun _ => trivial) fun _ => W_intp (fun _ => trivial) fun _ => W_v0 (by simp) ?_
    simp only [ite_truth]
    cases hi : c.isInt with
    | true =>
     obtain ⟨i, rfl⟩ : ∃ i, c = .num i 1 := by
      cases c with
      | num i d => exact ⟨i, by rw [of_decide_eq_true hi]⟩
      | _ => cases hi
     rw [cond_true]
     refine W_less (fun _ => trivial) fun _ => W_c (W_v0 (by simp) ⟨ok_num 0 (by decide), o3.2, ?_⟩)
     rw [less_int]
     have e : (natO (.num i 1) && !zeroO (.num i 1)) = decide (0 < i) := by
      show ((decide (1 = 1) && decide (0 ≤ i)) && !decide (i = 0)) = _
      by_cases h : 0 < i
      ·rw [decide_eq_true h, decide_eq_true (by omega : 0 ≤ i), decide_eq_false (by omega : ¬ i = 0)]; rfl
      ·rw [decide_eq_false h]
       by_cases h0 : i = 0
       ·rw [decide_eq_true h0, Bool.not_true, Bool.and_false]
       ·rw [decide_eq_false (by omega : ¬ 0 ≤ i), Bool.and_false]; rfl
     rw [← e]
     exact k _
    | false =>
     have e : natO c = false := by
      cases c with
      | num i d => change decide (d = 1) = false at hi; show (decide (d = 1) && _) = false; rw [hi]; rfl
      | _ => rfl
     rw [e] at k
     rw [cond_false]
     exact W_c (o := truthO false) (k _)
   refine hp fun m => ?_
   simp only [ite_truth]
   cases h3 : (natO c && !zeroO c) with
   | false =>
    rw [cond_false]
    refine no _ ?_
    rw [h1, h2, Bool.true_and, Bool.not_false, Bool.true_and, h3]
    rfl
   | true =>
   rw [cond_true]
   refine W_if (fun _ => trivial) fun _ => W_f19 (fun _ => trivial) fun _ => W_rs (W_v0 (by simp) ⟨oa, hi, fun _ => op_b n (by show r.size < n; omega) o1.2 fun m => ?_⟩)
   simp only [ite_truth, restO]
   cases h4 : normOrd r with
   | false =>
    rw [cond_false]
    refine no _ ?_
    rw [h1, h2, Bool.true_and, Bool.not_false, Bool.true_and, h3, h4]
    rfl
   | true =>
   rw [cond_true]
   rw [h1, h2, Bool.true_and, Bool.not_false, Bool.true_and, h3, h4, Bool.true_and, Bool.true_and] at k
   have hr : infO r = true ∨ r.isCo = false := by
    rcases norm_cases h4 with ⟨i, _, rfl⟩ | ⟨_, _, _, rfl, _⟩
    ·exact .inr rfl
    ·exact .inl rfl
   have her : normOrd (expO r) = true ∧ ok (expO r) := by
    rcases norm_cases h4 with ⟨i, _, rfl⟩ | ⟨e', c', r', rfl, he', _⟩
    ·exact ⟨by rw [normOrd_fin rfl]; rfl, ok_num 0 (by decide)⟩
    ·exact ⟨he', (ok_co (ok_co o1.2).1).1⟩
   refine W_f18 (fun _ => trivial) fun _ => W_fe (W_rs (W_v0 (by simp) ⟨oa, hi, fun _ => ⟨o1.2, hr, fun _ => W_fe (W_v0 (by simp) ⟨oa, .inl hi, fun _ => ?_⟩)⟩⟩))
   exact ols_b _ (Nat.lt_succ_self _) her.1 h1 her.2 o3.1 k
end
end
end Go.Proofs.YtonniadanikanaaGreatDoor
namespace Go.Proofs.YtonniadanikanaaGreatDoor
open Go.Abs LQ
set_option maxRecDepth 100000
set_option maxHeartbeats 4000000
noncomputable section
theorem kInf : Know 57 (spO fun a => .c (.b (infO a))) := know (fun fn h => r57_ok h) [(82, _)] (.cons kIsCons .nil) fun U fn hfn (a : O) vs bs hv hb => by
 have hC := hfn 82 _ rfl
 change RVs [.a a.g] vs at hv
 change RBs [] bs at hb
 show Sat U _ fun v bs' => RRes (.ret (.c (.b (infO a)))) v ∧ RBs [] bs'
 unfold r57
 (refine Zw ?_;with_reducible repeat' first|intro _|apply aI)
 refine oR fun _ _ => ?_
 (refine Zw ?_;with_reducible repeat' first|intro _|apply aI)
 cases a with
 | co x y =>
  refine sCall hC (O.co x y) (r := .c (.b true)) rfl oA .nil fun _ _ _ _ => ?_
  (refine Zz ?_;with_reducible repeat' first|intro _|apply aI)
  refine sCSlM (ys := [x, y]) (f := O.g) (by assumption) (mapLen O.g_len) fun _ _ _ => ?_
  apply sChk
  case ht => (repeat' (first | exact trT | exact trF | apply trNot | apply trAnd | exact trLtN | exact trLeN | exact trLt | exact trLe | exact trEq | exact trnLe3 | exact trnLe4 | exact trnLe2 | exact trnLe1 | exact trnLe | exact trnEq | exact trSS | exact trSL | exact trS | exact trV))
  case hp => simp
  (refine Zz ?_;with_reducible repeat' first|intro _|apply aI)
  cases x with
  | co _ _ =>
   refine sCall hC _ (r := .c (.b true)) rfl oA .nil fun _ _ _ _ => ?_
   (refine Zz ?_;with_reducible repeat' first|intro _|apply aI)
   exact sRet ⟨.ret _ _ Zrv, .nil⟩
  | _ =>
   refine sCall hC _ (r := .c (.b false)) rfl oA .nil fun _ _ _ _ => ?_
   (refine Zz ?_;with_reducible repeat' first|intro _|apply aI)
   exact sRet ⟨.ret _ _ Zrv, .nil⟩
 | _ =>
  refine sCall hC _ (r := .c (.b false)) rfl oA .nil fun _ _ _ _ => ?_
  (refine Zz ?_;with_reducible repeat' first|intro _|apply aI)
  exact sRet ⟨.ret _ _ Zrv, .nil⟩
theorem kExp (hItoa : Itoa) : Know 60 (spO fun a => .a (expO a).g) := know (fun fn h => r60_ok h) [(57, _), (20, _)] (.cons kInf (.cons (kInt hItoa) .nil)) fun U fn hfn (a : O) vs bs hv hb => by
 have hI := hfn 57 _ rfl
 have hN := hfn 20 _ rfl
 change RVs [.a a.g] vs at hv
 change RBs [] bs at hb
 show Sat U _ fun v bs' => RRes (.ret (.a (expO a).g)) v ∧ RBs [] bs'
 unfold r60
 (refine Zw ?_;with_reducible repeat' first|intro _|apply aI)
 refine oR fun _ _ => ?_
 (refine Zw ?_;with_reducible repeat' first|intro _|apply aI)
 cases h : infO a with
 | true =>
  obtain ⟨e, c, r, rfl⟩ := infO_iff h
  refine sCall hI _ (r := .c (.b true)) rfl oA .nil fun _ _ _ _ => ?_
  (refine Zz ?_;with_reducible repeat' first|intro _|apply aI)
  (refine sCSlM (ys := [.co e c, r]) (f := O.g) (by assumption) (mapLen O.g_len) fun _ _ _ => ?_; apply sChk; (case ht => (repeat' (first | exact trT | exact trF | apply trNot | apply trAnd | exact trLtN | exact trLeN | exact trLt | exact trLe | exact trEq | exact trnLe3 | exact trnLe4 | exact trnLe2 | exact trnLe1 | exact trnLe | exact trnEq | exact trSS | exact trSL | exact trS | exact trV))); (case hp => simp))
  (refine Zz ?_;with_reducible repeat' first|intro _|apply aI)
  (refine sCSlM (ys := [e, c]) (f := O.g) (by assumption) (mapLen O.g_len) fun _ _ _ => ?_; apply sChk; (case ht => (repeat' (first | exact trT | exact trF | apply trNot | apply trAnd | exact trLtN | exact trLeN | exact trLt | exact trLe | exact trEq | exact trnLe3 | exact trnLe4 | exact trnLe2 | exact trnLe1 | exact trnLe | exact trnEq | exact trSS | exact trSL | exact trS | exact trV))); (case hp => simp))
  (refine Zz ?_;with_reducible repeat' first|intro _|apply aI)
  exact sRet ⟨.ret _ _ oV, .nil⟩
 | false =>
  refine sCall hI _ (r := .c (.b false)) (by show GRes.ret (.c (.b (infO a))) = _; rw [h]) oA .nil fun _ _ _ _ => ?_
  (refine Zz ?_;with_reducible repeat' first|intro _|apply aI)
  have e0 : expO a = .num 0 1 := by
   match a, h with
   | .num _ _, _ => rfl
   | .sy _, _ => rfl
   | .tx _, _ => rfl
   | .no, _ => rfl
   | .co (.num _ _) _, _ => rfl
   | .co (.sy _) _, _ => rfl
   | .co (.tx _) _, _ => rfl
   | .co .no _, _ => rfl
  rw [e0]
  refine sCall hN ⟨0, by decide⟩ (r := .a (O.num 0 1).g) rfl Zrv .nil fun _ _ _ _ => ?_
  (refine Zz ?_;with_reducible repeat' first|intro _|apply aI)
  exact sRet ⟨.ret _ _ oV, .nil⟩
theorem kCoef : Know 62 (spO fun a => .a (coefO a).g) := know (fun fn h => r62_ok h) [(57, _)] (.cons kInf .nil) fun U fn hfn (a : O) vs bs hv hb => by
 have hI := hfn 57 _ rfl
 change RVs [.a a.g] vs at hv
 change RBs [] bs at hb
 show Sat U _ fun v bs' => RRes (.ret (.a (coefO a).g)) v ∧ RBs [] bs'
 unfold r62
 (refine Zw ?_;with_reducible repeat' first|intro _|apply aI)
 refine oR fun _ _ => ?_
 (refine Zw ?_;with_reducible repeat' first|intro _|apply aI)
 cases h : infO a with
 | true =>
  obtain ⟨e, c, r, rfl⟩ := infO_iff h
  refine sCall hI _ (r := .c (.b true)) rfl oA .nil fun _ _ _ _ => ?_
  (refine Zz ?_;with_reducible repeat' first|intro _|apply aI)
  (refine sCSlM (ys := [.co e c, r]) (f := O.g) (by assumption) (mapLen O.g_len) fun _ _ _ => ?_; apply sChk; (case ht => (repeat' (first | exact trT | exact trF | apply trNot | apply trAnd | exact trLtN | exact trLeN | exact trLt | exact trLe | exact trEq | exact trnLe3 | exact trnLe4 | exact trnLe2 | exact trnLe1 | exact trnLe | exact trnEq | exact trSS | exact trSL | exact trS | exact trV))); (case hp => simp))
  (refine Zz ?_;with_reducible repeat' first|intro _|apply aI)
  (refine sCSlM (ys := [e, c]) (f := O.g) (by assumption) (mapLen O.g_len) fun _ _ _ => ?_; apply sChk; (case ht => (repeat' (first | exact trT | exact trF | apply trNot | apply trAnd | exact trLtN | exact trLeN | exact trLt | exact trLe | exact trEq | exact trnLe3 | exact trnLe4 | exact trnLe2 | exact trnLe1 | exact trnLe | exact trnEq | exact trSS | exact trSL | exact trS | exact trV))); (case hp => simp))
  (refine Zz ?_;with_reducible repeat' first|intro _|apply aI)
  exact sRet ⟨.ret _ _ oV, .nil⟩
 | false =>
  refine sCall hI _ (r := .c (.b false)) (by show GRes.ret (.c (.b (infO a))) = _; rw [h]) oA .nil fun _ _ _ _ => ?_
  (refine Zz ?_;with_reducible repeat' first|intro _|apply aI)
  have e0 : coefO a = a := by
   match a, h with
   | .num _ _, _ => rfl
   | .sy _, _ => rfl
   | .tx _, _ => rfl
   | .no, _ => rfl
   | .co (.num _ _) _, _ => rfl
   | .co (.sy _) _, _ => rfl
   | .co (.tx _) _, _ => rfl
   | .co .no _, _ => rfl
  rw [e0]
  exact sRet ⟨.ret _ _ oV, .nil⟩
theorem kRest (hItoa : Itoa) : Know 63 (spO fun a => .a (restO a).g) := know (fun fn h => r63_ok h) [(57, _), (20, _)] (.cons kInf (.cons (kInt hItoa) .nil)) fun U fn hfn (a : O) vs bs hv hb => by
 have hI := hfn 57 _ rfl
 have hN := hfn 20 _ rfl
 change RVs [.a a.g] vs at hv
 change RBs [] bs at hb
 show Sat U _ fun v bs' => RRes (.ret (.a (restO a).g)) v ∧ RBs [] bs'
 unfold r63
 (refine Zw ?_;with_reducible repeat' first|intro _|apply aI)
 refine oR fun _ _ => ?_
 (refine Zw ?_;with_reducible repeat' first|intro _|apply aI)
 cases h : infO a with
 | true =>
  obtain ⟨e, c, r, rfl⟩ := infO_iff h
  refine sCall hI _ (r := .c (.b true)) rfl oA .nil fun _ _ _ _ => ?_
  (refine Zz ?_;with_reducible repeat' first|intro _|apply aI)
  (refine sCSlM (ys := [.co e c, r]) (f := O.g) (by assumption) (mapLen O.g_len) fun _ _ _ => ?_; apply sChk; (case ht => (repeat' (first | exact trT | exact trF | apply trNot | apply trAnd | exact trLtN | exact trLeN | exact trLt | exact trLe | exact trEq | exact trnLe3 | exact trnLe4 | exact trnLe2 | exact trnLe1 | exact trnLe | exact trnEq | exact trSS | exact trSL | exact trS | exact trV))); (case hp => simp))
  (refine Zz ?_;with_reducible repeat' first|intro _|apply aI)
  exact sRet ⟨.ret _ _ oV, .nil⟩
 | false =>
  refine sCall hI _ (r := .c (.b false)) (by show GRes.ret (.c (.b (infO a))) = _; rw [h]) oA .nil fun _ _ _ _ => ?_
  (refine Zz ?_;with_reducible repeat' first|intro _|apply aI)
  have e0 : restO a = .num 0 1 := by
   match a, h with
   | .num _ _, _ => rfl
   | .sy _, _ => rfl
   | .tx _, _ => rfl
   | .no, _ => rfl
   | .co (.num _ _) _, _ => rfl
   | .co (.sy _) _, _ => rfl
   | .co (.tx _) _, _ => rfl
   | .co .no _, _ => rfl
  rw [e0]
  refine sCall hN ⟨0, by decide⟩ (r := .a (O.num 0 1).g) rfl Zrv .nil fun _ _ _ _ => ?_
  (refine Zz ?_;with_reducible repeat' first|intro _|apply aI)
  exact sRet ⟨.ret _ _ oV, .nil⟩
theorem showInt_neg0 {n : Int} (h : n < 0) : ((showInt n).getD 0 0).toNat = 45 ∧ 0 < (showInt n).length := by
 unfold showInt
 rw [if_pos h]
 exact ⟨rfl, by show 0 < _ + 1; omega⟩
theorem showInt_pos0 {n : Int} (h : 0 ≤ n) : 48 ≤ ((showInt n).getD 0 0).toNat ∧ 0 < (showInt n).length := by
 unfold showInt
 rw [if_neg (by omega)]
 by_cases h0 : n.natAbs = 0
 ·rw [h0]; exact ⟨by decide, by decide⟩
 ·obtain ⟨h1, _, h3⟩ := showNat_all n.natAbs h0
  have h4 := (h1 0 (Nat.le_refl _) h3).1
  have e : bt (showNat n.natAbs) 0 = (((showNat n.natAbs).getD 0 0).toNat : Int) := rfl
  exact ⟨by omega, h3⟩
theorem kNatural : Know 58 (spO fun a => .c (.b (natO a))) := know (fun fn h => r58_ok h) [(83, _)] (.cons kIsInteger .nil) fun U fn hfn (a : O) vs bs hv hb => by
 have hI := hfn 83 _ rfl
 change RVs [.a a.g] vs at hv
 change RBs [] bs at hb
 show Sat U _ fun v bs' => RRes (.ret (.c (.b (natO a)))) v ∧ RBs [] bs'
 unfold r58
 (refine Zw ?_;with_reducible repeat' first|intro _|apply aI)
 refine oR fun _ _ => ?_
 (refine Zw ?_;with_reducible repeat' first|intro _|apply aI)
 cases h : a.isInt with
 | true =>
  obtain ⟨n, rfl⟩ : ∃ n, a = .num n 1 := by
   cases a with
   | num n d => exact ⟨n, by rw [of_decide_eq_true h]⟩
   | _ => cases h
  refine sCall hI _ (r := .c (.b true)) rfl oA .nil fun _ _ _ _ => ?_
  have hp : 0 < (showInt n).length := by
   by_cases hn : n < 0
   ·exact (showInt_neg0 hn).2
   ·exact (showInt_pos0 (by omega)).2
  (refine Zz ?_;with_reducible repeat' first|intro _|apply aI)
  refine sRetU fun e => ?_
  subst e
  refine ⟨.ret _ _ (rvB ?_), .nil⟩
  rw [cuEq]
  show (decide (1 = 1) && decide (0 ≤ n)) = cond (decide _) false true
  by_cases hn : n < 0
  ·have := (showInt_neg0 hn).1
   rw [show decide (0 ≤ n) = false from decide_eq_false (by omega), show decide ((((showInt n).getD 0 0).toNat : Int) = 45) = true from decide_eq_true (by omega)]
   rfl
  ·have := (showInt_pos0 (by omega : 0 ≤ n)).1
   rw [show decide (0 ≤ n) = true from decide_eq_true (by omega), show decide ((((showInt n).getD 0 0).toNat : Int) = 45) = false from decide_eq_false (by omega)]
   rfl
 | false =>
  refine sCall hI _ (r := .c (.b false)) (by show GRes.ret (.c (.b a.isInt)) = _; rw [h]) oA .nil fun _ _ _ _ => ?_
  (refine Zz ?_;with_reducible repeat' first|intro _|apply aI)
  have : natO a = false := by
   cases a with
   | num n d => change decide (d = 1) = false at h; show (decide (d = 1) && _) = false; rw [h]; rfl
   | _ => rfl
  rw [this]
  exact sRet ⟨.ret _ _ Zrv, .nil⟩
theorem kZero : Know 59 (spO fun a => .c (.b (zeroO a))) := know (fun fn h => r59_ok h) [] .nil fun U fn hfn (a : O) vs bs hv hb => by
 change RVs [.a a.g] vs at hv
 change RBs [] bs at hb
 show Sat U _ fun v bs' => RRes (.ret (.c (.b (zeroO a)))) v ∧ RBs [] bs'
 unfold r59
 rw [a.g_eq] at hv
 cases a with
 | num n d =>
  simp only [O.k, O.nu, O.de, O.sym, O.txt, O.ps] at hv
  (refine Zz ?_;with_reducible repeat' first|intro _|apply aI)
  refine sRetU fun e => ?_
  subst e
  refine ⟨.ret _ _ (rvB ?_), .nil⟩
  rw [cuSL]
  have e1 : dec 1 48 = showInt 0 := rfl
  rw [e1]
  exact decide_eq_decide.2 ⟨fun h => by rw [h], fun h => showInt_inj h⟩
 | _ =>
  simp only [O.k, O.nu, O.de, O.sym, O.txt, O.ps] at hv
  (refine Zz ?_;with_reducible repeat' first|intro _|apply aI)
  all_goals exact sRet ⟨.ret _ _ (rvK rfl), .nil⟩
def spFm2 (g : O → O → GV) : Sp where
 ι := { p : O × O // p.1.fm = true ∧ p.2.fm = true }
 A p := [.a p.1.1.g, .a p.1.2.g]
 B _ := []
 R p := .ret (g p.1.1 p.1.2)
 B' _ := []
 inj i j vs bs h k _ _ := by
  obtain ⟨_, _, h1, k1, h, k⟩ := h.two k
  obtain ⟨_, _, h2, k2, h, k⟩ := h.two k
  rw [O.g_inj (h1.a_inj k1), O.g_inj (h2.a_inj k2)]; exact ⟨rfl, rfl⟩
theorem fm_co {a d : O} (h : (O.co a d).fm = true) : a.fm = true ∧ d.fm = true := by
 change (a.fm && d.fm) = true at h
 rwa [Bool.and_eq_true] at h
theorem fm_0 : (O.num 0 1).fm = true := (ok_num 0 (by decide)).2
theorem kLessO (hItoa : Itoa) : Know 41 (spFm2 fun a b => .c (.b (lessOrd a b))) := know_rec (fun p => p.1.1.size) fun z ih => know (fun fn h => r41_ok h) [(41, (spFm2 fun a b => .c (.b (lessOrd a b))).lt (fun p => p.1.1.size) z), (57, _), (61, _), (60, _), (62, _), (63, _), (12, _)] (.cons ih (.cons kInf (.cons (kLess hItoa) (.cons (kExp hItoa) (.cons kCoef (.cons (kRest hItoa) (.cons kEqual .nil))))))) fun U fn hfn ⟨⟨(a, b), ha, hbx⟩, hz⟩ vs bs hv hb => by
 have hR := hfn 41 _ rfl
 have hI := hfn 57 _ rfl
 have hL := hfn 61 _ rfl
 have hE := hfn 60 _ rfl
 have hC := hfn 62 _ rfl
 have hT := hfn 63 _ rfl
 have hQ := hfn 12 _ rfl
 change RVs [.a a.g, .a b.g] vs at hv
 change RBs [] bs at hb
 have ha : a.fm = true := ha
 have hbx : b.fm = true := hbx
 have hz : a.size < z + 1 := hz
 show Sat U _ fun v bs' => RRes (.ret (.c (.b (lessOrd a b)))) v ∧ RBs [] bs'
 unfold r41
 (refine Zz ?_;with_reducible repeat' first|intro _|apply aI)
 refine oR fun _ _ => ?_
 (refine Zz ?_;with_reducible repeat' first|intro _|apply aI)
 refine oR fun _ _ => ?_
 (refine Zz ?_;with_reducible repeat' first|intro _|apply aI)
 cases h1 : infO a with
 | false =>
  refine sCall hI a (r := .c (.b false)) (by show GRes.ret (.c (.b (infO a))) = _; rw [h1]) oA .nil fun _ _ _ _ => ?_
  (refine Zz ?_;with_reducible repeat' first|intro _|apply aI)
  cases h2 : infO b with
  | false =>
   refine sCall hI b (r := .c (.b false)) (by show GRes.ret (.c (.b (infO b))) = _; rw [h2]) oA .nil fun _ _ _ _ => ?_
   (refine Zz ?_;with_reducible repeat' first|intro _|apply aI)
   refine sCall hL ⟨(a, b), fm_fx ha, fm_fx hbx⟩ (r := .c (.b (lessO a b))) rfl (.cons _ _ _ _ oV oA) .nil fun _ _ _ _ => ?_
   (refine Zz ?_;with_reducible repeat' first|intro _|apply aI)
   have e : lessOrd a b = lessO a b := by rw [lessOrd, dif_neg (by rw [h1]; intro h; cases h.1), h1, h2]; rfl
   rw [e]
   exact sRet ⟨.ret _ _ Zrv, .nil⟩
  | true =>
   refine sCall hI b (r := .c (.b true)) (by show GRes.ret (.c (.b (infO b))) = _; rw [h2]) oA .nil fun _ _ _ _ => ?_
   (refine Zz ?_;with_reducible repeat' first|intro _|apply aI)
   refine sCall hI a (r := .c (.b false)) (by show GRes.ret (.c (.b (infO a))) = _; rw [h1]) oA .nil fun _ _ _ _ => ?_
   (refine Zz ?_;with_reducible repeat' first|intro _|apply aI)
   refine sCall hI b (r := .c (.b true)) (by show GRes.ret (.c (.b (infO b))) = _; rw [h2]) oA .nil fun _ _ _ _ => ?_
   (refine Zz ?_;with_reducible repeat' first|intro _|apply aI)
   have e : lessOrd a b = true := by rw [lessOrd, dif_neg (by rw [h1]; intro h; cases h.1), h1, h2]; rfl
   rw [e]
   exact sRet ⟨.ret _ _ Zrv, .nil⟩
 | true =>
  refine sCall hI a (r := .c (.b true)) (by show GRes.ret (.c (.b (infO a))) = _; rw [h1]) oA .nil fun _ _ _ _ => ?_
  (refine Zz ?_;with_reducible repeat' first|intro _|apply aI)
  refine sCall hI a (r := .c (.b true)) (by show GRes.ret (.c (.b (infO a))) = _; rw [h1]) oA .nil fun _ _ _ _ => ?_
  (refine Zz ?_;with_reducible repeat' first|intro _|apply aI)
  cases h2 : infO b with
  | false =>
   refine sCall hI b (r := .c (.b false)) (by show GRes.ret (.c (.b (infO b))) = _; rw [h2]) oA .nil fun _ _ _ _ => ?_
   (refine Zz ?_;with_reducible repeat' first|intro _|apply aI)
   refine sCall hI b (r := .c (.b false)) (by show GRes.ret (.c (.b (infO b))) = _; rw [h2]) oA .nil fun _ _ _ _ => ?_
   (refine Zz ?_;with_reducible repeat' first|intro _|apply aI)
   have e : lessOrd a b = false := by rw [lessOrd, dif_neg (by rw [h2]; intro h; cases h.2), h1, h2]; rfl
   rw [e]
   exact sRet ⟨.ret _ _ Zrv, .nil⟩
  | true =>
   refine sCall hI b (r := .c (.b true)) (by show GRes.ret (.c (.b (infO b))) = _; rw [h2]) oA .nil fun _ _ _ _ => ?_
   (refine Zz ?_;with_reducible repeat' first|intro _|apply aI)
   obtain ⟨e, c, r, rfl⟩ := infO_iff h1
   obtain ⟨e', c', r', rfl⟩ := infO_iff h2
   have f1 := fm_co ha
   have f2 := fm_co hbx
   have f3 := fm_co f1.1
   have f4 := fm_co f2.1
   have z1 : (O.co (O.co e c) r).size = 1 + (1 + e.size + c.size) + r.size := rfl
   rw [lessOrd_co]
   refine sCall hE _ (r := .a e.g) rfl oA .nil fun _ _ _ _ => ?_
   (refine Zz ?_;with_reducible repeat' first|intro _|apply aI)
   refine oR fun _ _ => ?_
   (refine Zz ?_;with_reducible repeat' first|intro _|apply aI)
   refine sCall hE _ (r := .a e'.g) rfl oA .nil fun _ _ _ _ => ?_
   (refine Zz ?_;with_reducible repeat' first|intro _|apply aI)
   refine oR fun _ _ => ?_
   (refine Zz ?_;with_reducible repeat' first|intro _|apply aI)
   cases h5 : O.eqb e e' with
   | false =>
    refine sCall hQ (e, e') (r := .c (.b false)) (by show GRes.ret (.c (.b (O.eqb e e'))) = _; rw [h5]) (.cons _ _ _ _ oV oA) .nil fun _ _ _ _ => ?_
    (refine Zz ?_;with_reducible repeat' first|intro _|apply aI)
    refine sCall hE _ (r := .a e.g) rfl oA .nil fun _ _ _ _ => ?_
    (refine Zz ?_;with_reducible repeat' first|intro _|apply aI)
    refine oR fun _ _ => ?_
    (refine Zz ?_;with_reducible repeat' first|intro _|apply aI)
    refine sCall hE _ (r := .a e'.g) rfl oA .nil fun _ _ _ _ => ?_
    (refine Zz ?_;with_reducible repeat' first|intro _|apply aI)
    refine oR fun _ _ => ?_
    (refine Zz ?_;with_reducible repeat' first|intro _|apply aI)
    refine sCall hR ⟨⟨(e, e'), f3.1, f4.1⟩, show e.size < z by omega⟩ (r := .c (.b (lessOrd e e'))) rfl (.cons _ _ _ _ oV oA) .nil fun _ _ _ _ => ?_
    (refine Zz ?_;with_reducible repeat' first|intro _|apply aI)
    rw [cond_false]
    exact sRet ⟨.ret _ _ Zrv, .nil⟩
   | true =>
    refine sCall hQ (e, e') (r := .c (.b true)) (by show GRes.ret (.c (.b (O.eqb e e'))) = _; rw [h5]) (.cons _ _ _ _ oV oA) .nil fun _ _ _ _ => ?_
    (refine Zz ?_;with_reducible repeat' first|intro _|apply aI)
    refine sCall hC _ (r := .a c.g) rfl oA .nil fun _ _ _ _ => ?_
    (refine Zz ?_;with_reducible repeat' first|intro _|apply aI)
    refine oR fun _ _ => ?_
    (refine Zz ?_;with_reducible repeat' first|intro _|apply aI)
    refine sCall hC _ (r := .a c'.g) rfl oA .nil fun _ _ _ _ => ?_
    (refine Zz ?_;with_reducible repeat' first|intro _|apply aI)
    refine oR fun _ _ => ?_
    (refine Zz ?_;with_reducible repeat' first|intro _|apply aI)
    cases h6 : O.eqb c c' with
    | false =>
     refine sCall hQ (c, c') (r := .c (.b false)) (by show GRes.ret (.c (.b (O.eqb c c'))) = _; rw [h6]) (.cons _ _ _ _ oV oA) .nil fun _ _ _ _ => ?_
     (refine Zz ?_;with_reducible repeat' first|intro _|apply aI)
     refine sCall hC _ (r := .a c.g) rfl oA .nil fun _ _ _ _ => ?_
     (refine Zz ?_;with_reducible repeat' first|intro _|apply aI)
     refine oR fun _ _ => ?_
     (refine Zz ?_;with_reducible repeat' first|intro _|apply aI)
     refine sCall hC _ (r := .a c'.g) rfl oA .nil fun _ _ _ _ => ?_
     (refine Zz ?_;with_reducible repeat' first|intro _|apply aI)
     refine oR fun _ _ => ?_
     (refine Zz ?_;with_reducible repeat' first|intro _|apply aI)
     refine sCall hL ⟨(c, c'), fm_fx f3.2, fm_fx f4.2⟩ (r := .c (.b (lessO c c'))) rfl (.cons _ _ _ _ oV oA) .nil fun _ _ _ _ => ?_
     (refine Zz ?_;with_reducible repeat' first|intro _|apply aI)
     rw [cond_true, cond_false]
     exact sRet ⟨.ret _ _ Zrv, .nil⟩
    | true =>
     refine sCall hQ (c, c') (r := .c (.b true)) (by show GRes.ret (.c (.b (O.eqb c c'))) = _; rw [h6]) (.cons _ _ _ _ oV oA) .nil fun _ _ _ _ => ?_
     (refine Zz ?_;with_reducible repeat' first|intro _|apply aI)
     refine sCall hT _ (r := .a r.g) rfl oA .nil fun _ _ _ _ => ?_
     (refine Zz ?_;with_reducible repeat' first|intro _|apply aI)
     refine oR fun _ _ => ?_
     (refine Zz ?_;with_reducible repeat' first|intro _|apply aI)
     refine sCall hT _ (r := .a r'.g) rfl oA .nil fun _ _ _ _ => ?_
     (refine Zz ?_;with_reducible repeat' first|intro _|apply aI)
     refine oR fun _ _ => ?_
     (refine Zz ?_;with_reducible repeat' first|intro _|apply aI)
     refine sCall hR ⟨⟨(r, r'), f1.2, f2.2⟩, show r.size < z by omega⟩ (r := .c (.b (lessOrd r r'))) rfl (.cons _ _ _ _ oV oA) .nil fun _ _ _ _ => ?_
     (refine Zz ?_;with_reducible repeat' first|intro _|apply aI)
     rw [cond_true, cond_true]
     exact sRet ⟨.ret _ _ Zrv, .nil⟩
def spFm (g : O → GV) : Sp where
 ι := { o : O // o.fm = true }
 A o := [.a o.1.g]
 B _ := []
 R o := .ret (g o.1)
 B' _ := []
 inj i j vs bs h k _ _ := by rw [a1_inj h k]; exact ⟨rfl, rfl⟩
theorem kNormal (hItoa : Itoa) : Know 40 (spFm fun a => .c (.b (normOrd a))) := know_rec (fun p => p.1.size) fun z ih => know (fun fn h => r40_ok h) [(40, (spFm fun a => .c (.b (normOrd a))).lt (fun p => p.1.size) z), (57, _), (58, _), (59, _), (60, _), (41, _)] (.cons ih (.cons kInf (.cons kNatural (.cons kZero (.cons (kExp hItoa) (.cons (kLessO hItoa) .nil)))))) fun U fn hfn ⟨⟨a, ha⟩, hz⟩ vs bs hv hb => by
 have hR := hfn 40 _ rfl
 have hI := hfn 57 _ rfl
 have hN := hfn 58 _ rfl
 have hZ := hfn 59 _ rfl
 have hE := hfn 60 _ rfl
 have hL := hfn 41 _ rfl
 change RVs [.a a.g] vs at hv
 change RBs [] bs at hb
 have ha : a.fm = true := ha
 have hz : a.size < z + 1 := hz
 show Sat U _ fun v bs' => RRes (.ret (.c (.b (normOrd a)))) v ∧ RBs [] bs'
 unfold r40
 (refine Zz ?_;with_reducible repeat' first|intro _|apply aI)
 refine oR fun _ _ => ?_
 (refine Zz ?_;with_reducible repeat' first|intro _|apply aI)
 cases h1 : infO a with
 | false =>
  refine sCall hI a (r := .c (.b false)) (by show GRes.ret (.c (.b (infO a))) = _; rw [h1]) oA .nil fun _ _ _ _ => ?_
  (refine Zz ?_;with_reducible repeat' first|intro _|apply aI)
  refine sCall hN a (r := .c (.b (natO a))) rfl oA .nil fun _ _ _ _ => ?_
  (refine Zz ?_;with_reducible repeat' first|intro _|apply aI)
  rw [normOrd_fin h1]
  exact sRet ⟨.ret _ _ Zrv, .nil⟩
 | true =>
  refine sCall hI a (r := .c (.b true)) (by show GRes.ret (.c (.b (infO a))) = _; rw [h1]) oA .nil fun _ _ _ _ => ?_
  obtain ⟨e, c, r, rfl⟩ := infO_iff h1
  have f1 := fm_co ha
  have f3 := fm_co f1.1
  have z1 : (O.co (O.co e c) r).size = 1 + (1 + e.size + c.size) + r.size := rfl
  have ef : (expO r).fm = true := by
   match r, f1.2 with
   | .co (.co _ _) _, h => exact (fm_co (fm_co h).1).1
   | .num _ _, _ => exact fm_0
   | .sy _, _ => exact fm_0
   | .tx _, _ => exact fm_0
   | .no, _ => exact fm_0
   | .co (.num _ _) _, _ => exact fm_0
   | .co (.sy _) _, _ => exact fm_0
   | .co (.tx _) _, _ => exact fm_0
   | .co .no _, _ => exact fm_0
  rw [normOrd_co]
  (refine Zz ?_;with_reducible repeat' first|intro _|apply aI)
  (refine sCSlM (ys := [.co e c, r]) (f := O.g) (by assumption) (mapLen O.g_len) fun _ _ _ => ?_; apply sChk; (case ht => (repeat' (first | exact trT | exact trF | apply trNot | apply trAnd | exact trLtN | exact trLeN | exact trLt | exact trLe | exact trEq | exact trnLe3 | exact trnLe4 | exact trnLe2 | exact trnLe1 | exact trnLe | exact trnEq | exact trSS | exact trSL | exact trS | exact trV))); (case hp => simp))
  (refine Zz ?_;with_reducible repeat' first|intro _|apply aI)
  (refine sCSlM (ys := [e, c]) (f := O.g) (by assumption) (mapLen O.g_len) fun _ _ _ => ?_; apply sChk; (case ht => (repeat' (first | exact trT | exact trF | apply trNot | apply trAnd | exact trLtN | exact trLeN | exact trLt | exact trLe | exact trEq | exact trnLe3 | exact trnLe4 | exact trnLe2 | exact trnLe1 | exact trnLe | exact trnEq | exact trSS | exact trSL | exact trS | exact trV))); (case hp => simp))
  (refine Zz ?_;with_reducible repeat' first|intro _|apply aI)
  (refine sCSlM (ys := [.co e c, r]) (f := O.g) (by assumption) (mapLen O.g_len) fun _ _ _ => ?_; apply sChk; (case ht => (repeat' (first | exact trT | exact trF | apply trNot | apply trAnd | exact trLtN | exact trLeN | exact trLt | exact trLe | exact trEq | exact trnLe3 | exact trnLe4 | exact trnLe2 | exact trnLe1 | exact trnLe | exact trnEq | exact trSS | exact trSL | exact trS | exact trV))); (case hp => simp))
  (refine Zz ?_;with_reducible repeat' first|intro _|apply aI)
  (refine sCSlM (ys := [e, c]) (f := O.g) (by assumption) (mapLen O.g_len) fun _ _ _ => ?_; apply sChk; (case ht => (repeat' (first | exact trT | exact trF | apply trNot | apply trAnd | exact trLtN | exact trLeN | exact trLt | exact trLe | exact trEq | exact trnLe3 | exact trnLe4 | exact trnLe2 | exact trnLe1 | exact trnLe | exact trnEq | exact trSS | exact trSL | exact trS | exact trV))); (case hp => simp))
  (refine Zz ?_;with_reducible repeat' first|intro _|apply aI)
  (refine sCSlM (ys := [.co e c, r]) (f := O.g) (by assumption) (mapLen O.g_len) fun _ _ _ => ?_; apply sChk; (case ht => (repeat' (first | exact trT | exact trF | apply trNot | apply trAnd | exact trLtN | exact trLeN | exact trLt | exact trLe | exact trEq | exact trnLe3 | exact trnLe4 | exact trnLe2 | exact trnLe1 | exact trnLe | exact trnEq | exact trSS | exact trSL | exact trS | exact trV))); (case hp => simp))
  (refine Zz ?_;with_reducible repeat' first|intro _|apply aI)
  cases h2 : normOrd e with
  | false =>
   refine sCall hR ⟨⟨e, f3.1⟩, show e.size < z by omega⟩ (r := .c (.b false)) (by show GRes.ret (.c (.b (normOrd e))) = _; rw [h2]) oA .nil fun _ _ _ _ => ?_
   (refine Zz ?_;with_reducible repeat' first|intro _|apply aI)
   exact sRet ⟨.ret _ _ (rvK rfl), .nil⟩
  | true =>
  refine sCall hR ⟨⟨e, f3.1⟩, show e.size < z by omega⟩ (r := .c (.b true)) (by show GRes.ret (.c (.b (normOrd e))) = _; rw [h2]) oA .nil fun _ _ _ _ => ?_
  (refine Zz ?_;with_reducible repeat' first|intro _|apply aI)
  cases h3 : zeroO e with
  | true =>
   refine sCall hZ e (r := .c (.b true)) (by show GRes.ret (.c (.b (zeroO e))) = _; rw [h3]) oA .nil fun _ _ _ _ => ?_
   (refine Zz ?_;with_reducible repeat' first|intro _|apply aI)
   exact sRet ⟨.ret _ _ (rvK rfl), .nil⟩
  | false =>
  refine sCall hZ e (r := .c (.b false)) (by show GRes.ret (.c (.b (zeroO e))) = _; rw [h3]) oA .nil fun _ _ _ _ => ?_
  (refine Zz ?_;with_reducible repeat' first|intro _|apply aI)
  cases h4 : natO c with
  | false =>
   refine sCall hN c (r := .c (.b false)) (by show GRes.ret (.c (.b (natO c))) = _; rw [h4]) oA .nil fun _ _ _ _ => ?_
   (refine Zz ?_;with_reducible repeat' first|intro _|apply aI)
   exact sRet ⟨.ret _ _ (rvK rfl), .nil⟩
  | true =>
  refine sCall hN c (r := .c (.b true)) (by show GRes.ret (.c (.b (natO c))) = _; rw [h4]) oA .nil fun _ _ _ _ => ?_
  (refine Zz ?_;with_reducible repeat' first|intro _|apply aI)
  cases h5 : zeroO c with
  | true =>
   refine sCall hZ c (r := .c (.b true)) (by show GRes.ret (.c (.b (zeroO c))) = _; rw [h5]) oA .nil fun _ _ _ _ => ?_
   (refine Zz ?_;with_reducible repeat' first|intro _|apply aI)
   exact sRet ⟨.ret _ _ (rvK rfl), .nil⟩
  | false =>
  refine sCall hZ c (r := .c (.b false)) (by show GRes.ret (.c (.b (zeroO c))) = _; rw [h5]) oA .nil fun _ _ _ _ => ?_
  (refine Zz ?_;with_reducible repeat' first|intro _|apply aI)
  cases h6 : normOrd r with
  | false =>
   refine sCall hR ⟨⟨r, f1.2⟩, show r.size < z by omega⟩ (r := .c (.b false)) (by show GRes.ret (.c (.b (normOrd r))) = _; rw [h6]) oA .nil fun _ _ _ _ => ?_
   (refine Zz ?_;with_reducible repeat' first|intro _|apply aI)
   exact sRet ⟨.ret _ _ (rvK rfl), .nil⟩
  | true =>
  refine sCall hR ⟨⟨r, f1.2⟩, show r.size < z by omega⟩ (r := .c (.b true)) (by show GRes.ret (.c (.b (normOrd r))) = _; rw [h6]) oA .nil fun _ _ _ _ => ?_
  (refine Zz ?_;with_reducible repeat' first|intro _|apply aI)
  refine sCall hE r (r := .a (expO r).g) rfl oA .nil fun _ _ _ _ => ?_
  (refine Zz ?_;with_reducible repeat' first|intro _|apply aI)
  refine oR fun _ _ => ?_
  (refine Zz ?_;with_reducible repeat' first|intro _|apply aI)
  refine sCall hL ⟨(expO r, e), ef, f3.1⟩ (r := .c (.b (lessOrd (expO r) e))) rfl (.cons _ _ _ _ oV oA) .nil fun _ _ _ _ => ?_
  (refine Zz ?_;with_reducible repeat' first|intro _|apply aI)
  exact sRet ⟨.ret _ _ Zrv, .nil⟩
theorem kValid3 (hItoa : Itoa) : Know 14 (spOsm fun a => .c (.b ((decide (a.size ≤ 3000) && a.fm) && normOrd a))) := know (fun fn h => r14_ok h) [(39, _), (40, _)] (.cons kValid2 (.cons (kNormal hItoa) .nil)) fun U fn hfn ⟨a, hsm⟩ vs bs hv hb => by
 have hV := hfn 39 _ rfl
 have hN := hfn 40 _ rfl
 change RVs [.a a.g] vs at hv
 change RBs [] bs at hb
 show Sat U _ fun v bs' => RRes (.ret (.c (.b ((decide (a.size ≤ 3000) && a.fm) && normOrd a)))) v ∧ RBs [] bs'
 unfold r14
 (refine Zz ?_;with_reducible repeat' first|intro _|apply aI)
 refine oR fun _ _ => ?_
 (refine Zz ?_;with_reducible repeat' first|intro _|apply aI)
 cases h : (decide (a.size ≤ 3000) && a.fm) with
 | false =>
  refine sCall hV ⟨a, hsm⟩ (r := .c (.b false)) (by show GRes.ret (.c (.b (decide (a.size ≤ 3000) && a.fm))) = _; rw [h]) oA .nil fun _ _ _ _ => ?_
  (refine Zz ?_;with_reducible repeat' first|intro _|apply aI)
  exact sRet ⟨.ret _ _ (rvK rfl), .nil⟩
 | true =>
  refine sCall hV ⟨a, hsm⟩ (r := .c (.b true)) (by show GRes.ret (.c (.b (decide (a.size ≤ 3000) && a.fm))) = _; rw [h]) oA .nil fun _ _ _ _ => ?_
  (refine Zz ?_;with_reducible repeat' first|intro _|apply aI)
  have hf : a.fm = true := (Bool.and_eq_true _ _ |>.mp h).2
  refine sCall hN ⟨a, hf⟩ (r := .c (.b (normOrd a))) rfl oA .nil fun _ _ _ _ => ?_
  (refine Zz ?_;with_reducible repeat' first|intro _|apply aI)
  rw [Bool.true_and]
  exact sRet ⟨.ret _ _ Zrv, .nil⟩
end
end Go.Proofs.YtonniadanikanaaGreatDoor
