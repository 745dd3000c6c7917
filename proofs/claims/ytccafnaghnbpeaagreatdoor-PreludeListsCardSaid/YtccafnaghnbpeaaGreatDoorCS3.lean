/- What the built-in functions on lists give. -/
import Derived.Test.YtccafnaghnbpeaaGreatDoorCS2
set_option linter.all false
namespace Go.Proofs.YtccafnaghnbpeaaGreatDoor
open Go.Abs LQ
set_option maxRecDepth 100000
set_option maxHeartbeats 4000000
noncomputable section
theorem W_v0 {L : List (List F)} {E : Prop} {s : Sy} {o : O} {env : Bds} {l : Nat} {Q : O → Nat → Prop} (hn : env.length < 10) (k : Q o l) : W L E (.v s) ((s, o) :: env) l Q :=
 W_v (by simp only [List.length_cons]; omega) (if_pos rfl) k
theorem W_v1 {L : List (List F)} {E : Prop} {s s1 : Sy} {o o1 : O} {env : Bds} {l : Nat} {Q : O → Nat → Prop} (hn : env.length < 10) (h : ¬ s1 = s) (k : Q o l) : W L E (.v s) ((s1, o1) :: (s, o) :: env) l Q :=
 W_v (by simp only [List.length_cons]; omega) ((if_neg h).trans (if_pos rfl)) k
theorem W_v2 {L : List (List F)} {E : Prop} {s s1 s2 : Sy} {o o1 o2 : O} {env : Bds} {l : Nat} {Q : O → Nat → Prop} (hn : env.length < 10) (h1 : ¬ s1 = s) (h2 : ¬ s2 = s) (k : Q o l) : W L E (.v s) ((s1, o1) :: (s2, o2) :: (s, o) :: env) l Q :=
 W_v (by simp only [List.length_cons]; omega) ((if_neg h1).trans ((if_neg h2).trans (if_pos rfl))) k
theorem isCo_co (a d : O) : O.isCo (.co a d) = true := rfl
theorem isCo_nil : O.isCo nilO = false := rfl
section
variable {L : List (List F)} {E : Prop}
theorem Ze {p q : Prop} (k : q) (h : Tr p q := by ((repeat' (first | (with_reducible apply Tr.all) | (with_reducible intro _) | (apply Tr.b; (case f => first | with_reducible exact W_v0 (by simp) | with_reducible exact W_v1 (by simp) (by decide) | with_reducible exact W_v2 (by simp) (by decide) (by decide) | with_reducible exact W_c | with_reducible exact W_if (by first | exact fun _ => trivial | (intro hz; exact absurd hz (by omega))) | with_reducible exact W_car (by first | exact fun _ => trivial | (intro hz; exact absurd hz (by omega))) | with_reducible exact W_cdr (by first | exact fun _ => trivial | (intro hz; exact absurd hz (by omega))) | with_reducible exact W_consp (by first | exact fun _ => trivial | (intro hz; exact absurd hz (by omega))) | with_reducible exact W_intp (by first | exact fun _ => trivial | (intro hz; exact absurd hz (by omega))) | with_reducible exact W_equal (by first | exact fun _ => trivial | (intro hz; exact absurd hz (by omega))) | with_reducible exact W_cons (by first | exact fun _ => trivial | (intro hz; exact absurd hz (by omega))) | with_reducible exact W_plus (by first | exact fun _ => trivial | (intro hz; exact absurd hz (by omega))) | with_reducible exact W_less (by first | exact fun _ => trivial | (intro hz; exact absurd hz (by omega))) | with_reducible exact W_f0 (by first | exact fun _ => trivial | (intro hz; exact absurd hz (by omega))) | with_reducible exact W_f9 (by first | exact fun _ => trivial | (intro hz; exact absurd hz (by omega))) | with_reducible exact W_f10 (by first | exact fun _ => trivial | (intro hz; exact absurd hz (by omega))) | with_reducible exact W_f12 (by first | exact fun _ => trivial | (intro hz; exact absurd hz (by omega))) | with_reducible exact W_f13 (by first | exact fun _ => trivial | (intro hz; exact absurd hz (by omega))) | with_reducible exact W_f14 (by first | exact fun _ => trivial | (intro hz; exact absurd hz (by omega))) | with_reducible exact W_f15 (by first | exact fun _ => trivial | (intro hz; exact absurd hz (by omega))) | with_reducible exact W_f16 (by first | exact fun _ => trivial | (intro hz; exact absurd hz (by omega))) | with_reducible exact W_f17 (by first | exact fun _ => trivial | (intro hz; exact absurd hz (by omega))) | with_reducible exact W_f18 (by first | exact fun _ => trivial | (intro hz; exact absurd hz (by omega))) | with_reducible exact W_f19 (by first | exact fun _ => trivial | (intro hz; exact absurd hz (by omega))) | with_reducible exact W_f20 (by first | exact fun _ => trivial | (intro hz; exact absurd hz (by omega))) | with_reducible exact W_f22 (by first | exact fun _ => trivial | (intro hz; exact absurd hz (by omega))) | with_reducible exact W_f23 (by first | exact fun _ => trivial | (intro hz; exact absurd hz (by omega))) | with_reducible exact W_f24 (by first | exact fun _ => trivial | (intro hz; exact absurd hz (by omega))) | with_reducible exact W_f26 (by first | exact fun _ => trivial | (intro hz; exact absurd hz (by omega))) | with_reducible exact W_f27 (by first | exact fun _ => trivial | (intro hz; exact absurd hz (by omega))))))); all_goals exact Tr.refl)) : p := h.go k
end
abbrev vX : Sy := (lispS, dec 1 120)
abbrev vY : Sy := (lispS, dec 1 121)
abbrev vE : Sy := (lispS, dec 1 101)
abbrev vN : Sy := (lispS, dec 1 110)
abbrev vV : Sy := (lispS, dec 1 118)
theorem size_list : ∀ os : List O, 2 * os.length + 1 ≤ (listO os).size
 | [] => by decide
 | a :: l => by
  have := size_list l
  have h1 : (listO (a :: l)).size = 1 + a.size + (listO l).size := rfl
  have := a.size_pos
  simp only [List.length_cons]
  omega
theorem ok_listt {a : O} {os : List O} (h : ok (listO (a :: os))) : ok (listO os) := (ok_co h).2
theorem len_b : ∀ {os : List O}, ok (listO os) → ∀ {l : Nat} {Q : O → Nat → Prop}, 6 * os.length + 3 ≤ l → (∀ m, l ≤ m + (6 * os.length + 3) → Q (.num os.length 1) m) → W PL False fn20.bo [(vX, listO os)] l Q
 | [], h, l, Q, hl, k => by
  rw [b_f20]
  (refine Ze ?_;with_reducible intros)
  simp only [ite_truth, isCo_co, isCo_nil, listO, cond_true, cond_false]
  (refine Ze ?_;with_reducible intros)
  exact k _ (by omega)
 | a :: os, h, l, Q, hl, k => by
  have h2 := ok_listt h
  have z := size_list os
  have z2 := h2.1
  simp only [List.length_cons] at hl k
  rw [b_f20]
  (refine Ze ?_;with_reducible intros)
  simp only [ite_truth, isCo_co, isCo_nil, listO, cond_true, cond_false]
  (refine Ze ?_;with_reducible intros)
  refine ⟨h, len_b h2 (by omega) fun m hm => ?_⟩
  refine ⟨1, os.length, rfl, rfl, ⟨by omega, by omega⟩, ⟨by omega, by omega⟩, ?_⟩
  have := k m (by omega)
  rw [show ((os.length + 1 : Nat) : Int) = 1 + (os.length : Int) by omega] at this
  exact this
theorem app_b {b : List O} : ∀ {os : List O}, ok (listO (os ++ b)) → ok (listO os) → ∀ {l : Nat} {Q : O → Nat → Prop}, 6 * os.length + 3 ≤ l → (∀ m, l ≤ m + (6 * os.length + 3) → Q (listO (os ++ b)) m) → W PL False fn22.bo [(vX, listO os), (vY, listO b)] l Q
 | [], h, h3, l, Q, hl, k => by
  rw [b_f22]
  (refine Ze ?_;with_reducible intros)
  simp only [ite_truth, isCo_co, isCo_nil, listO, cond_true, cond_false]
  (refine Ze ?_;with_reducible intros)
  exact k _ (by omega)
 | a :: os, h, h3, l, Q, hl, k => by
  have h2 : ok (listO (os ++ b)) := (ok_co h).2
  simp only [List.length_cons] at hl k
  rw [b_f22]
  (refine Ze ?_;with_reducible intros)
  simp only [ite_truth, isCo_co, isCo_nil, listO, cond_true, cond_false]
  (refine Ze ?_;with_reducible intros)
  refine ⟨h3, ?_⟩
  (refine Ze ?_;with_reducible intros)
  refine ⟨h3, ?_⟩
  (refine Ze ?_;with_reducible intros)
  refine app_b h2 (ok_co h3).2 (by omega) fun m hm => ⟨h, k _ (by omega)⟩
def szL : List O → Nat
 | [] => 1
 | a :: l => 1 + a.size + szL l
theorem szL_eq : ∀ os : List O, (listO os).size = szL os
 | [] => rfl
 | a :: l => by show 1 + a.size + (listO l).size = _; rw [szL_eq l]; rfl
theorem fmL_eq : ∀ os : List O, (listO os).fm = true ↔ ∀ x ∈ os, x.fm = true
 | [] => ⟨fun _ x h => absurd h (by simp), fun _ => ok_nil.2⟩
 | a :: l => by
  have e : (listO (a :: l)).fm = (a.fm && (listO l).fm) := rfl
  rw [e, Bool.and_eq_true, fmL_eq l]
  simp
theorem ok_list {os : List O} : ok (listO os) ↔ szL os ≤ 3000 ∧ ∀ x ∈ os, x.fm = true := by
 unfold ok
 rw [szL_eq, fmL_eq]
theorem szL_append : ∀ a b : List O, szL (a ++ b) + 1 = szL a + szL b
 | [], b => by show szL b + 1 = 1 + szL b; omega
 | x :: a, b => by
  have := szL_append a b
  show 1 + x.size + szL (a ++ b) + 1 = 1 + x.size + szL a + szL b
  omega
theorem szL_reverse : ∀ a : List O, szL a.reverse = szL a
 | [] => rfl
 | x :: a => by
  have := szL_append a.reverse [x]
  have h := szL_reverse a
  rw [List.reverse_cons]
  have e1 : szL [x] = 1 + x.size + 1 := rfl
  have e2 : szL (x :: a) = 1 + x.size + szL a := rfl
  omega
theorem rev_b : ∀ {os : List O}, ok (listO os) → os.length ≤ 8 → ∀ {l : Nat} {Q : O → Nat → Prop}, 60 * os.length + 3 ≤ l → (∀ m, l ≤ m + (60 * os.length + 3) → Q (listO os.reverse) m) → W PL False fn23.bo [(vX, listO os)] l Q
 | [], h, hn, l, Q, hl, k => by
  rw [b_f23]
  (refine Ze ?_;with_reducible intros)
  simp only [ite_truth, isCo_co, isCo_nil, listO, cond_true, cond_false]
  (refine Ze ?_;with_reducible intros)
  exact k _ (by omega)
 | a :: os, h, hn, l, Q, hl, k => by
  have h2 := ok_listt h
  have ha := ok_co h
  have z := ok_list.1 h
  have hf : ok (listO (os.reverse ++ [a])) := by
   rw [← List.reverse_cons]
   exact ok_list.2 ⟨by rw [szL_reverse]; exact z.1, fun x hx => z.2 x (List.mem_reverse.1 hx)⟩
  have hf2 : ok (listO os.reverse) := ok_list.2 ⟨by rw [szL_reverse]; exact (ok_list.1 h2).1, fun x hx => (ok_list.1 h2).2 x (List.mem_reverse.1 hx)⟩
  simp only [List.length_cons] at hl k hn
  rw [b_f23]
  (refine Ze ?_;with_reducible intros)
  simp only [ite_truth, isCo_co, isCo_nil, listO, cond_true, cond_false]
  (refine Ze ?_;with_reducible intros)
  refine ⟨h, rev_b h2 (by omega) (by omega) fun m hm => ?_⟩
  (refine Ze ?_;with_reducible intros)
  refine ⟨h, ?_⟩
  (refine Ze ?_;with_reducible intros)
  refine ⟨⟨?_, ?_⟩, ?_⟩
  ·have := ha.1.1
   have e : szL (a :: os) = 1 + a.size + szL os := rfl
   have : 1 ≤ szL os := by cases os <;> simp [szL]; omega
   show 1 + a.size + 1 ≤ 3000
   omega
  ·show (a.fm && nilO.fm) = true
   rw [ha.1.2, ok_nil.2]; rfl
  ·refine app_b (os := os.reverse) (b := [a]) hf hf2 (by rw [List.length_reverse]; omega) fun m2 hm2 => ?_
   rw [List.length_reverse] at hm2
   rw [← List.reverse_cons]
   exact k _ (by omega)
def memL (e : O) : List O → List O
 | [] => []
 | a :: l => if O.eqb e a = true then a :: l else memL e l
theorem mem_b {e : O} : ∀ {os : List O}, ok (listO os) → ∀ {l : Nat} {Q : O → Nat → Prop}, 8 * os.length + 3 ≤ l → (∀ m, l ≤ m + (8 * os.length + 3) → Q (listO (memL e os)) m) → W PL False fn24.bo [(vE, e), (vX, listO os)] l Q
 | [], h, l, Q, hl, k => by
  rw [b_f24]
  (refine Ze ?_;with_reducible intros)
  simp only [ite_truth, isCo_co, isCo_nil, listO, cond_true, cond_false]
  (refine Ze ?_;with_reducible intros)
  exact k _ (by omega)
 | a :: os, h, l, Q, hl, k => by
  have h2 := ok_listt h
  simp only [List.length_cons] at hl k
  rw [b_f24]
  (refine Ze ?_;with_reducible intros)
  simp only [ite_truth, isCo_co, isCo_nil, listO, cond_true, cond_false]
  (refine Ze ?_;with_reducible intros)
  refine ⟨h, ?_⟩
  simp only [ite_truth, carO]
  unfold memL at k
  cases he : O.eqb e a with
  | true =>
   rw [if_pos he] at k
   rw [cond_true]
   (refine Ze ?_;with_reducible intros)
   exact k _ (by omega)
  | false =>
   rw [if_neg (by rw [he]; decide)] at k
   rw [cond_false]
   (refine Ze ?_;with_reducible intros)
   exact ⟨h, mem_b h2 (by omega) fun m hm => k _ (by omega)⟩
theorem W_zp {E : Prop} {t : T} {env : Bds} {l : Nat} {Q : O → Nat → Prop} (h0 : l < 1 → E) (h : 1 ≤ l → W PL E t env (l - 1) fun x m => ∃ k : Int, x = .num k 1 ∧ (-100000000 < k ∧ k < 100000000) ∧ (m < 10 → E) ∧ ∀ m', m ≤ m' + 8 → Q (truthO (decide (¬ 0 < k))) m') : W PL E (.call (lispS, dec 2 28794) [t]) env l Q :=
 W_f12 h0 fun hl => (h hl).mono fun x m ⟨k, e, hk, hm, q⟩ => by
  subst e
  refine W_if (fun _ => hm (by omega)) fun _ => W_intp (fun _ => hm (by omega)) fun _ => W_v0 (by simp) ?_
  simp only [ite_truth, O.isInt, decide_true, cond_true]
  refine W_f0 (fun _ => hm (by omega)) fun _ => W_less (fun _ => hm (by omega)) fun _ => W_c (W_v0 (by simp) ⟨ok_num 0 (by decide), ok_num k ⟨by omega, by omega⟩, ?_⟩)
  refine W_if (fun _ => hm (by omega)) fun _ => W_v0 (by simp) ?_
  rw [ite_truth, less_int]
  by_cases hk0 : 0 < k
  ·rw [decide_eq_true hk0, cond_true]
   refine W_c ?_
   have := q (m - 1 - 1 - 1 - 1 - 1) (by omega)
   rw [decide_eq_false (fun h => h hk0)] at this
   exact this
  ·rw [decide_eq_false hk0, cond_false]
   refine W_c ?_
   have := q (m - 1 - 1 - 1 - 1 - 1) (by omega)
   rw [decide_eq_true hk0] at this
   exact this
theorem nth_b : ∀ {k : Nat} {os : List O} (_ : ok (listO os)) (hk : k < os.length) {l : Nat} {Q : O → Nat → Prop}, 20 * k + 30 ≤ l → (∀ m, l ≤ m + (20 * k + 30) → Q os[k] m) → W PL False fn26.bo [(vN, .num k 1), (vX, listO os)] l Q
 | 0, a :: os, h, hk, l, Q, hl, kQ => by
  rw [b_f26]
  refine W_if (by (first | exact fun _ => trivial | (intro hz; exact absurd hz (by omega)))) fun _ => W_zp (by (first | exact fun _ => trivial | (intro hz; exact absurd hz (by omega)))) fun _ => W_v0 (by simp) ⟨0, rfl, by decide, fun _ => by omega, fun m hm => ?_⟩
  rw [ite_truth, decide_eq_true (by decide), cond_true]
  (refine Ze ?_;with_reducible intros)
  exact ⟨h, kQ _ (by omega)⟩
 | k + 1, a :: os, h, hk, l, Q, hl, kQ => by
  have h2 := ok_listt h
  have z := size_list os
  have z2 := h2.1
  simp only [List.length_cons] at hk
  rw [b_f26]
  refine W_if (by (first | exact fun _ => trivial | (intro hz; exact absurd hz (by omega)))) fun _ => W_zp (by (first | exact fun _ => trivial | (intro hz; exact absurd hz (by omega)))) fun _ => W_v0 (by simp) ⟨((k + 1 : Nat) : Int), rfl, ⟨by omega, by omega⟩, fun _ => by omega, fun m hm => ?_⟩
  rw [ite_truth, decide_eq_false (by omega), cond_false]
  (refine Ze ?_;with_reducible intros)
  refine ⟨-1, ((k + 1 : Nat) : Int), rfl, rfl, by decide, ⟨by omega, by omega⟩, ?_⟩
  rw [show (-1 : Int) + ((k + 1 : Nat) : Int) = (k : Int) by omega]
  (refine Ze ?_;with_reducible intros)
  exact ⟨h, nth_b h2 (by omega) (by omega) fun m2 hm2 => kQ _ (by omega)⟩
theorem upd_b {v : O} : ∀ {k : Nat} {os : List O} (_ : ok (listO os)) (_ : ok (listO (os.set k v))) (hk : k < os.length) {l : Nat} {Q : O → Nat → Prop}, 20 * k + 30 ≤ l → (∀ m, l ≤ m + (20 * k + 30) → Q (listO (os.set k v)) m) → W PL False fn27.bo [(vN, .num k 1), (vV, v), (vX, listO os)] l Q
 | 0, a :: os, h, h3, hk, l, Q, hl, kQ => by
  rw [b_f27]
  refine W_if (by (first | exact fun _ => trivial | (intro hz; exact absurd hz (by omega)))) fun _ => W_zp (by (first | exact fun _ => trivial | (intro hz; exact absurd hz (by omega)))) fun _ => W_v0 (by simp) ⟨0, rfl, by decide, fun _ => by omega, fun m hm => ?_⟩
  rw [ite_truth, decide_eq_true (by decide), cond_true]
  (refine Ze ?_;with_reducible intros)
  refine ⟨h, h3, kQ _ (by omega)⟩
 | k + 1, a :: os, h, h3, hk, l, Q, hl, kQ => by
  have h2 := ok_listt h
  have z := size_list os
  have z2 := h2.1
  simp only [List.length_cons] at hk
  rw [b_f27]
  refine W_if (by (first | exact fun _ => trivial | (intro hz; exact absurd hz (by omega)))) fun _ => W_zp (by (first | exact fun _ => trivial | (intro hz; exact absurd hz (by omega)))) fun _ => W_v0 (by simp) ⟨((k + 1 : Nat) : Int), rfl, ⟨by omega, by omega⟩, fun _ => by omega, fun m hm => ?_⟩
  rw [ite_truth, decide_eq_false (by omega), cond_false]
  (refine Ze ?_;with_reducible intros)
  refine ⟨h, ?_⟩
  (refine Ze ?_;with_reducible intros)
  refine ⟨-1, ((k + 1 : Nat) : Int), rfl, rfl, by decide, ⟨by omega, by omega⟩, ?_⟩
  rw [show (-1 : Int) + ((k + 1 : Nat) : Int) = (k : Int) by omega]
  (refine Ze ?_;with_reducible intros)
  refine ⟨h, upd_b h2 (ok_co h3).2 (by omega) (by omega) fun m2 hm2 => ⟨h3, kQ _ (by omega)⟩⟩
end
end Go.Proofs.YtccafnaghnbpeaaGreatDoor
