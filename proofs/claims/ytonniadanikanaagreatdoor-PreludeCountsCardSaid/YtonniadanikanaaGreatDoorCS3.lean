/- What the built-in functions on lists give. -/
import Derived.Test.YtonniadanikanaaGreatDoorCS2
set_option linter.all false
namespace Go.Proofs.YtonniadanikanaaGreatDoor
open Go.Abs LQ
set_option maxRecDepth 100000
set_option maxHeartbeats 4000000
noncomputable section
theorem W_v0 {L : List (List F)} {E : Prop} {s : Sy} {o : O} {env : Bds} {l : Nat} {Q : O → Nat → Prop} (hn : env.length < 10) (k : Q o l) : W L E (.v s) ((s, o) :: env) l Q :=
 W_v (by simp only [List.length_cons]; omega) (if_pos rfl) k
theorem isCo_co (a d : O) : O.isCo (.co a d) = true := rfl
theorem isCo_nil : O.isCo nilO = false := rfl
section
variable {L : List (List F)} {E : Prop}
theorem Ze {p q : Prop} (k : q) (h : Tr p q := by ((repeat' (first | (with_reducible apply Tr.all) | (with_reducible intro _) | (apply Tr.b; (case f => first | with_reducible exact W_v0 (by simp) | with_reducible exact W_v1 (by simp) (by decide) | with_reducible exact W_v2 (by simp) (by decide) (by decide) | with_reducible exact W_c | with_reducible exact W_if (by first | exact fun _ => trivial | (intro hz; exact absurd hz (by omega))) | with_reducible exact W_car (by first | exact fun _ => trivial | (intro hz; exact absurd hz (by omega))) | with_reducible exact W_cdr (by first | exact fun _ => trivial | (intro hz; exact absurd hz (by omega))) | with_reducible exact W_consp (by first | exact fun _ => trivial | (intro hz; exact absurd hz (by omega))) | with_reducible exact W_intp (by first | exact fun _ => trivial | (intro hz; exact absurd hz (by omega))) | with_reducible exact W_equal (by first | exact fun _ => trivial | (intro hz; exact absurd hz (by omega))) | with_reducible exact W_cons (by first | exact fun _ => trivial | (intro hz; exact absurd hz (by omega))) | with_reducible exact W_plus (by first | exact fun _ => trivial | (intro hz; exact absurd hz (by omega))) | with_reducible exact W_less (by first | exact fun _ => trivial | (intro hz; exact absurd hz (by omega))) | with_reducible exact W_f0 (by first | exact fun _ => trivial | (intro hz; exact absurd hz (by omega))) | with_reducible exact W_f9 (by first | exact fun _ => trivial | (intro hz; exact absurd hz (by omega))) | with_reducible exact W_f10 (by first | exact fun _ => trivial | (intro hz; exact absurd hz (by omega))) | with_reducible exact W_f12 (by first | exact fun _ => trivial | (intro hz; exact absurd hz (by omega))) | with_reducible exact W_f13 (by first | exact fun _ => trivial | (intro hz; exact absurd hz (by omega))) | with_reducible exact W_f14 (by first | exact fun _ => trivial | (intro hz; exact absurd hz (by omega))) | with_reducible exact W_f15 (by first | exact fun _ => trivial | (intro hz; exact absurd hz (by omega))) | with_reducible exact W_f16 (by first | exact fun _ => trivial | (intro hz; exact absurd hz (by omega))) | with_reducible exact W_f17 (by first | exact fun _ => trivial | (intro hz; exact absurd hz (by omega))) | with_reducible exact W_f18 (by first | exact fun _ => trivial | (intro hz; exact absurd hz (by omega))) | with_reducible exact W_f19 (by first | exact fun _ => trivial | (intro hz; exact absurd hz (by omega))) | with_reducible exact W_f20 (by first | exact fun _ => trivial | (intro hz; exact absurd hz (by omega))) | with_reducible exact W_f22 (by first | exact fun _ => trivial | (intro hz; exact absurd hz (by omega))) | with_reducible exact W_f23 (by first | exact fun _ => trivial | (intro hz; exact absurd hz (by omega))) | with_reducible exact W_f24 (by first | exact fun _ => trivial | (intro hz; exact absurd hz (by omega))) | with_reducible exact W_f26 (by first | exact fun _ => trivial | (intro hz; exact absurd hz (by omega))) | with_reducible exact W_f27 (by first | exact fun _ => trivial | (intro hz; exact absurd hz (by omega))))))); all_goals exact Tr.refl)) : p := h.go k
end
abbrev vX : Sy := (lispS, dec 1 120)
theorem size_list : ∀ os : List O, 2 * os.length + 1 ≤ (listO os).size
 | [] => by decide
 | a :: l => by
  have := size_list l
  have h1 : (listO (a :: l)).size = 1 + a.size + (listO l).size := rfl
  have := a.size_pos
  simp only [List.length_cons]
  omega
def countO : O → Nat
 | .co a d => 1 + (countO a + countO d)
 | _ => 0
theorem countO_size : ∀ o : O, 2 * countO o + 1 ≤ o.size
 | .co a d => by
  have := countO_size a
  have := countO_size d
  show 2 * (1 + (countO a + countO d)) + 1 ≤ 1 + a.size + d.size
  omega
 | .num _ _ => by simp [countO, O.size]
 | .sy _ => by simp [countO, O.size]
 | .tx _ => by simp [countO, O.size]
 | .no => by simp [countO, O.size]
theorem count_b : ∀ {o : O}, ok o → ∀ {l : Nat} {Q : O → Nat → Prop}, (∀ m, Q (.num (countO o) 1) m) → W PL True fn13.bo [(vX, o)] l Q
 | .co a d, h, l, Q, k => by
  rw [b_f13]
  have ha := ok_co h
  have s1 := countO_size a
  have s2 := countO_size d
  have z1 := ha.1.1
  have z2 := ha.2.1
  (refine Ze ?_;with_reducible intros)
  simp only [ite_truth, O.isCo, cond_true]
  (refine Ze ?_;with_reducible intros)
  refine ⟨h, count_b ha.1 fun m => ?_⟩
  (refine Ze ?_;with_reducible intros)
  refine ⟨h, count_b ha.2 fun m => ?_⟩
  refine ⟨_, _, rfl, rfl, ⟨by omega, by omega⟩, ⟨by omega, by omega⟩, 1, _, rfl, rfl, ⟨by omega, by omega⟩, ⟨by omega, by omega⟩, ?_⟩
  have := k m
  rw [show ((countO (.co a d) : Nat) : Int) = 1 + ((countO a : Int) + (countO d : Int)) by show ((1 + (countO a + countO d) : Nat) : Int) = _; omega] at this
  exact this
 | .num _ _, h, l, Q, k => by (rw [b_f13]; (refine Ze ?_;with_reducible intros); simp only [ite_truth, O.isCo, cond_false]; (refine Ze ?_;with_reducible intros); exact k _)
 | .sy _, h, l, Q, k => by (rw [b_f13]; (refine Ze ?_;with_reducible intros); simp only [ite_truth, O.isCo, cond_false]; (refine Ze ?_;with_reducible intros); exact k _)
 | .tx _, h, l, Q, k => by (rw [b_f13]; (refine Ze ?_;with_reducible intros); simp only [ite_truth, O.isCo, cond_false]; (refine Ze ?_;with_reducible intros); exact k _)
 | .no, h, l, Q, k => by (rw [b_f13]; (refine Ze ?_;with_reducible intros); simp only [ite_truth, O.isCo, cond_false]; (refine Ze ?_;with_reducible intros); exact k _)
theorem ok_listt {a : O} {os : List O} (h : ok (listO (a :: os))) : ok (listO os) := (ok_co h).2
theorem len_b : ∀ {os : List O}, ok (listO os) → ∀ {l : Nat} {Q : O → Nat → Prop}, 6 * os.length + 3 ≤ l → (∀ m, l ≤ m + (6 * os.length + 3) → Q (.num os.length 1) m) → W PL False fn20.bo [(vX, listO os)] l Q
 | [], h, l, Q, hl, k => by
  rw [b_f20]
  (refine Ze ?_;with_reducible intros)
  simp only [ite_truth, isCo_co, isCo_nil, listO, cond_true, cond_false]
  (refine Ze ?_;with_reducible intros)
  exact k _ (by omega)
 | a :: os, h, l, Q, hl, k => by
  have h2 := ok_listt h
  have z := size_list os
  have z2 := h2.1
  simp only [List.length_cons] at hl k
  rw [b_f20]
  (refine Ze ?_;with_reducible intros)
  simp only [ite_truth, isCo_co, isCo_nil, listO, cond_true, cond_false]
  (refine Ze ?_;with_reducible intros)
  refine ⟨h, len_b h2 (by omega) fun m hm => ?_⟩
  refine ⟨1, os.length, rfl, rfl, ⟨by omega, by omega⟩, ⟨by omega, by omega⟩, ?_⟩
  have := k m (by omega)
  rw [show ((os.length + 1 : Nat) : Int) = 1 + (os.length : Int) by omega] at this
  exact this
def szL : List O → Nat
 | [] => 1
 | a :: l => 1 + a.size + szL l
theorem szL_eq : ∀ os : List O, (listO os).size = szL os
 | [] => rfl
 | a :: l => by show 1 + a.size + (listO l).size = _; rw [szL_eq l]; rfl
theorem fmL_eq : ∀ os : List O, (listO os).fm = true ↔ ∀ x ∈ os, x.fm = true
 | [] => ⟨fun _ x h => absurd h (by simp), fun _ => ok_nil.2⟩
 | a :: l => by
  have e : (listO (a :: l)).fm = (a.fm && (listO l).fm) := rfl
  rw [e, Bool.and_eq_true, fmL_eq l]
  simp
theorem ok_list {os : List O} : ok (listO os) ↔ szL os ≤ 3000 ∧ ∀ x ∈ os, x.fm = true := by
 unfold ok
 rw [szL_eq, fmL_eq]
end
end Go.Proofs.YtonniadanikanaaGreatDoor
