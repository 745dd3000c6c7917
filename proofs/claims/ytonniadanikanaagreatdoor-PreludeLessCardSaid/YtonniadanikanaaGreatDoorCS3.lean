/- What the built-in functions on lists give. -/
import Derived.Test.YtonniadanikanaaGreatDoorCS2
set_option linter.all false
namespace Go.Proofs.YtonniadanikanaaGreatDoor
open Go.Abs LQ
set_option maxRecDepth 100000
set_option maxHeartbeats 4000000
noncomputable section
theorem W_v0 {L : List (List F)} {E : Prop} {s : Sy} {o : O} {env : Bds} {l : Nat} {Q : O → Nat → Prop} (hn : env.length < 10) (k : Q o l) : W L E (.v s) ((s, o) :: env) l Q :=
 W_v (by simp only [List.length_cons]; omega) (if_pos rfl) k
theorem W_v1 {L : List (List F)} {E : Prop} {s s1 : Sy} {o o1 : O} {env : Bds} {l : Nat} {Q : O → Nat → Prop} (hn : env.length < 10) (h : ¬ s1 = s) (k : Q o l) : W L E (.v s) ((s1, o1) :: (s, o) :: env) l Q :=
 W_v (by simp only [List.length_cons]; omega) ((if_neg h).trans (if_pos rfl)) k
section
variable {L : List (List F)} {E : Prop}
theorem Ze {p q : Prop} (k : q) (h : Tr p q := by ((repeat' (first | (with_reducible apply Tr.all) | (with_reducible intro _) | (apply Tr.b; (case f => first | with_reducible exact W_v0 (by simp) | with_reducible exact W_v1 (by simp) (by decide) | with_reducible exact W_v2 (by simp) (by decide) (by decide) | with_reducible exact W_c | with_reducible exact W_if (by first | exact fun _ => trivial | (intro hz; exact absurd hz (by omega))) | with_reducible exact W_car (by first | exact fun _ => trivial | (intro hz; exact absurd hz (by omega))) | with_reducible exact W_cdr (by first | exact fun _ => trivial | (intro hz; exact absurd hz (by omega))) | with_reducible exact W_consp (by first | exact fun _ => trivial | (intro hz; exact absurd hz (by omega))) | with_reducible exact W_intp (by first | exact fun _ => trivial | (intro hz; exact absurd hz (by omega))) | with_reducible exact W_equal (by first | exact fun _ => trivial | (intro hz; exact absurd hz (by omega))) | with_reducible exact W_cons (by first | exact fun _ => trivial | (intro hz; exact absurd hz (by omega))) | with_reducible exact W_plus (by first | exact fun _ => trivial | (intro hz; exact absurd hz (by omega))) | with_reducible exact W_less (by first | exact fun _ => trivial | (intro hz; exact absurd hz (by omega))) | with_reducible exact W_f0 (by first | exact fun _ => trivial | (intro hz; exact absurd hz (by omega))) | with_reducible exact W_f9 (by first | exact fun _ => trivial | (intro hz; exact absurd hz (by omega))) | with_reducible exact W_f10 (by first | exact fun _ => trivial | (intro hz; exact absurd hz (by omega))) | with_reducible exact W_f12 (by first | exact fun _ => trivial | (intro hz; exact absurd hz (by omega))) | with_reducible exact W_f13 (by first | exact fun _ => trivial | (intro hz; exact absurd hz (by omega))) | with_reducible exact W_f14 (by first | exact fun _ => trivial | (intro hz; exact absurd hz (by omega))) | with_reducible exact W_f15 (by first | exact fun _ => trivial | (intro hz; exact absurd hz (by omega))) | with_reducible exact W_f16 (by first | exact fun _ => trivial | (intro hz; exact absurd hz (by omega))) | with_reducible exact W_f17 (by first | exact fun _ => trivial | (intro hz; exact absurd hz (by omega))) | with_reducible exact W_f18 (by first | exact fun _ => trivial | (intro hz; exact absurd hz (by omega))) | with_reducible exact W_f19 (by first | exact fun _ => trivial | (intro hz; exact absurd hz (by omega))) | with_reducible exact W_f20 (by first | exact fun _ => trivial | (intro hz; exact absurd hz (by omega))) | with_reducible exact W_f22 (by first | exact fun _ => trivial | (intro hz; exact absurd hz (by omega))) | with_reducible exact W_f23 (by first | exact fun _ => trivial | (intro hz; exact absurd hz (by omega))) | with_reducible exact W_f24 (by first | exact fun _ => trivial | (intro hz; exact absurd hz (by omega))) | with_reducible exact W_f26 (by first | exact fun _ => trivial | (intro hz; exact absurd hz (by omega))) | with_reducible exact W_f27 (by first | exact fun _ => trivial | (intro hz; exact absurd hz (by omega))))))); all_goals exact Tr.refl)) : p := h.go k
end
abbrev vX : Sy := (lispS, dec 1 120)
abbrev vY : Sy := (lispS, dec 1 121)
def szL : List O → Nat
 | [] => 1
 | a :: l => 1 + a.size + szL l
theorem szL_eq : ∀ os : List O, (listO os).size = szL os
 | [] => rfl
 | a :: l => by show 1 + a.size + (listO l).size = _; rw [szL_eq l]; rfl
theorem fmL_eq : ∀ os : List O, (listO os).fm = true ↔ ∀ x ∈ os, x.fm = true
 | [] => ⟨fun _ x h => absurd h (by simp), fun _ => ok_nil.2⟩
 | a :: l => by
  have e : (listO (a :: l)).fm = (a.fm && (listO l).fm) := rfl
  rw [e, Bool.and_eq_true, fmL_eq l]
  simp
theorem ok_list {os : List O} : ok (listO os) ↔ szL os ≤ 3000 ∧ ∀ x ∈ os, x.fm = true := by
 unfold ok
 rw [szL_eq, fmL_eq]
end
end Go.Proofs.YtonniadanikanaaGreatDoor
