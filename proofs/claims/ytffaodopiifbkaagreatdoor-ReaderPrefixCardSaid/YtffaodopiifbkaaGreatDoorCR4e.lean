/- The reference's numbers: on strings. -/
import Derived.Test.YtffaodopiifbkaaGreatDoorCR4d
set_option linter.all false
namespace Go.Proofs.YtffaodopiifbkaaGreatDoor
open Go.Abs LQ
set_option maxRecDepth 100000
set_option maxHeartbeats 4000000
noncomputable section
theorem kDigits : Know 124 (sp1 fun s => .ret (.t [.c (.b (decide (decVal s < 0))), .sl 1 ((digs (decVal s).natAbs).map dg)])) := by
 have := kDigits1
 simpa only [digS_eq] using this
theorem sgn_eq (neg : Bool) (n : Nat) : sgn neg n = showInt (if neg then -(n : Int) else n) := by
 unfold sgn showInt
 by_cases h0 : n = 0
 ·subst h0; cases neg <;> rfl
 ·rw [if_neg h0]
  cases neg
  ·simp only [Bool.false_eq_true, if_false]
   rw [if_neg (by omega)]; simp
  ·simp only [if_true]
   rw [if_pos (by omega)]; simp
theorem sgn_false (n : Nat) : sgn false n = showNat n := by
 unfold sgn
 split
 ·rename_i h; subst h; rfl
 ·rfl
def sp2 (R : Str → Str → GRes) : Sp where
 ι := { p : Str × Str // p.1.length < 9000 ∧ p.2.length < 9000 }
 A p := [.c (.s p.1.1), .c (.s p.1.2)]
 B _ := []
 R p := R p.1.1 p.1.2
 B' _ := []
 inj i j vs bs h k _ _ := by
  obtain ⟨_, _, h1, k1, h, k⟩ := h.two k
  obtain ⟨_, _, h2, k2, h, k⟩ := h.two k
  rw [s_inj h1 k1, s_inj h2 k2]; exact ⟨rfl, rfl⟩
def mu (m n : Nat) : Nat := if n = 0 then 0 else 1 + Nat.log2 (m * n) + (if m < n then 1 else 0)
theorem mu_step {m n : Nat} (h : 0 < n) : mu n (m % n) < mu m n := by
 have hlt := Nat.mod_lt m h
 unfold mu
 rw [if_neg (by omega : ¬ n = 0), if_neg (by omega : ¬ n < m % n)]
 split
 ·omega
 ·rename_i h0
  by_cases hmn : m < n
  ·rw [if_pos hmn, Nat.mod_eq_of_lt hmn, Nat.mul_comm]; omega
  ·rw [if_neg hmn]
   have h1 : n * (m % n) * 2 ≤ m * n := by
    have h2 : n ≤ n * (m / n) := Nat.le_mul_of_pos_right _ (Nat.div_pos (Nat.le_of_not_lt hmn) h)
    have h3 := Nat.div_add_mod m n
    have h4 : 2 * (m % n) ≤ m := by omega
    calc n * (m % n) * 2 = n * (2 * (m % n)) := by ac_rfl
     _ ≤ n * m := Nat.mul_le_mul_left _ h4
     _ = m * n := Nat.mul_comm _ _
   have h5 : 0 < n * (m % n) := Nat.mul_pos h (by omega)
   have h6 := Nat.log2_self_le (by omega : n * (m % n) ≠ 0)
   have h7 : 2 ^ (Nat.log2 (n * (m % n)) + 1) ≤ m * n := by rw [Nat.pow_succ]; omega
   have h8 : Nat.log2 (n * (m % n)) + 1 ≤ Nat.log2 (m * n) := (Nat.le_log2 (by omega)).2 h7
   omega
theorem mu_le {m n : Nat} (hm : (digs m).length < 9000) (hn : (digs n).length < 9000) : mu m n < FUEL := by
 have h2 := val_lt (digs m) (digs_le m)
 have h3 := val_lt (digs n) (digs_le n)
 rw [val_digs] at h2 h3
 unfold mu
 simp only [FUEL]
 split
 ·omega
 ·by_cases h0 : m * n = 0
  ·rw [h0]; simp; split <;> omega
  ·have h4 : m * n < 10 ^ ((digs m).length + (digs n).length) := by rw [Nat.pow_add]; exact Nat.mul_lt_mul'' h2 h3
   have h5 : 10 ^ ((digs m).length + (digs n).length) ≤ 2 ^ (4 * ((digs m).length + (digs n).length)) := by rw [Nat.pow_mul]; exact Nat.pow_le_pow_left (by decide) _
   have h6 := (Nat.log2_lt h0).2 (Nat.lt_of_lt_of_le h4 h5)
   split <;> omega
theorem kGcd : Know 125 (sp2 fun a b => .ret (.c (.s (showNat (Nat.gcd (decVal a).natAbs (decVal b).natAbs))))) := know (fun fn h => r125_ok h) [(124, _), (126, _), (127, _)] (.cons kDigits (.cons kOver (.cons kText .nil))) fun U fn hfn ⟨(a, b), ha, hbl⟩ vs bs hv hb => by
 have hd := hfn 124 _ rfl
 have ho := hfn 126 _ rfl
 have hx := hfn 127 _ rfl
 have ha : a.length < 9000 := ha
 have hbl : b.length < 9000 := hbl
 have hv : RVs [.c (.s a), .c (.s b)] vs := hv
 have hb : RBs [] bs := hb
 show Sat U _ fun v bs' => RRes (.ret (.c (.s (showNat (Nat.gcd (decVal a).natAbs (decVal b).natAbs))))) v ∧ RBs [] bs'
 have la := digS_len a
 have lb := digS_len b
 unfold r125
 (refine Zx ?_;with_reducible repeat' first|intro _|apply aI)
 refine sCall hd ⟨a, by omega⟩ (r := .t [.c (.b (decide (decVal a < 0))), .sl 1 ((digs (decVal a).natAbs).map dg)]) rfl Zrv .nil fun _ _ _ _ => ?_
 (refine Zx ?_;with_reducible repeat' first|intro _|apply aI)
 refine sCall hd ⟨b, by omega⟩ (r := .t [.c (.b (decide (decVal b < 0))), .sl 1 ((digs (decVal b).natAbs).map dg)]) rfl Zrv .nil fun _ _ _ _ => ?_
 generalize (decVal a).natAbs = x at *
 generalize (decVal b).natAbs = y at *
 (refine Zx ?_;with_reducible repeat' first|intro _|apply aI)
 refine sLp (fun (p : Nat × Nat) vs bs => ∃ (t : Tre Q) (off : Nat) (t' : Tre Q) (off' : Nat), vs = [.slice t 1 off (digs p.1).length .no, .slice t' 1 off' (digs p.2).length .no] ∧ bs = [] ∧ Rws 1 ((digs p.1).map dg) t off ∧ Rws 1 ((digs p.2).map dg) t' off' ∧ (digs p.1).length < 9000 ∧ (digs p.2).length < 9000 ∧ Nat.gcd p.1 p.2 = Nat.gcd x y) (fun p => mu p.1 p.2) (x, y)
  ⟨_, _, _, _, rfl, rfl, by assumption, by assumption, by simp only; omega, by simp only; omega, rfl⟩ (mu_le (by simp only; omega) (by simp only; omega)) ?_
 rintro self ⟨m, n⟩ _ _ ⟨t, off, t', off', rfl, rfl, ht, ht', hm, hn, hg⟩ ih
 simp only at *
 (refine Zx ?_;with_reducible repeat' first|intro _|apply aI)
 ·have hn0 : 0 < n := by
   by_cases h : n = 0
   ·subst h; rw [digs_zero] at *; simp at *
   ·omega
  have hml := digs_len_le (Nat.le_of_lt (Nat.mod_lt m hn0))
  refine sCall ho ⟨(m, n), show (digs m).length < 80000 by omega, show (digs n).length < 80000 by omega, hn0⟩ (r := .t [.sl 1 ((digs (m / n)).map dg), .sl 1 ((digs (m % n)).map dg)]) rfl Zrv .nil fun _ _ _ _ => ?_
  (refine Zx ?_;with_reducible repeat' first|intro _|apply aI)
  exact ih (n, m % n) _ _ ⟨_, _, _, _, rfl, rfl, by assumption, by assumption, hn, by simp only; omega, by rw [← hg, Nat.gcd_comm m n, Nat.gcd_rec n m, Nat.gcd_comm]⟩ (mu_step hn0)
 ·have hn0 : n = 0 := by rw [← val_digs n, List.length_eq_zero_iff.1 (by omega : (digs n).length = 0)]; rfl
  subst hn0
  rw [Nat.gcd_zero_right] at hg
  refine sCall hx ⟨(false, digs m), show (digs m).length < 90000 by omega, digs_le _⟩ (r := .c (.s (showNat m))) (by show GRes.ret (.c (.s (sgn false (val (digs m))))) = _; rw [val_digs, sgn_false]) Zrv .nil fun _ _ _ _ => ?_
  rw [← hg]
  (refine Zx ?_;with_reducible repeat' first|intro _|apply aI)
  exact sRet ⟨.ret _ _ Zrv, .nil⟩
end
end Go.Proofs.YtffaodopiifbkaaGreatDoor
