/- The reference's numbers: on strings. -/
import Derived.Test.YtccafnaghnbpeaaGreatDoorCR4d
set_option linter.all false
namespace Go.Proofs.YtccafnaghnbpeaaGreatDoor
open Go.Abs LQ
set_option maxRecDepth 100000
set_option maxHeartbeats 4000000
noncomputable section
theorem kDigits : Know 53 (sp1 fun s => .ret (.t [.c (.b (decide (decVal s < 0))), .sl 1 ((digs (decVal s).natAbs).map dg)])) := by
 have := kDigits1
 simpa only [digS_eq] using this
theorem sgn_eq (neg : Bool) (n : Nat) : sgn neg n = showInt (if neg then -(n : Int) else n) := by
 unfold sgn showInt
 by_cases h0 : n = 0
 ·subst h0; cases neg <;> rfl
 ·rw [if_neg h0]
  cases neg
  ·simp only [Bool.false_eq_true, if_false]
   rw [if_neg (by omega)]; simp
  ·simp only [if_true]
   rw [if_pos (by omega)]; simp
theorem sgn_false (n : Nat) : sgn false n = showNat n := by
 unfold sgn
 split
 ·rename_i h; subst h; rfl
 ·rfl
def sp2 (R : Str → Str → GRes) : Sp where
 ι := { p : Str × Str // p.1.length < 9000 ∧ p.2.length < 9000 }
 A p := [.c (.s p.1.1), .c (.s p.1.2)]
 B _ := []
 R p := R p.1.1 p.1.2
 B' _ := []
 inj i j vs bs h k _ _ := by
  obtain ⟨_, _, h1, k1, h, k⟩ := h.two k
  obtain ⟨_, _, h2, k2, h, k⟩ := h.two k
  rw [s_inj h1 k1, s_inj h2 k2]; exact ⟨rfl, rfl⟩
theorem sgn_mul (a b : Int) : (if (decide (a < 0) != decide (b < 0)) = true then -((a.natAbs * b.natAbs : Nat) : Int) else ((a.natAbs * b.natAbs : Nat) : Int)) = a * b := by
 rw [← Int.natAbs_mul]
 by_cases h1 : a < 0 <;> by_cases h2 : b < 0
 ·have h := Int.mul_pos_of_neg_of_neg h1 h2
  generalize a * b = p at *
  simp [h1, h2]; omega
 ·have h := Int.mul_nonneg (Int.neg_nonneg_of_nonpos (Int.le_of_lt h1)) (Int.not_lt.1 h2)
  rw [Int.neg_mul] at h
  generalize a * b = p at *
  simp [h1, h2]; omega
 ·have h := Int.mul_nonneg (Int.not_lt.1 h1) (Int.neg_nonneg_of_nonpos (Int.le_of_lt h2))
  rw [Int.mul_neg] at h
  generalize a * b = p at *
  simp [h1, h2]; omega
 ·have h := Int.mul_nonneg (Int.not_lt.1 h1) (Int.not_lt.1 h2)
  generalize a * b = p at *
  simp [h1, h2]; omega
theorem digs_mul_le (m n : Nat) : (digs (m * n)).length ≤ (digs m).length + (digs n).length := by
 by_cases h : m * n = 0
 ·rw [h, digs_zero]; simp
 ·have h1 := digs_ge (m * n) h
  have h2 := val_lt (digs m) (digs_le m)
  have h3 := val_lt (digs n) (digs_le n)
  rw [val_digs] at h2 h3
  have h4 : m * n < 10 ^ ((digs m).length + (digs n).length) := by rw [Nat.pow_add]; exact Nat.mul_lt_mul'' h2 h3
  have h5 := (Nat.pow_lt_pow_iff_right (by omega : 1 < 10)).1 (Nat.lt_of_le_of_lt h1 h4)
  omega
theorem kNDigits : Know 193 (sp1 fun s => .ret (.c (.i .i64 (digitsS s)))) := know (fun fn h => r193_ok h) [(53, _)] (.cons kDigits .nil) fun U fn hfn ⟨s, hs⟩ vs bs hv hb => by
 have hr := hfn 53 _ rfl
 have hv : RVs [.c (.s s)] vs := hv
 have hb : RBs [] bs := hb
 show Sat U _ fun v bs' => RRes (.ret (.c (.i .i64 (digitsS s)))) v ∧ RBs [] bs'
 unfold r193
 (refine Zx ?_;with_reducible repeat' first|intro _|apply aI)
 refine sCall hr ⟨s, hs⟩ (r := .t [.c (.b (decide (decVal s < 0))), .sl 1 ((digs (decVal s).natAbs).map dg)]) rfl Zrv .nil fun _ _ _ _ => ?_
 (refine Zx ?_;with_reducible repeat' first|intro _|apply aI)
 refine sfIsel trLt (fun h => ?_) (fun h => ?_)
 ·exact sRet ⟨.ret _ _ (rvI (by unfold digitsS; omega)), .nil⟩
 ·exact sRet ⟨.ret _ _ (rvI (by unfold digitsS; omega)), .nil⟩
theorem kMultiply : Know 189 (sp2 fun a b => .ret (.c (.s (showInt (decVal a * decVal b))))) := know (fun fn h => r189_ok h) [(53, _), (218, _), (56, _)] (.cons kDigits (.cons kTimes (.cons kText .nil))) fun U fn hfn ⟨(a, b), ha, hbl⟩ vs bs hv hb => by
 have hd := hfn 53 _ rfl
 have ht := hfn 218 _ rfl
 have hx := hfn 56 _ rfl
 have ha : a.length < 9000 := ha
 have hbl : b.length < 9000 := hbl
 have hv : RVs [.c (.s a), .c (.s b)] vs := hv
 have hb : RBs [] bs := hb
 show Sat U _ fun v bs' => RRes (.ret (.c (.s (showInt (decVal a * decVal b))))) v ∧ RBs [] bs'
 have la := digS_len a
 have lb := digS_len b
 unfold r189
 (refine Zx ?_;with_reducible repeat' first|intro _|apply aI)
 refine sCall hd ⟨a, by omega⟩ (r := .t [.c (.b (decide (decVal a < 0))), .sl 1 ((digs (decVal a).natAbs).map dg)]) rfl Zrv .nil fun _ _ _ _ => ?_
 (refine Zx ?_;with_reducible repeat' first|intro _|apply aI)
 refine sCall hd ⟨b, by omega⟩ (r := .t [.c (.b (decide (decVal b < 0))), .sl 1 ((digs (decVal b).natAbs).map dg)]) rfl Zrv .nil fun _ _ _ _ => ?_
 (refine Zw ?_;with_reducible repeat' first|intro _|apply aI)
 refine sCall ht ⟨((decVal a).natAbs, (decVal b).natAbs), show (digs (decVal a).natAbs).length < 40000 by omega, show (digs (decVal b).natAbs).length < 40000 by omega⟩ (r := .sl 1 ((digs ((decVal a).natAbs * (decVal b).natAbs)).map dg)) rfl Zrv .nil fun _ _ _ _ => ?_
 (refine Zw ?_;with_reducible repeat' first|intro _|apply aI)
 refine sCall hx ⟨(decide (decVal a < 0) != decide (decVal b < 0), digs ((decVal a).natAbs * (decVal b).natAbs)), ?_, digs_le _⟩ (r := .c (.s (showInt (decVal a * decVal b)))) ?_ Zrv .nil fun _ _ _ _ => ?_
 ·have := digs_mul_le (decVal a).natAbs (decVal b).natAbs
  show (digs _).length < 90000
  omega
 ·show GRes.ret (.c (.s (sgn _ (val (digs _))))) = _
  rw [val_digs, sgn_eq]
  rw [sgn_mul]
 ·(refine Zw ?_;with_reducible repeat' first|intro _|apply aI)
  exact sRet ⟨.ret _ _ Zrv, .nil⟩
theorem kAdd : Know 188 (sp2 fun a b => .ret (.c (.s (showInt (decVal a + decVal b))))) := know (fun fn h => r188_ok h) [(53, _), (186, _), (71, _), (70, _), (56, _)] (.cons kDigits (.cons kPlus (.cons kMinus (.cons kOrder (.cons kText .nil))))) fun U fn hfn ⟨(a, b), ha, hbl⟩ vs bs hv hb => by
 have hd := hfn 53 _ rfl
 have hp := hfn 186 _ rfl
 have hm := hfn 71 _ rfl
 have ho := hfn 70 _ rfl
 have hx := hfn 56 _ rfl
 have ha : a.length < 9000 := ha
 have hbl : b.length < 9000 := hbl
 have hv : RVs [.c (.s a), .c (.s b)] vs := hv
 have hb : RBs [] bs := hb
 show Sat U _ fun v bs' => RRes (.ret (.c (.s (showInt (decVal a + decVal b))))) v ∧ RBs [] bs'
 have la := digS_len a
 have lb := digS_len b
 unfold r188
 (refine Zx ?_;with_reducible repeat' first|intro _|apply aI)
 refine sCall hd ⟨a, by omega⟩ (r := .t [.c (.b (decide (decVal a < 0))), .sl 1 ((digs (decVal a).natAbs).map dg)]) rfl Zrv .nil fun _ _ _ _ => ?_
 (refine Zx ?_;with_reducible repeat' first|intro _|apply aI)
 refine sCall hd ⟨b, by omega⟩ (r := .t [.c (.b (decide (decVal b < 0))), .sl 1 ((digs (decVal b).natAbs).map dg)]) rfl Zrv .nil fun _ _ _ _ => ?_
 have l1 : (digs (decVal a).natAbs).length < 90000 := by omega
 have l2 : (digs (decVal b).natAbs).length < 90000 := by omega
 generalize decVal a = x at *
 generalize decVal b = y at *
 have hor := ordL_digs x.natAbs y.natAbs
 (refine Zx ?_;with_reducible repeat' first|intro _|apply aI)
 ·have he : decide (x < 0) = decide (y < 0) := by simpa using ‹(decide (x < 0) == decide (y < 0)) = true›
  have hl := addC_len (digs x.natAbs) (digs y.natAbs) 0
  refine sCall hp ⟨(digs x.natAbs, digs y.natAbs), l1, l2, digs_le _, digs_le _⟩ (r := .sl 1 ((addC (digs x.natAbs) (digs y.natAbs) 0).map dg)) rfl Zrv .nil fun _ _ _ _ => ?_
  (refine Zx ?_;with_reducible repeat' first|intro _|apply aI)
  refine sCall hx ⟨(decide (x < 0), addC (digs x.natAbs) (digs y.natAbs) 0), show (addC (digs x.natAbs) (digs y.natAbs) 0).length < 90000 by omega, addC_le _ _ _ (by omega) (digs_le _) (digs_le _)⟩ (r := .c (.s (showInt (x + y)))) ?_ Zrv .nil fun _ _ _ _ => ?_
  ·show GRes.ret (.c (.s (sgn _ (val (addC _ _ _))))) = _
   rw [addC_val, val_digs, val_digs, sgn_eq]
   congr 4
   by_cases h : x < 0
   ·have : y < 0 := by simpa [h] using he
    simp [h]; omega
   ·have : ¬ y < 0 := by simpa [h] using he
    simp [h]; omega
  ·(refine Zx ?_;with_reducible repeat' first|intro _|apply aI)
   exact sRet ⟨.ret _ _ Zrv, .nil⟩
 ·have he : ¬ decide (x < 0) = decide (y < 0) := by simpa using ‹¬ (decide (x < 0) == decide (y < 0)) = true›
  refine sCall ho ⟨(digs x.natAbs, digs y.natAbs), l1, l2, trivial⟩ (r := .c (.i .i64 (ordL (digs x.natAbs) (digs y.natAbs)))) rfl Zrv .nil fun _ _ _ _ => ?_
  generalize ordL (digs x.natAbs) (digs y.natAbs) = o at *
  (refine Zx ?_;with_reducible repeat' first|intro _|apply aI)
  ·have hge : y.natAbs ≤ x.natAbs := by
    by_cases h : x.natAbs < y.natAbs
    ·rw [if_pos h] at hor; omega
    ·omega
   have l3 : (digs (x.natAbs - y.natAbs)).length < 90000 := by have := digs_len_le (Nat.sub_le x.natAbs y.natAbs); omega
   refine sCall hm ⟨(digs x.natAbs, digs y.natAbs), l1, l2, digs_le _, digs_le _⟩ (r := .sl 1 ((digs (x.natAbs - y.natAbs)).map dg)) (by rw [← subL_digs _ _ hge]; rfl) Zrv .nil fun _ _ _ _ => ?_
   (refine Zx ?_;with_reducible repeat' first|intro _|apply aI)
   refine sCall hx ⟨(decide (x < 0), digs (x.natAbs - y.natAbs)), l3, digs_le _⟩ (r := .c (.s (showInt (x + y)))) ?_ Zrv .nil fun _ _ _ _ => ?_
   ·show GRes.ret (.c (.s (sgn _ (val (digs _))))) = _
    rw [val_digs, sgn_eq]
    congr 4
    by_cases h : x < 0
    ·have : ¬ y < 0 := by simpa [h] using he
     simp [h]; omega
    ·have : y < 0 := by simpa [h] using he
     simp [h]; omega
   ·(refine Zx ?_;with_reducible repeat' first|intro _|apply aI)
    exact sRet ⟨.ret _ _ Zrv, .nil⟩
  ·have hge : x.natAbs ≤ y.natAbs := by
    by_cases h : x.natAbs < y.natAbs
    ·omega
    ·rw [if_neg h] at hor; split at hor <;> omega
   have l3 : (digs (y.natAbs - x.natAbs)).length < 90000 := by have := digs_len_le (Nat.sub_le y.natAbs x.natAbs); omega
   refine sCall hm ⟨(digs y.natAbs, digs x.natAbs), l2, l1, digs_le _, digs_le _⟩ (r := .sl 1 ((digs (y.natAbs - x.natAbs)).map dg)) (by rw [← subL_digs _ _ hge]; rfl) Zrv .nil fun _ _ _ _ => ?_
   (refine Zx ?_;with_reducible repeat' first|intro _|apply aI)
   refine sCall hx ⟨(decide (y < 0), digs (y.natAbs - x.natAbs)), l3, digs_le _⟩ (r := .c (.s (showInt (x + y)))) ?_ Zrv .nil fun _ _ _ _ => ?_
   ·show GRes.ret (.c (.s (sgn _ (val (digs _))))) = _
    rw [val_digs, sgn_eq]
    congr 4
    by_cases h : y < 0
    ·have : ¬ x < 0 := by simpa [h] using he
     simp [h]; omega
    ·have : x < 0 := by simpa [h] using he
     simp [h]; omega
   ·(refine Zx ?_;with_reducible repeat' first|intro _|apply aI)
    exact sRet ⟨.ret _ _ Zrv, .nil⟩
def cmpZ (x y : Int) : Int := if x < y then -1 else if y < x then 1 else 0
theorem kCompare : Know 220 (sp2 fun a b => .ret (.c (.i .i64 (cmpZ (decVal a) (decVal b))))) := know (fun fn h => r220_ok h) [(53, _), (70, _)] (.cons kDigits (.cons kOrder .nil)) fun U fn hfn ⟨(a, b), ha, hbl⟩ vs bs hv hb => by
 have hd := hfn 53 _ rfl
 have ho := hfn 70 _ rfl
 have ha : a.length < 9000 := ha
 have hbl : b.length < 9000 := hbl
 have hv : RVs [.c (.s a), .c (.s b)] vs := hv
 have hb : RBs [] bs := hb
 show Sat U _ fun v bs' => RRes (.ret (.c (.i .i64 (cmpZ (decVal a) (decVal b))))) v ∧ RBs [] bs'
 have la := digS_len a
 have lb := digS_len b
 unfold r220
 (refine Zx ?_;with_reducible repeat' first|intro _|apply aI)
 refine sCall hd ⟨a, by omega⟩ (r := .t [.c (.b (decide (decVal a < 0))), .sl 1 ((digs (decVal a).natAbs).map dg)]) rfl Zrv .nil fun _ _ _ _ => ?_
 (refine Zx ?_;with_reducible repeat' first|intro _|apply aI)
 refine sCall hd ⟨b, by omega⟩ (r := .t [.c (.b (decide (decVal b < 0))), .sl 1 ((digs (decVal b).natAbs).map dg)]) rfl Zrv .nil fun _ _ _ _ => ?_
 have l1 : (digs (decVal a).natAbs).length < 90000 := by omega
 have l2 : (digs (decVal b).natAbs).length < 90000 := by omega
 generalize decVal a = x at *
 generalize decVal b = y at *
 have hor := ordL_digs x.natAbs y.natAbs
 have hor' := ordL_digs y.natAbs x.natAbs
 (refine Zx ?_;with_reducible repeat' first|intro _|apply aI)
 all_goals simp only [decide_eq_true_eq] at *
 all_goals try (exfalso; omega)
 all_goals first
  | exact sRet ⟨.ret _ _ (rvI (by unfold cmpZ; rw [if_neg (by omega), if_pos (by omega)])), .nil⟩
  | exact sRet ⟨.ret _ _ (rvI (by unfold cmpZ; rw [if_pos (by omega)])), .nil⟩
  | (have hq : x < 0 := by assumption
     refine sCall ho ⟨(digs y.natAbs, digs x.natAbs), l2, l1, trivial⟩ (r := .c (.i .i64 (ordL (digs y.natAbs) (digs x.natAbs)))) rfl Zrv .nil fun _ _ _ _ => ?_
     (refine Zx ?_;with_reducible repeat' first|intro _|apply aI)
     exact sRet ⟨.ret _ _ (rvI (by rw [hor']; unfold cmpZ; (repeat' split) <;> omega)), .nil⟩)
  | (refine sCall ho ⟨(digs x.natAbs, digs y.natAbs), l1, l2, trivial⟩ (r := .c (.i .i64 (ordL (digs x.natAbs) (digs y.natAbs)))) rfl Zrv .nil fun _ _ _ _ => ?_
     (refine Zx ?_;with_reducible repeat' first|intro _|apply aI)
     exact sRet ⟨.ret _ _ (rvI (by rw [hor]; unfold cmpZ; (repeat' split) <;> omega)), .nil⟩)
def mu (m n : Nat) : Nat := if n = 0 then 0 else 1 + Nat.log2 (m * n) + (if m < n then 1 else 0)
theorem mu_step {m n : Nat} (h : 0 < n) : mu n (m % n) < mu m n := by
 have hlt := Nat.mod_lt m h
 unfold mu
 rw [if_neg (by omega : ¬ n = 0), if_neg (by omega : ¬ n < m % n)]
 split
 ·omega
 ·rename_i h0
  by_cases hmn : m < n
  ·rw [if_pos hmn, Nat.mod_eq_of_lt hmn, Nat.mul_comm]; omega
  ·rw [if_neg hmn]
   have h1 : n * (m % n) * 2 ≤ m * n := by
    have h2 : n ≤ n * (m / n) := Nat.le_mul_of_pos_right _ (Nat.div_pos (Nat.le_of_not_lt hmn) h)
    have h3 := Nat.div_add_mod m n
    have h4 : 2 * (m % n) ≤ m := by omega
    calc n * (m % n) * 2 = n * (2 * (m % n)) := by ac_rfl
     _ ≤ n * m := Nat.mul_le_mul_left _ h4
     _ = m * n := Nat.mul_comm _ _
   have h5 : 0 < n * (m % n) := Nat.mul_pos h (by omega)
   have h6 := Nat.log2_self_le (by omega : n * (m % n) ≠ 0)
   have h7 : 2 ^ (Nat.log2 (n * (m % n)) + 1) ≤ m * n := by rw [Nat.pow_succ]; omega
   have h8 : Nat.log2 (n * (m % n)) + 1 ≤ Nat.log2 (m * n) := (Nat.le_log2 (by omega)).2 h7
   omega
theorem mu_le {m n : Nat} (hm : (digs m).length < 9000) (hn : (digs n).length < 9000) : mu m n < FUEL := by
 have h2 := val_lt (digs m) (digs_le m)
 have h3 := val_lt (digs n) (digs_le n)
 rw [val_digs] at h2 h3
 unfold mu
 simp only [FUEL]
 split
 ·omega
 ·by_cases h0 : m * n = 0
  ·rw [h0]; simp; split <;> omega
  ·have h4 : m * n < 10 ^ ((digs m).length + (digs n).length) := by rw [Nat.pow_add]; exact Nat.mul_lt_mul'' h2 h3
   have h5 : 10 ^ ((digs m).length + (digs n).length) ≤ 2 ^ (4 * ((digs m).length + (digs n).length)) := by rw [Nat.pow_mul]; exact Nat.pow_le_pow_left (by decide) _
   have h6 := (Nat.log2_lt h0).2 (Nat.lt_of_lt_of_le h4 h5)
   split <;> omega
theorem kGcd : Know 54 (sp2 fun a b => .ret (.c (.s (showNat (Nat.gcd (decVal a).natAbs (decVal b).natAbs))))) := know (fun fn h => r54_ok h) [(53, _), (55, _), (56, _)] (.cons kDigits (.cons kOver (.cons kText .nil))) fun U fn hfn ⟨(a, b), ha, hbl⟩ vs bs hv hb => by
 have hd := hfn 53 _ rfl
 have ho := hfn 55 _ rfl
 have hx := hfn 56 _ rfl
 have ha : a.length < 9000 := ha
 have hbl : b.length < 9000 := hbl
 have hv : RVs [.c (.s a), .c (.s b)] vs := hv
 have hb : RBs [] bs := hb
 show Sat U _ fun v bs' => RRes (.ret (.c (.s (showNat (Nat.gcd (decVal a).natAbs (decVal b).natAbs))))) v ∧ RBs [] bs'
 have la := digS_len a
 have lb := digS_len b
 unfold r54
 (refine Zx ?_;with_reducible repeat' first|intro _|apply aI)
 refine sCall hd ⟨a, by omega⟩ (r := .t [.c (.b (decide (decVal a < 0))), .sl 1 ((digs (decVal a).natAbs).map dg)]) rfl Zrv .nil fun _ _ _ _ => ?_
 (refine Zx ?_;with_reducible repeat' first|intro _|apply aI)
 refine sCall hd ⟨b, by omega⟩ (r := .t [.c (.b (decide (decVal b < 0))), .sl 1 ((digs (decVal b).natAbs).map dg)]) rfl Zrv .nil fun _ _ _ _ => ?_
 generalize (decVal a).natAbs = x at *
 generalize (decVal b).natAbs = y at *
 (refine Zx ?_;with_reducible repeat' first|intro _|apply aI)
 refine sLp (fun (p : Nat × Nat) vs bs => ∃ (t : Tre Q) (off : Nat) (t' : Tre Q) (off' : Nat), vs = [.slice t 1 off (digs p.1).length .no, .slice t' 1 off' (digs p.2).length .no] ∧ bs = [] ∧ Rws 1 ((digs p.1).map dg) t off ∧ Rws 1 ((digs p.2).map dg) t' off' ∧ (digs p.1).length < 9000 ∧ (digs p.2).length < 9000 ∧ Nat.gcd p.1 p.2 = Nat.gcd x y) (fun p => mu p.1 p.2) (x, y)
  ⟨_, _, _, _, rfl, rfl, by assumption, by assumption, by simp only; omega, by simp only; omega, rfl⟩ (mu_le (by simp only; omega) (by simp only; omega)) ?_
 rintro self ⟨m, n⟩ _ _ ⟨t, off, t', off', rfl, rfl, ht, ht', hm, hn, hg⟩ ih
 simp only at *
 (refine Zx ?_;with_reducible repeat' first|intro _|apply aI)
 ·have hn0 : 0 < n := by
   by_cases h : n = 0
   ·subst h; rw [digs_zero] at *; simp at *
   ·omega
  have hml := digs_len_le (Nat.le_of_lt (Nat.mod_lt m hn0))
  refine sCall ho ⟨(m, n), show (digs m).length < 80000 by omega, show (digs n).length < 80000 by omega, hn0⟩ (r := .t [.sl 1 ((digs (m / n)).map dg), .sl 1 ((digs (m % n)).map dg)]) rfl Zrv .nil fun _ _ _ _ => ?_
  (refine Zx ?_;with_reducible repeat' first|intro _|apply aI)
  exact ih (n, m % n) _ _ ⟨_, _, _, _, rfl, rfl, by assumption, by assumption, hn, by simp only; omega, by rw [← hg, Nat.gcd_comm m n, Nat.gcd_rec n m, Nat.gcd_comm]⟩ (mu_step hn0)
 ·have hn0 : n = 0 := by rw [← val_digs n, List.length_eq_zero_iff.1 (by omega : (digs n).length = 0)]; rfl
  subst hn0
  rw [Nat.gcd_zero_right] at hg
  refine sCall hx ⟨(false, digs m), show (digs m).length < 90000 by omega, digs_le _⟩ (r := .c (.s (showNat m))) (by show GRes.ret (.c (.s (sgn false (val (digs m))))) = _; rw [val_digs, sgn_false]) Zrv .nil fun _ _ _ _ => ?_
  rw [← hg]
  (refine Zx ?_;with_reducible repeat' first|intro _|apply aI)
  exact sRet ⟨.ret _ _ Zrv, .nil⟩
end
end Go.Proofs.YtccafnaghnbpeaaGreatDoor
