/- The reference's numbers: quotients in lowest terms. -/
import Derived.Test.YtccafnaghnbpeaaGreatDoorCR4e
import Derived.Test.YtccafnaghnbpeaaGreatDoorCL0
import Derived.Test.YtccafnaghnbpeaaGreatDoorCL1
import Derived.Test.YtccafnaghnbpeaaGreatDoorCP
set_option linter.all false
namespace Go.Proofs.YtccafnaghnbpeaaGreatDoor
open Go.Abs LQ
set_option maxRecDepth 100000
set_option maxHeartbeats 4000000
noncomputable section
theorem showNat_len (n : Nat) : (showNat n).length ≤ (digs n).length + 1 := by
 by_cases h : n = 0
 ·subst h; decide
 ·rw [showNat_size n h]; omega
theorem kReduce : Know 37 (sp2 fun a b => .ret (.t [.c (.s (reduceS a b).1), .c (.s (reduceS a b).2)])) := know (fun fn h => r37_ok h) [(53, _), (55, _), (56, _), (54, _)] (.cons kDigits (.cons kOver (.cons kText (.cons kGcd .nil)))) fun U fn hfn ⟨(a, b), ha, hbl⟩ vs bs hv hb => by
 have hd := hfn 53 _ rfl
 have ho := hfn 55 _ rfl
 have hx := hfn 56 _ rfl
 have hg := hfn 54 _ rfl
 have ha : a.length < 9000 := ha
 have hbl : b.length < 9000 := hbl
 have hv : RVs [.c (.s a), .c (.s b)] vs := hv
 have hb : RBs [] bs := hb
 show Sat U _ fun v bs' => RRes (.ret (.t [.c (.s (reduceS a b).1), .c (.s (reduceS a b).2)])) v ∧ RBs [] bs'
 have la := digS_len a
 have lb := digS_len b
 unfold r37
 (refine Zx ?_;with_reducible repeat' first|intro _|apply aI)
 refine sCall hd ⟨b, by omega⟩ (r := .t [.c (.b (decide (decVal b < 0))), .sl 1 ((digs (decVal b).natAbs).map dg)]) rfl Zrv .nil fun _ _ _ _ => ?_
 (refine Zx ?_;with_reducible repeat' first|intro _|apply aI)
 ·have e0 : decVal b = 0 := by
   have h1 := val_digs (decVal b).natAbs
   rw [List.length_eq_zero_iff.1 (by omega : (digs (decVal b).natAbs).length = 0)] at h1
   simp [val] at h1; omega
  have e : reduceS a b = (zeroStr, oneStr) := by unfold reduceS; rw [if_pos e0]
  rw [e]
  exact sRet ⟨.ret _ _ Zrv, .nil⟩
 ·have e0 : ¬ decVal b = 0 := fun h => ‹¬ ((digs (decVal b).natAbs).length : Int) = 0› (by rw [h, Int.natAbs_zero, digs_zero]; rfl)
  refine sCall hd ⟨a, by omega⟩ (r := .t [.c (.b (decide (decVal a < 0))), .sl 1 ((digs (decVal a).natAbs).map dg)]) rfl Zrv .nil fun _ _ _ _ => ?_
  (refine Zx ?_;with_reducible repeat' first|intro _|apply aI)
  refine sCall hg ⟨(a, b), ha, hbl⟩ (r := .c (.s (showNat (Nat.gcd (decVal a).natAbs (decVal b).natAbs)))) rfl Zrv .nil fun _ _ _ _ => ?_
  have e : reduceS a b = (showInt ((if (decVal a < 0) = (decVal b < 0) then 1 else -1) * (((decVal a).natAbs / Nat.gcd (decVal a).natAbs (decVal b).natAbs : Nat) : Int)), showNat ((decVal b).natAbs / Nat.gcd (decVal a).natAbs (decVal b).natAbs)) := by unfold reduceS; rw [if_neg e0]
  rw [e]
  have hgp : 0 < Nat.gcd (decVal a).natAbs (decVal b).natAbs := Nat.gcd_pos_of_pos_right _ (by omega)
  have hgl := digs_len_le (Nat.gcd_le_right (decVal a).natAbs (by omega : 0 < (decVal b).natAbs))
  generalize Nat.gcd (decVal a).natAbs (decVal b).natAbs = g at *
  have hsl := showNat_len g
  (refine Zx ?_;with_reducible repeat' first|intro _|apply aI)
  refine sCall hd ⟨showNat g, by omega⟩ (r := .t [.c (.b (decide ((g : Int) < 0))), .sl 1 ((digs g).map dg)]) (by show GRes.ret (.t [.c (.b (decide (decVal (showNat g) < 0))), .sl 1 ((digs (decVal (showNat g)).natAbs).map dg)]) = _; rw [decVal_showNat]; rfl) Zrv .nil fun _ _ _ _ => ?_
  (refine Zx ?_;with_reducible repeat' first|intro _|apply aI)
  have l3 := digs_len_le (Nat.div_le_self (decVal a).natAbs g)
  have l4 := digs_len_le (Nat.div_le_self (decVal b).natAbs g)
  refine sCall ho ⟨((decVal a).natAbs, g), show (digs (decVal a).natAbs).length < 80000 by omega, show (digs g).length < 80000 by omega, hgp⟩ (r := .t [.sl 1 ((digs ((decVal a).natAbs / g)).map dg), .sl 1 ((digs ((decVal a).natAbs % g)).map dg)]) rfl Zrv .nil fun _ _ _ _ => ?_
  (refine Zx ?_;with_reducible repeat' first|intro _|apply aI)
  refine sCall ho ⟨((decVal b).natAbs, g), show (digs (decVal b).natAbs).length < 80000 by omega, show (digs g).length < 80000 by omega, hgp⟩ (r := .t [.sl 1 ((digs ((decVal b).natAbs / g)).map dg), .sl 1 ((digs ((decVal b).natAbs % g)).map dg)]) rfl Zrv .nil fun _ _ _ _ => ?_
  (refine Zx ?_;with_reducible repeat' first|intro _|apply aI)
  refine sCall hx ⟨(decide (decVal a < 0) != decide (decVal b < 0), digs ((decVal a).natAbs / g)), show (digs _).length < 90000 by omega, digs_le _⟩ (r := .c (.s (showInt ((if (decVal a < 0) = (decVal b < 0) then 1 else -1) * (((decVal a).natAbs / g : Nat) : Int))))) ?_ Zrv .nil fun _ _ _ _ => ?_
  ·show GRes.ret (.c (.s (sgn _ (val (digs _))))) = _
   rw [val_digs, sgn_eq]
   congr 4
   by_cases h1 : decVal a < 0 <;> by_cases h2 : decVal b < 0 <;> simp [h1, h2]
  ·(refine Zx ?_;with_reducible repeat' first|intro _|apply aI)
   refine sCall hx ⟨(false, digs ((decVal b).natAbs / g)), show (digs _).length < 90000 by omega, digs_le _⟩ (r := .c (.s (showNat ((decVal b).natAbs / g)))) (by show GRes.ret (.c (.s (sgn false (val (digs _))))) = _; rw [val_digs, sgn_false]) Zrv .nil fun _ _ _ _ => ?_
   (refine Zx ?_;with_reducible repeat' first|intro _|apply aI)
   exact sRet ⟨.ret _ _ Zrv, .nil⟩
end
end Go.Proofs.YtccafnaghnbpeaaGreatDoor
namespace Go.Proofs.YtccafnaghnbpeaaGreatDoor
open Go.Abs LQ
set_option maxRecDepth 100000
set_option maxHeartbeats 4000000
noncomputable section
def spEqual : Sp where
 ι := O × O
 A p := [.a p.1.g, .a p.2.g]
 B _ := []
 R p := .ret (.c (.b (O.eqb p.1 p.2)))
 B' _ := []
 inj i j vs bs h k _ _ := by obtain ⟨e1, e2⟩ := a2_inj h k; rw [Prod.ext e1 e2]; exact ⟨rfl, rfl⟩
theorem kEqual : Know 9 spEqual := know_rec (fun p => p.1.size) fun n ih => know (fun fn h => r9_ok h) [(9, spEqual.lt _ n)] (.cons ih .nil) fun U fn hfn ⟨(a, b), hn⟩ vs bs hv hb => by
 have hr := hfn 9 _ rfl
 have hv : RVs [.a a.g, .a b.g] vs := hv
 have hb : RBs [] bs := hb
 rw [a.g_eq, b.g_eq] at hv
 show Sat U _ fun v bs' => RRes (.ret (.c (.b (O.eqb a b)))) v ∧ RBs [] bs'
 have hl := a.ps_le
 unfold r9
 (refine Zx ?_;with_reducible repeat' first|intro _|apply aI)
 all_goals first
  | exact sRet ⟨.ret _ _ (rvK (O.eqb_f.2 fun e => by subst e; first | exact absurd rfl ‹_› | exact absurd (⟨rfl, rfl, trivial⟩ : a.sym.1 = a.sym.1 ∧ a.sym.2 = a.sym.2 ∧ True) ‹_›)), .nil⟩
  | skip
 ·have e1 := ‹a.k = b.k›
  have e2 := ‹a.nu = b.nu›
  have e3 := ‹a.de = b.de›
  have e4 := ‹a.sym.1 = b.sym.1 ∧ _›
  have e5 := ‹a.txt = b.txt›
  have e6 : a.ps.length = b.ps.length := by have := ‹(a.ps.length : Int) = _›; omega
  refine sLp (fun (i : Nat) vs bs => ∃ q1 q2, vs = [.ptr 0 0, .ptr 1 0, .int .i64 i] ∧ bs = [.opa q1 7, .opa q2 7] ∧ Cel a.g q1 0 ∧ Cel b.g q2 0 ∧ i ≤ a.ps.length ∧ ∀ j, j < i → a.ps[j]? = b.ps[j]?) (fun i => a.ps.length - i) 0
   ⟨_, _, rfl, rfl, by rw [a.g_eq]; assumption, by rw [b.g_eq]; assumption, Nat.zero_le _, fun _ h => absurd h (Nat.not_lt_zero _)⟩ a.ps_fuel ?_
  rintro self i vs bs ⟨q1, q2, rfl, rfl, k1, k2, hi, hj⟩ ih
  rw [a.g_eq] at k1
  rw [b.g_eq] at k2
  (refine Zx ?_;with_reducible repeat' first|intro _|apply aI)
  ·refine sCall hr ⟨(a.ps[i], b.ps[i]), ?_⟩ rfl Zrv .nil fun _ _ _ _ => ?_
   ·show (a.ps[i]).size < n
    have hn : a.size < n + 1 := hn
    have := a.ps_size a.ps[i] (List.getElem_mem _)
    omega
   ·(refine Zx ?_;with_reducible repeat' first|intro _|apply aI)
    ·refine ih (i + 1) _ _ ⟨_, _, rfl, rfl, by rw [a.g_eq]; assumption, by rw [b.g_eq]; assumption, by omega, fun j h => ?_⟩ (by omega)
     by_cases h2 : j = i
     ·subst h2
      have := O.eqb_t.1 ‹O.eqb a.ps[j] b.ps[j] = true›
      rw [List.getElem?_eq_getElem (by omega), List.getElem?_eq_getElem (by omega), this]
     ·exact hj j (by omega)
    ·exact sRet ⟨.ret _ _ (rvK (O.eqb_f.2 fun e => by subst e; exact absurd (O.eqb_t.2 rfl : O.eqb a.ps[i] a.ps[i] = true) ‹_›)), .nil⟩
  ·exact sRet ⟨.ret _ _ (rvK (O.eqb_t.2 (O.ext e1 e2 e3 (Prod.ext e4.1 e4.2.1) e5 (List.ext_getElem? fun j => by
    by_cases h : j < i
    ·exact hj j h
    ·rw [List.getElem?_eq_none (by omega), List.getElem?_eq_none (by omega)])))), .nil⟩
end
end Go.Proofs.YtccafnaghnbpeaaGreatDoor
