/- Numbers from Go's integers; the arithmetic that the built-in world meets. Itoa is a hypothesis until the shelf's contract is joined. -/
import Derived.Test.YtccafnaghnbpeaaGreatDoorCR8
set_option linter.all false
namespace Go.Proofs.YtccafnaghnbpeaaGreatDoor
open Go.Abs LQ
set_option maxRecDepth 100000
set_option maxHeartbeats 4000000
noncomputable section
def spI (g : Int → GV) : Sp where
 ι := { n : Int // -1000000000 < n ∧ n < 1000000000 }
 A n := [.c (.i .i64 n.1)]
 B _ := []
 R n := .ret (g n.1)
 B' _ := []
 inj i j vs bs h k _ _ := by
  obtain ⟨_, _, h1, k1, h, k⟩ := h.two k
  rw [(G.i.inj (h1.c_inj k1)).2]; exact ⟨rfl, rfl⟩
abbrev Itoa := Know 38 (spI fun n => .c (.s (showInt n)))
theorem kFromInt (hI : Itoa) : Know 23 (spI fun n => .c (.s (showInt n))) := know (fun fn h => r23_ok h) [(38, _)] (.cons hI .nil) fun U fn hfn ⟨n, hn⟩ vs bs hv hb => by
 have hi := hfn 38 _ rfl
 change RVs [.c (.i .i64 n)] vs at hv
 change RBs [] bs at hb
 show Sat U _ fun v bs' => RRes (.ret (.c (.s (showInt n)))) v ∧ RBs [] bs'
 unfold r23
 (refine Zz ?_;with_reducible repeat' first|intro _|apply aI)
 refine sCall hi ⟨n, hn⟩ (r := .c (.s (showInt n))) rfl Zrv .nil fun _ _ _ _ => ?_
 (refine Zz ?_;with_reducible repeat' first|intro _|apply aI)
 exact sRet ⟨.ret _ _ Zrv, .nil⟩
theorem qn_one (n : Int) : qn n 1 = (n, 1) := by
 unfold qn
 rw [if_neg (by decide)]
 refine Prod.ext ?_ ?_
 ·show (if (n < 0) = ((1 : Int) < 0) then (1 : Int) else -1) * ((n.natAbs / Nat.gcd n.natAbs 1 : Nat) : Int) = n
  rw [Nat.gcd_one_right, Nat.div_one]
  by_cases h : n < 0
  ·rw [if_neg (fun e => absurd (e.mp h) (by decide))]; omega
  ·rw [if_pos (propext ⟨fun k => absurd k h, fun k => absurd k (by decide)⟩)]; omega
 ·show (1 : Int).natAbs / Nat.gcd n.natAbs 1 = 1
  rw [Nat.gcd_one_right]; rfl
theorem digs_small {n k : Nat} (h : n < 10 ^ k) : (digs n).length ≤ k := by
 by_cases h0 : n = 0
 ·subst h0; rw [digs_zero]; simp
 ·have h1 := digs_ge n h0
  have h2 : 10 ^ ((digs n).length - 1) < 10 ^ k := Nat.lt_of_le_of_lt h1 h
  have h3 := (Nat.pow_lt_pow_iff_right (by decide : 1 < 10)).1 h2
  omega
theorem showInt_small {n : Int} (h : -1000000000 < n ∧ n < 1000000000) : (showInt n).length ≤ 11 := by
 have h1 := showInt_len n
 have h2 := digs_small (n := n.natAbs) (k := 9) (by omega)
 omega
theorem decVal_one : decVal [49] = 1 := by
 show decVal oneStr = 1
 rw [← showNat_one]; exact decVal_showNat 1
theorem showInt_nat (n : Nat) : showInt (n : Int) = showNat n := by
 unfold showInt
 rw [if_neg (by omega), Int.natAbs_natCast]
theorem kInt (hI : Itoa) : Know 14 (spI fun n => .a (O.num n 1).g) := know (fun fn h => r14_ok h) [(23, _), (22, _)] (.cons (kFromInt hI) (.cons kRational .nil)) fun U fn hfn ⟨n, hn⟩ vs bs hv hb => by
 have hi := hfn 23 _ rfl
 have hr := hfn 22 _ rfl
 change RVs [.c (.i .i64 n)] vs at hv
 change RBs [] bs at hb
 have hl := showInt_small hn
 show Sat U _ fun v bs' => RRes (.ret (.a (O.num n 1).g)) v ∧ RBs [] bs'
 unfold r14
 (refine Zz ?_;with_reducible repeat' first|intro _|apply aI)
 refine sCall hi ⟨n, hn⟩ (r := .c (.s (showInt n))) rfl Zrv .nil fun _ _ _ _ => ?_
 (refine Zz ?_;with_reducible repeat' first|intro _|apply aI)
 refine sCall hr ⟨(showInt n, [49]), show (showInt n).length < 9000 by omega, show ([49] : Str).length < 9000 by decide⟩ (r := .a (O.num n 1).g) (by show GRes.ret (.a (numO (qn (decVal (showInt n)) (decVal [49]))).g) = _; rw [decVal_showInt, decVal_one, qn_one]; rfl) (.cons _ _ _ _ Zrv (.cons _ _ _ _ (.s _ _ _ rfl rfl) .nil)) .nil fun _ _ _ _ => ?_
 (refine Zz ?_;with_reducible repeat' first|intro _|apply aI)
 exact sRet ⟨.ret _ _ oV, .nil⟩
def O.na : O → Int
 | .num n _ => n
 | _ => 0
def O.da : O → Nat
 | .num _ d => d
 | _ => 1
theorem kFix (hI : Itoa) : Know 140 (spO fun a => .a (O.num a.na a.da).g) := know (fun fn h => r140_ok h) [(14, _)] (.cons (kInt hI) .nil) fun U fn hfn (a : O) vs bs hv hb => by
 have hi := hfn 14 _ rfl
 change RVs [.a a.g] vs at hv
 change RBs [] bs at hb
 show Sat U _ fun v bs' => RRes (.ret (.a (O.num a.na a.da).g)) v ∧ RBs [] bs'
 unfold r140
 rw [a.g_eq] at hv
 cases a with
 | num n d =>
  simp only [O.k, O.nu, O.de, O.sym, O.txt, O.ps] at hv
  (refine Zz ?_;with_reducible repeat' first|intro _|apply aI)
  exact sRet ⟨.ret _ _ oV, .nil⟩
 | _ =>
  simp only [O.k, O.nu, O.de, O.sym, O.txt, O.ps] at hv
  (refine Zz ?_;with_reducible repeat' first|intro _|apply aI)
  refine sCall hi ⟨0, by decide⟩ (r := .a (O.num 0 1).g) rfl Zrv .nil fun _ _ _ _ => ?_
  (refine Zz ?_;with_reducible repeat' first|intro _|apply aI)
  exact sRet ⟨.ret _ _ oV, .nil⟩
def O.fx (a : O) : Prop := (showInt a.na).length < 2000 ∧ (showNat a.da).length < 2000
def spFx (g : O → O → GV) : Sp where
 ι := { p : O × O // p.1.fx ∧ p.2.fx }
 A p := [.a p.1.1.g, .a p.1.2.g]
 B _ := []
 R p := .ret (g p.1.1 p.1.2)
 B' _ := []
 inj i j vs bs h k _ _ := by
  obtain ⟨_, _, h1, k1, h, k⟩ := h.two k
  obtain ⟨_, _, h2, k2, h, k⟩ := h.two k
  rw [O.g_inj (h1.a_inj k1), O.g_inj (h2.a_inj k2)]; exact ⟨rfl, rfl⟩
def lessO (a b : O) : Bool := decide (cmpZ (a.na * b.da) (b.na * a.da) < 0)
theorem kLess (hI : Itoa) : Know 151 (spFx fun a b => .c (.b (lessO a b))) := know (fun fn h => r151_ok h) [(140, _), (190, _)] (.cons (kFix hI) (.cons kCompareN .nil)) fun U fn hfn ⟨(a, b), ha, hbx⟩ vs bs hv hb => by
 have hf := hfn 140 _ rfl
 have hc := hfn 190 _ rfl
 change RVs [.a a.g, .a b.g] vs at hv
 change RBs [] bs at hb
 have ha : a.fx := ha
 have hbx : b.fx := hbx
 show Sat U _ fun v bs' => RRes (.ret (.c (.b (lessO a b)))) v ∧ RBs [] bs'
 unfold r151
 (refine Zz ?_;with_reducible repeat' first|intro _|apply aI)
 refine oR fun _ _ => ?_
 (refine Zz ?_;with_reducible repeat' first|intro _|apply aI)
 refine oR fun _ _ => ?_
 (refine Zz ?_;with_reducible repeat' first|intro _|apply aI)
 refine sCall hf a (r := .a (O.num a.na a.da).g) rfl oA .nil fun _ _ _ _ => ?_
 (refine Zz ?_;with_reducible repeat' first|intro _|apply aI)
 refine sCall hf b (r := .a (O.num b.na b.da).g) rfl oA .nil fun _ _ _ _ => ?_
 (refine Zz ?_;with_reducible repeat' first|intro _|apply aI)
 refine sCall hc ⟨((a.na, a.da), (b.na, b.da)), Nat.lt_of_lt_of_le ha.1 (by decide), Nat.lt_of_lt_of_le ha.2 (by decide), Nat.lt_of_lt_of_le hbx.1 (by decide), Nat.lt_of_lt_of_le hbx.2 (by decide), trivial⟩ (r := .c (.i .i64 (cmpZ (a.na * b.da) (b.na * a.da)))) rfl (.cons _ _ _ _ oV oA) .nil fun _ _ _ _ => ?_
 (refine Zz ?_;with_reducible repeat' first|intro _|apply aI)
 refine sRetU fun e => ?_
 subst e
 exact ⟨.ret _ _ (rvB (by rw [cuLt]; rfl)), .nil⟩
def sumO (a b : O) : O := numO (qn (a.na * b.da + b.na * a.da) (a.da * b.da))
theorem add_len (a b : Int) : (showInt (a + b)).length ≤ (showInt a).length + (showInt b).length + 4 := by
 have h1 := showInt_len (a + b)
 have h2 := digs_len_int a
 have h3 := digs_len_int b
 have h4 := digs_len_le (a := (a + b).natAbs) (b := (a.natAbs + b.natAbs)) (by omega)
 have h5 : (digs (a.natAbs + b.natAbs)).length ≤ (digs a.natAbs).length + (digs b.natAbs).length + 2 := by
  rcases Nat.le_total a.natAbs b.natAbs with h | h
  ·have k := digs_len_le (a := a.natAbs + b.natAbs) (b := 2 * b.natAbs) (by omega)
   have k2 := digs_mul_le 2 b.natAbs
   have k3 := digs_small (n := 2) (k := 1) (by decide)
   omega
  ·have k := digs_len_le (a := a.natAbs + b.natAbs) (b := 2 * a.natAbs) (by omega)
   have k2 := digs_mul_le 2 a.natAbs
   have k3 := digs_small (n := 2) (k := 1) (by decide)
   omega
 omega
theorem kSum (hI : Itoa) : Know 149 (spFx fun a b => .a (sumO a b).g) := know (fun fn h => r149_ok h) [(140, _), (189, _), (188, _), (22, _)] (.cons (kFix hI) (.cons kMultiply (.cons kAdd (.cons kRational .nil)))) fun U fn hfn ⟨(a, b), ha, hbx⟩ vs bs hv hb => by
 have hf := hfn 140 _ rfl
 have hm := hfn 189 _ rfl
 have hd := hfn 188 _ rfl
 have hr := hfn 22 _ rfl
 change RVs [.a a.g, .a b.g] vs at hv
 change RBs [] bs at hb
 have a1 : (showInt a.na).length < 2000 := ha.1
 have a2 : (showNat a.da).length < 2000 := ha.2
 have b1 : (showInt b.na).length < 2000 := hbx.1
 have b2 : (showNat b.da).length < 2000 := hbx.2
 have l1 := mul_len a.na b.da
 have l2 := mul_len b.na a.da
 have l3 := add_len (a.na * b.da) (b.na * a.da)
 have l4 : (showInt ((a.da * b.da : Nat) : Int)).length < 5000 := by
  have k := mul_len (a.da : Int) b.da
  rw [← Int.natCast_mul] at k
  have k2 : (showInt (a.da : Int)).length ≤ (showNat a.da).length := by rw [showInt_nat]; exact Nat.le_refl _
  omega
 show Sat U _ fun v bs' => RRes (.ret (.a (sumO a b).g)) v ∧ RBs [] bs'
 unfold r149
 (refine Zz ?_;with_reducible repeat' first|intro _|apply aI)
 refine oR fun _ _ => ?_
 (refine Zz ?_;with_reducible repeat' first|intro _|apply aI)
 refine oR fun _ _ => ?_
 (refine Zz ?_;with_reducible repeat' first|intro _|apply aI)
 refine sCall hf a (r := .a (O.num a.na a.da).g) rfl oA .nil fun _ _ _ _ => ?_
 (refine Zz ?_;with_reducible repeat' first|intro _|apply aI)
 refine sCall hf b (r := .a (O.num b.na b.da).g) rfl oA .nil fun _ _ _ _ => ?_
 (refine Zz ?_;with_reducible repeat' first|intro _|apply aI)
 refine sCall hm ⟨(showInt a.na, showNat b.da), show (showInt a.na).length < 9000 by omega, show (showNat b.da).length < 9000 by omega⟩ (r := .c (.s (showInt (a.na * b.da)))) (by show GRes.ret (.c (.s (showInt (decVal (showInt a.na) * decVal (showNat b.da))))) = _; rw [decVal_showInt, decVal_showNat]) Zrv .nil fun _ _ _ _ => ?_
 (refine Zz ?_;with_reducible repeat' first|intro _|apply aI)
 refine sCall hm ⟨(showInt b.na, showNat a.da), show (showInt b.na).length < 9000 by omega, show (showNat a.da).length < 9000 by omega⟩ (r := .c (.s (showInt (b.na * a.da)))) (by show GRes.ret (.c (.s (showInt (decVal (showInt b.na) * decVal (showNat a.da))))) = _; rw [decVal_showInt, decVal_showNat]) Zrv .nil fun _ _ _ _ => ?_
 (refine Zz ?_;with_reducible repeat' first|intro _|apply aI)
 refine sCall hd ⟨(showInt (a.na * b.da), showInt (b.na * a.da)), show (showInt (a.na * b.da)).length < 9000 by omega, show (showInt (b.na * a.da)).length < 9000 by omega⟩ (r := .c (.s (showInt (a.na * b.da + b.na * a.da)))) (by show GRes.ret (.c (.s (showInt (decVal (showInt (a.na * b.da)) + decVal (showInt (b.na * a.da)))))) = _; rw [decVal_showInt, decVal_showInt]) Zrv .nil fun _ _ _ _ => ?_
 (refine Zz ?_;with_reducible repeat' first|intro _|apply aI)
 refine sCall hm ⟨(showNat a.da, showNat b.da), show (showNat a.da).length < 9000 by omega, show (showNat b.da).length < 9000 by omega⟩ (r := .c (.s (showInt (a.da * b.da : Nat)))) (by show GRes.ret (.c (.s (showInt (decVal (showNat a.da) * decVal (showNat b.da))))) = _; rw [decVal_showNat, decVal_showNat, ← Int.natCast_mul]) Zrv .nil fun _ _ _ _ => ?_
 (refine Zz ?_;with_reducible repeat' first|intro _|apply aI)
 refine sCall hr ⟨(showInt (a.na * b.da + b.na * a.da), showInt (a.da * b.da : Nat)), show (showInt (a.na * b.da + b.na * a.da)).length < 9000 by omega, show (showInt (a.da * b.da : Nat)).length < 9000 by omega⟩ (r := .a (sumO a b).g) (by show GRes.ret (.a (numO (qn (decVal (showInt (a.na * b.da + b.na * a.da))) (decVal (showInt (a.da * b.da : Nat))))).g) = _; rw [decVal_showInt, decVal_showInt, Int.natCast_mul]; rfl) Zrv .nil fun _ _ _ _ => ?_
 (refine Zz ?_;with_reducible repeat' first|intro _|apply aI)
 exact sRet ⟨.ret _ _ oV, .nil⟩
end
end Go.Proofs.YtccafnaghnbpeaaGreatDoor
