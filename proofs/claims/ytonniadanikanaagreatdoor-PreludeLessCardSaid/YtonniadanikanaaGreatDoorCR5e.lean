/- The reference's objects: lists and numbers. -/
import Derived.Test.YtonniadanikanaaGreatDoorCR5d
set_option linter.all false
namespace Go.Proofs.YtonniadanikanaaGreatDoor
open Go.Abs LQ
set_option maxRecDepth 100000
set_option maxHeartbeats 4000000
noncomputable section
def listO : List O → O
 | [] => nilO
 | a :: l => .co a (listO l)
def qn (x y : Int) : Int × Nat := if y = 0 then (0, 1) else ((if (x < 0) = (y < 0) then 1 else -1) * ((x.natAbs / Nat.gcd x.natAbs y.natAbs : Nat) : Int), y.natAbs / Nat.gcd x.natAbs y.natAbs)
theorem reduceS_qn (a b : Str) : reduceS a b = (showInt (qn (decVal a) (decVal b)).1, showNat (qn (decVal a) (decVal b)).2) := by
 unfold reduceS qn
 split
 ·rw [showNat_one]; rfl
 ·rfl
def numO (q : Int × Nat) : O := .num q.1 q.2
theorem kRational : Know 31 (sp2 fun a b => .ret (.a (numO (qn (decVal a) (decVal b))).g)) := know (fun fn h => r31_ok h) [(50, _)] (.cons kReduce .nil) fun U fn hfn ⟨(a, b), ha, hbl⟩ vs bs hv hb => by
 have hr := hfn 50 _ rfl
 have ha : a.length < 9000 := ha
 have hbl : b.length < 9000 := hbl
 have hv : RVs [.c (.s a), .c (.s b)] vs := hv
 have hb : RBs [] bs := hb
 show Sat U _ fun v bs' => RRes (.ret (.a (numO (qn (decVal a) (decVal b))).g)) v ∧ RBs [] bs'
 unfold r31
 (refine Zz ?_;with_reducible repeat' first|intro _|apply aI)
 refine sCall hr ⟨(a, b), ha, hbl⟩ (r := .t [.c (.s (showInt (qn (decVal a) (decVal b)).1)), .c (.s (showNat (qn (decVal a) (decVal b)).2))]) (by show GRes.ret (.t [.c (.s (reduceS a b).1), .c (.s (reduceS a b).2)]) = _; rw [reduceS_qn]) Zrv .nil fun _ _ _ _ => ?_
 (refine Zz ?_;with_reducible repeat' first|intro _|apply aI)
 exact sRet ⟨.ret _ _ Zrv, .nil⟩
def O.rk : O → Int
 | .num _ _ => 1
 | .tx _ => 2
 | .sy _ => 3
 | _ => 4
theorem kRank : Know 107 (spO fun a => .c (.i .i64 a.rk)) := know (fun fn h => r107_ok h) [] .nil fun U fn hfn a vs bs hv hb => by
 have hv : RVs [.a a.g] vs := hv
 have hb : RBs [] bs := hb
 show Sat U _ fun v bs' => RRes (.ret (.c (.i .i64 a.rk))) v ∧ RBs [] bs'
 unfold r107
 rw [a.g_eq] at hv
 cases a <;> simp only [O.k, O.nu, O.de, O.sym, O.txt, O.ps] at hv <;> (refine Zz ?_;with_reducible repeat' first|intro _|apply aI)
 all_goals exact sRet ⟨.ret _ _ (rvI rfl), .nil⟩
def spNN (ok : Int → Nat → Int → Nat → Prop) (g : Int → Nat → Int → Nat → GV) : Sp where
 ι := { p : (Int × Nat) × (Int × Nat) // (showInt p.1.1).length < 4000 ∧ (showNat p.1.2).length < 4000 ∧ (showInt p.2.1).length < 4000 ∧ (showNat p.2.2).length < 4000 ∧ ok p.1.1 p.1.2 p.2.1 p.2.2 }
 A p := [.a (O.num p.1.1.1 p.1.1.2).g, .a (O.num p.1.2.1 p.1.2.2).g]
 B _ := []
 R p := .ret (g p.1.1.1 p.1.1.2 p.1.2.1 p.1.2.2)
 B' _ := []
 inj i j vs bs h k _ _ := by
  obtain ⟨e1, e2⟩ := a2_inj h k
  injection e1 with a1 a2
  injection e2 with a3 a4
  rw [a1, a2, a3, a4]; exact ⟨rfl, rfl⟩
theorem showInt_len (n : Int) : (showInt n).length ≤ (digs n.natAbs).length + 2 := by
 unfold showInt
 have := showNat_len n.natAbs
 split <;> simp <;> omega
theorem digs_len_show (n : Nat) : (digs n).length ≤ (showNat n).length := by
 by_cases h : n = 0
 ·subst h; rw [digs_zero]; simp
 ·rw [showNat_size n h]; exact Nat.le_refl _
theorem digs_len_int (n : Int) : (digs n.natAbs).length ≤ (showInt n).length := by
 have := digs_len_show n.natAbs
 unfold showInt
 split <;> simp <;> omega
theorem mul_len (n : Int) (e : Nat) : (showInt (n * e)).length ≤ (showInt n).length + (showNat e).length + 2 := by
 have h1 := showInt_len (n * e)
 have h2 := digs_mul_le n.natAbs e
 have h3 := digs_len_int n
 have h4 := digs_len_show e
 rw [Int.natAbs_mul, Int.natAbs_natCast] at h1
 omega
theorem kCompareN : Know 84 (spNN (fun _ _ _ _ => True) fun n d m e => .c (.i .i64 (cmpZ (n * e) (m * d)))) := know (fun fn h => r84_ok h) [(107, _), (109, _), (108, _)] (.cons kRank (.cons kMultiply (.cons kCompare .nil))) fun U fn hfn ⟨((n, d), (m, e)), h1, h2, h3, h4, _⟩ vs bs hv hb => by
 have hr := hfn 107 _ rfl
 have hm := hfn 109 _ rfl
 have hc := hfn 108 _ rfl
 have h1 : (showInt n).length < 4000 := h1
 have h2 : (showNat d).length < 4000 := h2
 have h3 : (showInt m).length < 4000 := h3
 have h4 : (showNat e).length < 4000 := h4
 have hv : RVs [.a (O.num n d).g, .a (O.num m e).g] vs := hv
 have hb : RBs [] bs := hb
 show Sat U _ fun v bs' => RRes (.ret (.c (.i .i64 (cmpZ (n * e) (m * d))))) v ∧ RBs [] bs'
 unfold r84
 simp only [O.g] at hv
 (refine Zz ?_;with_reducible repeat' first|intro _|apply aI)
 refine sCall hr (O.num n d) (r := .c (.i .i64 1)) rfl Zrv .nil fun _ _ _ _ => ?_
 (refine Zz ?_;with_reducible repeat' first|intro _|apply aI)
 refine sCall hr (O.num m e) (r := .c (.i .i64 1)) rfl Zrv .nil fun _ _ _ _ => ?_
 (refine Zz ?_;with_reducible repeat' first|intro _|apply aI)
 refine sCall hr (O.num n d) (r := .c (.i .i64 1)) rfl Zrv .nil fun _ _ _ _ => ?_
 (refine Zz ?_;with_reducible repeat' first|intro _|apply aI)
 refine sCall hm ⟨(showInt n, showNat e), show (showInt n).length < 9000 by omega, show (showNat e).length < 9000 by omega⟩ (r := .c (.s (showInt (n * e)))) (by show GRes.ret (.c (.s (showInt (decVal (showInt n) * decVal (showNat e))))) = _; rw [decVal_showInt, decVal_showNat]) Zrv .nil fun _ _ _ _ => ?_
 (refine Zz ?_;with_reducible repeat' first|intro _|apply aI)
 refine sCall hm ⟨(showInt m, showNat d), show (showInt m).length < 9000 by omega, show (showNat d).length < 9000 by omega⟩ (r := .c (.s (showInt (m * d)))) (by show GRes.ret (.c (.s (showInt (decVal (showInt m) * decVal (showNat d))))) = _; rw [decVal_showInt, decVal_showNat]) Zrv .nil fun _ _ _ _ => ?_
 (refine Zz ?_;with_reducible repeat' first|intro _|apply aI)
 have l1 := mul_len n e
 have l2 := mul_len m d
 refine sCall hc ⟨(showInt (n * e), showInt (m * d)), show (showInt (n * e)).length < 9000 by omega, show (showInt (m * d)).length < 9000 by omega⟩ (r := .c (.i .i64 (cmpZ (n * e) (m * d)))) (by show GRes.ret (.c (.i .i64 (cmpZ (decVal (showInt (n * e))) (decVal (showInt (m * d)))))) = _; rw [decVal_showInt, decVal_showInt]) Zrv .nil fun _ _ _ _ => ?_
 (refine Zz ?_;with_reducible repeat' first|intro _|apply aI)
 exact sRet ⟨.ret _ _ Zrv, .nil⟩
end
end Go.Proofs.YtonniadanikanaaGreatDoor
