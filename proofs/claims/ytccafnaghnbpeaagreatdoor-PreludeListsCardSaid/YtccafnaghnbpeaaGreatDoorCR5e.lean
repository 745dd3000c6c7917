/- The reference's objects: lists and numbers. -/
import Derived.Test.YtccafnaghnbpeaaGreatDoorCR5d
set_option linter.all false
namespace Go.Proofs.YtccafnaghnbpeaaGreatDoor
open Go.Abs LQ
set_option maxRecDepth 100000
set_option maxHeartbeats 4000000
noncomputable section
def listO : List O → O
 | [] => nilO
 | a :: l => .co a (listO l)
def spOs (g : List O → GV) : Sp where
 ι := { l : List O // l.length < 90000 }
 A l := [.sl 7 (l.1.map O.g)]
 B _ := []
 R l := .ret (g l.1)
 B' _ := []
 inj i j vs bs h k _ _ := by
  obtain ⟨_, _, h1, k1, h, k⟩ := h.two k
  rw [mapg_inj (h1.sl_inj k1)]; exact ⟨rfl, rfl⟩
theorem kList : Know 11 (spOs fun l => .a (listO l).g) := know (fun fn h => r11_ok h) [(10, _), (27, _)] (.cons kNil (.cons kCons .nil)) fun U fn hfn ⟨l, hl⟩ vs bs hv hb => by
 have hn := hfn 10 _ rfl
 have hc := hfn 27 _ rfl
 have hl : l.length < 90000 := hl
 have hv : RVs [.sl 7 (l.map O.g)] vs := hv
 have hb : RBs [] bs := hb
 show Sat U _ fun v bs' => RRes (.ret (.a (listO l).g)) v ∧ RBs [] bs'
 unfold r11
 (refine Zz ?_;with_reducible repeat' first|intro _|apply aI)
 refine sCall hn () (r := .a nilO.g) rfl .nil .nil fun _ _ _ _ => ?_
 (refine Zz ?_;with_reducible repeat' first|intro _|apply aI)
 refine sLp (fun (m : Nat) vs bs => ∃ (t : Tre Q) (off : Nat) (i : Int) (q : Q), vs = [.slice t 7 off l.length .no, .ptr 0 0, .ptr 1 0, .int .i64 i] ∧ bs = [.cells [.int .i64 0, .str 0 0, .str 0 0, .str 0 0, .str 0 0, .str 0 0, .slice .nil 0 0 0 .exact], .opa q 7] ∧ i = m - 1 ∧ m ≤ l.length ∧ Rws 7 (l.map O.g) t off ∧ Cel (listO (l.drop m)).g q 0) (fun m => m) l.length
  ⟨_, _, _, _, rfl, rfl, rfl, by omega, by assumption, by rw [List.drop_length]; assumption⟩ (by simp only [FUEL]; omega) ?_
 rintro self m _ _ ⟨t, off, i, q, rfl, rfl, rfl, hm, ht, hq⟩ ih
 (refine Zz ?_;with_reducible repeat' first|intro _|apply aI)
 ·refine sfTm (y := l[m - 1]) (by assumption) (by rw [show ((m : Int) - 1).toNat = m - 1 by omega]; exact List.getElem?_eq_getElem (by omega)) fun _ _ => ?_
  (refine Zz ?_;with_reducible repeat' first|intro _|apply aI)
  refine sCall hc (l[m - 1], listO (l.drop m)) (r := .a (O.co l[m - 1] (listO (l.drop m))).g) rfl Zrv .nil fun _ _ _ _ => ?_
  (refine Zz ?_;with_reducible repeat' first|intro _|apply aI)
  refine ih (m - 1) _ _ ⟨_, _, _, _, rfl, rfl, by omega, by omega, ht, ?_⟩ (by omega)
  rw [List.drop_eq_getElem_cons (by omega : m - 1 < l.length), show m - 1 + 1 = m by omega]
  assumption
 ·have em : m = 0 := by omega
  subst em
  rw [List.drop_zero] at *
  exact sRet ⟨.ret _ _ Zrv, .nil⟩
def qn (x y : Int) : Int × Nat := if y = 0 then (0, 1) else ((if (x < 0) = (y < 0) then 1 else -1) * ((x.natAbs / Nat.gcd x.natAbs y.natAbs : Nat) : Int), y.natAbs / Nat.gcd x.natAbs y.natAbs)
theorem reduceS_qn (a b : Str) : reduceS a b = (showInt (qn (decVal a) (decVal b)).1, showNat (qn (decVal a) (decVal b)).2) := by
 unfold reduceS qn
 split
 ·rw [showNat_one]; rfl
 ·rfl
def numO (q : Int × Nat) : O := .num q.1 q.2
theorem kRational : Know 22 (sp2 fun a b => .ret (.a (numO (qn (decVal a) (decVal b))).g)) := know (fun fn h => r22_ok h) [(37, _)] (.cons kReduce .nil) fun U fn hfn ⟨(a, b), ha, hbl⟩ vs bs hv hb => by
 have hr := hfn 37 _ rfl
 have ha : a.length < 9000 := ha
 have hbl : b.length < 9000 := hbl
 have hv : RVs [.c (.s a), .c (.s b)] vs := hv
 have hb : RBs [] bs := hb
 show Sat U _ fun v bs' => RRes (.ret (.a (numO (qn (decVal a) (decVal b))).g)) v ∧ RBs [] bs'
 unfold r22
 (refine Zz ?_;with_reducible repeat' first|intro _|apply aI)
 refine sCall hr ⟨(a, b), ha, hbl⟩ (r := .t [.c (.s (showInt (qn (decVal a) (decVal b)).1)), .c (.s (showNat (qn (decVal a) (decVal b)).2))]) (by show GRes.ret (.t [.c (.s (reduceS a b).1), .c (.s (reduceS a b).2)]) = _; rw [reduceS_qn]) Zrv .nil fun _ _ _ _ => ?_
 (refine Zz ?_;with_reducible repeat' first|intro _|apply aI)
 exact sRet ⟨.ret _ _ Zrv, .nil⟩
def O.rk : O → Int
 | .num _ _ => 1
 | .tx _ => 2
 | .sy _ => 3
 | _ => 4
theorem kRank : Know 219 (spO fun a => .c (.i .i64 a.rk)) := know (fun fn h => r219_ok h) [] .nil fun U fn hfn a vs bs hv hb => by
 have hv : RVs [.a a.g] vs := hv
 have hb : RBs [] bs := hb
 show Sat U _ fun v bs' => RRes (.ret (.c (.i .i64 a.rk))) v ∧ RBs [] bs'
 unfold r219
 rw [a.g_eq] at hv
 cases a <;> simp only [O.k, O.nu, O.de, O.sym, O.txt, O.ps] at hv <;> (refine Zz ?_;with_reducible repeat' first|intro _|apply aI)
 all_goals exact sRet ⟨.ret _ _ (rvI rfl), .nil⟩
def spNN (ok : Int → Nat → Int → Nat → Prop) (g : Int → Nat → Int → Nat → GV) : Sp where
 ι := { p : (Int × Nat) × (Int × Nat) // (showInt p.1.1).length < 4000 ∧ (showNat p.1.2).length < 4000 ∧ (showInt p.2.1).length < 4000 ∧ (showNat p.2.2).length < 4000 ∧ ok p.1.1 p.1.2 p.2.1 p.2.2 }
 A p := [.a (O.num p.1.1.1 p.1.1.2).g, .a (O.num p.1.2.1 p.1.2.2).g]
 B _ := []
 R p := .ret (g p.1.1.1 p.1.1.2 p.1.2.1 p.1.2.2)
 B' _ := []
 inj i j vs bs h k _ _ := by
  obtain ⟨e1, e2⟩ := a2_inj h k
  injection e1 with a1 a2
  injection e2 with a3 a4
  rw [a1, a2, a3, a4]; exact ⟨rfl, rfl⟩
theorem showInt_len (n : Int) : (showInt n).length ≤ (digs n.natAbs).length + 2 := by
 unfold showInt
 have := showNat_len n.natAbs
 split <;> simp <;> omega
theorem digs_len_show (n : Nat) : (digs n).length ≤ (showNat n).length := by
 by_cases h : n = 0
 ·subst h; rw [digs_zero]; simp
 ·rw [showNat_size n h]; exact Nat.le_refl _
theorem digs_len_int (n : Int) : (digs n.natAbs).length ≤ (showInt n).length := by
 have := digs_len_show n.natAbs
 unfold showInt
 split <;> simp <;> omega
theorem mul_len (n : Int) (e : Nat) : (showInt (n * e)).length ≤ (showInt n).length + (showNat e).length + 2 := by
 have h1 := showInt_len (n * e)
 have h2 := digs_mul_le n.natAbs e
 have h3 := digs_len_int n
 have h4 := digs_len_show e
 rw [Int.natAbs_mul, Int.natAbs_natCast] at h1
 omega
theorem kCompareN : Know 190 (spNN (fun _ _ _ _ => True) fun n d m e => .c (.i .i64 (cmpZ (n * e) (m * d)))) := know (fun fn h => r190_ok h) [(219, _), (189, _), (220, _)] (.cons kRank (.cons kMultiply (.cons kCompare .nil))) fun U fn hfn ⟨((n, d), (m, e)), h1, h2, h3, h4, _⟩ vs bs hv hb => by
 have hr := hfn 219 _ rfl
 have hm := hfn 189 _ rfl
 have hc := hfn 220 _ rfl
 have h1 : (showInt n).length < 4000 := h1
 have h2 : (showNat d).length < 4000 := h2
 have h3 : (showInt m).length < 4000 := h3
 have h4 : (showNat e).length < 4000 := h4
 have hv : RVs [.a (O.num n d).g, .a (O.num m e).g] vs := hv
 have hb : RBs [] bs := hb
 show Sat U _ fun v bs' => RRes (.ret (.c (.i .i64 (cmpZ (n * e) (m * d))))) v ∧ RBs [] bs'
 unfold r190
 simp only [O.g] at hv
 (refine Zz ?_;with_reducible repeat' first|intro _|apply aI)
 refine sCall hr (O.num n d) (r := .c (.i .i64 1)) rfl Zrv .nil fun _ _ _ _ => ?_
 (refine Zz ?_;with_reducible repeat' first|intro _|apply aI)
 refine sCall hr (O.num m e) (r := .c (.i .i64 1)) rfl Zrv .nil fun _ _ _ _ => ?_
 (refine Zz ?_;with_reducible repeat' first|intro _|apply aI)
 refine sCall hr (O.num n d) (r := .c (.i .i64 1)) rfl Zrv .nil fun _ _ _ _ => ?_
 (refine Zz ?_;with_reducible repeat' first|intro _|apply aI)
 refine sCall hm ⟨(showInt n, showNat e), show (showInt n).length < 9000 by omega, show (showNat e).length < 9000 by omega⟩ (r := .c (.s (showInt (n * e)))) (by show GRes.ret (.c (.s (showInt (decVal (showInt n) * decVal (showNat e))))) = _; rw [decVal_showInt, decVal_showNat]) Zrv .nil fun _ _ _ _ => ?_
 (refine Zz ?_;with_reducible repeat' first|intro _|apply aI)
 refine sCall hm ⟨(showInt m, showNat d), show (showInt m).length < 9000 by omega, show (showNat d).length < 9000 by omega⟩ (r := .c (.s (showInt (m * d)))) (by show GRes.ret (.c (.s (showInt (decVal (showInt m) * decVal (showNat d))))) = _; rw [decVal_showInt, decVal_showNat]) Zrv .nil fun _ _ _ _ => ?_
 (refine Zz ?_;with_reducible repeat' first|intro _|apply aI)
 have l1 := mul_len n e
 have l2 := mul_len m d
 refine sCall hc ⟨(showInt (n * e), showInt (m * d)), show (showInt (n * e)).length < 9000 by omega, show (showInt (m * d)).length < 9000 by omega⟩ (r := .c (.i .i64 (cmpZ (n * e) (m * d)))) (by show GRes.ret (.c (.i .i64 (cmpZ (decVal (showInt (n * e))) (decVal (showInt (m * d)))))) = _; rw [decVal_showInt, decVal_showInt]) Zrv .nil fun _ _ _ _ => ?_
 (refine Zz ?_;with_reducible repeat' first|intro _|apply aI)
 exact sRet ⟨.ret _ _ Zrv, .nil⟩
end
end Go.Proofs.YtccafnaghnbpeaaGreatDoor
