/- The reference's objects: lists and numbers. -/
import Derived.Test.YtffaodopiifbkaaGreatDoorCR5d
set_option linter.all false
namespace Go.Proofs.YtffaodopiifbkaaGreatDoor
open Go.Abs LQ
set_option maxRecDepth 100000
set_option maxHeartbeats 4000000
noncomputable section
def listO : List O → O
 | [] => nilO
 | a :: l => .co a (listO l)
def spOs (g : List O → GV) : Sp where
 ι := { l : List O // l.length < 90000 }
 A l := [.sl 7 (l.1.map O.g)]
 B _ := []
 R l := .ret (g l.1)
 B' _ := []
 inj i j vs bs h k _ _ := by
  obtain ⟨_, _, h1, k1, h, k⟩ := h.two k
  rw [mapg_inj (h1.sl_inj k1)]; exact ⟨rfl, rfl⟩
theorem kList : Know 46 (spOs fun l => .a (listO l).g) := know (fun fn h => r46_ok h) [(84, _), (73, _)] (.cons kNil (.cons kCons .nil)) fun U fn hfn ⟨l, hl⟩ vs bs hv hb => by
 have hn := hfn 84 _ rfl
 have hc := hfn 73 _ rfl
 have hl : l.length < 90000 := hl
 have hv : RVs [.sl 7 (l.map O.g)] vs := hv
 have hb : RBs [] bs := hb
 show Sat U _ fun v bs' => RRes (.ret (.a (listO l).g)) v ∧ RBs [] bs'
 unfold r46
 (refine Zz ?_;with_reducible repeat' first|intro _|apply aI)
 refine sCall hn () (r := .a nilO.g) rfl .nil .nil fun _ _ _ _ => ?_
 (refine Zz ?_;with_reducible repeat' first|intro _|apply aI)
 refine sLp (fun (m : Nat) vs bs => ∃ (t : Tre Q) (off : Nat) (i : Int) (q : Q), vs = [.slice t 7 off l.length .no, .ptr 0 0, .ptr 1 0, .int .i64 i] ∧ bs = [.cells [.int .i64 0, .str 0 0, .str 0 0, .str 0 0, .str 0 0, .str 0 0, .slice .nil 0 0 0 .exact], .opa q 7] ∧ i = m - 1 ∧ m ≤ l.length ∧ Rws 7 (l.map O.g) t off ∧ Cel (listO (l.drop m)).g q 0) (fun m => m) l.length
  ⟨_, _, _, _, rfl, rfl, rfl, by omega, by assumption, by rw [List.drop_length]; assumption⟩ (by simp only [FUEL]; omega) ?_
 rintro self m _ _ ⟨t, off, i, q, rfl, rfl, rfl, hm, ht, hq⟩ ih
 (refine Zz ?_;with_reducible repeat' first|intro _|apply aI)
 ·refine sfTm (y := l[m - 1]) (by assumption) (by rw [show ((m : Int) - 1).toNat = m - 1 by omega]; exact List.getElem?_eq_getElem (by omega)) fun _ _ => ?_
  (refine Zz ?_;with_reducible repeat' first|intro _|apply aI)
  refine sCall hc (l[m - 1], listO (l.drop m)) (r := .a (O.co l[m - 1] (listO (l.drop m))).g) rfl Zrv .nil fun _ _ _ _ => ?_
  (refine Zz ?_;with_reducible repeat' first|intro _|apply aI)
  refine ih (m - 1) _ _ ⟨_, _, _, _, rfl, rfl, by omega, by omega, ht, ?_⟩ (by omega)
  rw [List.drop_eq_getElem_cons (by omega : m - 1 < l.length), show m - 1 + 1 = m by omega]
  assumption
 ·have em : m = 0 := by omega
  subst em
  rw [List.drop_zero] at *
  exact sRet ⟨.ret _ _ Zrv, .nil⟩
def qn (x y : Int) : Int × Nat := if y = 0 then (0, 1) else ((if (x < 0) = (y < 0) then 1 else -1) * ((x.natAbs / Nat.gcd x.natAbs y.natAbs : Nat) : Int), y.natAbs / Nat.gcd x.natAbs y.natAbs)
theorem reduceS_qn (a b : Str) : reduceS a b = (showInt (qn (decVal a) (decVal b)).1, showNat (qn (decVal a) (decVal b)).2) := by
 unfold reduceS qn
 split
 ·rw [showNat_one]; rfl
 ·rfl
def numO (q : Int × Nat) : O := .num q.1 q.2
theorem kRational : Know 48 (sp2 fun a b => .ret (.a (numO (qn (decVal a) (decVal b))).g)) := know (fun fn h => r48_ok h) [(85, _)] (.cons kReduce .nil) fun U fn hfn ⟨(a, b), ha, hbl⟩ vs bs hv hb => by
 have hr := hfn 85 _ rfl
 have ha : a.length < 9000 := ha
 have hbl : b.length < 9000 := hbl
 have hv : RVs [.c (.s a), .c (.s b)] vs := hv
 have hb : RBs [] bs := hb
 show Sat U _ fun v bs' => RRes (.ret (.a (numO (qn (decVal a) (decVal b))).g)) v ∧ RBs [] bs'
 unfold r48
 (refine Zz ?_;with_reducible repeat' first|intro _|apply aI)
 refine sCall hr ⟨(a, b), ha, hbl⟩ (r := .t [.c (.s (showInt (qn (decVal a) (decVal b)).1)), .c (.s (showNat (qn (decVal a) (decVal b)).2))]) (by show GRes.ret (.t [.c (.s (reduceS a b).1), .c (.s (reduceS a b).2)]) = _; rw [reduceS_qn]) Zrv .nil fun _ _ _ _ => ?_
 (refine Zz ?_;with_reducible repeat' first|intro _|apply aI)
 exact sRet ⟨.ret _ _ Zrv, .nil⟩
theorem digs_len_show (n : Nat) : (digs n).length ≤ (showNat n).length := by
 by_cases h : n = 0
 ·subst h; rw [digs_zero]; simp
 ·rw [showNat_size n h]; exact Nat.le_refl _
theorem digs_len_int (n : Int) : (digs n.natAbs).length ≤ (showInt n).length := by
 have := digs_len_show n.natAbs
 unfold showInt
 split <;> simp <;> omega
end
end Go.Proofs.YtffaodopiifbkaaGreatDoor
