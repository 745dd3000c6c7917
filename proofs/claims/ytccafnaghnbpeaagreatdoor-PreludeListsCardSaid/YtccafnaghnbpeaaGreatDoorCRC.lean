/- Objects made of trees are valid. -/
import Derived.Test.YtccafnaghnbpeaaGreatDoorCS3
import Derived.Test.YtccafnaghnbpeaaGreatDoorCRB
import Derived.Test.YtccafnaghnbpeaaGreatDoorCR9
import Derived.Test.YtccafnaghnbpeaaGreatDoorCB
import Derived.Shelf.Strconv.Itoa3
set_option linter.all false
namespace Go.Proofs.YtccafnaghnbpeaaGreatDoor
open Go.Abs LQ
set_option maxRecDepth 100000
set_option maxHeartbeats 4000000
noncomputable section
theorem qn_qn (x y : Int) : qn (qn x y).1 ((qn x y).2 : Nat) = qn x y := by
 by_cases hy : y = 0
 ·have e : qn x y = (0, 1) := by unfold qn; rw [if_pos hy]
  rw [e]
  exact qn_one 0
 have e : qn x y = ((if (x < 0) = (y < 0) then 1 else -1) * ((x.natAbs / Nat.gcd x.natAbs y.natAbs : Nat) : Int), y.natAbs / Nat.gcd x.natAbs y.natAbs) := by unfold qn; rw [if_neg hy]
 have hg : 0 < Nat.gcd x.natAbs y.natAbs := Nat.gcd_pos_of_pos_right _ (by omega)
 have h1 : Nat.gcd (x.natAbs / Nat.gcd x.natAbs y.natAbs) (y.natAbs / Nat.gcd x.natAbs y.natAbs) = 1 := by
  rw [Nat.gcd_div (Nat.gcd_dvd_left _ _) (Nat.gcd_dvd_right _ _), Nat.div_self hg]
 have hd : 0 < y.natAbs / Nat.gcd x.natAbs y.natAbs := Nat.div_pos (Nat.le_of_dvd (by omega) (Nat.gcd_dvd_right _ _)) hg
 rw [e]
 simp only
 generalize x.natAbs / Nat.gcd x.natAbs y.natAbs = a at *
 generalize y.natAbs / Nat.gcd x.natAbs y.natAbs = b at *
 have hs : ∃ n : Int, (if (x < 0) = (y < 0) then (1 : Int) else -1) * (a : Int) = n ∧ n.natAbs = a := by
  by_cases hc : (x < 0) = (y < 0)
  ·exact ⟨a, by rw [if_pos hc]; omega, by omega⟩
  ·exact ⟨-(a : Int), by rw [if_neg hc]; omega, by omega⟩
 obtain ⟨n, e1, e2⟩ := hs
 rw [e1]
 unfold qn
 rw [if_neg (by omega), Int.natAbs_natCast, e2, h1, Nat.div_one, Nat.div_one]
 refine Prod.ext ?_ rfl
 show (if (n < 0) = ((b : Int) < 0) then (1 : Int) else -1) * (a : Int) = n
 by_cases hn : n < 0
 ·rw [if_neg (fun e => absurd (e.mp hn) (by omega))]; omega
 ·rw [if_pos (propext ⟨fun k => absurd k hn, fun k => absurd k (by omega)⟩)]; omega
theorem fm_qn {x y : Int} (hx : x.natAbs < 1000000000) (hy : y.natAbs < 1000000000) : (numO (qn x y)).fm = true := by
 have hq := qn_qn x y
 have b1 : (qn x y).1.natAbs < 1000000000 ∧ (qn x y).2 < 1000000000 := by
  unfold qn
  split
  ·exact ⟨by decide, by decide⟩
  ·have d1 := Nat.div_le_self x.natAbs (Nat.gcd x.natAbs y.natAbs)
   have d2 := Nat.div_le_self y.natAbs (Nat.gcd x.natAbs y.natAbs)
   refine ⟨?_, Nat.lt_of_le_of_lt d2 hy⟩
   simp only
   generalize x.natAbs / Nat.gcd x.natAbs y.natAbs = a at *
   split
   ·omega
   ·omega
 generalize qn x y = q at *
 obtain ⟨n, d⟩ := q
 have b2 : n.natAbs < 1000000000 := b1.1
 have b3 : d < 1000000000 := b1.2
 refine decide_eq_true ⟨?_, ?_, ?_⟩
 ·rw [reduceS_qn, decVal_showInt, decVal_showNat, hq]
 ·unfold digitsS
  rw [decVal_showInt]
  have := digs_small (n := n.natAbs) (k := 9) b2
  show max 1 (digs n.natAbs).length ≤ 100
  omega
 ·unfold digitsS
  rw [decVal_showNat, Int.natAbs_natCast]
  have := digs_small (n := d) (k := 9) b3
  show max 1 (digs d).length ≤ 100
  omega
theorem pkg_user : validPkg userS = true := by
 unfold validPkg
 rw [pkg_in (i := 0) (by decide) (by decide), pkg_in (i := 1) (by decide) (by decide), pkg_in (i := 2) (by decide) (by decide), pkg_in (i := 3) (by decide) (by decide), pkg_end (by decide)]
 decide
theorem symNames_ok : ∀ k, k < 9 → 1 ≤ (symNames.getD k []).length ∧ (symNames.getD k []).length ≤ 40 := by decide
theorem symR_ok (n : Int) : named (symR n) = true := by
 have h1 : 0 ≤ n % 13 := Int.emod_nonneg _ (by decide)
 unfold symR
 split
 ·unfold named
  have := symNames_ok (n % 13).toNat (by omega)
  rw [pkg_user, decide_eq_true this]; rfl
 ·repeat' split
  all_goals exact (ok_lisp (by decide)).2
theorem atR_ok {r : Raw} (h : r.s.length ≤ 12) : (atR r).fm = true := by
 unfold atR
 have h1 : 0 ≤ r.n % 2001 := Int.emod_nonneg _ (by decide)
 have h2 : r.n % 2001 < 2001 := Int.emod_lt_of_pos _ (by decide)
 have h3 : 0 ≤ r.n % 41 := Int.emod_nonneg _ (by decide)
 have h4 : r.n % 41 < 41 := Int.emod_lt_of_pos _ (by decide)
 split
 ·exact (ok_num _ ⟨by omega, by omega⟩).2
 ·split
  ·exact fm_qn (by omega) (by omega)
  ·split
   ·exact symR_ok _
   ·exact decide_eq_true (by show r.s.length ≤ 200; omega)
theorem atR_size (r : Raw) : (atR r).size = 1 := by
 unfold atR
 repeat' split
 all_goals rfl
mutual
theorem objR_sz : ∀ r : Raw, (objR r).size + 1 ≤ 4 * r.nodes
 | .mk k n s l => by
  have h := objRs_sz l
  have hn : (Raw.mk k n s l).nodes = 1 + Raw.nodesL l := rfl
  rw [objR]
  split
  ·rw [atR_size]; omega
  ·split
   ·have h2 := objRs_two l
    show 1 + ((objRs l).getD 0 (.num (-1000) 1)).size + ((objRs l).getD 1 (.num (-1000) 1)).size + 1 ≤ _
    omega
   ·rw [szL_eq]; omega
theorem objRs_sz : ∀ l : List Raw, szL (objRs l) ≤ 1 + 4 * Raw.nodesL l
 | [] => by show 1 ≤ _; omega
 | x :: xs => by
  have h1 := objR_sz x
  have h2 := objRs_sz xs
  show 1 + (objR x).size + szL (objRs xs) ≤ 1 + 4 * (x.nodes + Raw.nodesL xs)
  omega
theorem objRs_two : ∀ l : List Raw, ((objRs l).getD 0 (.num (-1000) 1)).size + ((objRs l).getD 1 (.num (-1000) 1)).size ≤ 2 + 4 * Raw.nodesL l
 | [] => by show 1 + 1 ≤ _; omega
 | [x] => by
  have h1 := objR_sz x
  show (objR x).size + 1 ≤ 2 + 4 * (x.nodes + 0)
  omega
 | x :: y :: l => by
  have h1 := objR_sz x
  have h2 := objR_sz y
  show (objR x).size + (objR y).size ≤ 2 + 4 * (x.nodes + (y.nodes + Raw.nodesL l))
  omega
end
mutual
theorem objR_fm : ∀ {r : Raw}, r.okR → (objR r).fm = true
 | .mk k n s l, h => by
  have hl := objRs_fm (l := l) h.2.2
  rw [objR]
  split
  ·exact atR_ok (r := .mk k n s l) h.1
  ·split
   ·have hz : (O.num (-1000) 1).fm = true := (ok_num (-1000) (by decide)).2
    have hg : ∀ i, ((objRs l).getD i (.num (-1000) 1)).fm = true := fun i => by
     by_cases hi : i < (objRs l).length
     ·rw [show (objRs l).getD i (.num (-1000) 1) = (objRs l)[i] by simp [List.getD, List.getElem?_eq_getElem hi]]
      exact hl _ (List.getElem_mem hi)
     ·rw [show (objRs l).getD i (.num (-1000) 1) = .num (-1000) 1 by simp [List.getD, List.getElem?_eq_none (by omega : (objRs l).length ≤ i)]]
      exact hz
    show (_ && _) = true
    rw [hg, hg]; rfl
   ·exact (fmL_eq _).2 hl
theorem objRs_fm : ∀ {l : List Raw}, Raw.okRL l → ∀ x ∈ objRs l, x.fm = true
 | [], _, x, h => by cases h
 | y :: l, h, x, hx => by
  cases hx with
  | head => exact objR_fm h.1
  | tail _ hx => exact objRs_fm h.2 x hx
end
theorem few_obj {r : Raw} {m : Nat} (h : r.few m = true) : (objR r).size + 1 ≤ 4 * m ∧ (objR r).fm = true := by
 have h := Raw.few_ok h
 have := objR_sz r
 exact ⟨by omega, objR_fm h.1⟩
theorem fewAll_ok {l : List Raw} {m : Nat} (h : fewAll l m = true) : l.length ≤ 8 ∧ ∀ r ∈ l, r.few m = true := by
 unfold fewAll at h
 rw [Bool.and_eq_true] at h
 exact ⟨of_decide_eq_true h.1, List.all_eq_true.1 h.2⟩
theorem szL_le {os : List O} {b : Nat} (h : ∀ x ∈ os, x.size + 1 ≤ b) : szL os ≤ 1 + b * os.length := by
 induction os with
 | nil => exact Nat.le_refl _
 | cons a l ih =>
  have h1 := h a (by simp)
  have h2 := ih (fun x hx => h x (by simp [hx]))
  show 1 + a.size + szL l ≤ 1 + b * (l.length + 1)
  rw [Nat.mul_add]
  omega
theorem fewAll_list {l : List Raw} {m : Nat} (hm : m ≤ 20) (h : fewAll l m = true) : ok (listO (l.map objR)) := by
 have h := fewAll_ok h
 have hb : szL (l.map objR) ≤ 1 + 80 * (l.map objR).length := szL_le fun x hx => by
  obtain ⟨r, hr, rfl⟩ := List.mem_map.1 hx
  have := (few_obj (h.2 r hr)).1
  omega
 rw [List.length_map] at hb
 refine ok_list.2 ⟨by omega, fun x hx => ?_⟩
 obtain ⟨r, hr, rfl⟩ := List.mem_map.1 hx
 exact (few_obj (h.2 r hr)).2
end
end Go.Proofs.YtccafnaghnbpeaaGreatDoor
namespace Go.Proofs.YtccafnaghnbpeaaGreatDoor
open Go.Abs LQ
set_option maxRecDepth 100000
set_option maxHeartbeats 4000000
noncomputable section
abbrev World0 := Know 15 (sp0 (.sl 32 (preW.map Et.g)))
abbrev First0 := Know 4 (sp0 (.c (.b true)))
structure Vq where
 f : Str
 os : List O
 n : Nat
 r : Ro
 h : evT apO PL n (.call (lispS, f) (os.map T.c)) [] 3000 = some r
 ho : os.length < 90000
def resV (r : Ro) : GV := .t [.a (if r.2.1 = 0 then r.1 else O.no).g, .c (.b (decide (r.2.1 = 0)))]
def spVal : Sp where
 ι := Vq
 A x := [.c (.s x.f), .sl 7 (x.os.map O.g)]
 B _ := []
 R x := .ret (resV x.r)
 B' _ := []
 inj i j vs bs h k _ _ := by
  obtain ⟨_, _, h1, k1, h, k⟩ := h.two k
  obtain ⟨_, _, h2, k2, h, k⟩ := h.two k
  have e1 : i.f = j.f := G.s.inj (h1.c_inj k1)
  have e2 := mapg_inj (h2.sl_inj k2)
  have hr : i.r = j.r := evT_det (n := i.n) (m := j.n) i.h (by rw [e1, e2]; exact j.h)
  rw [hr]; exact ⟨rfl, rfl⟩
theorem kVal (hW : World0) (hA : Know 29 (spAq apO)) : Know 12 spVal := know (fun fn h => r12_ok h) [(15, _), (17, _), (29, _)] (.cons hW (.cons kLisp (.cons hA .nil))) fun U fn hfn ⟨f, os, n, r, hr, ho⟩ vs bs hv hb => by
 have hW := hfn 15 _ rfl
 have hL := hfn 17 _ rfl
 have hP := hfn 29 _ rfl
 change RVs [.c (.s f), .sl 7 (os.map O.g)] vs at hv
 change RBs [] bs at hb
 show Sat U _ fun v bs' => RRes (.ret (resV r)) v ∧ RBs [] bs'
 unfold r12
 (refine Zz ?_;with_reducible repeat' first|intro _|apply aI)
 refine sCall hW () (r := .sl 32 (preW.map Et.g)) rfl .nil .nil fun _ _ _ _ => ?_
 (refine Zz ?_;with_reducible repeat' first|intro _|apply aI)
 refine sCall hL f (r := .a (sg (lispS, f))) rfl (.cons _ _ _ _ (.s _ _ _ rfl rfl) .nil) .nil fun _ _ _ _ => ?_
 (refine Zz ?_;with_reducible repeat' first|intro _|apply aI)
 have hle := evT_left hr
 by_cases h0 : r.2.1 = 0
 ·have er : resT 3000 r = .t [.a r.1.g, .c (.i .i64 (((3000 : Nat) : Int) - r.2.2)), .c (.i .i64 0)] := if_pos h0
  have ev : resV r = .t [.a r.1.g, .c (.b true)] := by unfold resV; rw [if_pos h0, decide_eq_true h0]
  rw [ev]
  refine sCall hP ⟨preWd, (lispS, f), os, 3000, n, r, hr, by simp [preWd, preW], by decide, ho⟩ (r := .t [.a r.1.g, .c (.i .i64 (((3000 : Nat) : Int) - r.2.2)), .c (.i .i64 0)]) (by show GRes.ret (resT 3000 r) = _; rw [er]) (.cons _ _ _ _ (.sl _ _ _ _ _ (by simp [preWd]) (by assumption)) (.cons _ _ _ _ (.a _ _ _ rfl (by assumption)) (.cons _ _ _ _ (.sl _ _ _ _ _ (by simp) (by assumption)) (.cons _ _ _ _ (rvI' rfl) .nil)))) .nil fun _ _ _ _ => ?_
  (refine Zz ?_;with_reducible repeat' first|intro _|apply aI)
  refine oR fun _ _ => ?_
  (refine Zz ?_;with_reducible repeat' first|intro _|apply aI)
  refine sRetU fun e => ?_
  subst e
  exact ⟨.ret _ _ (.t _ _ (.cons _ _ _ _ oV (.cons _ _ _ _ (rvB (by rw [cuEq]; rfl)) .nil))), .nil⟩
 ·have er : resT 3000 r = .t [.a O.no.g, .c (.i .i64 0), .c (.i .i64 r.2.1)] := if_neg h0
  have ev : resV r = .t [.a O.no.g, .c (.b false)] := by unfold resV; rw [if_neg h0, decide_eq_false h0]
  rw [ev]
  refine sCall hP ⟨preWd, (lispS, f), os, 3000, n, r, hr, by simp [preWd, preW], by decide, ho⟩ (r := .t [.a O.no.g, .c (.i .i64 0), .c (.i .i64 r.2.1)]) (by show GRes.ret (resT 3000 r) = _; rw [er]) (.cons _ _ _ _ (.sl _ _ _ _ _ (by simp [preWd]) (by assumption)) (.cons _ _ _ _ (.a _ _ _ rfl (by assumption)) (.cons _ _ _ _ (.sl _ _ _ _ _ (by simp) (by assumption)) (.cons _ _ _ _ (rvI' rfl) .nil)))) .nil fun _ _ _ _ => ?_
  (refine Zz ?_;with_reducible repeat' first|intro _|apply aI)
  refine sRetU fun e => ?_
  subst e
  exact ⟨.ret _ _ (.t _ _ (.cons _ _ _ _ oV (.cons _ _ _ _ (rvB (by rw [cuEq, decide_eq_false h0])) .nil))), .nil⟩
theorem val_of {E : Prop} {f : Str} {os : List O} {v : O} (ho : os.length < 90000) (h : W PL E (.call (lispS, f) (os.map T.c)) [] 3000 fun o _ => o = v) :
  ∃ i : Vq, i.f = f ∧ i.os = os ∧ (resV i.r = .t [.a v.g, .c (.b true)] ∨ (E ∧ resV i.r = .t [.a O.no.g, .c (.b false)])) := by
 obtain ⟨n, r, h1, h2⟩ := h
 refine ⟨⟨f, os, n, r, h1, ho⟩, rfl, rfl, ?_⟩
 rcases h2 with ⟨h0, h2⟩ | ⟨h0, h2⟩
 ·left
  show resV r = _
  unfold resV
  rw [if_pos h0, decide_eq_true h0, h2]
 ·right
  refine ⟨h2, ?_⟩
  show resV r = _
  unfold resV
  rw [if_neg h0, decide_eq_false h0]
end
end Go.Proofs.YtccafnaghnbpeaaGreatDoor
namespace Go.Proofs.YtccafnaghnbpeaaGreatDoor
open Go.Abs LQ Go.RowKit Go.Lib Go.Sort
set_option maxRecDepth 100000
set_option maxHeartbeats 4000000
noncomputable section
theorem decDigits_showNat : ∀ n : Nat, Lib.decDigits n = showNat n := by
 intro n
 induction n using Nat.strongRecOn with
 | _ n ih =>
  unfold Lib.decDigits
  by_cases h : n < 10
  ·simp only [h, dite_true, if_true]
   by_cases h0 : n = 0
   ·subst h0; rfl
   ·unfold showNat
    rw [if_neg h0, digs_pos h0, show n / 10 = 0 by omega, digs_zero, Nat.mod_eq_of_lt h]
    rfl
  ·simp only [h, dite_false, if_false]
   rw [ih (n / 10) (by omega)]
   have h1 : ¬ n / 10 = 0 := by omega
   have h0 : ¬ n = 0 := by omega
   unfold showNat
   rw [if_neg h1, if_neg h0, digs_pos h0, List.reverse_cons, List.map_append]
   rfl
theorem itoa_showInt (n : Int) : Lib.itoa n = showInt n := by
 unfold Lib.itoa showInt
 split
 ·rw [decDigits_showNat]; rfl
 ·rw [decDigits_showNat, show n.toNat = n.natAbs by omega]
theorem itoa_ok : Itoa := fun ⟨n, hn⟩ vs bs hv hb => by
 change RVs [.c (.i .i64 n)] vs at hv
 cases hb
 refine ⟨.ret (.str (showInt n).length (code (showInt n))), [], fun hok => ?_, .ret _ _ (.s _ _ _ rfl rfl), .nil⟩
 have hx : vs.map toD = [D.int .i64 n] := by
  cases hv with
  | cons _ _ v _ h1 h2 =>
   cases h2
   cases h1 with
   | i => rfl
   | q _ x h => cases h; rfl
 rw [hx]
 show CM X0.P X0.G _ _ [] (.ret (.str (dec (showInt n).length (code (showInt n))))) []
 rw [dec_code]
 refine cm_of_calls (d := .str (showInt n)) Tryz.call38 fun w S M us hg hwi hr => ?_
 cases hr with
 | cons _ _ _ _ r1 r2 =>
 cases r2
 cases r1
 refine (Any.strconv_Itoa Tryz.laysM171 n (by omega) (by omega) w hg.2).mono ?_
 rintro e w' ⟨rfl, k, os, rfl⟩
 have hb : Below w.heap.size w (grow (w.drewN k) os) := ⟨rfl, rfl, rfl, by show w.heap.size ≤ (w.heap ++ os).size; rw [Array.size_append]; omega, fun j hj => by show (w.heap ++ os)[j]? = w.heap[j]?; exact Array.getElem?_append_left hj⟩
 exact ⟨hb, _, S, rfl, ⟨fun _ _ h => h, fun _ _ h => .inl h⟩, within_below hwi hb, .str _ _ (by rw [itoa_showInt]), fr_plain (fun _ _ _ h => by cases h) (fun _ h => by cases h)⟩
end
end Go.Proofs.YtccafnaghnbpeaaGreatDoor
