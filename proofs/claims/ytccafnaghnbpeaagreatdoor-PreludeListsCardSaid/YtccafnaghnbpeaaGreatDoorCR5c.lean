/- The reference's objects: what is formed, lists. -/
import Derived.Test.YtccafnaghnbpeaaGreatDoorCR5b
set_option linter.all false
namespace Go.Proofs.YtccafnaghnbpeaaGreatDoor
open Go.Abs LQ
set_option maxRecDepth 100000
set_option maxHeartbeats 4000000
noncomputable section
theorem pkg_in {s : Str} {i : Nat} (h : i < s.length) (hb : pkgByte (bt s i) = true) : pkgFrom s i = pkgFrom s (i + 1) := by rw [pkgFrom, if_pos h, if_pos hb]
theorem pkg_out {s : Str} {i : Nat} (h : i < s.length) (hb : ¬ pkgByte (bt s i) = true) : pkgFrom s i = false := by rw [pkgFrom, if_pos h, if_neg hb]
theorem pkg_end {s : Str} {i : Nat} (h : ¬ i < s.length) : pkgFrom s i = true := by rw [pkgFrom, if_neg h]
theorem pb_t {c : Int} : pkgByte c = true ↔ (97 ≤ c ∧ c ≤ 122) ∨ (48 ≤ c ∧ c ≤ 57) ∨ c = 45 := by simp [pkgByte]
theorem vp_false {s : Str} (h : ¬ (1 ≤ s.length ∧ s.length ≤ 40 ∧ 97 ≤ bt s 0 ∧ bt s 0 ≤ 122)) : validPkg s = false := by unfold validPkg; rw [decide_eq_false h]; rfl
theorem vp_f1 {s : Str} (h : ((s.getD 0 0).toNat : Int) < 97) : validPkg s = false := vp_false (fun k => by have e : bt s 0 = ((s.getD 0 0).toNat : Int) := rfl; omega)
theorem vp_f2 {s : Str} (h : 122 < ((s.getD 0 0).toNat : Int)) : validPkg s = false := vp_false (fun k => by have e : bt s 0 = ((s.getD 0 0).toNat : Int) := rfl; omega)
theorem kPackage : Know 223 (sp1 fun s => .ret (.c (.b (validPkg s)))) := know (fun fn h => r223_ok h) [] .nil fun U fn hfn ⟨s, hs⟩ vs bs hv hb => by
 have hv : RVs [.c (.s s)] vs := hv
 have hb : RBs [] bs := hb
 show Sat U _ fun v bs' => RRes (.ret (.c (.b (validPkg s)))) v ∧ RBs [] bs'
 have hbt : bt s 0 = ((s.getD 0 0).toNat : Int) := rfl
 unfold r223
 (refine Zx ?_;with_reducible repeat' first|intro _|apply aI)
 all_goals try (exfalso; omega)
 all_goals first
  | exact sRet ⟨.ret _ _ (rvK (vp_false (by omega))), .nil⟩
  | exact sRet ⟨.ret _ _ (rvK (vp_f1 ‹_›)), .nil⟩
  | exact sRet ⟨.ret _ _ (rvK (vp_f2 ‹_›)), .nil⟩
  | skip
 have g1 := ‹¬ ((s.getD 0 0).toNat : Int) < 97›
 have g2 := ‹¬ 122 < ((s.getD 0 0).toNat : Int)›
 have e : validPkg s = pkgFrom s 0 := by unfold validPkg; rw [decide_eq_true (by omega)]; rfl
 rw [e]
 refine sLp (fun (i : Nat) vs bs => vs = [.str s.length (code s), .int .i64 i] ∧ bs = [] ∧ i ≤ s.length ∧ pkgFrom s i = pkgFrom s 0) (fun i => s.length - i) 0 ⟨rfl, rfl, by omega, rfl⟩ (by simp only [FUEL]; omega) ?_
 rintro self i vs bs ⟨rfl, rfl, hi, he⟩ ih
 have hbi : bt s i = ((s.getD i 0).toNat : Int) := rfl
 (refine Zx ?_;with_reducible repeat' first|intro _|apply aI)
 all_goals try (exfalso; omega)
 all_goals first
  | exact sRet ⟨.ret _ _ (rvK (he.symm.trans (pkg_end (by omega)))), .nil⟩
  | exact sRet ⟨.ret _ _ (rvK (he.symm.trans (pkg_out (by omega) (fun h => by have := pb_t.1 h; omega)))), .nil⟩
  | exact ih (i + 1) _ _ ⟨rfl, rfl, by omega, (pkg_in (i := i) (by omega) (pb_t.2 (by omega))).symm.trans he⟩ (by omega)
def named (s : Sy) : Bool := validPkg s.1 && decide (1 ≤ s.2.length ∧ s.2.length ≤ 40)
def spSy' (g : Sy → GV) : Sp where
 ι := { s : Sy // s.1.length < 90000 ∧ s.2.length < 90000 }
 A s := [.a (sg s.1)]
 B _ := []
 R s := .ret (g s.1)
 B' _ := []
 inj i j vs bs h k _ _ := by
  obtain ⟨_, _, h1, k1, h, k⟩ := h.two k
  rw [sg_inj (h1.a_inj k1)]; exact ⟨rfl, rfl⟩
theorem kNamed2 : Know 191 (spSy' fun s => .c (.b (named s))) := know (fun fn h => r191_ok h) [(223, _)] (.cons kPackage .nil) fun U fn hfn ⟨s, h1, h2⟩ vs bs hv hb => by
 have hp := hfn 223 _ rfl
 have hv : RVs [.a [.s s.1, .s s.2]] vs := hv
 have hb : RBs [] bs := hb
 show Sat U _ fun v bs' => RRes (.ret (.c (.b (named s)))) v ∧ RBs [] bs'
 unfold r191
 (refine Zx ?_;with_reducible repeat' first|intro _|apply aI)
 refine sCall hp ⟨s.1, h1⟩ (r := .c (.b (validPkg s.1))) rfl Zrv .nil fun _ _ _ _ => ?_
 (refine Zx ?_;with_reducible repeat' first|intro _|apply aI)
 ·refine sRetU fun e => ?_
  subst e
  refine ⟨.ret _ _ (rvB ?_), .nil⟩
  rw [cuLe]
  unfold named
  rw [‹validPkg s.1 = true›, Bool.true_and]
  apply decide_eq_decide.2
  omega
 ·exact sRet ⟨.ret _ _ (rvK (by unfold named; rw [decide_eq_false (by omega), Bool.and_false])), .nil⟩
 ·exact sRet ⟨.ret _ _ (rvK (by unfold named; rw [Bool.eq_false_iff.2 ‹¬ validPkg s.1 = true›]; rfl)), .nil⟩
theorem rvI' {k : IntKind} {x y : Int} (h : y = x) : RV (.c (.i k x)) (.int k y) := rvI h.symm
def spCount : Sp where
 ι := { p : O × Nat // 1 ≤ p.2 ∧ p.2 ≤ 100000 }
 A p := [.a p.1.1.g, .c (.i .i64 p.1.2)]
 B _ := []
 R p := .ret (.c (.i .i64 (min p.1.1.size p.1.2 : Nat)))
 B' _ := []
 inj i j vs bs h k _ _ := by
  obtain ⟨_, _, h1, k1, h, k⟩ := h.two k
  obtain ⟨_, _, h2, k2, h, k⟩ := h.two k
  have e1 := O.g_inj (h1.a_inj k1)
  have e2 := i_inj h2 k2
  have e2 : i.1.2 = j.1.2 := by omega
  rw [e1, e2]; exact ⟨rfl, rfl⟩
theorem kCount : Know 192 spCount := know_rec (fun p => p.1.1.size) fun n ih => know (fun fn h => r192_ok h) [(192, spCount.lt _ n)] (.cons ih .nil) fun U fn hfn ⟨⟨(a, l), hl1, hl2⟩, hn⟩ vs bs hv hb => by
 have hr := hfn 192 _ rfl
 have hl1 : 1 ≤ l := hl1
 have hl2 : l ≤ 100000 := hl2
 have hv : RVs [.a a.g, .c (.i .i64 l)] vs := hv
 have hb : RBs [] bs := hb
 have hn : a.size < n + 1 := hn
 show Sat U _ fun v bs' => RRes (.ret (.c (.i .i64 (min a.size l : Nat)))) v ∧ RBs [] bs'
 unfold r192
 rw [a.g_eq] at hv
 cases a with
 | co a d =>
  simp only [O.k, O.nu, O.de, O.sym, O.txt, O.ps] at hv
  have hs : (O.co a d).size = 1 + a.size + d.size := rfl
  rw [hs] at hn ⊢
  have hpa := a.size_pos
  have hpd := d.size_pos
  (refine Zx ?_;with_reducible repeat' first|intro _|apply aI)
  all_goals try (exfalso; simp at * <;> omega)
  ·exact sRet ⟨.ret _ _ (rvI (by omega)), .nil⟩
  ·refine sCall hr ⟨⟨(a, l - 1), show 1 ≤ l - 1 by omega, show l - 1 ≤ 100000 by omega⟩, show a.size < n by omega⟩ (r := .c (.i .i64 (min a.size (l - 1) : Nat))) rfl (.cons _ _ _ _ Zrv (.cons _ _ _ _ (rvI' (by simp only; omega)) .nil)) .nil fun _ _ _ _ => ?_
   (refine Zx ?_;with_reducible repeat' first|intro _|apply aI)
   ·exact sRet ⟨.ret _ _ (rvI (by omega)), .nil⟩
   ·refine sCall hr ⟨⟨(d, l - (1 + a.size)), show 1 ≤ l - (1 + a.size) by omega, show l - (1 + a.size) ≤ 100000 by omega⟩, show d.size < n by omega⟩ (r := .c (.i .i64 (min d.size (l - (1 + a.size)) : Nat))) rfl (.cons _ _ _ _ Zrv (.cons _ _ _ _ (rvI' (by simp only; omega)) .nil)) .nil fun _ _ _ _ => ?_
    (refine Zx ?_;with_reducible repeat' first|intro _|apply aI)
    exact sRet ⟨.ret _ _ (rvI (by omega)), .nil⟩
 | _ =>
  simp only [O.k, O.nu, O.de, O.sym, O.txt, O.ps] at hv
  (refine Zx ?_;with_reducible repeat' first|intro _|apply aI)
  all_goals try (exfalso; simp at * <;> omega)
  all_goals first
   | exact absurd ‹((([] : List O).length : Nat) : Int) = 2› (by decide)
   | exact sRet ⟨.ret _ _ (rvI (by simp only [O.size]; omega)), .nil⟩
theorem kNodes : Know 154 (spO fun a => .c (.i .i64 (min a.size 3001 : Nat))) := know (fun fn h => r154_ok h) [(192, _)] (.cons kCount .nil) fun U fn hfn a vs bs hv hb => by
 have hr := hfn 192 _ rfl
 have hv : RVs [.a a.g] vs := hv
 have hb : RBs [] bs := hb
 show Sat U _ fun v bs' => RRes (.ret (.c (.i .i64 (min a.size 3001 : Nat)))) v ∧ RBs [] bs'
 unfold r154
 refine sConsR hv fun v l hv1 hv2 => ?_
 refine sAR hv1 a.g_len fun qa ha => ?_
 (refine Zx ?_;with_reducible repeat' first|intro _|apply aI)
 refine sCall hr ⟨(a, 3001), show 1 ≤ 3001 by decide, show 3001 ≤ 100000 by decide⟩ (r := .c (.i .i64 (min a.size 3001 : Nat))) rfl Zrv .nil fun _ _ _ _ => ?_
 (refine Zx ?_;with_reducible repeat' first|intro _|apply aI)
 exact sRet ⟨.ret _ _ Zrv, .nil⟩
end
end Go.Proofs.YtccafnaghnbpeaaGreatDoor
