/- The reference's objects: constructors, recognizers. -/
import Derived.Test.YtccafnaghnbpeaaGreatDoorCR5
set_option linter.all false
namespace Go.Proofs.YtccafnaghnbpeaaGreatDoor
open Go.Abs LQ
set_option maxRecDepth 100000
set_option maxHeartbeats 4000000
noncomputable section
theorem Cel.at {gs : List G} {q : Q} {j : Nat} {g : G} (h : Cel gs q 0) (e : gs[j]? = some g) : RG g (CU.celQ q j) := by
 have := h.get e; rw [Nat.zero_add] at this; exact this
def sg (s : Sy) : List G := [.s s.1, .s s.2]
theorem sg_inj {a b : Sy} (h : sg a = sg b) : a = b := by simp only [sg, List.cons.injEq, G.s.injEq, and_true] at h; exact Prod.ext h.1 h.2
def lispS : Str := [108, 105, 115, 112]
def nilO : O := .sy (lispS, [110, 105, 108])
def tO : O := .sy (lispS, [116])
def sp0 (g : GV) : Sp where
 ι := Unit
 A _ := []
 B _ := []
 R _ := .ret g
 B' _ := []
 inj _ _ _ _ _ _ _ _ := ⟨rfl, rfl⟩
def spStr (g : Str → GV) : Sp where
 ι := Str
 A s := [.c (.s s)]
 B _ := []
 R s := .ret (g s)
 B' _ := []
 inj i j vs bs h k _ _ := by
  obtain ⟨_, _, h1, k1, h, k⟩ := h.two k
  rw [s_inj h1 k1]; exact ⟨rfl, rfl⟩
def spSy (g : Sy → GV) : Sp where
 ι := Sy
 A s := [.a (sg s)]
 B _ := []
 R s := .ret (g s)
 B' _ := []
 inj i j vs bs h k _ _ := by
  obtain ⟨_, _, h1, k1, h, k⟩ := h.two k
  rw [sg_inj (h1.a_inj k1)]; exact ⟨rfl, rfl⟩
def spO (g : O → GV) : Sp where
 ι := O
 A o := [.a o.g]
 B _ := []
 R o := .ret (g o)
 B' _ := []
 inj i j vs bs h k _ _ := by rw [a1_inj h k]; exact ⟨rfl, rfl⟩
def spOO (g : O → O → GV) : Sp where
 ι := O × O
 A o := [.a o.1.g, .a o.2.g]
 B _ := []
 R o := .ret (g o.1 o.2)
 B' _ := []
 inj i j vs bs h k _ _ := by obtain ⟨e1, e2⟩ := a2_inj h k; rw [e1, e2]; exact ⟨rfl, rfl⟩
theorem kLisp : Know 17 (spStr fun s => .a (sg (lispS, s))) := know (fun fn h => r17_ok h) [] .nil fun U fn hfn s vs bs hv hb => by
 have hv : RVs [.c (.s s)] vs := hv
 have hb : RBs [] bs := hb
 show Sat U _ fun v bs' => RRes (.ret (.a (sg (lispS, s)))) v ∧ RBs [] bs'
 unfold r17
 (refine Zx ?_;with_reducible repeat' first|intro _|apply aI)
 exact sRet ⟨.ret _ _ Zrv, .nil⟩
theorem kSymbol : Know 24 (spSy fun s => .a (O.sy s).g) := know (fun fn h => r24_ok h) [] .nil fun U fn hfn s vs bs hv hb => by
 have hv : RVs [.a [.s s.1, .s s.2]] vs := hv
 have hb : RBs [] bs := hb
 show Sat U _ fun v bs' => RRes (.ret (.a (O.sy s).g)) v ∧ RBs [] bs'
 unfold r24
 (refine Zx ?_;with_reducible repeat' first|intro _|apply aI)
 exact sRetU fun e => by subst e; exact ⟨.ret _ _ (by (exact Zru)), .nil⟩
theorem kText2 : Know 26 (spStr fun s => .a (O.tx s).g) := know (fun fn h => r26_ok h) [] .nil fun U fn hfn s vs bs hv hb => by
 have hv : RVs [.c (.s s)] vs := hv
 have hb : RBs [] bs := hb
 show Sat U _ fun v bs' => RRes (.ret (.a (O.tx s).g)) v ∧ RBs [] bs'
 unfold r26
 (refine Zx ?_;with_reducible repeat' first|intro _|apply aI)
 exact sRet ⟨.ret _ _ Zrv, .nil⟩
theorem kCons : Know 27 (spOO fun a d => .a (O.co a d).g) := know (fun fn h => r27_ok h) [] .nil fun U fn hfn ⟨a, d⟩ vs bs hv hb => by
 have hv : RVs [.a a.g, .a d.g] vs := hv
 have hb : RBs [] bs := hb
 show Sat U _ fun v bs' => RRes (.ret (.a (O.co a d).g)) v ∧ RBs [] bs'
 unfold r27
 refine sConsR hv fun v l hv1 hv2 => ?_
 refine sAR hv1 a.g_len fun qa ha => ?_
 refine sConsR hv2 fun v l hv3 hv4 => ?_
 refine sAR hv3 d.g_len fun qd hd => ?_
 refine sNilR hv4 (sNilBR hb ?_)
 refine sfSub0 ha fun xa ha => ?_
 refine sfSub0 hd fun xd hd => ?_
 refine sRet ⟨.ret _ _ (.ag _ _ ?_), .nil⟩
 refine .cons _ _ _ _ (.i _ _) (.cons _ _ _ _ (.s _ _ _ rfl rfl) (.cons _ _ _ _ (.s _ _ _ rfl rfl) (.cons _ _ _ _ (.s _ _ _ rfl rfl) (.cons _ _ _ _ (.s _ _ _ rfl rfl) (.cons _ _ _ _ (.s _ _ _ rfl rfl) (.cons _ _ _ _ (.cl _ _ _ _ _ rfl ?_) .nil))))))
 have r1 := rowN (by rw [O.g_len]; decide) ha
 have r2 := rowN (by rw [O.g_len]; decide) hd
 exact .cons _ _ _ _ _ a.g_len r1.1 r1.2 (.cons _ _ _ _ _ d.g_len r2.1 r2.2 (.nil _ _ _))
def O.isCo : O → Bool
 | .co _ _ => true
 | _ => false
def O.isInt : O → Bool
 | .num _ d => decide (d = 1)
 | _ => false
theorem kIsCons : Know 141 (spO fun a => .c (.b a.isCo)) := know (fun fn h => r141_ok h) [] .nil fun U fn hfn a vs bs hv hb => by
 have hv : RVs [.a a.g] vs := hv
 have hb : RBs [] bs := hb
 show Sat U _ fun v bs' => RRes (.ret (.c (.b a.isCo))) v ∧ RBs [] bs'
 unfold r141
 rw [a.g_eq] at hv
 cases a <;> simp only [O.k, O.nu, O.de, O.sym, O.txt, O.ps] at hv <;> (refine Zx ?_;with_reducible repeat' first|intro _|apply aI)
 all_goals try (exfalso; omega)
 all_goals first
  | exact sRet ⟨.ret _ _ (rvK rfl), .nil⟩
  | exact sRetU fun e => by subst e; exact ⟨.ret _ _ (rvB (by rw [cuEq]; rfl)), .nil⟩
theorem showNat_one : showNat 1 = oneStr := by unfold showNat; rw [if_neg (by decide), digs_pos (by decide), show 1 / 10 = 0 from rfl, digs_zero]; rfl
theorem kIsInteger : Know 143 (spO fun a => .c (.b a.isInt)) := know (fun fn h => r143_ok h) [] .nil fun U fn hfn a vs bs hv hb => by
 have hv : RVs [.a a.g] vs := hv
 have hb : RBs [] bs := hb
 show Sat U _ fun v bs' => RRes (.ret (.c (.b a.isInt))) v ∧ RBs [] bs'
 unfold r143
 rw [a.g_eq] at hv
 cases a with
 | num n d =>
  simp only [O.k, O.nu, O.de, O.sym, O.txt, O.ps] at hv
  (refine Zx ?_;with_reducible repeat' first|intro _|apply aI)
  all_goals try (exfalso; omega)
  refine sRetU fun e => ?_
  subst e
  refine ⟨.ret _ _ (rvB ?_), .nil⟩
  rw [cuSL]
  have e1 : dec 1 49 = showNat 1 := by rw [showNat_one]; rfl
  rw [e1]
  show decide (d = 1) = _
  by_cases h : d = 1
  ·rw [h]; simp
  ·have : ¬ showNat d = showNat 1 := fun k => h (showNat_inj k)
   simp [h, this]
 | _ =>
  simp only [O.k, O.nu, O.de, O.sym, O.txt, O.ps] at hv
  (refine Zx ?_;with_reducible repeat' first|intro _|apply aI)
  all_goals try (exfalso; omega)
  all_goals exact sRet ⟨.ret _ _ (rvK rfl), .nil⟩
theorem kNil : Know 10 (sp0 (.a nilO.g)) := know (fun fn h => r10_ok h) [(17, _), (24, _)] (.cons kLisp (.cons kSymbol .nil)) fun U fn hfn _ vs bs hv hb => by
 have hl := hfn 17 _ rfl
 have hs := hfn 24 _ rfl
 have hv : RVs [] vs := hv
 have hb : RBs [] bs := hb
 show Sat U _ fun v bs' => RRes (.ret (.a nilO.g)) v ∧ RBs [] bs'
 unfold r10
 (refine Zx ?_;with_reducible repeat' first|intro _|apply aI)
 refine sCall hl ([110, 105, 108] : Str) (r := .a (sg (lispS, [110, 105, 108]))) rfl Zrv .nil fun _ _ _ _ => ?_
 (refine Zx ?_;with_reducible repeat' first|intro _|apply aI)
 refine sCall hs (lispS, ([110, 105, 108] : Str)) (r := .a nilO.g) rfl Zrv .nil fun _ _ _ _ => ?_
 (refine Zx ?_;with_reducible repeat' first|intro _|apply aI)
 exact sRet ⟨.ret _ _ Zrv, .nil⟩
theorem kT : Know 184 (sp0 (.a tO.g)) := know (fun fn h => r184_ok h) [(17, _), (24, _)] (.cons kLisp (.cons kSymbol .nil)) fun U fn hfn _ vs bs hv hb => by
 have hl := hfn 17 _ rfl
 have hs := hfn 24 _ rfl
 have hv : RVs [] vs := hv
 have hb : RBs [] bs := hb
 show Sat U _ fun v bs' => RRes (.ret (.a tO.g)) v ∧ RBs [] bs'
 unfold r184
 (refine Zx ?_;with_reducible repeat' first|intro _|apply aI)
 refine sCall hl ([116] : Str) (r := .a (sg (lispS, [116]))) rfl Zrv .nil fun _ _ _ _ => ?_
 (refine Zx ?_;with_reducible repeat' first|intro _|apply aI)
 refine sCall hs (lispS, ([116] : Str)) (r := .a tO.g) rfl Zrv .nil fun _ _ _ _ => ?_
 (refine Zx ?_;with_reducible repeat' first|intro _|apply aI)
 exact sRet ⟨.ret _ _ Zrv, .nil⟩
def truthO (b : Bool) : O := if b then tO else nilO
def spB (g : Bool → GV) : Sp where
 ι := Bool
 A s := [.c (.b s)]
 B _ := []
 R s := .ret (g s)
 B' _ := []
 inj i j vs bs h k _ _ := by
  obtain ⟨_, _, h1, k1, h, k⟩ := h.two k
  rw [b_inj h1 k1]; exact ⟨rfl, rfl⟩
theorem kTruth : Know 142 (spB fun b => .a (truthO b).g) := know (fun fn h => r142_ok h) [(184, _), (10, _)] (.cons kT (.cons kNil .nil)) fun U fn hfn b vs bs hv hb => by
 have ht := hfn 184 _ rfl
 have hn := hfn 10 _ rfl
 have hv : RVs [.c (.b b)] vs := hv
 have hb : RBs [] bs := hb
 show Sat U _ fun v bs' => RRes (.ret (.a (truthO b).g)) v ∧ RBs [] bs'
 unfold r142
 (refine Zx ?_;with_reducible repeat' first|intro _|apply aI)
 ·have e : b = true := ‹_›
  subst e
  refine sCall ht () (r := .a tO.g) rfl .nil .nil fun _ _ _ _ => ?_
  (refine Zx ?_;with_reducible repeat' first|intro _|apply aI)
  exact sRet ⟨.ret _ _ Zrv, .nil⟩
 ·have e : b = false := Bool.eq_false_iff.2 ‹¬ b = true›
  subst e
  refine sCall hn () (r := .a nilO.g) rfl .nil .nil fun _ _ _ _ => ?_
  (refine Zx ?_;with_reducible repeat' first|intro _|apply aI)
  exact sRet ⟨.ret _ _ Zrv, .nil⟩
theorem kIsNil : Know 106 (spO fun a => .c (.b (O.eqb a nilO))) := know (fun fn h => r106_ok h) [(10, _), (9, _)] (.cons kNil (.cons kEqual .nil)) fun U fn hfn a vs bs hv hb => by
 have hn := hfn 10 _ rfl
 have he := hfn 9 _ rfl
 have hv : RVs [.a a.g] vs := hv
 have hb : RBs [] bs := hb
 show Sat U _ fun v bs' => RRes (.ret (.c (.b (O.eqb a nilO)))) v ∧ RBs [] bs'
 unfold r106
 refine sConsR hv fun v l hv1 hv2 => ?_
 refine sAR hv1 a.g_len fun qa ha => ?_
 (refine Zx ?_;with_reducible repeat' first|intro _|apply aI)
 refine sCall hn () (r := .a nilO.g) rfl .nil .nil fun _ _ _ _ => ?_
 (refine Zx ?_;with_reducible repeat' first|intro _|apply aI)
 refine sCall he (a, nilO) (r := .c (.b (O.eqb a nilO))) rfl Zrv .nil fun _ _ _ _ => ?_
 (refine Zx ?_;with_reducible repeat' first|intro _|apply aI)
 exact sRet ⟨.ret _ _ Zrv, .nil⟩
end
end Go.Proofs.YtccafnaghnbpeaaGreatDoor
