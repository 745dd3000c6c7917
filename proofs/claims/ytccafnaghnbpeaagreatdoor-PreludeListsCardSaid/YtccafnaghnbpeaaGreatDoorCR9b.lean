/- Primitives: those that the built-in world's functions meet. -/
import Derived.Test.YtccafnaghnbpeaaGreatDoorCR9
set_option linter.all false
namespace Go.Proofs.YtccafnaghnbpeaaGreatDoor
open Go.Abs LQ
set_option maxRecDepth 100000
set_option maxHeartbeats 4000000
noncomputable section
theorem sCndSn {U : CombU} {P : VRes → List Bx → Prop} {s : List UInt8} {l c : Nat} {x y : Om} (h : ¬ s = dec l c) (k : Sat U y P) : Sat U (U.cnd (U.sEq s.length (code s) l c) x y) P := sCnd trSL (fun n => absurd n h) (fun _ => k)
instance (a : O) : Decidable a.fx := inferInstanceAs (Decidable (_ ∧ _))
def twoO (s : Str) (a b : O) : Option O :=
 if s = dec 5 465491554661 then some (truthO (O.eqb a b)) else
 if s = dec 4 1936617315 then some (.co a b) else
 if s = dec 8 3111276449750739298 then (if a.fx ∧ b.fx then some (sumO a b) else none) else
 if s = dec 1 60 then (if a.fx ∧ b.fx then some (truthO (lessO a b)) else none) else none
def spTwo : Sp where
 ι := { p : (Str × O × O) × O // twoO p.1.1 p.1.2.1 p.1.2.2 = some p.2 }
 A p := [.c (.s p.1.1.1), .a p.1.1.2.1.g, .a p.1.1.2.2.g]
 B _ := []
 R p := .ret (.a p.1.2.g)
 B' _ := []
 inj i j vs bs h k _ _ := by
  obtain ⟨_, _, h1, k1, h, k⟩ := h.two k
  obtain ⟨_, _, h2, k2, h, k⟩ := h.two k
  obtain ⟨_, _, h3, k3, h, k⟩ := h.two k
  have e1 : i.1.1.1 = j.1.1.1 := G.s.inj (h1.c_inj k1)
  have e2 := O.g_inj (h2.a_inj k2)
  have e3 := O.g_inj (h3.a_inj k3)
  have e4 : some i.1.2 = some j.1.2 := by rw [← i.2, ← j.2, e1, e2, e3]
  injection e4 with e4
  rw [e4]; exact ⟨rfl, rfl⟩
theorem kTwo (hItoa : Itoa) : Know 105 spTwo := know (fun fn h => r105_ok h) [(9, _), (142, _), (27, _), (149, _), (151, _)] (.cons kEqual (.cons kTruth (.cons kCons (.cons (kSum hItoa) (.cons (kLess hItoa) .nil))))) fun U fn hfn ⟨((s, a, b), o), ho⟩ vs bs hv hb => by
 have hE := hfn 9 _ rfl
 have hT := hfn 142 _ rfl
 have hC := hfn 27 _ rfl
 have hS := hfn 149 _ rfl
 have hL := hfn 151 _ rfl
 change RVs [.c (.s s), .a a.g, .a b.g] vs at hv
 change RBs [] bs at hb
 have ho : twoO s a b = some o := ho
 show Sat U _ fun v bs' => RRes (.ret (.a o.g)) v ∧ RBs [] bs'
 unfold r105
 (refine Zw ?_;with_reducible repeat' first|intro _|apply aI)
 refine oR fun _ _ => ?_
 (refine Zw ?_;with_reducible repeat' first|intro _|apply aI)
 refine oR fun _ _ => ?_
 (refine Zw ?_;with_reducible repeat' first|intro _|apply aI)
 unfold twoO at ho
 split at ho
 ·rename_i hs
  injection ho with ho
  subst ho
  refine sCndS0 hs ?_
  (refine Zw ?_;with_reducible repeat' first|intro _|apply aI)
  refine sCall hE (a, b) (r := .c (.b (O.eqb a b))) rfl (.cons _ _ _ _ oV oA) .nil fun _ _ _ _ => ?_
  (refine Zw ?_;with_reducible repeat' first|intro _|apply aI)
  refine sCall hT (O.eqb a b) (r := .a (truthO (O.eqb a b)).g) rfl Zrv .nil fun _ _ _ _ => ?_
  (refine Zw ?_;with_reducible repeat' first|intro _|apply aI)
  refine oR fun _ _ => ?_
  (refine Zw ?_;with_reducible repeat' first|intro _|apply aI)
  exact sRet ⟨.ret _ _ oV, .nil⟩
 split at ho
 ·rename_i hs
  injection ho with ho
  subst ho
  refine sCndSn (by rw [hs]; decide) ?_
  (refine Zw ?_;with_reducible repeat' first|intro _|apply aI)
  refine sCndS0 hs ?_
  (refine Zw ?_;with_reducible repeat' first|intro _|apply aI)
  refine sCall hC (a, b) (r := .a (O.co a b).g) rfl (.cons _ _ _ _ oV oA) .nil fun _ _ _ _ => ?_
  (refine Zw ?_;with_reducible repeat' first|intro _|apply aI)
  exact sRet ⟨.ret _ _ oV, .nil⟩
 split at ho
 ·rename_i hs
  split at ho
  case isFalse => cases ho
  rename_i hx
  injection ho with ho
  subst ho
  refine sCndSn (by rw [hs]; decide) ?_
  (refine Zw ?_;with_reducible repeat' first|intro _|apply aI)
  refine sCndSn (by rw [hs]; decide) ?_
  (refine Zw ?_;with_reducible repeat' first|intro _|apply aI)
  refine sCndS0 hs ?_
  (refine Zw ?_;with_reducible repeat' first|intro _|apply aI)
  refine sCall hS ⟨(a, b), hx⟩ (r := .a (sumO a b).g) rfl (.cons _ _ _ _ oV oA) .nil fun _ _ _ _ => ?_
  (refine Zw ?_;with_reducible repeat' first|intro _|apply aI)
  exact sRet ⟨.ret _ _ oV, .nil⟩
 split at ho
 ·rename_i hs
  split at ho
  case isFalse => cases ho
  rename_i hx
  injection ho with ho
  subst ho
  refine sCndSn (by rw [hs]; decide) ?_
  (refine Zw ?_;with_reducible repeat' first|intro _|apply aI)
  refine sCndSn (by rw [hs]; decide) ?_
  (refine Zw ?_;with_reducible repeat' first|intro _|apply aI)
  refine sCndSn (by rw [hs]; decide) ?_
  (refine Zw ?_;with_reducible repeat' first|intro _|apply aI)
  refine sCndSn (by rw [hs]; decide) ?_
  (refine Zw ?_;with_reducible repeat' first|intro _|apply aI)
  refine sCndS0 hs ?_
  (refine Zw ?_;with_reducible repeat' first|intro _|apply aI)
  refine sCall hL ⟨(a, b), hx⟩ (r := .c (.b (lessO a b))) rfl (.cons _ _ _ _ oV oA) .nil fun _ _ _ _ => ?_
  (refine Zw ?_;with_reducible repeat' first|intro _|apply aI)
  refine sCall hT (lessO a b) (r := .a (truthO (lessO a b)).g) rfl Zrv .nil fun _ _ _ _ => ?_
  (refine Zw ?_;with_reducible repeat' first|intro _|apply aI)
  refine oR fun _ _ => ?_
  (refine Zw ?_;with_reducible repeat' first|intro _|apply aI)
  exact sRet ⟨.ret _ _ oV, .nil⟩
 ·cases ho
end
end Go.Proofs.YtccafnaghnbpeaaGreatDoor
