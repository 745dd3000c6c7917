/- Primitives of one argument. -/
import Derived.Test.YtccafnaghnbpeaaGreatDoorCR9b
set_option linter.all false
namespace Go.Proofs.YtccafnaghnbpeaaGreatDoor
open Go.Abs LQ
set_option maxRecDepth 100000
set_option maxHeartbeats 4000000
noncomputable section
def carO : O → O
 | .co x _ => x
 | _ => nilO
def cdrO : O → O
 | .co _ y => y
 | _ => nilO
def oneO (s : Str) (a : O) : Option O :=
 if s = dec 3 7496035 then some (carO a) else
 if s = dec 3 7496803 then some (cdrO a) else
 if s = dec 5 482972954467 then some (truthO a.isCo) else
 if s = dec 8 8102650174351109737 then some (truthO a.isInt) else none
def spOne : Sp where
 ι := { p : (Str × O) × O // oneO p.1.1 p.1.2 = some p.2 }
 A p := [.c (.s p.1.1.1), .a p.1.1.2.g]
 B _ := []
 R p := .ret (.a p.1.2.g)
 B' _ := []
 inj i j vs bs h k _ _ := by
  obtain ⟨_, _, h1, k1, h, k⟩ := h.two k
  obtain ⟨_, _, h2, k2, h, k⟩ := h.two k
  have e1 : i.1.1.1 = j.1.1.1 := G.s.inj (h1.c_inj k1)
  have e2 := O.g_inj (h2.a_inj k2)
  have e4 : some i.1.2 = some j.1.2 := by rw [← i.2, ← j.2, e1, e2]
  injection e4 with e4
  rw [e4]; exact ⟨rfl, rfl⟩
theorem sCallU {U : CombU} {P : VRes → List Bx → Prop} {fn : FuncId → FunT} {g : FuncId} {sp : Sp} (hg : Ans fn g sp) (i : sp.ι) {vs : List V} {bs : List Bx} {K : V → List Bx → Om} {Kp : V → Om} {r : GV} (hr : sp.R i = .ret r) (hv : U = CU → RVs (sp.A i) vs) (hb : RBs (sp.B i) bs)
  (hk : ∀ v bs', RV r v → RBs (sp.B' i) bs' → Sat U (K v bs') P) : Sat U (U.bind (fn g vs bs) K Kp) P := fun e => sCall hg i hr (hv e) hb hk e
theorem kOne (hItoa : Itoa) : Know 104 spOne := know (fun fn h => r104_ok h) [(140, _), (141, _), (143, _), (142, _), (10, _)] (.cons (kFix hItoa) (.cons kIsCons (.cons kIsInteger (.cons kTruth (.cons kNil .nil))))) fun U fn hfn ⟨((s, a), o), ho⟩ vs bs hv hb => by
 have hF := hfn 140 _ rfl
 have hC := hfn 141 _ rfl
 have hI := hfn 143 _ rfl
 have hT := hfn 142 _ rfl
 have hN := hfn 10 _ rfl
 change RVs [.c (.s s), .a a.g] vs at hv
 change RBs [] bs at hb
 have ho : oneO s a = some o := ho
 show Sat U _ fun v bs' => RRes (.ret (.a o.g)) v ∧ RBs [] bs'
 unfold r104
 (refine Zw ?_;with_reducible repeat' first|intro _|apply aI)
 refine oR fun _ _ => ?_
 (refine Zw ?_;with_reducible repeat' first|intro _|apply aI)
 refine sCall hF a (r := .a (O.num a.na a.da).g) rfl oA .nil fun _ _ _ _ => ?_
 (refine Zw ?_;with_reducible repeat' first|intro _|apply aI)
 unfold oneO at ho
 split at ho
 ·rename_i hs
  injection ho with ho
  subst ho
  refine sCndS0 hs ?_
  (refine Zw ?_;with_reducible repeat' first|intro _|apply aI)
  cases a with
  | co x y =>
   refine sCall hC (O.co x y) (r := .c (.b true)) rfl oA .nil fun _ _ _ _ => ?_
   (refine Zw ?_;with_reducible repeat' first|intro _|apply aI)
   refine sCndS0 hs ?_
   (refine Zw ?_;with_reducible repeat' first|intro _|apply aI)
   refine sCSlM (ys := [x, y]) (f := O.g) (by assumption) (mapLen O.g_len) fun _ _ _ => ?_
   apply sChk
   case ht => (repeat' (first | exact trT | exact trF | apply trNot | apply trAnd | exact trLtN | exact trLeN | exact trLt | exact trLe | exact trEq | exact trnLe3 | exact trnLe4 | exact trnLe2 | exact trnLe1 | exact trnLe | exact trnEq | exact trSS | exact trSL | exact trS | exact trV))
   case hp => simp
   (refine Zw ?_;with_reducible repeat' first|intro _|apply aI)
   exact sRet ⟨.ret _ _ oV, .nil⟩
  | _ =>
   refine sCall hC _ (r := .c (.b false)) rfl oA .nil fun _ _ _ _ => ?_
   (refine Zw ?_;with_reducible repeat' first|intro _|apply aI)
   refine sCall hN () (r := .a nilO.g) rfl .nil .nil fun _ _ _ _ => ?_
   (refine Zw ?_;with_reducible repeat' first|intro _|apply aI)
   exact sRet ⟨.ret _ _ oV, .nil⟩
 split at ho
 ·rename_i hs
  injection ho with ho
  subst ho
  refine sCndSn (by rw [hs]; decide) ?_
  (refine Zw ?_;with_reducible repeat' first|intro _|apply aI)
  refine sCndS0 hs ?_
  (refine Zw ?_;with_reducible repeat' first|intro _|apply aI)
  cases a with
  | co x y =>
   refine sCall hC (O.co x y) (r := .c (.b true)) rfl oA .nil fun _ _ _ _ => ?_
   (refine Zw ?_;with_reducible repeat' first|intro _|apply aI)
   refine sCndSn (by rw [hs]; decide) ?_
   (refine Zw ?_;with_reducible repeat' first|intro _|apply aI)
   refine sCSlM (ys := [x, y]) (f := O.g) (by assumption) (mapLen O.g_len) fun _ _ _ => ?_
   apply sChk
   case ht => (repeat' (first | exact trT | exact trF | apply trNot | apply trAnd | exact trLtN | exact trLeN | exact trLt | exact trLe | exact trEq | exact trnLe3 | exact trnLe4 | exact trnLe2 | exact trnLe1 | exact trnLe | exact trnEq | exact trSS | exact trSL | exact trS | exact trV))
   case hp => simp
   (refine Zw ?_;with_reducible repeat' first|intro _|apply aI)
   exact sRet ⟨.ret _ _ oV, .nil⟩
  | _ =>
   refine sCall hC _ (r := .c (.b false)) rfl oA .nil fun _ _ _ _ => ?_
   (refine Zw ?_;with_reducible repeat' first|intro _|apply aI)
   refine sCall hN () (r := .a nilO.g) rfl .nil .nil fun _ _ _ _ => ?_
   (refine Zw ?_;with_reducible repeat' first|intro _|apply aI)
   exact sRet ⟨.ret _ _ oV, .nil⟩
 split at ho
 ·rename_i hs
  injection ho with ho
  subst ho
  refine sCndSn (by rw [hs]; decide) ?_
  (refine Zw ?_;with_reducible repeat' first|intro _|apply aI)
  refine sCndSn (by rw [hs]; decide) ?_
  (refine Zw ?_;with_reducible repeat' first|intro _|apply aI)
  refine sCndS0 hs ?_
  (refine Zw ?_;with_reducible repeat' first|intro _|apply aI)
  refine sfCel (gs := a.g) (g := .i .i64 a.k) (by assumption) (by rw [O.g_eq]; rfl) fun _ _ => ?_
  (refine Zw ?_;with_reducible repeat' first|intro _|apply aI)
  refine sCallU hT a.isCo (r := .a (truthO a.isCo).g) rfl (fun eU => by subst eU; exact .cons _ _ _ _ (rvB (by rw [cuEq]; cases a <;> rfl)) .nil) .nil fun _ _ _ _ => ?_
  (refine Zw ?_;with_reducible repeat' first|intro _|apply aI)
  refine oR fun _ _ => ?_
  (refine Zw ?_;with_reducible repeat' first|intro _|apply aI)
  exact sRet ⟨.ret _ _ oV, .nil⟩
 split at ho
 ·rename_i hs
  injection ho with ho
  subst ho
  refine sCndSn (by rw [hs]; decide) ?_
  (refine Zw ?_;with_reducible repeat' first|intro _|apply aI)
  refine sCndSn (by rw [hs]; decide) ?_
  (refine Zw ?_;with_reducible repeat' first|intro _|apply aI)
  refine sCndSn (by rw [hs]; decide) ?_
  (refine Zw ?_;with_reducible repeat' first|intro _|apply aI)
  refine sCndSn (by rw [hs]; decide) ?_
  (refine Zw ?_;with_reducible repeat' first|intro _|apply aI)
  refine sCndSn (by rw [hs]; decide) ?_
  (refine Zw ?_;with_reducible repeat' first|intro _|apply aI)
  refine sCndSn (by rw [hs]; decide) ?_
  (refine Zw ?_;with_reducible repeat' first|intro _|apply aI)
  refine sCndS0 hs ?_
  (refine Zw ?_;with_reducible repeat' first|intro _|apply aI)
  refine sCall hI a (r := .c (.b a.isInt)) rfl oA .nil fun _ _ _ _ => ?_
  (refine Zw ?_;with_reducible repeat' first|intro _|apply aI)
  refine sCall hT a.isInt (r := .a (truthO a.isInt).g) rfl Zrv .nil fun _ _ _ _ => ?_
  (refine Zw ?_;with_reducible repeat' first|intro _|apply aI)
  refine oR fun _ _ => ?_
  (refine Zw ?_;with_reducible repeat' first|intro _|apply aI)
  exact sRet ⟨.ret _ _ oV, .nil⟩
 ·cases ho
end
end Go.Proofs.YtccafnaghnbpeaaGreatDoor
