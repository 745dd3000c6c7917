/- The reference's objects: constructors, recognizers. -/
import Derived.Test.YtffaodopiifbkaaGreatDoorCR5
set_option linter.all false
namespace Go.Proofs.YtffaodopiifbkaaGreatDoor
open Go.Abs LQ
set_option maxRecDepth 100000
set_option maxHeartbeats 4000000
noncomputable section
theorem Cel.at {gs : List G} {q : Q} {j : Nat} {g : G} (h : Cel gs q 0) (e : gs[j]? = some g) : RG g (CU.celQ q j) := by
 have := h.get e; rw [Nat.zero_add] at this; exact this
def sg (s : Sy) : List G := [.s s.1, .s s.2]
theorem sg_inj {a b : Sy} (h : sg a = sg b) : a = b := by simp only [sg, List.cons.injEq, G.s.injEq, and_true] at h; exact Prod.ext h.1 h.2
def lispS : Str := [108, 105, 115, 112]
def nilO : O := .sy (lispS, [110, 105, 108])
def sp0 (g : GV) : Sp where
 ι := Unit
 A _ := []
 B _ := []
 R _ := .ret g
 B' _ := []
 inj _ _ _ _ _ _ _ _ := ⟨rfl, rfl⟩
def spStr (g : Str → GV) : Sp where
 ι := Str
 A s := [.c (.s s)]
 B _ := []
 R s := .ret (g s)
 B' _ := []
 inj i j vs bs h k _ _ := by
  obtain ⟨_, _, h1, k1, h, k⟩ := h.two k
  rw [s_inj h1 k1]; exact ⟨rfl, rfl⟩
def spSy (g : Sy → GV) : Sp where
 ι := Sy
 A s := [.a (sg s)]
 B _ := []
 R s := .ret (g s)
 B' _ := []
 inj i j vs bs h k _ _ := by
  obtain ⟨_, _, h1, k1, h, k⟩ := h.two k
  rw [sg_inj (h1.a_inj k1)]; exact ⟨rfl, rfl⟩
def spO (g : O → GV) : Sp where
 ι := O
 A o := [.a o.g]
 B _ := []
 R o := .ret (g o)
 B' _ := []
 inj i j vs bs h k _ _ := by rw [a1_inj h k]; exact ⟨rfl, rfl⟩
def spOO (g : O → O → GV) : Sp where
 ι := O × O
 A o := [.a o.1.g, .a o.2.g]
 B _ := []
 R o := .ret (g o.1 o.2)
 B' _ := []
 inj i j vs bs h k _ _ := by obtain ⟨e1, e2⟩ := a2_inj h k; rw [e1, e2]; exact ⟨rfl, rfl⟩
theorem kLisp : Know 47 (spStr fun s => .a (sg (lispS, s))) := know (fun fn h => r47_ok h) [] .nil fun U fn hfn s vs bs hv hb => by
 have hv : RVs [.c (.s s)] vs := hv
 have hb : RBs [] bs := hb
 show Sat U _ fun v bs' => RRes (.ret (.a (sg (lispS, s)))) v ∧ RBs [] bs'
 unfold r47
 (refine Zx ?_;with_reducible repeat' first|intro _|apply aI)
 exact sRet ⟨.ret _ _ Zrv, .nil⟩
theorem kSymbol : Know 43 (spSy fun s => .a (O.sy s).g) := know (fun fn h => r43_ok h) [] .nil fun U fn hfn s vs bs hv hb => by
 have hv : RVs [.a [.s s.1, .s s.2]] vs := hv
 have hb : RBs [] bs := hb
 show Sat U _ fun v bs' => RRes (.ret (.a (O.sy s).g)) v ∧ RBs [] bs'
 unfold r43
 (refine Zx ?_;with_reducible repeat' first|intro _|apply aI)
 exact sRetU fun e => by subst e; exact ⟨.ret _ _ (by (exact Zru)), .nil⟩
theorem kCons : Know 73 (spOO fun a d => .a (O.co a d).g) := know (fun fn h => r73_ok h) [] .nil fun U fn hfn ⟨a, d⟩ vs bs hv hb => by
 have hv : RVs [.a a.g, .a d.g] vs := hv
 have hb : RBs [] bs := hb
 show Sat U _ fun v bs' => RRes (.ret (.a (O.co a d).g)) v ∧ RBs [] bs'
 unfold r73
 refine sConsR hv fun v l hv1 hv2 => ?_
 refine sAR hv1 a.g_len fun qa ha => ?_
 refine sConsR hv2 fun v l hv3 hv4 => ?_
 refine sAR hv3 d.g_len fun qd hd => ?_
 refine sNilR hv4 (sNilBR hb ?_)
 refine sfSub0 ha fun xa ha => ?_
 refine sfSub0 hd fun xd hd => ?_
 refine sRet ⟨.ret _ _ (.ag _ _ ?_), .nil⟩
 refine .cons _ _ _ _ (.i _ _) (.cons _ _ _ _ (.s _ _ _ rfl rfl) (.cons _ _ _ _ (.s _ _ _ rfl rfl) (.cons _ _ _ _ (.s _ _ _ rfl rfl) (.cons _ _ _ _ (.s _ _ _ rfl rfl) (.cons _ _ _ _ (.s _ _ _ rfl rfl) (.cons _ _ _ _ (.cl _ _ _ _ _ rfl ?_) .nil))))))
 have r1 := rowN (by rw [O.g_len]; decide) ha
 have r2 := rowN (by rw [O.g_len]; decide) hd
 exact .cons _ _ _ _ _ a.g_len r1.1 r1.2 (.cons _ _ _ _ _ d.g_len r2.1 r2.2 (.nil _ _ _))
theorem showNat_one : showNat 1 = oneStr := by unfold showNat; rw [if_neg (by decide), digs_pos (by decide), show 1 / 10 = 0 from rfl, digs_zero]; rfl
theorem kNil : Know 84 (sp0 (.a nilO.g)) := know (fun fn h => r84_ok h) [(47, _), (43, _)] (.cons kLisp (.cons kSymbol .nil)) fun U fn hfn _ vs bs hv hb => by
 have hl := hfn 47 _ rfl
 have hs := hfn 43 _ rfl
 have hv : RVs [] vs := hv
 have hb : RBs [] bs := hb
 show Sat U _ fun v bs' => RRes (.ret (.a nilO.g)) v ∧ RBs [] bs'
 unfold r84
 (refine Zx ?_;with_reducible repeat' first|intro _|apply aI)
 refine sCall hl ([110, 105, 108] : Str) (r := .a (sg (lispS, [110, 105, 108]))) rfl Zrv .nil fun _ _ _ _ => ?_
 (refine Zx ?_;with_reducible repeat' first|intro _|apply aI)
 refine sCall hs (lispS, ([110, 105, 108] : Str)) (r := .a nilO.g) rfl Zrv .nil fun _ _ _ _ => ?_
 (refine Zx ?_;with_reducible repeat' first|intro _|apply aI)
 exact sRet ⟨.ret _ _ Zrv, .nil⟩
end
end Go.Proofs.YtffaodopiifbkaaGreatDoor
