/- The reference's Term: evaluation with a limit. -/
import Derived.Test.YtccafnaghnbpeaaGreatDoorCR9d
set_option linter.all false
namespace Go.Proofs.YtccafnaghnbpeaaGreatDoor
open Go.Abs LQ
set_option maxRecDepth 100000
set_option maxHeartbeats 4000000
noncomputable section
theorem sfIE {U : CombU} {P : VRes → List Bx → Prop} {a b : Int} {K : Int → Om} (h : U = CU → a = b) (k : Sat U (K b) P) : Sat U (U.fI a K) P := fun e => by
 have h1 := k e
 have h2 := h e
 subst e
 rw [CUfI, h2]; exact h1
structure Tq (ap : Ap) where
 w : Wd
 t : T
 env : Bds
 l : Nat
 n : Nat
 r : Ro
 h : evT ap w.L n t env l = some r
 hw : w.1 ≠ []
 hl : l < 1000000000
def resT (l : Nat) (r : Ro) : GV := if r.2.1 = 0 then .t [.a r.1.g, .c (.i .i64 ((l : Int) - r.2.2)), .c (.i .i64 0)] else .t [.a O.no.g, .c (.i .i64 0), .c (.i .i64 r.2.1)]
def spTe (ap : Ap) : Sp where
 ι := Tq ap
 A x := [.sl 32 (x.w.1.map Et.g), .a x.t.g, .sl 9 (x.env.map bd), .c (.i .i64 x.l)]
 B _ := []
 R x := .ret (resT x.l x.r)
 B' _ := []
 inj i j vs bs h k _ _ := by
  obtain ⟨_, _, h1, k1, h, k⟩ := h.two k
  obtain ⟨_, _, h2, k2, h, k⟩ := h.two k
  obtain ⟨_, _, h3, k3, h, k⟩ := h.two k
  obtain ⟨_, _, h4, k4, h, k⟩ := h.two k
  have e1 := T.g_inj (h2.a_inj k2)
  have e2 := mapbd_inj (h3.sl_inj k3)
  have e5 : i.w.L = j.w.L := mapEt_key (h1.sl_inj k1)
  have e6 : i.l = j.l := by have := (G.i.inj (h4.c_inj k4)).2; omega
  have hr : i.r = j.r := evT_det (n := i.n) (m := j.n) i.h (by rw [e5, e1, e2, e6]; exact j.h)
  rw [hr, e6]; exact ⟨rfl, rfl⟩
theorem kTermT {ap : Ap} (hap : Know 77 (spAp ap)) : Know 41 (spTe ap) := know (fun fn h => r41_ok h) [(58, _)] (.cons (kTerm hap) .nil) fun U fn hfn ⟨w, t, env, l, m, r, hr, hw, hl⟩ vs bs hv hb => by
 have hT := hfn 58 _ rfl
 change RVs [.sl 32 (w.1.map Et.g), .a t.g, .sl 9 (env.map bd), .c (.i .i64 l)] vs at hv
 change RBs [] bs at hb
 have hwm : w.1.map Et.g ≠ [] := by simpa using hw
 have hwn : ∀ r ∈ w.1.map Et.g, r.length = 32 := mapLen Et.g_len
 have hle := evT_left hr
 show Sat U _ fun v bs' => RRes (.ret (resT l r)) v ∧ RBs [] bs'
 unfold r41
 (refine Zz ?_;with_reducible repeat' first|intro _|apply aI)
 refine sAR (by assumption) (by first | exact (T.g_len _).symm | exact T.g_len _) fun _ _ => ?_
 (refine Zz ?_;with_reducible repeat' first|intro _|apply aI)
 refine sfIE (b := (l : Int)) (fun e => by subst e; rw [cuLt, decide_eq_false (by omega)]; rfl) ?_
 (refine Zz ?_;with_reducible repeat' first|intro _|apply aI)
 refine sCall hT ⟨w, t, env, l, m, r, hr, hw, hl⟩ (r := .t [.a r.1.g, .c (.i .i64 r.2.1)]) rfl (.cons _ _ _ _ (.p _ _) (.cons _ _ _ _ (.a _ _ _ (T.g_len _).symm (by assumption)) (.cons _ _ _ _ (.sl _ _ _ _ _ (by simp) (by assumption)) .nil))) (rbW (by assumption) rfl) fun _ _ _ hb2 => ?_
 change RBs [[.l (w.1.map Et.g), .i .i64 r.2.2]] _ at hb2
 (refine Zz ?_;with_reducible repeat' first|intro _|apply aI)
 refine oR fun _ _ => ?_
 (refine Zz ?_;with_reducible repeat' first|intro _|apply aI)
 refine sSlM (rvCl (by assumption) hwm hwn) fun _ _ _ => ?_
 (refine Zz ?_;with_reducible repeat' first|intro _|apply aI)
 ·rw [resT, if_pos (by assumption)]
  exact sRet ⟨.ret _ _ (.t _ _ (.cons _ _ _ _ oV (.cons _ _ _ _ (.i _ _) (.cons _ _ _ _ (.i _ _) .nil)))), .nil⟩
 ·rw [resT, if_neg (by assumption)]
  exact sRet ⟨.ret _ _ (.t _ _ (.cons _ _ _ _ (.ag _ _ (by (exact Zru))) (.cons _ _ _ _ (.i _ _) (.cons _ _ _ _ (.i _ _) .nil)))), .nil⟩
structure Aq (ap : Ap) where
 w : Wd
 f : Sy
 os : List O
 l : Nat
 n : Nat
 r : Ro
 h : evT ap w.L n (.call f (os.map T.c)) [] l = some r
 hw : w.1 ≠ []
 hl : l < 1000000000
 ho : os.length < 90000
def spAq (ap : Ap) : Sp where
 ι := Aq ap
 A x := [.sl 32 (x.w.1.map Et.g), .a (sg x.f), .sl 7 (x.os.map O.g), .c (.i .i64 x.l)]
 B _ := []
 R x := .ret (resT x.l x.r)
 B' _ := []
 inj i j vs bs h k _ _ := by
  obtain ⟨_, _, h1, k1, h, k⟩ := h.two k
  obtain ⟨_, _, h2, k2, h, k⟩ := h.two k
  obtain ⟨_, _, h3, k3, h, k⟩ := h.two k
  obtain ⟨_, _, h4, k4, h, k⟩ := h.two k
  have e1 := sg_inj (h2.a_inj k2)
  have e2 := mapg_inj (h3.sl_inj k3)
  have e5 : i.w.L = j.w.L := mapEt_key (h1.sl_inj k1)
  have e6 : i.l = j.l := by have := (G.i.inj (h4.c_inj k4)).2; omega
  have hr : i.r = j.r := evT_det (n := i.n) (m := j.n) i.h (by rw [e5, e1, e2, e6]; exact j.h)
  rw [hr, e6]; exact ⟨rfl, rfl⟩
theorem kApply11 {ap : Ap} (hap : Know 77 (spAp ap)) : Know 29 (spAq ap) := know (fun fn h => r29_ok h) [(40, _), (42, _), (41, _)] (.cons kConst (.cons kApp (.cons (kTermT hap) .nil))) fun U fn hfn ⟨w, f, os, l, m, r, hr, hw, hl, ho⟩ vs bs hv hb => by
 have hC := hfn 40 _ rfl
 have hP := hfn 42 _ rfl
 have hT := hfn 41 _ rfl
 change RVs [.sl 32 (w.1.map Et.g), .a [.s f.1, .s f.2], .sl 7 (os.map O.g), .c (.i .i64 l)] vs at hv
 change RBs [] bs at hb
 show Sat U _ fun v bs' => RRes (.ret (resT l r)) v ∧ RBs [] bs'
 unfold r29
 (refine Zz ?_;with_reducible repeat' first|intro _|apply aI)
 refine sLp (fun (i : Nat) vs bs => ∃ (t : Tre Q) (off : Nat) (t2 : Tre Q) (off2 : Nat) (v : V) (acc : List T) (q : Q), vs = [.slice t 32 off w.1.length .no, .slice t2 7 off2 os.length .no, .int .i64 l, .ptr 0 0, .ptr 1 0, .int .i64 i, v] ∧ bs = [.opa q 2, .cells [.int .i64 0, .str 0 0, .str 0 0, .str 0 0, .str 0 0, .str 0 0, .slice .nil 0 0 0 .exact], .tok acc.length 11] ∧ TokS 2 11 (acc.map T.g) v ∧ Rws 32 (w.1.map Et.g) t off ∧ Rws 7 (os.map O.g) t2 off2 ∧ Cel [.s f.1, .s f.2] q 0 ∧ acc = (os.take i).map T.c ∧ acc.length = i ∧ i ≤ os.length) (fun i => os.length - i) 0
  ⟨_, _, _, _, _, [], _, rfl, rfl, .b rfl, by assumption, by assumption, by assumption, rfl, rfl, by omega⟩ (by simp only [FUEL]; omega) ?_
 rintro self i _ _ ⟨t, off, t2, off2, v, acc, q, rfl, rfl, htk, ht, ht2, hq, hacc, hlen, hi⟩ ih
 (refine Zz ?_;with_reducible repeat' first|intro _|apply aI)
 ·refine sCall hC os[i] (r := .a (T.c os[i]).g) rfl oA .nil fun _ _ _ _ => ?_
  (refine Zz ?_;with_reducible repeat' first|intro _|apply aI)
  refine sAT1 (by assumption) (r := (T.c os[i]).g) (fun _ => rowN (by rw [T.g_len]; decide) (by assumption)) (T.g_len _) (by simp) (by simp only [List.length_map]; omega) fun _ _ => ?_
  (refine Zz ?_;with_reducible repeat' first|intro _|apply aI)
  exact ih (i + 1) _ _ ⟨_, _, _, _, _, acc ++ [T.c os[i]], _, rfl, (by rw [List.length_append]; rfl), .a _ _ (by simp) (by rw [List.map_append]; assumption), ht, ht2, hq, (by rw [hacc, List.take_add_one, List.getElem?_eq_getElem (by omega), List.map_append]; rfl), by simp [hlen], by omega⟩ (by omega)
 ·have e9 : acc = os.map T.c := by rw [hacc, List.take_of_length_le (by omega)]
  refine sCall hP (f, os.map T.c) (r := .a (T.call f (os.map T.c)).g) rfl (.cons _ _ _ _ (.a _ _ _ rfl (by assumption)) (.cons _ _ _ _ (.sl _ _ _ _ _ (by simp [e9]) (by rw [← e9]; assumption)) .nil)) .nil fun _ _ _ _ => ?_
  (refine Zz ?_;with_reducible repeat' first|intro _|apply aI)
  by_cases h0 : r.2.1 = 0
  ·have er : resT l r = .t [.a r.1.g, .c (.i .i64 ((l : Int) - r.2.2)), .c (.i .i64 0)] := if_pos h0
   rw [er]
   refine sCall hT ⟨w, .call f (os.map T.c), [], l, m, r, hr, hw, hl⟩ (r := .t [.a r.1.g, .c (.i .i64 ((l : Int) - r.2.2)), .c (.i .i64 0)]) (by show GRes.ret (resT l r) = _; rw [er]) (.cons _ _ _ _ (.sl _ _ _ _ _ (by simp) ht) (.cons _ _ _ _ (.a _ _ _ (T.g_len _).symm (by assumption)) (.cons _ _ _ _ (.sl0 _ _ _) (.cons _ _ _ _ (.i _ _) .nil)))) .nil fun _ _ _ _ => ?_
   (refine Zz ?_;with_reducible repeat' first|intro _|apply aI)
   refine oR fun _ _ => ?_
   (refine Zz ?_;with_reducible repeat' first|intro _|apply aI)
   exact sRet ⟨.ret _ _ (.t _ _ (.cons _ _ _ _ oV (.cons _ _ _ _ (.i _ _) (.cons _ _ _ _ (.i _ _) .nil)))), .nil⟩
  ·have er : resT l r = .t [.a O.no.g, .c (.i .i64 0), .c (.i .i64 r.2.1)] := if_neg h0
   rw [er]
   refine sCall hT ⟨w, .call f (os.map T.c), [], l, m, r, hr, hw, hl⟩ (r := .t [.a O.no.g, .c (.i .i64 0), .c (.i .i64 r.2.1)]) (by show GRes.ret (resT l r) = _; rw [er]) (.cons _ _ _ _ (.sl _ _ _ _ _ (by simp) ht) (.cons _ _ _ _ (.a _ _ _ (T.g_len _).symm (by assumption)) (.cons _ _ _ _ (.sl0 _ _ _) (.cons _ _ _ _ (.i _ _) .nil)))) .nil fun _ _ _ _ => ?_
   (refine Zz ?_;with_reducible repeat' first|intro _|apply aI)
   exact sRet ⟨.ret _ _ (.t _ _ (.cons _ _ _ _ oV (.cons _ _ _ _ (.i _ _) (.cons _ _ _ _ (.i _ _) .nil)))), .nil⟩
end
end Go.Proofs.YtccafnaghnbpeaaGreatDoor
