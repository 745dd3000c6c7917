/- The reference's objects: which are formed, which are valid; lists; numbers. -/
import Derived.Test.YtccafnaghnbpeaaGreatDoorCR5c
set_option linter.all false
namespace Go.Proofs.YtccafnaghnbpeaaGreatDoor
open Go.Abs LQ
set_option maxRecDepth 100000
set_option maxHeartbeats 4000000
noncomputable section
section
variable {U : CombU} {P : VRes → List Bx → Prop}
theorem sCndEqT {a b : Int} {x y : Om} (h : a = b) (k : Sat U x P) : Sat U (U.cnd (U.iEq a b) x y) P := sCnd trEq (fun _ => k) (fun n => absurd h n)
theorem sCndEqF {a b : Int} {x y : Om} (h : ¬ a = b) (k : Sat U y P) : Sat U (U.cnd (U.iEq a b) x y) P := sCnd trEq (fun n => absurd n h) (fun _ => k)
theorem sCndS0 {s : List UInt8} {l c : Nat} {x y : Om} (h : s = dec l c) (k : Sat U x P) : Sat U (U.cnd (U.sEq s.length (code s) l c) x y) P := sCnd trSL (fun _ => k) (fun n => absurd h n)
theorem sCndBandS {s : List UInt8} {l c : Nat} {b : Bool} {x y : Om} (h : s = dec l c) (k : Sat U (U.cnd b x y) P) : Sat U (U.cnd (U.band (U.sEq s.length (code s) l c) b) x y) P := fun e => by
 have := k e
 have e1 : U.sEq s.length (code s) l c = true := by subst e; rw [cuSL]; exact decide_eq_true h
 rw [e1]
 subst e
 exact this
end
theorem Zz {p q : Prop} (k : q) (h : Tr p q := by ((repeat' (first | (with_reducible apply Tr.all) | (with_reducible intro _) | (apply Tr.b; (case f => first | exact sCndEqT (by decide) | exact sCndEqF (by decide) | exact sCndS0 (by rfl) | exact sCndBandS (by rfl) | exact sCndBandT | exact sCons | exact sConsR (by assumption) | exact sNil | exact sNilR (by assumption) | exact sNilB | exact sNilBR (by assumption) | exact sConsB | exact sConsBR (by assumption) | exact sP | exact sPR (by assumption) | exact sIV | exact sI (by assumption) | exact sBV | exact sBK | exact sB (by assumption) | exact sSV | exact sS (by assumption) | exact sA | exact sAR (by assumption) (by rfl) | exact sSlV (by rfl) | exact sSlN (by rfl) | exact sSlTM (by assumption) (by rfl) | exact sSlT (by assumption) (by rfl) | exact sSlM (by assumption) | exact sSl (by assumption) | exact sTu (by assumption) | exact sBo | exact sBoR (by assumption) (by rfl) | exact sBc | exact sBcR (by assumption) | exact sBt | exact sBs | exact sBr | exact sfSub0 (by assumption) | exact sfSub (by assumption) | exact sfCel (by assumption) (by rfl) | exact sCS' (by assumption) (by rfl) | exact sCI' (by assumption) (by rfl) | exact sCB' (by assumption) (by rfl) | exact sCS (by assumption) | exact sCI (by assumption) | exact sCB (by assumption) | exact sfIdxN (by first | omega | (simp only [List.length_map] at *; omega)) | exact sfIdx (by first | omega | (simp only [List.length_map] at *; omega)) | exact sfOfN | exact sfAddNI | exact sfSubNI | exact sfNat | exact sfMulI | exact sfAddN | exact sfSubN | exact sfBSelN | exact sfBSelE | exact sfB | exact sJn | exact sCndT | exact sCndF | exact sCndN | exact sCSlM (by assumption) (by (first | exact mapLen O.g_len | exact mapLen (fun _ => rfl))) | exact sCSl (by assumption) (by (first | exact mapLen O.g_len | exact mapLen (fun _ => rfl))) | exact sfWrA (by first | omega | (simp only [List.length_map] at *; omega)) | exact sfWrS (by first | omega | (simp only [List.length_map] at *; omega)) | exact sfTi (by assumption) (by first | assumption | omega | (simp only [List.length_map] at *; omega)) | exact sfT (by assumption) (by rfl))) | (apply Tr.chk; (case ht => (repeat' (first | exact trT | exact trF | apply trNot | apply trAnd | exact trLtN | exact trLeN | exact trLt | exact trLe | exact trEq | exact trnLe3 | exact trnLe4 | exact trnLe2 | exact trnLe1 | exact trnLe | exact trnEq | exact trSS | exact trSL | exact trS | exact trV))); (case hp => first | omega | (simp only [List.length_map] at *; omega))) | (apply Tr.cnd; (case ht => (repeat' (first | exact trT | exact trF | apply trNot | apply trAnd | exact trLtN | exact trLeN | exact trLt | exact trLe | exact trEq | exact trnLe3 | exact trnLe4 | exact trnLe2 | exact trnLe1 | exact trnLe | exact trnEq | exact trSS | exact trSL | exact trS | exact trV)))))); all_goals exact Tr.refl)) : p := h.go k
def O.sm : O → Prop
 | .num n d => (showInt n).length < 9000 ∧ (showNat d).length < 9000
 | .sy s => s.1.length < 9000 ∧ s.2.length < 9000
 | .tx s => s.length < 9000
 | .co a d => a.sm ∧ d.sm
 | .no => True
def O.fm : O → Bool
 | .num n d => decide (reduceS (showInt n) (showNat d) = (showInt n, showNat d) ∧ digitsS (showInt n) ≤ 100 ∧ digitsS (showNat d) ≤ 100)
 | .sy s => named s
 | .tx s => decide (s.length ≤ 200)
 | .co a d => a.fm && d.fm
 | .no => false
def spOsm (g : O → GV) : Sp where
 ι := { o : O // o.sm }
 A o := [.a o.1.g]
 B _ := []
 R o := .ret (g o.1)
 B' _ := []
 inj i j vs bs h k _ _ := by rw [a1_inj h k]; exact ⟨rfl, rfl⟩
theorem kFormed : Know 155 (spOsm fun a => .c (.b a.fm)) := know_rec (fun p => p.1.size) fun n ih => know (fun fn h => r155_ok h) [(155, (spOsm fun a => .c (.b a.fm)).lt _ n), (37, _), (193, _), (191, _)] (.cons ih (.cons kReduce (.cons kNDigits (.cons kNamed2 .nil)))) fun U fn hfn ⟨⟨a, hsm⟩, hn⟩ vs bs hv hb => by
 have hr := hfn 155 _ rfl
 have hred := hfn 37 _ rfl
 have hdg := hfn 193 _ rfl
 have hnm := hfn 191 _ rfl
 have hv : RVs [.a a.g] vs := hv
 have hb : RBs [] bs := hb
 have hn : a.size < n + 1 := hn
 show Sat U _ fun v bs' => RRes (.ret (.c (.b a.fm))) v ∧ RBs [] bs'
 unfold r155
 rw [a.g_eq] at hv
 cases a with
 | num m d =>
  simp only [O.k, O.nu, O.de, O.sym, O.txt, O.ps] at hv
  have hs1 : (showInt m).length < 9000 := hsm.1
  have hs2 : (showNat d).length < 9000 := hsm.2
  (refine Zz ?_;with_reducible repeat' first|intro _|apply aI)
  refine sCall hred ⟨(showInt m, showNat d), hs1, hs2⟩ (r := .t [.c (.s (reduceS (showInt m) (showNat d)).1), .c (.s (reduceS (showInt m) (showNat d)).2)]) rfl Zrv .nil fun _ _ _ _ => ?_
  have hfm : (O.num m d).fm = decide (reduceS (showInt m) (showNat d) = (showInt m, showNat d) ∧ digitsS (showInt m) ≤ 100 ∧ digitsS (showNat d) ≤ 100) := rfl
  rw [hfm]
  generalize reduceS (showInt m) (showNat d) = q at *
  obtain ⟨q1, q2⟩ := q
  simp only at *
  (refine Zz ?_;with_reducible repeat' first|intro _|apply aI)
  ·have e1 := ‹q1 = showInt m›
   have e2 := ‹q2 = showNat d›
   subst e1 e2
   refine sCall hdg ⟨showInt m, by omega⟩ (r := .c (.i .i64 (digitsS (showInt m)))) rfl Zrv .nil fun _ _ _ _ => ?_
   (refine Zz ?_;with_reducible repeat' first|intro _|apply aI)
   ·refine sCall hdg ⟨showNat d, by omega⟩ (r := .c (.i .i64 (digitsS (showNat d)))) rfl Zrv .nil fun _ _ _ _ => ?_
    (refine Zz ?_;with_reducible repeat' first|intro _|apply aI)
    refine sRetU fun e => ?_
    subst e
    refine ⟨.ret _ _ (rvB ?_), .nil⟩
    rw [cuLe]
    apply decide_eq_decide.2
    constructor
    ·intro h; have := h.2.2; omega
    ·intro h; exact ⟨rfl, by omega, by omega⟩
   ·exact sRet ⟨.ret _ _ (rvK (decide_eq_false fun h => by have := h.2.1; omega)), .nil⟩
  all_goals exact sRet ⟨.ret _ _ (rvK (decide_eq_false fun h => by injection h.1 with k1 k2; contradiction)), .nil⟩
 | sy s =>
  simp only [O.k, O.nu, O.de, O.sym, O.txt, O.ps] at hv
  have hs1 : s.1.length < 9000 := hsm.1
  have hs2 : s.2.length < 9000 := hsm.2
  (refine Zz ?_;with_reducible repeat' first|intro _|apply aI)
  have hc := (‹Cel (List.drop 3 _) _ 0›).take 2
  refine sCall hnm ⟨s, by omega, by omega⟩ (r := .c (.b (named s))) rfl (.cons _ _ _ _ (.a _ _ _ rfl (by exact hc)) .nil) .nil fun _ _ _ _ => ?_
  have hfm : (O.sy s).fm = named s := rfl
  rw [hfm]
  (refine Zz ?_;with_reducible repeat' first|intro _|apply aI)
  ·refine sRetU fun e => ?_
   subst e
   refine ⟨.ret _ _ (rvB ?_), .nil⟩
   rw [cuEq, ‹named s = true›]
   rfl
  ·exact sRet ⟨.ret _ _ (rvK (Bool.eq_false_iff.2 ‹¬ named s = true›)), .nil⟩
 | tx s =>
  simp only [O.k, O.nu, O.de, O.sym, O.txt, O.ps] at hv
  have hfm : (O.tx s).fm = decide (s.length ≤ 200) := rfl
  rw [hfm]
  (refine Zz ?_;with_reducible repeat' first|intro _|apply aI)
  ·refine sRetU fun e => ?_
   subst e
   refine ⟨.ret _ _ (rvB ?_), .nil⟩
   rw [cuEq, decide_eq_true (by omega : s.length ≤ 200)]
   rfl
  ·exact sRet ⟨.ret _ _ (rvK (decide_eq_false (by omega))), .nil⟩
 | co a d =>
  simp only [O.k, O.nu, O.de, O.sym, O.txt, O.ps] at hv
  have hfm : (O.co a d).fm = (a.fm && d.fm) := rfl
  have hsz : (O.co a d).size = 1 + a.size + d.size := rfl
  rw [hsz] at hn
  rw [hfm]
  (refine Zz ?_;with_reducible repeat' first|intro _|apply aI)
  ·refine sCall hr ⟨⟨a, hsm.1⟩, show a.size < n by omega⟩ (r := .c (.b a.fm)) rfl Zrv .nil fun _ _ _ _ => ?_
   (refine Zz ?_;with_reducible repeat' first|intro _|apply aI)
   ·refine sCall hr ⟨⟨d, hsm.2⟩, show d.size < n by omega⟩ (r := .c (.b d.fm)) rfl Zrv .nil fun _ _ _ _ => ?_
    (refine Zz ?_;with_reducible repeat' first|intro _|apply aI)
    rw [‹a.fm = true›, Bool.true_and]
    exact sRet ⟨.ret _ _ Zrv, .nil⟩
   ·exact sRet ⟨.ret _ _ (rvK (by rw [Bool.eq_false_iff.2 ‹¬ a.fm = true›]; rfl)), .nil⟩
  ·exact absurd rfl ‹¬ (([a, d].length : Nat) : Int) = 2›
 | no =>
  simp only [O.k, O.nu, O.de, O.sym, O.txt, O.ps] at hv
  (refine Zz ?_;with_reducible repeat' first|intro _|apply aI)
  exact sRet ⟨.ret _ _ (rvK rfl), .nil⟩
theorem kValid2 : Know 107 (spOsm fun a => .c (.b (decide (a.size ≤ 3000) && a.fm))) := know (fun fn h => r107_ok h) [(154, _), (155, _)] (.cons kNodes (.cons kFormed .nil)) fun U fn hfn ⟨a, hsm⟩ vs bs hv hb => by
 have hn := hfn 154 _ rfl
 have hf := hfn 155 _ rfl
 have hv : RVs [.a a.g] vs := hv
 have hb : RBs [] bs := hb
 show Sat U _ fun v bs' => RRes (.ret (.c (.b (decide (a.size ≤ 3000) && a.fm)))) v ∧ RBs [] bs'
 unfold r107
 refine sConsR hv fun v l hv1 hv2 => ?_
 refine sAR hv1 a.g_len fun qa ha => ?_
 (refine Zz ?_;with_reducible repeat' first|intro _|apply aI)
 refine sCall hn a (r := .c (.i .i64 (min a.size 3001 : Nat))) rfl Zrv .nil fun _ _ _ _ => ?_
 (refine Zz ?_;with_reducible repeat' first|intro _|apply aI)
 ·refine sCall hf ⟨a, hsm⟩ (r := .c (.b a.fm)) rfl Zrv .nil fun _ _ _ _ => ?_
  (refine Zz ?_;with_reducible repeat' first|intro _|apply aI)
  rw [decide_eq_true (by omega : a.size ≤ 3000), Bool.true_and]
  exact sRet ⟨.ret _ _ Zrv, .nil⟩
 ·exact sRet ⟨.ret _ _ (rvK (by rw [decide_eq_false (by omega : ¬ a.size ≤ 3000)]; rfl)), .nil⟩
end
end Go.Proofs.YtccafnaghnbpeaaGreatDoor
