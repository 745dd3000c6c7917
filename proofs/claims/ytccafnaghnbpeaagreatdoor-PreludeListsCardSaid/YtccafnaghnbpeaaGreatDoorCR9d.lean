/- Primitives applied. -/
import Derived.Test.YtccafnaghnbpeaaGreatDoorCR9c
set_option linter.all false
namespace Go.Proofs.YtccafnaghnbpeaaGreatDoor
open Go.Abs LQ
set_option maxRecDepth 100000
set_option maxHeartbeats 4000000
noncomputable section
open Classical in
def apV (o : O) : Option (O × Int) := if o.sm then some (if decide (o.size ≤ 3000) && o.fm then (o, 0) else (.no, 2)) else none
def apO : Ap := fun f os => match primOf f with
 | none => some (.no, 7)
 | some n => if (os.length : Int) = n then (match os with
  | [a] => (oneO f.2 a).bind apV
  | [a, b] => (twoO f.2 a b).bind apV
  | [a, b, c] => apV (if O.eqb a nilO then c else b)
  | _ => none) else some (.no, 5)
theorem apV_some {o : O} {r : O × Int} (h : apV o = some r) : o.sm ∧ r = (if decide (o.size ≤ 3000) && o.fm then (o, 0) else (.no, 2)) := by
 unfold apV at h
 split at h
 ·injection h with h; exact ⟨by assumption, h.symm⟩
 ·cases h
theorem kApply7 (hItoa : Itoa) : Know 77 (spAp apO) := know (fun fn h => r77_ok h) [(75, _), (104, _), (105, _), (106, _), (107, _)] (.cons kArity7 (.cons (kOne hItoa) (.cons (kTwo hItoa) (.cons kIsNil (.cons kValid2 .nil))))) fun U fn hfn ⟨((f, os), r), hr⟩ vs bs hv hb => by
 have hY := hfn 75 _ rfl
 have h1 := hfn 104 _ rfl
 have h2 := hfn 105 _ rfl
 have hN := hfn 106 _ rfl
 have hV := hfn 107 _ rfl
 change RVs [.a [.s f.1, .s f.2], .sl 7 (os.map O.g)] vs at hv
 change RBs [] bs at hb
 have hr : apO f os = some r := hr
 show Sat U _ fun v bs' => RRes (.ret (.t [.a r.1.g, .c (.i .i64 r.2)])) v ∧ RBs [] bs'
 unfold r77
 unfold apO at hr
 (refine Zz ?_;with_reducible repeat' first|intro _|apply aI)
 cases ep : primOf f with
 | none =>
  rw [ep] at hr
  injection hr with hr
  subst hr
  refine sCall hY f (r := .t [.c (.i .i64 0), .c (.b false)]) (by show GRes.ret (okI (primOf f)) = _; rw [ep]; rfl) Zrv .nil fun _ _ _ _ => ?_
  (refine Zz ?_;with_reducible repeat' first|intro _|apply aI)
  exact sRet ⟨rrNo _, .nil⟩
 | some n =>
  rw [ep] at hr
  simp only at hr
  refine sCall hY f (r := .t [.c (.i .i64 n), .c (.b true)]) (by show GRes.ret (okI (primOf f)) = _; rw [ep]; rfl) Zrv .nil fun _ _ _ _ => ?_
  by_cases hn : (os.length : Int) = n
  ·rw [if_pos hn] at hr
   (refine Zz ?_;with_reducible repeat' first|intro _|apply aI)
   ·
    have h1n : n = 1 := by assumption
    have hl : os.length = 1 := by omega
    obtain ⟨a, rfl⟩ : ∃ a, os = [a] := by
     match os, hl with
     | [a], _ => exact ⟨a, rfl⟩
    cases e1 : oneO f.2 a with
    | none => simp only [e1] at hr; cases hr
    | some o =>
    simp only [e1] at hr
    obtain ⟨hs, hrr⟩ := apV_some hr
    refine sCall h1 ⟨((f.2, a), o), e1⟩ (r := .a o.g) rfl (.cons _ _ _ _ Zrv oA) .nil fun _ _ _ _ => ?_
    (refine Zz ?_;with_reducible repeat' first|intro _|apply aI)
    refine oR fun _ _ => ?_
    (refine Zz ?_;with_reducible repeat' first|intro _|apply aI)
    cases eb : (decide ((o).size ≤ 3000) && (o).fm) with
    | true =>
     rw [eb] at hrr
     simp only [if_true, Bool.false_eq_true, if_false] at hrr
     subst hrr
     refine sCall hV ⟨o, hs⟩ (r := .c (.b true)) (by show GRes.ret (.c (.b (decide ((o).size ≤ 3000) && (o).fm))) = _; rw [eb]) oA .nil fun _ _ _ _ => ?_
     (refine Zz ?_;with_reducible repeat' first|intro _|apply aI)
     exact sRet ⟨rrA (by assumption) _, .nil⟩
    | false =>
     rw [eb] at hrr
     simp only [if_true, Bool.false_eq_true, if_false] at hrr
     subst hrr
     refine sCall hV ⟨o, hs⟩ (r := .c (.b false)) (by show GRes.ret (.c (.b (decide ((o).size ≤ 3000) && (o).fm))) = _; rw [eb]) oA .nil fun _ _ _ _ => ?_
     (refine Zz ?_;with_reducible repeat' first|intro _|apply aI)
     exact sRet ⟨rrNo _, .nil⟩
   ·
    have h1n : n = 2 := by assumption
    have hl : os.length = 2 := by omega
    obtain ⟨a, b, rfl⟩ : ∃ a b, os = [a, b] := by
     match os, hl with
     | [a, b], _ => exact ⟨a, b, rfl⟩
    cases e1 : twoO f.2 a b with
    | none => simp only [e1] at hr; cases hr
    | some o =>
    simp only [e1] at hr
    obtain ⟨hs, hrr⟩ := apV_some hr
    refine sCall h2 ⟨((f.2, a, b), o), e1⟩ (r := .a o.g) rfl (.cons _ _ _ _ Zrv (.cons _ _ _ _ oV oA)) .nil fun _ _ _ _ => ?_
    (refine Zz ?_;with_reducible repeat' first|intro _|apply aI)
    refine oR fun _ _ => ?_
    (refine Zz ?_;with_reducible repeat' first|intro _|apply aI)
    cases eb : (decide ((o).size ≤ 3000) && (o).fm) with
    | true =>
     rw [eb] at hrr
     simp only [if_true, Bool.false_eq_true, if_false] at hrr
     subst hrr
     refine sCall hV ⟨o, hs⟩ (r := .c (.b true)) (by show GRes.ret (.c (.b (decide ((o).size ≤ 3000) && (o).fm))) = _; rw [eb]) oA .nil fun _ _ _ _ => ?_
     (refine Zz ?_;with_reducible repeat' first|intro _|apply aI)
     exact sRet ⟨rrA (by assumption) _, .nil⟩
    | false =>
     rw [eb] at hrr
     simp only [if_true, Bool.false_eq_true, if_false] at hrr
     subst hrr
     refine sCall hV ⟨o, hs⟩ (r := .c (.b false)) (by show GRes.ret (.c (.b (decide ((o).size ≤ 3000) && (o).fm))) = _; rw [eb]) oA .nil fun _ _ _ _ => ?_
     (refine Zz ?_;with_reducible repeat' first|intro _|apply aI)
     exact sRet ⟨rrNo _, .nil⟩
   have key : ∃ _ : os.length = 3, apV (if O.eqb os[0] nilO then os[2] else os[1]) = some r := by
    have n1 : ¬ n = 1 := by assumption
    have n2 : ¬ n = 2 := by assumption
    clear hv
    match os, hr, hn with
    | [], hr, _ => cases hr
    | [a], _, hn => exact absurd (by rw [← hn]; rfl) n1
    | [a, b], _, hn => exact absurd (by rw [← hn]; rfl) n2
    | [a, b, c], hr, _ => exact ⟨rfl, hr⟩
    | _ :: _ :: _ :: _ :: _, hr, _ => cases hr
   obtain ⟨hl, key⟩ := key
   (refine Zz ?_;with_reducible repeat' first|intro _|apply aI)
   cases en : O.eqb os[0] nilO with
   | true =>
    rw [en] at key
    simp only [if_true, Bool.false_eq_true, if_false] at key
    obtain ⟨hs, hrr⟩ := apV_some key
    refine sCall hN os[0] (r := .c (.b true)) (by show GRes.ret (.c (.b (O.eqb os[0] nilO))) = _; rw [en]) oA .nil fun _ _ _ _ => ?_
    (refine Zz ?_;with_reducible repeat' first|intro _|apply aI)
    cases eb : (decide ((os[2]).size ≤ 3000) && (os[2]).fm) with
    | true =>
     rw [eb] at hrr
     simp only [if_true, Bool.false_eq_true, if_false] at hrr
     subst hrr
     refine sCall hV ⟨os[2], hs⟩ (r := .c (.b true)) (by show GRes.ret (.c (.b (decide ((os[2]).size ≤ 3000) && (os[2]).fm))) = _; rw [eb]) oA .nil fun _ _ _ _ => ?_
     (refine Zz ?_;with_reducible repeat' first|intro _|apply aI)
     exact sRet ⟨rrA (by assumption) _, .nil⟩
    | false =>
     rw [eb] at hrr
     simp only [if_true, Bool.false_eq_true, if_false] at hrr
     subst hrr
     refine sCall hV ⟨os[2], hs⟩ (r := .c (.b false)) (by show GRes.ret (.c (.b (decide ((os[2]).size ≤ 3000) && (os[2]).fm))) = _; rw [eb]) oA .nil fun _ _ _ _ => ?_
     (refine Zz ?_;with_reducible repeat' first|intro _|apply aI)
     exact sRet ⟨rrNo _, .nil⟩
   | false =>
    rw [en] at key
    simp only [if_true, Bool.false_eq_true, if_false] at key
    obtain ⟨hs, hrr⟩ := apV_some key
    refine sCall hN os[0] (r := .c (.b false)) (by show GRes.ret (.c (.b (O.eqb os[0] nilO))) = _; rw [en]) oA .nil fun _ _ _ _ => ?_
    (refine Zz ?_;with_reducible repeat' first|intro _|apply aI)
    cases eb : (decide ((os[1]).size ≤ 3000) && (os[1]).fm) with
    | true =>
     rw [eb] at hrr
     simp only [if_true, Bool.false_eq_true, if_false] at hrr
     subst hrr
     refine sCall hV ⟨os[1], hs⟩ (r := .c (.b true)) (by show GRes.ret (.c (.b (decide ((os[1]).size ≤ 3000) && (os[1]).fm))) = _; rw [eb]) oA .nil fun _ _ _ _ => ?_
     (refine Zz ?_;with_reducible repeat' first|intro _|apply aI)
     exact sRet ⟨rrA (by assumption) _, .nil⟩
    | false =>
     rw [eb] at hrr
     simp only [if_true, Bool.false_eq_true, if_false] at hrr
     subst hrr
     refine sCall hV ⟨os[1], hs⟩ (r := .c (.b false)) (by show GRes.ret (.c (.b (decide ((os[1]).size ≤ 3000) && (os[1]).fm))) = _; rw [eb]) oA .nil fun _ _ _ _ => ?_
     (refine Zz ?_;with_reducible repeat' first|intro _|apply aI)
     exact sRet ⟨rrNo _, .nil⟩
   exact absurd hn (by assumption)
  ·rw [if_neg hn] at hr
   injection hr with hr
   subst hr
   (refine Zz ?_;with_reducible repeat' first|intro _|apply aI)
   all_goals first
    | exact absurd (by assumption) hn
    | exact sRet ⟨rrNo _, .nil⟩
end
end Go.Proofs.YtccafnaghnbpeaaGreatDoor
