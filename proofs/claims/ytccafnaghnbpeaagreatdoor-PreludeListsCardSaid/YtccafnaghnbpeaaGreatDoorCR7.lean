/- The reference's evaluator: bindings, calls, functions of a world. -/
import Derived.Test.YtccafnaghnbpeaaGreatDoorCR6
set_option linter.all false
namespace Go.Proofs.YtccafnaghnbpeaaGreatDoor
open Go.Abs LQ
set_option maxRecDepth 100000
set_option maxHeartbeats 4000000
noncomputable section
theorem sg_len (s : Sy) : (sg s).length = 2 := rfl
theorem mapsg_inj : ∀ {l m : List Sy}, l.map sg = m.map sg → l = m
 | [], [], _ => rfl
 | [], _ :: _, h => by simp at h
 | _ :: _, [], h => by simp at h
 | a :: l, b :: m, h => by simp only [List.map_cons, List.cons.injEq] at h; exact congr (congrArg List.cons (sg_inj h.1)) (mapsg_inj h.2)
theorem bd_len (b : Sy × O) : (bd b).length = 9 := rfl
theorem bdRow {s : Sy} {o : O} {x y : Q} (h : Cel (sg s) x 0) (k : Cel o.g y 0) : Row (bd (s, o)) (.agg [CU.celQ x 0, CU.celQ x 1, CU.celQ y 0, CU.celQ y 1, CU.celQ y 2, CU.celQ y 3, CU.celQ y 4, CU.celQ y 5, CU.celQ y 6] 0) := by
 rw [o.g_eq] at k
 exact rowN (by rw [bd_len]; decide) (CelL.cel (.cons _ _ _ _ (Cel.at h rfl) (.cons _ _ _ _ (Cel.at h rfl) (.cons _ _ _ _ (Cel.at k rfl) (.cons _ _ _ _ (Cel.at k rfl) (.cons _ _ _ _ (Cel.at k rfl) (.cons _ _ _ _ (Cel.at k rfl) (.cons _ _ _ _ (Cel.at k rfl) (.cons _ _ _ _ (Cel.at k rfl) (.cons _ _ _ _ (Cel.at k rfl) .nil))))))))))
def spBind : Sp where
 ι := { p : List Sy × List O // p.1.length < 90000 }
 A p := [.sl 2 (p.1.1.map sg), .sl 7 (p.1.2.map O.g)]
 B _ := []
 R p := .ret (.sl 9 ((List.zip p.1.1 p.1.2).map bd))
 B' _ := []
 inj i j vs bs h k _ _ := by
  obtain ⟨_, _, h1, k1, h, k⟩ := h.two k
  obtain ⟨_, _, h2, k2, h, k⟩ := h.two k
  rw [mapsg_inj (h1.sl_inj k1), mapg_inj (h2.sl_inj k2)]; exact ⟨rfl, rfl⟩
theorem zip_take_snoc {α β : Type} (l : List α) (m : List β) (i : Nat) (h : i < l.length) (k : i < m.length) : (List.zip l m).take (i + 1) = (List.zip l m).take i ++ [(l[i], m[i])] := by
 rw [List.take_add_one, List.getElem?_eq_getElem (by simp; omega)]
 simp
theorem kBind : Know 78 spBind := know (fun fn h => r78_ok h) [] .nil fun U fn hfn ⟨(l, m), hl⟩ vs bs hv hb => by
 have hl : l.length < 90000 := hl
 have hv : RVs [.sl 2 (l.map sg), .sl 7 (m.map O.g)] vs := hv
 have hb : RBs [] bs := hb
 show Sat U _ fun v bs' => RRes (.ret (.sl 9 ((List.zip l m).map bd))) v ∧ RBs [] bs'
 unfold r78
 (refine Zz ?_;with_reducible repeat' first|intro _|apply aI)
 refine sLp (fun (i : Nat) vs bs => ∃ (t : Tre Q) (off : Nat) (t2 : Tre Q) (off2 : Nat) (v : V) (acc : List (Sy × O)), vs = [.slice t 2 off l.length .no, .slice t2 7 off2 m.length .no, .int .i64 i, v] ∧ bs = [.tok acc.length 9] ∧ TokS 0 9 (acc.map bd) v ∧ Rws 2 (l.map sg) t off ∧ Rws 7 (m.map O.g) t2 off2 ∧ acc = (List.zip l m).take i ∧ acc.length = i ∧ i ≤ l.length ∧ i ≤ m.length) (fun i => l.length - i) 0
  ⟨_, _, _, _, _, [], rfl, rfl, .b rfl, by assumption, by assumption, rfl, rfl, by omega, by omega⟩ (by simp only [FUEL]; omega) ?_
 rintro self i _ _ ⟨t, off, t2, off2, v, acc, rfl, rfl, htk, ht, ht2, hacc, hlen, hi, hi2⟩ ih
 (refine Zz ?_;with_reducible repeat' first|intro _|apply aI)
 ·refine sAT1 (by assumption) (r := bd (l[i], m[i])) (fun e => by subst e; exact bdRow (by assumption) (by assumption)) rfl (by simp) (by simp only [List.length_map]; omega) fun _ _ => ?_
  (refine Zz ?_;with_reducible repeat' first|intro _|apply aI)
  refine ih (i + 1) _ _ ⟨_, _, _, _, _, acc ++ [(l[i], m[i])], rfl, by simp, .a _ _ (by simp) (by rw [List.map_append]; assumption), ht, ht2, ?_, by simp [hlen], by omega, by omega⟩ (by omega)
  rw [hacc, zip_take_snoc]
 ·have e9 : acc = List.zip l m := by rw [hacc, List.take_of_length_le (by simp; omega)]
  rw [← e9]
  exact sRet ⟨.ret _ _ Zrv, .nil⟩
 ·have e9 : acc = List.zip l m := by rw [hacc, List.take_of_length_le (by simp; omega)]
  rw [← e9]
  exact sRet ⟨.ret _ _ Zrv, .nil⟩
def isC (t : T) (s : Str) (n : Int) : Bool := match t with
 | .call f l => decide (f = (lispS, s)) && decide ((l.length : Int) = n)
 | _ => false
def spIs : Sp where
 ι := T × Str × Int
 A p := [.a p.1.g, .c (.s p.2.1), .c (.i .i64 p.2.2)]
 B _ := []
 R p := .ret (.c (.b (isC p.1 p.2.1 p.2.2)))
 B' _ := []
 inj i j vs bs h k _ _ := by
  obtain ⟨_, _, h1, k1, h, k⟩ := h.two k
  obtain ⟨_, _, h2, k2, h, k⟩ := h.two k
  obtain ⟨_, _, h3, k3, h, k⟩ := h.two k
  rw [T.g_inj (h1.a_inj k1), (G.s.inj (h2.c_inj k2) : i.2.1 = j.2.1), (G.i.inj (h3.c_inj k3)).2]; exact ⟨rfl, rfl⟩
theorem kIs : Know 18 spIs := know (fun fn h => r18_ok h) [(17, _)] (.cons kLisp .nil) fun U fn hfn ⟨t, s, n⟩ vs bs hv hb => by
 have hL := hfn 17 _ rfl
 have hv : RVs [.a t.g, .c (.s s), .c (.i .i64 n)] vs := hv
 have hb : RBs [] bs := hb
 show Sat U _ fun v bs' => RRes (.ret (.c (.b (isC t s n)))) v ∧ RBs [] bs'
 unfold r18
 cases t with
 | v r =>
  simp only [T.g] at hv
  (refine Zz ?_;with_reducible repeat' first|intro _|apply aI)
  all_goals exact sRet ⟨.ret _ _ (rvK rfl), .nil⟩
 | c o =>
  simp only [T.g] at hv
  (refine Zz ?_;with_reducible repeat' first|intro _|apply aI)
  all_goals exact sRet ⟨.ret _ _ (rvK rfl), .nil⟩
 | call f l =>
  simp only [T.g, T.gs_eq] at hv
  (refine Zz ?_;with_reducible repeat' first|intro _|apply aI)
  refine sCall hL s (r := .a [.s lispS, .s s]) rfl Zrv .nil fun _ _ _ _ => ?_
  (refine Zz ?_;with_reducible repeat' first|intro _|apply aI)
  ·refine sCSlM (by assumption) (mapLen T.g_len) fun _ _ _ => ?_
   (refine Zz ?_;with_reducible repeat' first|intro _|apply aI)
   refine sRetU fun e => ?_
   subst e
   refine ⟨.ret _ _ (rvB ?_), .nil⟩
   rw [cuEq, isC, decide_eq_true (Prod.ext (‹_ ∧ _ ∧ True›).1 (‹_ ∧ _ ∧ True›).2.1)]
   rfl
  ·exact sRet ⟨.ret _ _ (rvK (by rw [isC, decide_eq_false (fun h => ‹¬ (_ ∧ _ ∧ True)› ⟨congrArg Prod.fst h, congrArg Prod.snd h, trivial⟩)]; rfl)), .nil⟩
end
end Go.Proofs.YtccafnaghnbpeaaGreatDoor
namespace Go.Abs
noncomputable section
def one (f : G → Q → Bool) (r : List G) (q : Q) : Bool := match r with | [g] => f g q | _ => true
def chkRows (f : G → Q → Bool) (n : Nat) (t : Tre Q) : List (List G) → Nat → Bool
 | [], _ => true
 | r :: rs, off => Nat.beq r.length n && ((chkCel f (tQ t off) r 0) && (one f r (tQ t off) && chkRows f n t rs (off + 1)))
where chkCel (f : G → Q → Bool) (q : Q) : List G → Nat → Bool
 | [], _ => true
 | g :: gs, i => f g (celQ q i) && chkCel f q gs (i + 1)
def chkG : Nat → G → Q → Bool
 | 0, _, _ => false
 | f + 1, g, q => match g, q with
  | .b x, .bool y => x == y
  | .i k n, .int k' n' => decide (k = k') && decide (n = n')
  | .s x, .str l c => Nat.beq l x.length && Nat.beq c (code x)
  | .l xs, .slice t n off len => Nat.beq len xs.length && chkRows (chkG f) n t xs off
  | _, _ => false
theorem chkCel_ok {f : G → Q → Bool} (h : ∀ g q, f g q = true → RG g q) {q : Q} : ∀ {gs : List G} {i : Nat}, chkRows.chkCel f q gs i = true → Cel gs q i
 | [], _, _ => .nil _ _
 | g :: gs, i, e => by
  rw [chkRows.chkCel, Bool.and_eq_true] at e
  exact .cons _ _ _ _ (h _ _ e.1) (chkCel_ok h e.2)
theorem chkRows_ok {f : G → Q → Bool} (h : ∀ g q, f g q = true → RG g q) {n : Nat} {t : Tre Q} : ∀ {xs : List (List G)} {off : Nat}, chkRows f n t xs off = true → Rws n xs t off
 | [], _, _ => .nil _ _ _
 | r :: rs, off, e => by
  rw [chkRows, Bool.and_eq_true, Bool.and_eq_true, Bool.and_eq_true] at e
  obtain ⟨e1, e2, e3, e4⟩ := e
  refine .cons _ _ _ _ _ (Nat.eq_of_beq_eq_true e1) (chkCel_ok h e2) (fun g k => ?_) (chkRows_ok h e4)
  subst k
  exact h _ _ e3
theorem chkG_ok : ∀ (f : Nat) (g : G) (q : Q), chkG f g q = true → RG g q
 | 0, _, _, e => by cases e
 | f + 1, g, q, e => by
  unfold chkG at e
  split at e
  ·have := eq_of_beq e; subst this; exact .b _
  ·rw [Bool.and_eq_true] at e
   have e1 := of_decide_eq_true e.1
   have e2 := of_decide_eq_true e.2
   subst e1 e2; exact .i _ _
  ·rw [Bool.and_eq_true] at e
   exact .s _ _ _ (Nat.eq_of_beq_eq_true e.1) (Nat.eq_of_beq_eq_true e.2)
  ·rw [Bool.and_eq_true] at e
   exact .l _ _ _ _ _ (Nat.eq_of_beq_eq_true e.1) (chkRows_ok (chkG_ok f) e.2)
  ·cases e
end
end Go.Abs
namespace Go.Proofs.YtccafnaghnbpeaaGreatDoor
open Go.Abs LQ
set_option maxRecDepth 100000
set_option maxHeartbeats 4000000
noncomputable section
def prims : List (Str × Int) := [(dec 2 26217, 3), (dec 5 465491554661, 2), (dec 4 1936617315, 2), (dec 3 7496035, 1), (dec 3 7496803, 1), (dec 5 482972954467, 1), (dec 7 31644423040104819, 1), (dec 7 31638921304765555, 1), (dec 9 2073844980909096591730, 1), (dec 8 8102650174351109737, 1), (dec 8 3111276449750739298, 2), (dec 8 3039218855712811362, 2), (dec 7 12716373585260149, 1), (dec 7 13279323538681461, 1), (dec 1 60, 2), (dec 9 2110959975582353159534, 1), (dec 11 138343872958643594702251364, 1), (dec 5 491495844966, 1), (dec 11 122618043001006431572687219, 1), (dec 19 2261903658058535744205936875630873591400986995, 1), (dec 6 121437607456361, 2), (dec 13 7956982234992646578836044149875, 2), (dec 13 8275754203313416711865239762035, 1), (dec 11 122651541423547657927947379, 2), (dec 11 125040764888893661906237794, 1)]
def rg (p : Str × Int) : List G := [.s p.1, .i .i64 p.2]
theorem kRows : Know 103 (sp0 (.sl 2 (prims.map rg))) := know (fun fn h => r103_ok h) [] .nil fun U fn hfn _ vs bs hv hb => by
 have hv : RVs [] vs := hv
 have hb : RBs [] bs := hb
 show Sat U _ fun v bs' => RRes (.ret (.sl 2 (prims.map rg))) v ∧ RBs [] bs'
 unfold r103
 (refine Zz ?_;with_reducible repeat' first|intro _|apply aI)
 exact sRet ⟨.ret _ _ (.sl _ _ _ _ _ rfl (chkRows_ok (chkG_ok 2) (by rfl))), .nil⟩
def rowOf : List (Str × Int) → Str → Option Int
 | [], _ => none
 | p :: l, s => if p.1 = s then some p.2 else rowOf l s
def primOf (s : Sy) : Option Int := if s.1 = lispS then rowOf prims s.2 else none
def okI (o : Option Int) : GV := match o with
 | some n => .t [.c (.i .i64 n), .c (.b true)]
 | none => .t [.c (.i .i64 0), .c (.b false)]
theorem kArity7 : Know 75 (spSy fun s => okI (primOf s)) := know (fun fn h => r75_ok h) [(103, _)] (.cons kRows .nil) fun U fn hfn s vs bs hv hb => by
 have hr := hfn 103 _ rfl
 have hv : RVs [.a [.s s.1, .s s.2]] vs := hv
 have hb : RBs [] bs := hb
 show Sat U _ fun v bs' => RRes (.ret (okI (primOf s))) v ∧ RBs [] bs'
 unfold r75
 (refine Zz ?_;with_reducible repeat' first|intro _|apply aI)
 ·refine sCall hr () (r := .sl 2 (prims.map rg)) rfl .nil .nil fun _ _ _ _ => ?_
  have e0 : primOf s = rowOf prims s.2 := if_pos (by assumption : s.1 = lispS)
  rw [e0]
  have hl : prims.length = 25 := rfl
  generalize prims = l at *
  (refine Zz ?_;with_reducible repeat' first|intro _|apply aI)
  refine sLp (fun (i : Nat) vs bs => ∃ (t : Tre Q) (off : Nat) (q : Q), vs = [.ptr 0 0, .slice t 2 off l.length .no, .int .i64 i] ∧ bs = [.opa q 2] ∧ Cel [.s s.1, .s s.2] q 0 ∧ Rws 2 (l.map rg) t off ∧ i ≤ l.length ∧ rowOf (l.drop i) s.2 = rowOf l s.2) (fun i => l.length - i) 0
   ⟨_, _, _, rfl, rfl, by assumption, by assumption, by omega, rfl⟩ (by simp only [FUEL]; omega) ?_
  rintro self i _ _ ⟨t, off, q, rfl, rfl, hq, ht, hi, he⟩ ih
  (refine Zz ?_;with_reducible repeat' first|intro _|apply aI)
  ·rw [List.drop_eq_getElem_cons (by omega : i < l.length), rowOf, if_pos (by assumption)] at he
   rw [← he]
   exact sRet ⟨.ret _ _ (.t _ _ (.cons _ _ _ _ (.q _ _ (by assumption)) (.cons _ _ _ _ (.kn _) .nil))), .nil⟩
  ·rw [List.drop_eq_getElem_cons (by omega : i < l.length), rowOf, if_neg (by assumption)] at he
   exact ih (i + 1) _ _ ⟨_, _, _, by simp, rfl, hq, ht, by omega, he⟩ (by omega)
  ·have ei : i = l.length := by omega
   rw [ei, List.drop_length] at he
   rw [← he]
   exact sRet ⟨.ret _ _ (.t _ _ (.cons _ _ _ _ (.i _ _) (.cons _ _ _ _ (.kn _) .nil))), .nil⟩
 ·have e0 : primOf s = none := if_neg (by assumption : ¬ s.1 = lispS)
  rw [e0]
  exact sRet ⟨.ret _ _ (.t _ _ (.cons _ _ _ _ (.i _ _) (.cons _ _ _ _ (.kn _) .nil))), .nil⟩
end
end Go.Proofs.YtccafnaghnbpeaaGreatDoor
