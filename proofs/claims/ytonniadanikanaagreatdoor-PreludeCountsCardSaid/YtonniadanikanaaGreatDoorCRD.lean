/- PreludeCounts, of typed data. -/
import Derived.Test.YtonniadanikanaaGreatDoorCRC
set_option linter.all false
namespace Go.Proofs.YtonniadanikanaaGreatDoor
open Go.Abs LQ
set_option maxRecDepth 100000
set_option maxHeartbeats 4000000
noncomputable section
theorem sizeO_count : ∀ o : O, o.size = 2 * countO o + 1
 | .co a d => by
  have h1 := sizeO_count a
  have h2 := sizeO_count d
  show 1 + a.size + d.size = 2 * (1 + (countO a + countO d)) + 1
  omega
 | .num _ _ => rfl
 | .sy _ => rfl
 | .tx _ => rfl
 | .no => rfl
theorem count_W {o : O} (h : ok o) : W PL True (.call (lispS, dec 5 500069396323) ([o].map T.c)) [] 3000 fun x _ => x = .num (countO o) 1 :=
 W_f13 (fun _ => trivial) fun _ => W_c (count_b h fun _ => rfl)
theorem len_W {os : List O} (h : ok (listO os)) (hn : os.length ≤ 8) : W PL False (.call (lispS, dec 3 7234924) ([listO os].map T.c)) [] 3000 fun x _ => x = .num os.length 1 :=
 W_f20 (fun h => absurd h (by decide)) fun _ => W_c (len_b h (by omega) fun _ _ => rfl)
def spCounts : Sp where
 ι := Raw × List Raw
 A p := [.a p.1.g, .sl 4 (p.2.map Raw.g)]
 B _ := []
 R _ := .ret (.c (.b true))
 B' _ := []
 inj _ _ _ _ _ _ _ _ := ⟨rfl, rfl⟩
theorem kCounts (hItoa : Itoa) (hF : First0) (hV : Know 11 spVal) : Know 5 spCounts := know (fun fn h => r5_ok h) [(7, _), (11, _), (8, _), (16, _), (10, _), (19, _), (17, _), (18, _), (20, _), (12, _)] (.cons hF (.cons hV (.cons kFew (.cons kFewAll (.cons (kObject hItoa) (.cons (kObjects hItoa) (.cons kNodes (.cons kList (.cons (kInt hItoa) (.cons kEqual .nil)))))))))) fun U fn hfn ⟨r, l⟩ vs bs hv hb => by
 have hF := hfn 7 _ rfl
 have hV := hfn 11 _ rfl
 have hFew := hfn 8 _ rfl
 have hFA := hfn 16 _ rfl
 have hO := hfn 10 _ rfl
 have hOs := hfn 19 _ rfl
 have hN := hfn 17 _ rfl
 have hL := hfn 18 _ rfl
 have hI := hfn 20 _ rfl
 have hE := hfn 12 _ rfl
 change RVs [.a r.g, .sl 4 (l.map Raw.g)] vs at hv
 change RBs [] bs at hb
 show Sat U _ fun v bs' => RRes (.ret (.c (.b true))) v ∧ RBs [] bs'
 unfold r5
 (refine Zz ?_;with_reducible repeat' first|intro _|apply aI)
 refine sAR (by assumption) (Raw.g_len _) fun _ _ => ?_
 (refine Zz ?_;with_reducible repeat' first|intro _|apply aI)
 refine sCall hF () (r := .c (.b true)) rfl .nil .nil fun _ _ _ _ => ?_
 (refine Zz ?_;with_reducible repeat' first|intro _|apply aI)
 cases hr : r.few 20 with
 | false =>
  refine sCall hFew ⟨(r, 20), show 20 ≤ 1000 by decide⟩ (r := .c (.b false)) (by show GRes.ret (.c (.b (r.few 20))) = _; rw [hr]) (.cons _ _ _ _ (.a _ _ _ (Raw.g_len _).symm (by assumption)) (.cons _ _ _ _ (rvI' rfl) .nil)) .nil fun _ _ _ _ => ?_
  (refine Zz ?_;with_reducible repeat' first|intro _|apply aI)
  exact sRet ⟨.ret _ _ (.kn _), .nil⟩
 | true =>
 refine sCall hFew ⟨(r, 20), show 20 ≤ 1000 by decide⟩ (r := .c (.b true)) (by show GRes.ret (.c (.b (r.few 20))) = _; rw [hr]) (.cons _ _ _ _ (.a _ _ _ (Raw.g_len _).symm (by assumption)) (.cons _ _ _ _ (rvI' rfl) .nil)) .nil fun _ _ _ _ => ?_
 (refine Zz ?_;with_reducible repeat' first|intro _|apply aI)
 cases hl : fewAll l 6 with
 | false =>
  refine sCall hFA ⟨(l, 6), show 6 ≤ 1000 by decide⟩ (r := .c (.b false)) (by show GRes.ret (.c (.b (fewAll l 6))) = _; rw [hl]) (.cons _ _ _ _ (.sl _ _ _ _ _ (by simp) (by assumption)) (.cons _ _ _ _ (rvI' rfl) .nil)) .nil fun _ _ _ _ => ?_
  (refine Zz ?_;with_reducible repeat' first|intro _|apply aI)
  exact sRet ⟨.ret _ _ (.kn _), .nil⟩
 | true =>
 refine sCall hFA ⟨(l, 6), show 6 ≤ 1000 by decide⟩ (r := .c (.b true)) (by show GRes.ret (.c (.b (fewAll l 6))) = _; rw [hl]) (.cons _ _ _ _ (.sl _ _ _ _ _ (by simp) (by assumption)) (.cons _ _ _ _ (rvI' rfl) .nil)) .nil fun _ _ _ _ => ?_
 (refine Zz ?_;with_reducible repeat' first|intro _|apply aI)
 have hro := (Raw.few_ok hr).1
 have hso := few_obj hr
 have hoo : ok (objR r) := ⟨by omega, hso.2⟩
 have hla := fewAll_ok hl
 have hlo := fewAll_list (by decide) hl
 have hlr : ∀ x ∈ l, x.okR := fun x hx => (Raw.few_ok (hla.2 x hx)).1
 have hsz := sizeO_count (objR r)
 refine sCall hO ⟨r, hro⟩ (r := .a (objR r).g) rfl (.cons _ _ _ _ (.a _ _ _ (Raw.g_len _).symm (by assumption)) .nil) .nil fun _ _ _ _ => ?_
 (refine Zz ?_;with_reducible repeat' first|intro _|apply aI)
 refine sAR (by assumption) (by first | exact (O.g_len _).symm | exact O.g_len _) fun _ hx => ?_
 (refine Zz ?_;with_reducible repeat' first|intro _|apply aI)
 obtain ⟨⟨_, _, n1, r1, h1, ho1⟩, rfl, rfl, e1⟩ := val_of (os := [objR r]) (show 1 < 90000 by decide) (count_W hoo)
 have row1 := rowN (by rw [O.g_len]; decide) ‹Cel (objR r).g _ 0›
 rcases e1 with e1 | ⟨_, e1⟩
 ·refine sCall hV ⟨_, _, n1, r1, h1, ho1⟩ (r := .t [.a (O.num (countO (objR r)) 1).g, .c (.b true)]) (congrArg GRes.ret e1) (.cons _ _ _ _ (.s _ _ _ rfl rfl) (.cons _ _ _ _ (.sl _ _ _ _ _ rfl (.cons _ _ _ _ _ (O.g_len _) (rowN (by rw [O.g_len]; decide) (by assumption)).1 (rowN (by rw [O.g_len]; decide) (by assumption)).2 (.nil _ _ _))) .nil)) .nil fun _ _ _ _ => ?_
  (refine Zz ?_;with_reducible repeat' first|intro _|apply aI)
  refine sCall hN (objR r) (r := .c (.i .i64 (min (objR r).size 3001 : Nat))) rfl oA .nil fun _ _ _ _ => ?_
  (refine Zz ?_;with_reducible repeat' first|intro _|apply aI)
  refine sfWrQN (n := 2 * countO (objR r)) (m := 2) (by omega) rfl (by omega) ?_
  rw [show 2 * countO (objR r) / 2 = countO (objR r) by omega]
  (refine Zz ?_;with_reducible repeat' first|intro _|apply aI)
  refine sCall hOs ⟨l, by omega, hlr⟩ (r := .sl 7 ((l.map objR).map O.g)) rfl (.cons _ _ _ _ (.sl _ _ _ _ _ (by simp) (by assumption)) .nil) .nil fun _ _ _ _ => ?_
  (refine Zz ?_;with_reducible repeat' first|intro _|apply aI)
  refine sCall hL ⟨l.map objR, by rw [List.length_map]; omega⟩ (r := .a (listO (l.map objR)).g) rfl (.cons _ _ _ _ (.sl _ _ _ _ _ (by simp) (by assumption)) .nil) .nil fun _ _ _ _ => ?_
  (refine Zz ?_;with_reducible repeat' first|intro _|apply aI)
  refine oR fun _ _ => ?_
  (refine Zz ?_;with_reducible repeat' first|intro _|apply aI)
  obtain ⟨⟨_, _, n2, r2, h2, ho2⟩, rfl, rfl, e2⟩ := val_of (os := [listO (l.map objR)]) (show 1 < 90000 by decide) (len_W hlo (by rw [List.length_map]; omega))
  rcases e2 with e2 | ⟨hf, _⟩
  case inr => exact hf.elim
  rw [List.length_map] at e2
  refine sCall hV ⟨_, _, n2, r2, h2, ho2⟩ (r := .t [.a (O.num l.length 1).g, .c (.b true)]) (congrArg GRes.ret e2) (.cons _ _ _ _ (.s _ _ _ rfl rfl) (.cons _ _ _ _ (.sl _ _ _ _ _ rfl (.cons _ _ _ _ _ (O.g_len _) (rowN (by rw [O.g_len]; decide) (by assumption)).1 (rowN (by rw [O.g_len]; decide) (by assumption)).2 (.nil _ _ _))) .nil)) .nil fun _ _ _ _ => ?_
  (refine Zz ?_;with_reducible repeat' first|intro _|apply aI)
  refine sCall hI ⟨(countO (objR r) : Int), by omega, by omega⟩ (r := .a (O.num (countO (objR r)) 1).g) rfl (.cons _ _ _ _ (.i _ _) .nil) .nil fun _ _ _ _ => ?_
  (refine Zz ?_;with_reducible repeat' first|intro _|apply aI)
  refine sCall hE (O.num (countO (objR r)) 1, O.num (countO (objR r)) 1) (r := .c (.b true)) (by show GRes.ret (.c (.b (O.eqb _ _))) = _; rw [O.eqb_t.2 rfl]) (.cons _ _ _ _ oV oA) .nil fun _ _ _ _ => ?_
  (refine Zz ?_;with_reducible repeat' first|intro _|apply aI)
  refine sCall hI ⟨(l.length : Int), by omega, by omega⟩ (r := .a (O.num l.length 1).g) rfl (.cons _ _ _ _ (.i _ _) .nil) .nil fun _ _ _ _ => ?_
  (refine Zz ?_;with_reducible repeat' first|intro _|apply aI)
  refine sCall hE (O.num l.length 1, O.num l.length 1) (r := .c (.b true)) (by show GRes.ret (.c (.b (O.eqb _ _))) = _; rw [O.eqb_t.2 rfl]) (.cons _ _ _ _ oV oA) .nil fun _ _ _ _ => ?_
  (refine Zz ?_;with_reducible repeat' first|intro _|apply aI)
  exact sRet ⟨.ret _ _ Zrv, .nil⟩
 ·refine sCall hV ⟨_, _, n1, r1, h1, ho1⟩ (r := .t [.a O.no.g, .c (.b false)]) (congrArg GRes.ret e1) (.cons _ _ _ _ (.s _ _ _ rfl rfl) (.cons _ _ _ _ (.sl _ _ _ _ _ rfl (.cons _ _ _ _ _ (O.g_len _) (rowN (by rw [O.g_len]; decide) (by assumption)).1 (rowN (by rw [O.g_len]; decide) (by assumption)).2 (.nil _ _ _))) .nil)) .nil fun _ _ _ _ => ?_
  (refine Zz ?_;with_reducible repeat' first|intro _|apply aI)
  refine sCall hN (objR r) (r := .c (.i .i64 (min (objR r).size 3001 : Nat))) rfl oA .nil fun _ _ _ _ => ?_
  (refine Zz ?_;with_reducible repeat' first|intro _|apply aI)
  refine sfWrQN (n := 2 * countO (objR r)) (m := 2) (by omega) rfl (by omega) ?_
  rw [show 2 * countO (objR r) / 2 = countO (objR r) by omega]
  (refine Zz ?_;with_reducible repeat' first|intro _|apply aI)
  refine sCall hOs ⟨l, by omega, hlr⟩ (r := .sl 7 ((l.map objR).map O.g)) rfl (.cons _ _ _ _ (.sl _ _ _ _ _ (by simp) (by assumption)) .nil) .nil fun _ _ _ _ => ?_
  (refine Zz ?_;with_reducible repeat' first|intro _|apply aI)
  refine sCall hL ⟨l.map objR, by rw [List.length_map]; omega⟩ (r := .a (listO (l.map objR)).g) rfl (.cons _ _ _ _ (.sl _ _ _ _ _ (by simp) (by assumption)) .nil) .nil fun _ _ _ _ => ?_
  (refine Zz ?_;with_reducible repeat' first|intro _|apply aI)
  refine oR fun _ _ => ?_
  (refine Zz ?_;with_reducible repeat' first|intro _|apply aI)
  obtain ⟨⟨_, _, n2, r2, h2, ho2⟩, rfl, rfl, e2⟩ := val_of (os := [listO (l.map objR)]) (show 1 < 90000 by decide) (len_W hlo (by rw [List.length_map]; omega))
  rcases e2 with e2 | ⟨hf, _⟩
  case inr => exact hf.elim
  rw [List.length_map] at e2
  refine sCall hV ⟨_, _, n2, r2, h2, ho2⟩ (r := .t [.a (O.num l.length 1).g, .c (.b true)]) (congrArg GRes.ret e2) (.cons _ _ _ _ (.s _ _ _ rfl rfl) (.cons _ _ _ _ (.sl _ _ _ _ _ rfl (.cons _ _ _ _ _ (O.g_len _) (rowN (by rw [O.g_len]; decide) (by assumption)).1 (rowN (by rw [O.g_len]; decide) (by assumption)).2 (.nil _ _ _))) .nil)) .nil fun _ _ _ _ => ?_
  (refine Zz ?_;with_reducible repeat' first|intro _|apply aI)
  refine sCall hI ⟨(l.length : Int), by omega, by omega⟩ (r := .a (O.num l.length 1).g) rfl (.cons _ _ _ _ (.i _ _) .nil) .nil fun _ _ _ _ => ?_
  (refine Zz ?_;with_reducible repeat' first|intro _|apply aI)
  refine sCall hE (O.num l.length 1, O.num l.length 1) (r := .c (.b true)) (by show GRes.ret (.c (.b (O.eqb _ _))) = _; rw [O.eqb_t.2 rfl]) (.cons _ _ _ _ oV oA) .nil fun _ _ _ _ => ?_
  (refine Zz ?_;with_reducible repeat' first|intro _|apply aI)
  exact sRet ⟨.ret _ _ Zrv, .nil⟩
end
end Go.Proofs.YtonniadanikanaaGreatDoor
