/- PreludeLists, of typed data. -/
import Derived.Test.YtccafnaghnbpeaaGreatDoorCRD
set_option linter.all false
namespace Go.Proofs.YtccafnaghnbpeaaGreatDoor
open Go.Abs LQ
set_option maxRecDepth 100000
set_option maxHeartbeats 8000000
noncomputable section
def spLists : Sp where
 ι := List Raw × List Raw × Int × Raw
 A p := [.sl 4 (p.1.map Raw.g), .sl 4 (p.2.1.map Raw.g), .c (.i .i64 p.2.2.1), .a p.2.2.2.g]
 B _ := []
 R _ := .ret (.c (.b true))
 B' _ := []
 inj _ _ _ _ _ _ _ _ := ⟨rfl, rfl⟩
theorem trnLeM {U : CombU} {a m b : Nat} : Says U (U.nLe (U.nMul a m) b) (a * m ≤ b) := fun e => by subst e; exact trnLe rfl
theorem trnEqM {U : CombU} {a m b : Nat} : Says U (U.nEq (U.nMul a m) b) (a * m = b) := fun e => by subst e; exact trnEq rfl
theorem trLeNN {U : CombU} {m n : Nat} : Says U (U.iLe (U.iOfN m) (U.iOfN n)) (m ≤ n) := fun e => by subst e; exact (trLe (U := CU) (a := (m : Int)) (b := (n : Int)) rfl).trans Int.ofNat_le
section
variable {U : CombU} {P : VRes → List Bx → Prop}
theorem sfDivM {a n : Nat} {K : Nat → Om} (hn : 0 < n) (h : Sat U (K a) P) : Sat U (U.fN (U.nDiv (a * n) n) K) P := fun e => by
 have := h e; subst e; rw [CUfN]
 show ∃ v bs, K (Nat.div (a * n) n) = some (v, bs) ∧ P v bs
 rw [show Nat.div (a * n) n = a from Nat.mul_div_cancel a hn]; exact this
theorem sfSubON {n : Nat} {b : Int} {K : Nat → Om} (h : Sat U (K (n - b.toNat)) P) : Sat U (U.fN (U.nSub (U.iNat (U.iOfN n)) (U.iNat b)) K) P := fun e => by
 have := h e; subst e; rw [CUfN]
 show ∃ v bs, K (iNat (n : Int) - iNat b) = some (v, bs) ∧ P v bs
 rw [iNat_eq, iNat_eq, Int.toNat_natCast]; exact this
theorem sAT0 {n : Nat} {ys : List (List G)} {t2 : Tre Q} {j m : Nat} {K : Tre Q → Om} (ht2 : Rws n ys t2 j) (hm : m = ys.length) (hb : ys.length + 1 ≤ 281474976710656) (h : ∀ t', Rws n ys t' 0 → Sat U (K t') P) : Sat U (U.aT t2 m .nil 0 j K) P := fun e => by
 have := sAT (U := U) (P := P) (K := K) (xs := []) (t := .nil) (off := 0) (a := 0) (.nil _ _ _) ht2 rfl hm (by simpa using hb) (fun t' ht => h t' (by simpa using ht)) e
 subst e; exact this
end
theorem rows2 {x y : O} {p q : Q} (h1 : Cel x.g p 0) (h2 : Cel y.g q 0) : Rws 7 ([x, y].map O.g) (.node p (.node q .nil .nil) .nil) 0 :=
 .cons _ _ _ _ _ (O.g_len _) (rowN (by rw [O.g_len]; decide) h1).1 (rowN (by rw [O.g_len]; decide) h1).2 (.cons _ _ _ _ _ (O.g_len _) (rowN (by rw [O.g_len]; decide) h2).1 (rowN (by rw [O.g_len]; decide) h2).2 (.nil _ _ _))
theorem rows1 {x : O} {p : Q} (h1 : Cel x.g p 0) : Rws 7 ([x].map O.g) (.node p .nil .nil) 0 :=
 .cons _ _ _ _ _ (O.g_len _) (rowN (by rw [O.g_len]; decide) h1).1 (rowN (by rw [O.g_len]; decide) h1).2 (.nil _ _ _)
theorem rowsO3 {x y z : O} {p q s : Q} (h1 : Cel x.g p 0) (h2 : Cel y.g q 0) (h3 : Cel z.g s 0) : Rws 7 ([x, y, z].map O.g) (.node p (.node q .nil .nil) (.node s .nil .nil)) 0 :=
 .cons _ _ _ _ _ (O.g_len _) (rowN (by rw [O.g_len]; decide) h1).1 (rowN (by rw [O.g_len]; decide) h1).2 (.cons _ _ _ _ _ (O.g_len _) (rowN (by rw [O.g_len]; decide) h2).1 (rowN (by rw [O.g_len]; decide) h2).2 (.cons _ _ _ _ _ (O.g_len _) (rowN (by rw [O.g_len]; decide) h3).1 (rowN (by rw [O.g_len]; decide) h3).2 (.nil _ _ _)))
theorem kLists (hItoa : Itoa) (hF : First0) (hV : Know 12 spVal) : Know 3 spLists := know (fun fn h => r3_ok h) [(4, _), (12, _), (6, _), (5, _), (8, _), (7, _), (13, _), (11, _), (14, _), (9, _), (10, _)] (.cons hF (.cons hV (.cons kFew (.cons kFewAll (.cons (kObject hItoa) (.cons (kObjects hItoa) (.cons kMod (.cons kList (.cons (kInt hItoa) (.cons kEqual (.cons kNil .nil))))))))))) fun U fn hfn ⟨l, m, n, r⟩ vs bs hv hb => by
 have hF := hfn 4 _ rfl
 have hV := hfn 12 _ rfl
 have hFew := hfn 6 _ rfl
 have hFA := hfn 5 _ rfl
 have hO := hfn 8 _ rfl
 have hOs := hfn 7 _ rfl
 have hM := hfn 13 _ rfl
 have hL := hfn 11 _ rfl
 have hI := hfn 14 _ rfl
 have hE := hfn 9 _ rfl
 have hNi := hfn 10 _ rfl
 change RVs [.sl 4 (l.map Raw.g), .sl 4 (m.map Raw.g), .c (.i .i64 n), .a r.g] vs at hv
 change RBs [] bs at hb
 show Sat U _ fun v bs' => RRes (.ret (.c (.b true))) v ∧ RBs [] bs'
 unfold r3
 have good : Sat U (some (.ret (.known true), [])) fun v bs' => RRes (.ret (.c (.b true))) v ∧ RBs [] bs' := sRet ⟨.ret _ _ (.kn _), .nil⟩
 (refine Zz ?_;with_reducible repeat' first|intro _|apply aI)
 refine sAR (by assumption) (Raw.g_len _) fun _ _ => ?_
 (refine Zz ?_;with_reducible repeat' first|intro _|apply aI)
 refine sCall hF () (r := .c (.b true)) rfl .nil .nil fun _ _ _ _ => ?_
 (refine Zz ?_;with_reducible repeat' first|intro _|apply aI)
 cases hl : fewAll l 5 with
 | false =>
  refine sCall hFA ⟨(l, 5), show 5 ≤ 1000 by decide⟩ (r := .c (.b false)) (by show GRes.ret (.c (.b (fewAll l 5))) = _; rw [hl]) (.cons _ _ _ _ (.sl _ _ _ _ _ (by simp) (by assumption)) (.cons _ _ _ _ (rvI' rfl) .nil)) .nil fun _ _ _ _ => ?_
  (refine Zz ?_;with_reducible repeat' first|intro _|apply aI)
  exact good
 | true =>
 refine sCall hFA ⟨(l, 5), show 5 ≤ 1000 by decide⟩ (r := .c (.b true)) (by show GRes.ret (.c (.b (fewAll l 5))) = _; rw [hl]) (.cons _ _ _ _ (.sl _ _ _ _ _ (by simp) (by assumption)) (.cons _ _ _ _ (rvI' rfl) .nil)) .nil fun _ _ _ _ => ?_
 (refine Zz ?_;with_reducible repeat' first|intro _|apply aI)
 cases hm : fewAll m 5 with
 | false =>
  refine sCall hFA ⟨(m, 5), show 5 ≤ 1000 by decide⟩ (r := .c (.b false)) (by show GRes.ret (.c (.b (fewAll m 5))) = _; rw [hm]) (.cons _ _ _ _ (.sl _ _ _ _ _ (by simp) (by assumption)) (.cons _ _ _ _ (rvI' rfl) .nil)) .nil fun _ _ _ _ => ?_
  (refine Zz ?_;with_reducible repeat' first|intro _|apply aI)
  exact good
 | true =>
 refine sCall hFA ⟨(m, 5), show 5 ≤ 1000 by decide⟩ (r := .c (.b true)) (by show GRes.ret (.c (.b (fewAll m 5))) = _; rw [hm]) (.cons _ _ _ _ (.sl _ _ _ _ _ (by simp) (by assumption)) (.cons _ _ _ _ (rvI' rfl) .nil)) .nil fun _ _ _ _ => ?_
 (refine Zz ?_;with_reducible repeat' first|intro _|apply aI)
 cases hr : r.few 5 with
 | false =>
  refine sCall hFew ⟨(r, 5), show 5 ≤ 1000 by decide⟩ (r := .c (.b false)) (by show GRes.ret (.c (.b (r.few 5))) = _; rw [hr]) (.cons _ _ _ _ (.a _ _ _ (Raw.g_len _).symm (by assumption)) (.cons _ _ _ _ (rvI' rfl) .nil)) .nil fun _ _ _ _ => ?_
  (refine Zz ?_;with_reducible repeat' first|intro _|apply aI)
  exact good
 | true =>
 refine sCall hFew ⟨(r, 5), show 5 ≤ 1000 by decide⟩ (r := .c (.b true)) (by show GRes.ret (.c (.b (r.few 5))) = _; rw [hr]) (.cons _ _ _ _ (.a _ _ _ (Raw.g_len _).symm (by assumption)) (.cons _ _ _ _ (rvI' rfl) .nil)) .nil fun _ _ _ _ => ?_
 (refine Zz ?_;with_reducible repeat' first|intro _|apply aI)
 have hla := fewAll_ok hl
 have hma := fewAll_ok hm
 have hlr : ∀ x ∈ l, x.okR := fun x hx => (Raw.few_ok (hla.2 x hx)).1
 have hmr : ∀ x ∈ m, x.okR := fun x hx => (Raw.few_ok (hma.2 x hx)).1
 have hsl := (sz_lists (by decide) hl).2
 have hsm := (sz_lists (by decide) hm).2
 have hrr := few_obj hr
 have hoka := fewAll_list (by decide) hl
 have ha8 : (l.map objR).length ≤ 8 := by rw [List.length_map]; exact hla.1
 have hb8 : (m.map objR).length ≤ 8 := by rw [List.length_map]; exact hma.1
 refine sCall hOs ⟨l, by omega, hlr⟩ (r := .sl 7 ((l.map objR).map O.g)) rfl (.cons _ _ _ _ (.sl _ _ _ _ _ (by simp) (by assumption)) .nil) .nil fun _ _ hv1 _ => ?_
 have hv1 : RV (.sl 7 ((l.map objR).map O.g)) _ := hv1
 generalize l.map objR = a at hsl ha8 hv1 hoka
 (refine Zz ?_;with_reducible repeat' first|intro _|apply aI)
 refine sCall hOs ⟨m, by omega, hmr⟩ (r := .sl 7 ((m.map objR).map O.g)) rfl (.cons _ _ _ _ (.sl _ _ _ _ _ (by simp) (by assumption)) .nil) .nil fun _ _ hv2 _ => ?_
 have hv2 : RV (.sl 7 ((m.map objR).map O.g)) _ := hv2
 generalize m.map objR = b at hsm hb8 hv2
 (refine Zz ?_;with_reducible repeat' first|intro _|apply aI)
 refine sCall hO ⟨r, (Raw.few_ok hr).1⟩ (r := .a (objR r).g) rfl (.cons _ _ _ _ (.a _ _ _ (Raw.g_len _).symm (by assumption)) .nil) .nil fun _ _ hv3 _ => ?_
 have hv3 : RV (.a (objR r).g) _ := hv3
 generalize objR r = e at hrr hv3
 (refine Zz ?_;with_reducible repeat' first|intro _|apply aI)
 refine sAR hv3 (O.g_len _) fun qe hqe => ?_
 (refine Zz ?_;with_reducible repeat' first|intro _|apply aI)
 refine sLp (fun (k : Nat) vs bs => ∃ (t : Tre Q) (o : Nat) (t2 : Tre Q) (o2 : Nat) (v : V) (q : Q) (p i : Int), vs = [.int .i64 n, .slice t 7 o a.length .no, .slice t2 7 o2 b.length .no, .ptr 0 0, .int .i64 p, .int .i64 i, v] ∧ bs = [.opa q 7, .tok (a.length - k) 7] ∧ Rws 7 (a.map O.g) t o ∧ Rws 7 (b.map O.g) t2 o2 ∧ Cel e.g q 0 ∧ TokS 1 7 ((a.drop k).reverse.map O.g) v ∧ k ≤ a.length ∧ p = fI e (a.drop k) k ∧ i = (k : Int) - 1) (fun k => k) a.length ⟨_, _, _, _, _, _, _, _, rfl, by rw [Nat.sub_self], by assumption, by assumption, by assumption, .b (by simp), Nat.le_refl _, by rw [List.drop_length]; rfl, rfl⟩ (by simp only [FUEL]; omega) ?_
 rintro self k _ _ ⟨t, o, t2, o2, v, q, p, i, rfl, rfl, ht, ht2, hq, htok, hk, hp, hi⟩ ih
 cases k with
 | succ j =>
  have hi : i = (j : Int) := by omega
  subst hi
  have hj : j < a.length := hk
  have hfs := fI_step (e := e) hj
  have hrs := rev_step hj
  have hdl : (a.drop (j + 1)).reverse.length = a.length - (j + 1) := by simp
  (refine Zz ?_;with_reducible repeat' first|intro _|apply aI)
  ·refine sAT1 (xs := ((a.drop (j + 1)).reverse).map O.g) (n := 7) (off := 0) (by assumption) (fun _ => rowN (by rw [O.g_len]; decide) (by assumption)) (O.g_len _) (by simp) (by simp; omega) fun t' ht' => ?_
   have ht' : Rws 7 ((a.drop j).reverse.map O.g) t' 0 := by rw [hrs, List.map_append]; exact ht'
   (refine Zz ?_;with_reducible repeat' first|intro _|apply aI)
   refine sCall hE (a[j], e) (r := .c (.b (O.eqb a[j] e))) rfl (.cons _ _ _ _ oV oA) .nil fun _ _ _ _ => ?_
   (refine Zz ?_;with_reducible repeat' first|intro _|apply aI)
   ·rw [if_pos ‹_›] at hfs
    exact ih j _ _ ⟨t, o, t2, o2, _, q, _, _, rfl, by congr 3; omega, ht, ht2, by assumption, .a _ _ (by simp; omega) ht', by omega, hfs.symm, rfl⟩ (by omega)
   ·rw [if_neg ‹_›] at hfs
    exact ih j _ _ ⟨t, o, t2, o2, _, q, _, _, rfl, by congr 3; omega, ht, ht2, by assumption, .a _ _ (by simp; omega) ht', by omega, hp.trans hfs.symm, rfl⟩ (by omega)
  ·omega
 | zero =>
  have hi : i = -1 := by omega
  subst hi
  rw [List.drop_zero] at hp htok
  have hp0 := fI_mem e a 0
  rw [show fI e a ((0 : Nat) : Int) = p from hp.symm] at hp0
  clear hp ih hi
  (refine Zz ?_;with_reducible repeat' first|intro _|apply aI)
  ·exact absurd ‹(0 : Int) ≤ -1› (by decide)
  refine sCall hNi () (r := .a nilO.g) rfl .nil .nil fun _ _ hvn _ => ?_
  have hvn : RV (.a nilO.g) _ := hvn
  refine sAR hvn (O.g_len _) fun qn hqn => ?_
  (refine Zy ?_;with_reducible repeat' first|intro _|apply aI)
  refine sJnP (fun vs bs => ∃ (w : V) (x : Q), vs = [.int .i64 n, .slice t 7 o a.length .no, .slice t2 7 o2 b.length .no, .ptr 0 0, w, .ptr 2 0] ∧ bs = [.opa q 7, .tok (a.length - 0) 7, .opa x 7] ∧ TokS 1 7 (a.reverse.map O.g) w ∧ Cel (listO (memL e a)).g x 0) ?_ ?_
  ·rintro _ _ ⟨w, x, rfl, rfl, htw, hxm⟩
   have hee : e.fm = true ∧ e.size ≤ 79 := ⟨hrr.2, by omega⟩
   (refine Zz ?_;with_reducible repeat' first|intro _|apply aI)
   refine sCall hL ⟨a, by omega⟩ (r := .a (listO a).g) rfl (.cons _ _ _ _ (.sl _ _ _ _ _ (by simp) ht) .nil) .nil fun _ _ h1 _ => ?_
   refine sAR (show RV (.a (listO a).g) _ from h1) (O.g_len _) fun q1 hq1 => ?_
   (refine Zz ?_;with_reducible repeat' first|intro _|apply aI)
   refine sCall hL ⟨b, by omega⟩ (r := .a (listO b).g) rfl (.cons _ _ _ _ (.sl _ _ _ _ _ (by simp) ht2) .nil) .nil fun _ _ h1 _ => ?_
   refine sAR (show RV (.a (listO b).g) _ from h1) (O.g_len _) fun q2 hq2 => ?_
   (refine Zz ?_;with_reducible repeat' first|intro _|apply aI)
   obtain ⟨⟨_, _, n1, r1, hh1, ho1⟩, rfl, rfl, e1⟩ := val_of (os := [listO a, listO b]) (show 2 < 90000 by decide) (app_W (app_ok hsl hsm ha8 hb8) hoka ha8)
   rcases e1 with e1 | ⟨hf, _⟩
   case inr => exact hf.elim
   refine sCall hV ⟨_, _, n1, r1, hh1, ho1⟩ (r := .t [.a (listO (a ++ b)).g, .c (.b true)]) (congrArg GRes.ret e1) (.cons _ _ _ _ (.s _ _ _ rfl rfl) (.cons _ _ _ _ (.sl _ _ _ _ _ rfl (rows2 hq1 hq2)) .nil)) .nil fun _ _ h1 _ => ?_
   have h1 : RV (.t [.a (listO (a ++ b)).g, .c (.b true)]) _ := h1
   (refine Zz ?_;with_reducible repeat' first|intro _|apply aI)
   refine sAR (by assumption) (O.g_len _) fun qx hqx => ?_
   (refine Zz ?_;with_reducible repeat' first|intro _|apply aI)
   refine sCall hL ⟨a, by omega⟩ (r := .a (listO a).g) rfl (.cons _ _ _ _ (.sl _ _ _ _ _ (by simp) (by assumption)) .nil) .nil fun _ _ h1 _ => ?_
   refine sAR (show RV (.a (listO a).g) _ from h1) (O.g_len _) fun q3 hq3 => ?_
   (refine Zz ?_;with_reducible repeat' first|intro _|apply aI)
   obtain ⟨⟨_, _, n2, r2, hh2, ho2⟩, rfl, rfl, e2⟩ := val_of (os := [listO a]) (show 1 < 90000 by decide) (rev_W hoka ha8)
   rcases e2 with e2 | ⟨hf, _⟩
   case inr => exact hf.elim
   refine sCall hV ⟨_, _, n2, r2, hh2, ho2⟩ (r := .t [.a (listO a.reverse).g, .c (.b true)]) (congrArg GRes.ret e2) (.cons _ _ _ _ (.s _ _ _ rfl rfl) (.cons _ _ _ _ (.sl _ _ _ _ _ rfl (rows1 hq3)) .nil)) .nil fun _ _ h1 _ => ?_
   have h1 : RV (.t [.a (listO a.reverse).g, .c (.b true)]) _ := h1
   (refine Zz ?_;with_reducible repeat' first|intro _|apply aI)
   refine sAR (by assumption) (O.g_len _) fun qy hqy => ?_
   (refine Zz ?_;with_reducible repeat' first|intro _|apply aI)
   refine sCall hL ⟨a, by omega⟩ (r := .a (listO a).g) rfl (.cons _ _ _ _ (.sl _ _ _ _ _ (by simp) (by assumption)) .nil) .nil fun _ _ h1 _ => ?_
   refine sAR (show RV (.a (listO a).g) _ from h1) (O.g_len _) fun q4 hq4 => ?_
   (refine Zz ?_;with_reducible repeat' first|intro _|apply aI)
   obtain ⟨⟨_, _, n3, r3, hh3, ho3⟩, rfl, rfl, e3⟩ := val_of (os := [e, listO a]) (show 2 < 90000 by decide) (mem_W hoka ha8)
   rcases e3 with e3 | ⟨hf, _⟩
   case inr => exact hf.elim
   refine sCall hV ⟨_, _, n3, r3, hh3, ho3⟩ (r := .t [.a (listO (memL e a)).g, .c (.b true)]) (congrArg GRes.ret e3) (.cons _ _ _ _ (.s _ _ _ rfl rfl) (.cons _ _ _ _ (.sl _ _ _ _ _ rfl (rows2 (by assumption) hq4)) .nil)) .nil fun _ _ h1 _ => ?_
   have h1 : RV (.t [.a (listO (memL e a)).g, .c (.b true)]) _ := h1
   (refine Zz ?_;with_reducible repeat' first|intro _|apply aI)
   refine sAR (by assumption) (O.g_len _) fun qz hqz => ?_
   (refine Zz ?_;with_reducible repeat' first|intro _|apply aI)
   refine sAT (xs := []) (.nil _ _ _) (show Rws 7 (a.map O.g) _ _ by assumption) rfl (by simp) (by simp; omega) fun t5 ht5 => ?_
   have ht5 : Rws 7 (a.map O.g) t5 0 := ht5
   (refine Zz ?_;with_reducible repeat' first|intro _|apply aI)
   refine sAT (xs := a.map O.g) ht5 (show Rws 7 (b.map O.g) _ _ by assumption) (by simp) (by simp) (by simp; omega) fun t6 ht6 => ?_
   have ht6 : Rws 7 ((a ++ b).map O.g) t6 0 := by rw [List.map_append]; exact ht6
   (refine Zz ?_;with_reducible repeat' first|intro _|apply aI)
   refine sCall hL ⟨a ++ b, by rw [List.length_append]; omega⟩ (r := .a (listO (a ++ b)).g) rfl (.cons _ _ _ _ (.sl _ _ _ _ _ (by simp) ht6) .nil) .nil fun _ _ h1 _ => ?_
   refine sAR (show RV (.a (listO (a ++ b)).g) _ from h1) (O.g_len _) fun q5 hq5 => ?_
   (refine Zz ?_;with_reducible repeat' first|intro _|apply aI)
   refine sCall hE (listO (a ++ b), listO (a ++ b)) (r := .c (.b true)) (by show GRes.ret (.c (.b (O.eqb _ _))) = _; rw [O.eqb_t.2 rfl]) (.cons _ _ _ _ oV oA) .nil fun _ _ _ _ => ?_
   (refine Zz ?_;with_reducible repeat' first|intro _|apply aI)
   refine sCall hL ⟨a.reverse, by rw [List.length_reverse]; omega⟩ (r := .a (listO a.reverse).g) rfl (.cons _ _ _ _ (.sl _ _ _ _ _ (by simp) (by assumption)) .nil) .nil fun _ _ h1 _ => ?_
   refine sAR (show RV (.a (listO a.reverse).g) _ from h1) (O.g_len _) fun q6 hq6 => ?_
   (refine Zz ?_;with_reducible repeat' first|intro _|apply aI)
   refine sCall hE (listO a.reverse, listO a.reverse) (r := .c (.b true)) (by show GRes.ret (.c (.b (O.eqb _ _))) = _; rw [O.eqb_t.2 rfl]) (.cons _ _ _ _ oV oA) .nil fun _ _ _ _ => ?_
   (refine Zz ?_;with_reducible repeat' first|intro _|apply aI)
   refine sCall hE (listO (memL e a), listO (memL e a)) (r := .c (.b true)) (by show GRes.ret (.c (.b (O.eqb _ _))) = _; rw [O.eqb_t.2 rfl]) (.cons _ _ _ _ oV oA) .nil fun _ _ _ _ => ?_
   (refine Zz ?_;with_reducible repeat' first|intro _|apply aI)
   ·exact good
   have hpos : 0 < a.length := by omega
   obtain ⟨k, hk, hka⟩ : ∃ k : Nat, n % (a.length : Int) = k ∧ k < a.length := ⟨(n % (a.length : Int)).toNat, by have := Int.emod_nonneg n (show (a.length : Int) ≠ 0 by omega); omega, by have := Int.emod_lt_of_pos n (show (0 : Int) < a.length by omega); have := Int.emod_nonneg n (show (a.length : Int) ≠ 0 by omega); omega⟩
   refine sCall hM ⟨(n, a.length), hpos, show a.length < 1000000 by omega⟩ (r := .c (.i .i64 (k : Int))) (by show GRes.ret (.c (.i .i64 (n % (a.length : Int)))) = _; rw [hk]) (.cons _ _ _ _ (.i _ _) (.cons _ _ _ _ (.i _ _) .nil)) .nil fun _ _ h1 _ => ?_
   have h1 : RV (.c (.i .i64 (k : Int))) _ := h1
   (refine Zz ?_;with_reducible repeat' first|intro _|apply aI)
   refine sChk (trAnd trnEq (trAnd trnLe (trAnd trnLeM trnLe))) ⟨rfl, by omega, by omega, by omega⟩ ?_
   refine sAT0 (show Rws 7 (a.map O.g) _ _ by assumption) (by simp) (by simp; omega) fun t7 ht7 => ?_
   (refine Zz ?_;with_reducible repeat' first|intro _|apply aI)
   refine sfDivM (by decide) ?_
   rw [Int.toNat_natCast]
   refine sChk (trAnd trnEqM (trAnd trnLe1 trnLe1)) ⟨rfl, by omega, by omega⟩ ?_
   refine sST0 ht7 (fun _ => rowN (by rw [O.g_len]; decide) (show Cel e.g _ 0 by assumption)) (O.g_len _) (by simp; omega) (by omega) fun t8 ht8 => ?_
   have ht8 : Rws 7 ((a.set k e).map O.g) t8 0 := by rw [List.map_set]; exact ht8
   (refine Zz ?_;with_reducible repeat' first|intro _|apply aI)
   refine sCall hI ⟨(k : Int), by omega, by omega⟩ (r := .a (O.num k 1).g) rfl (.cons _ _ _ _ (.i _ _) .nil) .nil fun _ _ h2 _ => ?_
   refine sAR (show RV (.a (O.num k 1).g) _ from h2) (O.g_len _) fun q7 hq7 => ?_
   (refine Zz ?_;with_reducible repeat' first|intro _|apply aI)
   refine sCall hL ⟨a, by omega⟩ (r := .a (listO a).g) rfl (.cons _ _ _ _ (.sl _ _ _ _ _ (by simp) (by assumption)) .nil) .nil fun _ _ h2 _ => ?_
   refine sAR (show RV (.a (listO a).g) _ from h2) (O.g_len _) fun q8 hq8 => ?_
   (refine Zz ?_;with_reducible repeat' first|intro _|apply aI)
   obtain ⟨⟨_, _, n4, r4, hh4, ho4⟩, rfl, rfl, e4⟩ := val_of (os := [.num k 1, listO a]) (show 2 < 90000 by decide) (nth_W hoka hka ha8)
   rcases e4 with e4 | ⟨hf, _⟩
   case inr => exact hf.elim
   refine sCall hV ⟨_, _, n4, r4, hh4, ho4⟩ (r := .t [.a a[k].g, .c (.b true)]) (congrArg GRes.ret e4) (.cons _ _ _ _ (.s _ _ _ rfl rfl) (.cons _ _ _ _ (.sl _ _ _ _ _ rfl (rows2 hq7 hq8)) .nil)) .nil fun _ _ h2 _ => ?_
   have h2 : RV (.t [.a a[k].g, .c (.b true)]) _ := h2
   (refine Zz ?_;with_reducible repeat' first|intro _|apply aI)
   refine sAR (by assumption) (O.g_len _) fun qu hqu => ?_
   (refine Zz ?_;with_reducible repeat' first|intro _|apply aI)
   refine sCall hI ⟨(k : Int), by omega, by omega⟩ (r := .a (O.num k 1).g) rfl (.cons _ _ _ _ (.i _ _) .nil) .nil fun _ _ h2 _ => ?_
   refine sAR (show RV (.a (O.num k 1).g) _ from h2) (O.g_len _) fun q9 hq9 => ?_
   (refine Zz ?_;with_reducible repeat' first|intro _|apply aI)
   refine sCall hL ⟨a, by omega⟩ (r := .a (listO a).g) rfl (.cons _ _ _ _ (.sl _ _ _ _ _ (by simp) (by assumption)) .nil) .nil fun _ _ h2 _ => ?_
   refine sAR (show RV (.a (listO a).g) _ from h2) (O.g_len _) fun q10 hq10 => ?_
   (refine Zz ?_;with_reducible repeat' first|intro _|apply aI)
   obtain ⟨⟨_, _, n5, r5, hh5, ho5⟩, rfl, rfl, e5⟩ := val_of (os := [.num k 1, e, listO a]) (show 3 < 90000 by decide) (upd_W hoka (set_ok hsl hee ha8) hka ha8)
   rcases e5 with e5 | ⟨hf, _⟩
   case inr => exact hf.elim
   refine sCall hV ⟨_, _, n5, r5, hh5, ho5⟩ (r := .t [.a (listO (a.set k e)).g, .c (.b true)]) (congrArg GRes.ret e5) (.cons _ _ _ _ (.s _ _ _ rfl rfl) (.cons _ _ _ _ (.sl _ _ _ _ _ rfl (rowsO3 hq9 (by assumption) hq10)) .nil)) .nil fun _ _ h2 _ => ?_
   have h2 : RV (.t [.a (listO (a.set k e)).g, .c (.b true)]) _ := h2
   (refine Zz ?_;with_reducible repeat' first|intro _|apply aI)
   refine sAR (by assumption) (O.g_len _) fun qv hqv => ?_
   (refine Zz ?_;with_reducible repeat' first|intro _|apply aI)
   refine sCall hE (a[k], a[k]) (r := .c (.b true)) (by show GRes.ret (.c (.b (O.eqb _ _))) = _; rw [O.eqb_t.2 rfl]) (.cons _ _ _ _ oV oA) .nil fun _ _ _ _ => ?_
   (refine Zz ?_;with_reducible repeat' first|intro _|apply aI)
   refine sCall hL ⟨a.set k e, by rw [List.length_set]; omega⟩ (r := .a (listO (a.set k e)).g) rfl (.cons _ _ _ _ (.sl _ _ _ _ _ (by simp) ht8) .nil) .nil fun _ _ h2 _ => ?_
   refine sAR (show RV (.a (listO (a.set k e)).g) _ from h2) (O.g_len _) fun q11 hq11 => ?_
   (refine Zz ?_;with_reducible repeat' first|intro _|apply aI)
   refine sCall hE (listO (a.set k e), listO (a.set k e)) (r := .c (.b true)) (by show GRes.ret (.c (.b (O.eqb _ _))) = _; rw [O.eqb_t.2 rfl]) (.cons _ _ _ _ oV oA) .nil fun _ _ _ _ => ?_
   (refine Zz ?_;with_reducible repeat' first|intro _|apply aI)
   exact sRet ⟨.ret _ _ Zrv, .nil⟩
  ·intro c hc
   rcases hp0 with ⟨rfl, hme⟩ | ⟨j, rfl, hj, hme⟩
   ·(refine Zz ?_;with_reducible repeat' first|intro _|apply aI)
    ·exact absurd ‹(0 : Int) ≤ -1› (by decide)
    ·exact hc _ _ ⟨_, _, rfl, rfl, .a _ _ (by simp) (by assumption), by rw [hme]; assumption⟩
   ·(refine Zz ?_;with_reducible repeat' first|intro _|apply aI)
    ·refine sChk (trAnd trLe (trAnd trLeN trLeNN)) ⟨by omega, by omega, Nat.le_refl _⟩ ?_
     refine sfAddNI (sfSubON ?_)
     refine sCall hL ⟨a.drop j, by simp; omega⟩ (r := .a (listO (a.drop j)).g) rfl (.cons _ _ _ _ (.sl _ _ _ _ _ (by simp) (by have := ht.drop j; rw [← List.map_drop] at this; simpa using this)) .nil) .nil fun _ _ h1 _ => ?_
     refine sAR (show RV (.a (listO (a.drop j)).g) _ from h1) (O.g_len _) fun q1 hq1 => ?_
     (refine Zz ?_;with_reducible repeat' first|intro _|apply aI)
     exact hc _ _ ⟨_, _, rfl, rfl, .a _ _ (by simp) (by assumption), by rw [← hme]; assumption⟩
    ·omega
end
end Go.Proofs.YtccafnaghnbpeaaGreatDoor
