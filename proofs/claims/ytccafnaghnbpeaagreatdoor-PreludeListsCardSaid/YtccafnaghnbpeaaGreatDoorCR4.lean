/- The reference's numbers: decimal strings. -/
import Derived.Test.YtccafnaghnbpeaaGreatDoorCL0
import Derived.Test.YtccafnaghnbpeaaGreatDoorCL1
import Derived.Test.YtccafnaghnbpeaaGreatDoorCP
set_option linter.all false
namespace Go.Proofs.YtccafnaghnbpeaaGreatDoor
open Go.Abs LQ
set_option maxRecDepth 100000
set_option maxHeartbeats 4000000
noncomputable section
def dg (d : Nat) : List G := [.i .i64 (d : Int)]
theorem dg_inj {a b : Nat} (h : dg a = dg b) : a = b := by simp only [dg, List.cons.injEq, G.i.injEq, and_true, true_and] at h; omega
theorem mapdg_inj : ∀ {l m : List Nat}, l.map dg = m.map dg → l = m
 | [], [], _ => rfl
 | [], _ :: _, h => by simp at h
 | _ :: _, [], h => by simp at h
 | a :: l, b :: m, h => by simp only [List.map_cons, List.cons.injEq] at h; exact congr (congrArg List.cons (dg_inj h.1)) (mapdg_inj h.2)
theorem s_inj {a b : Str} {v : V} (h : RV (.c (.s a)) v) (k : RV (.c (.s b)) v) : a = b := by have := h.c_inj k; injection this
theorem b_inj {a b : Bool} {v : V} (h : RV (.c (.b a)) v) (k : RV (.c (.b b)) v) : a = b := by have := h.c_inj k; injection this
theorem i_inj {c : IntKind} {a b : Int} {v : V} (h : RV (.c (.i c a)) v) (k : RV (.c (.i c b)) v) : a = b := by have := h.c_inj k; injection this
theorem isDig_t {c : Int} : isDig c = true ↔ 48 ≤ c ∧ c ≤ 57 := by simp [isDig]
theorem dig_in {s : Str} {i : Nat} (h : i < s.length) (h1 : ¬ ((s.getD i 0).toNat : Int) < 48) (h2 : ¬ 57 < ((s.getD i 0).toNat : Int)) : digEnd s i = digEnd s (i + 1) := by
 rw [digEnd, if_pos h, if_pos (isDig_t.2 (by unfold bt; omega))]
theorem dig_lo {s : Str} {i : Nat} (h : i < s.length) (h1 : ((s.getD i 0).toNat : Int) < 48 ∨ 57 < ((s.getD i 0).toNat : Int)) : digEnd s i = i := by
 rw [digEnd, if_pos h, if_neg (mt isDig_t.1 (by unfold bt; omega))]
theorem dig_end {s : Str} {i : Nat} (h : ¬ i < s.length) : digEnd s i = i := by
 rw [digEnd, if_neg h]
theorem sign1 {s : Str} (h : 0 < (s.length : Int)) (h2 : ((s.getD 0 0).toNat : Int) = 45) : signLen s = 1 := by unfold signLen; rw [if_pos ⟨by omega, h2⟩]
theorem sign0 {s : Str} (h2 : ¬ ((s.getD 0 0).toNat : Int) = 45) : signLen s = 0 := by unfold signLen; rw [if_neg (fun h => h2 h.2)]
theorem sign0' {s : Str} (h : ¬ 0 < (s.length : Int)) : signLen s = 0 := by unfold signLen; rw [if_neg (fun k => by omega)]
theorem val_f1 {s : Str} {k : Nat} (h0 : ¬ s = dec 1 48) (h1 : signLen s = k) (h : s.length ≤ k) : decOk s = false := by
 have h0 : ¬ s = zeroStr := h0
 simp [decOk, h0, h1]; omega
theorem val_f2 {s : Str} {k : Nat} (h0 : ¬ s = dec 1 48) (h1 : signLen s = k) (h : ((s.getD k 0).toNat : Int) = 48) : decOk s = false := by
 have h0 : ¬ s = zeroStr := h0
 have h : bt s k = 48 := h
 simp [decOk, h0, h1, h]
theorem val_d {s : Str} {k : Nat} (h0 : ¬ s = dec 1 48) (h1 : signLen s = k) (h2 : k < s.length) (h : ¬ ((s.getD k 0).toNat : Int) = 48) : decOk s = decide (digEnd s k = s.length) := by
 have h0 : ¬ s = zeroStr := h0
 have h : ¬ bt s k = 48 := h
 have : k < s.length := by omega
 simp [decOk, h0, h1, h, this]
def sp1 (R : Str → GRes) : Sp where
 ι := { s : Str // s.length < 90000 }
 A s := [.c (.s s.1)]
 B _ := []
 R s := R s.1
 B' _ := []
 inj i j vs bs h k _ _ := by
  obtain ⟨_, _, h1, k1, h, k⟩ := h.two k
  rw [s_inj h1 k1]; exact ⟨rfl, rfl⟩
theorem kValid1 : Know 68 (sp1 fun s => .ret (.c (.b (decOk s)))) := know (fun fn h => r68_ok h) [] .nil fun U fn hfn ⟨s, hs⟩ vs bs hv hb => by
 have hv : RVs [.c (.s s)] vs := hv
 have hb : RBs [] bs := hb
 show Sat U _ fun v bs' => RRes (.ret (.c (.b (decOk s)))) v ∧ RBs [] bs'
 unfold r68
 (refine Zx ?_;with_reducible repeat' first|intro _|apply aI)
 all_goals try (exfalso; omega)
 ·exact sRet ⟨.ret _ _ (rvK (by subst_vars; rfl)), .nil⟩
 ·exact sRet ⟨.ret _ _ (rvK (val_f1 (k := 1) ‹_› (sign1 ‹_› ‹_›) (by omega))), .nil⟩
 ·exact sRet ⟨.ret _ _ (rvK (val_f2 (k := 1) ‹_› (sign1 ‹_› ‹_›) ‹_›)), .nil⟩
 ·have hd := val_d (k := 1) ‹_› (sign1 ‹_› ‹_›) (by omega) ‹_›
  (refine sLp (fun (i : Nat) vs bs => vs = [.str s.length (code s), .int .i64 i] ∧ bs = [] ∧ i ≤ s.length ∧ digEnd s i = digEnd s 1) (fun i => s.length - i) 1 ⟨rfl, rfl, by omega, rfl⟩ (by simp only [FUEL]; omega) ?_; rintro self i vs bs ⟨rfl, rfl, hi, he⟩ ih; (refine Zx ?_;with_reducible repeat' first|intro _|apply aI); all_goals first | exact ih (i + 1) _ _ ⟨rfl, rfl, by omega, by rw [← he, dig_in (i := i) (by omega) ‹_› ‹_›]⟩ (by omega) | exact sRet ⟨.ret _ _ (rvK (by rw [hd, ← he, dig_end (i := i) (by omega)]; exact decide_eq_true (by omega))), .nil⟩ | exact sRet ⟨.ret _ _ (rvK (by rw [hd, ← he, dig_lo (i := i) (by omega) (by omega)]; exact decide_eq_false (by omega))), .nil⟩)
 ·exact sRet ⟨.ret _ _ (rvK (val_f2 (k := 0) ‹_› (sign0 ‹_›) ‹_›)), .nil⟩
 ·have hd := val_d (k := 0) ‹_› (sign0 ‹_›) (by omega) ‹_›
  (refine sLp (fun (i : Nat) vs bs => vs = [.str s.length (code s), .int .i64 i] ∧ bs = [] ∧ i ≤ s.length ∧ digEnd s i = digEnd s 0) (fun i => s.length - i) 0 ⟨rfl, rfl, by omega, rfl⟩ (by simp only [FUEL]; omega) ?_; rintro self i vs bs ⟨rfl, rfl, hi, he⟩ ih; (refine Zx ?_;with_reducible repeat' first|intro _|apply aI); all_goals first | exact ih (i + 1) _ _ ⟨rfl, rfl, by omega, by rw [← he, dig_in (i := i) (by omega) ‹_› ‹_›]⟩ (by omega) | exact sRet ⟨.ret _ _ (rvK (by rw [hd, ← he, dig_end (i := i) (by omega)]; exact decide_eq_true (by omega))), .nil⟩ | exact sRet ⟨.ret _ _ (rvK (by rw [hd, ← he, dig_lo (i := i) (by omega) (by omega)]; exact decide_eq_false (by omega))), .nil⟩)
 ·exact sRet ⟨.ret _ _ (rvK (val_f1 (k := 0) ‹_› (sign0' ‹_›) (by omega))), .nil⟩
theorem ok_digits {s : Str} (h : decOk s = true) (h0 : ¬ s = zeroStr) : ∀ j, signLen s ≤ j → j < s.length → 48 ≤ bt s j ∧ bt s j ≤ 57 := by
 intro j h1 h2
 simp [decOk, h0] at h
 exact digEnd_all s (signLen s) j h1 (by omega)
theorem kDigits1 : Know 53 (sp1 fun s => .ret (.t [.c (.b (digS s).1), .sl 1 ((digS s).2.map dg)])) := know (fun fn h => r53_ok h) [(68, _)] (.cons kValid1 .nil) fun U fn hfn ⟨s, hs⟩ vs bs hv hb => by
 have hr := hfn 68 _ rfl
 have hv : RVs [.c (.s s)] vs := hv
 have hb : RBs [] bs := hb
 show Sat U _ fun v bs' => RRes (.ret (.t [.c (.b (digS s).1), .sl 1 ((digS s).2.map dg)])) v ∧ RBs [] bs'
 unfold r53
 (refine Zx ?_;with_reducible repeat' first|intro _|apply aI)
 refine sCall hr ⟨s, hs⟩ (r := .c (.b (decOk s))) rfl Zrv .nil fun _ _ _ _ => ?_
 (refine Zx ?_;with_reducible repeat' first|intro _|apply aI)
 ·have e : digS s = (false, []) := by unfold digS; rw [if_neg]; exact fun h => h.2 ‹s = dec 1 48›
  exact sRet ⟨.ret _ _ (by rw [e]; (exact Zrv)), .nil⟩
 ·have h1 := ‹decOk s = true›
  have h2 : ¬ s = zeroStr := ‹_›
  have hd := ok_digits h1 h2
  have hpos : signLen s < s.length := by simp [decOk, h2] at h1; omega
  have e : digS s = (decide (signLen s = 1), dgsFrom s (signLen s) s.length []) := by unfold digS; rw [if_pos ⟨h1, h2⟩]
  (refine Zx ?_;with_reducible repeat' first|intro _|apply aI)
  ·have es := sign1 (s := s) (by omega) ‹_›
   have h45 := ‹((s.getD 0 0).toNat : Int) = 45›
   rw [es] at hd e
   generalize hB : U.iEq _ _ = B
   (refine sLp (fun (m : Nat) vs bs => ∃ (i : Int) (v : V) (acc : List Nat), vs = [.str s.length (code s), .bool B, .int .i64 1, .int .i64 i, v] ∧ bs = [.tok acc.length 1] ∧ TokS 0 1 (acc.map dg) v ∧ i = m - 1 ∧ 1 ≤ m ∧ m ≤ s.length ∧ acc.length + m = s.length ∧ dgsFrom s 1 m acc = dgsFrom s 1 s.length []) (fun m => m) s.length ⟨_, _, [], rfl, rfl, .b rfl, rfl, by omega, by omega, by simp, rfl⟩ (by simp only [FUEL]; omega) ?_; rintro self m _ _ ⟨i, v, acc, rfl, rfl, ht, hi, hk, hm, ha, he⟩ ih; subst hi; (refine Zx ?_;with_reducible repeat' first|intro _|apply aI); (have h9 := hd (m - 1) (by omega) (by omega); have hx : ((s.getD ((m : Int) - 1).toNat 0).toNat : Int) = bt s (m - 1) := (by unfold bt; rw [show ((m : Int) - 1).toNat = m - 1 by omega]); refine sfWr8S (m := ((bt s (m - 1) - 48).toNat : Int)) (by omega) (by omega) ?_; refine sfWr64 (m := ((bt s (m - 1) - 48).toNat : Int)) rfl (by omega) ?_; (refine Zx ?_;with_reducible repeat' first|intro _|apply aI); refine sAT1 (by assumption) (fun _ => row1 (by first | exact .i _ _ | exact .s _ _ _ rfl rfl | assumption)) (by rfl) (by simp) (by simp only [List.length_map]; omega) fun _ _ => ?_; (refine Zx ?_;with_reducible repeat' first|intro _|apply aI); refine ih (m - 1) _ _ ?_ (by omega); refine ⟨_, _, acc ++ [(bt s (m - 1) - 48).toNat], rfl, by simp, .a _ _ (by simp) (by rw [List.map_append]; assumption), by omega, by omega, by omega, by simp; omega, ?_⟩; rw [← he]; obtain ⟨m, rfl⟩ : ∃ n, m = n + 1 := ⟨m - 1, by omega⟩; rw [dgsFrom, if_pos (by omega)]; rfl))
   have em : m = 1 := by omega
   subst em
   rw [show dgsFrom s 1 1 acc = acc by simp [dgsFrom]] at he
   rw [e, ← he]
   exact sRetU fun eU => by subst eU; exact ⟨.ret _ _ (.t _ _ (.cons _ _ _ _ (rvB (by rw [← hB, cuEq]; exact (decide_eq_true (rfl : 1 = 1)).trans (decide_eq_true h45).symm)) (.cons _ _ _ _ (.sl _ _ _ _ _ (by simp) (by assumption)) .nil))), .nil⟩
  ·have h45 := ‹¬ ((s.getD 0 0).toNat : Int) = 45›
   have es := sign0 h45
   rw [es] at hd e
   generalize hB : U.iEq _ _ = B
   (refine sLp (fun (m : Nat) vs bs => ∃ (i : Int) (v : V) (acc : List Nat), vs = [.str s.length (code s), .bool B, .int .i64 0, .int .i64 i, v] ∧ bs = [.tok acc.length 1] ∧ TokS 0 1 (acc.map dg) v ∧ i = m - 1 ∧ 0 ≤ m ∧ m ≤ s.length ∧ acc.length + m = s.length ∧ dgsFrom s 0 m acc = dgsFrom s 0 s.length []) (fun m => m) s.length ⟨_, _, [], rfl, rfl, .b rfl, rfl, by omega, by omega, by simp, rfl⟩ (by simp only [FUEL]; omega) ?_; rintro self m _ _ ⟨i, v, acc, rfl, rfl, ht, hi, hk, hm, ha, he⟩ ih; subst hi; (refine Zx ?_;with_reducible repeat' first|intro _|apply aI); (have h9 := hd (m - 1) (by omega) (by omega); have hx : ((s.getD ((m : Int) - 1).toNat 0).toNat : Int) = bt s (m - 1) := (by unfold bt; rw [show ((m : Int) - 1).toNat = m - 1 by omega]); refine sfWr8S (m := ((bt s (m - 1) - 48).toNat : Int)) (by omega) (by omega) ?_; refine sfWr64 (m := ((bt s (m - 1) - 48).toNat : Int)) rfl (by omega) ?_; (refine Zx ?_;with_reducible repeat' first|intro _|apply aI); refine sAT1 (by assumption) (fun _ => row1 (by first | exact .i _ _ | exact .s _ _ _ rfl rfl | assumption)) (by rfl) (by simp) (by simp only [List.length_map]; omega) fun _ _ => ?_; (refine Zx ?_;with_reducible repeat' first|intro _|apply aI); refine ih (m - 1) _ _ ?_ (by omega); refine ⟨_, _, acc ++ [(bt s (m - 1) - 48).toNat], rfl, by simp, .a _ _ (by simp) (by rw [List.map_append]; assumption), by omega, by omega, by omega, by simp; omega, ?_⟩; rw [← he]; obtain ⟨m, rfl⟩ : ∃ n, m = n + 1 := ⟨m - 1, by omega⟩; rw [dgsFrom, if_pos (by omega)]; rfl))
   have em : m = 0 := by omega
   subst em
   rw [show dgsFrom s 0 0 acc = acc by simp [dgsFrom]] at he
   rw [e, ← he]
   exact sRetU fun eU => by subst eU; exact ⟨.ret _ _ (.t _ _ (.cons _ _ _ _ (rvB (by rw [← hB, cuEq]; exact (decide_eq_false (by decide : ¬ 0 = 1)).trans (decide_eq_false h45).symm)) (.cons _ _ _ _ (.sl _ _ _ _ _ (by simp) (by assumption)) .nil))), .nil⟩
 ·have e : digS s = (false, []) := by unfold digS; rw [if_neg]; exact fun h => absurd h.1 ‹_›
  exact sRet ⟨.ret _ _ (by rw [e]; (exact Zrv)), .nil⟩
section
variable {U : CombU} {P : VRes → List Bx → Prop}
theorem sfTd {l : List Nat} {t : Tre Q} {off : Nat} {i : Int} (n : Nat) {K : Q → Om} (ht : Rws 1 (l.map dg) t off) (hn : i = n) (hi : n < l.length) (h : ∀ x, Cel (dg (l.getD n 0)) x 0 → Sat U (K x) P) : Sat U (U.fQ (U.tQ t (U.nAdd off (U.iNat i))) K) P := by
 subst hn
 refine sfTm (y := l.getD n 0) ht ?_ h
 rw [Int.toNat_natCast, List.getElem?_eq_getElem hi]
 simp [List.getD, List.getElem?_eq_getElem hi]
end
def spL (R : List Nat → GRes) : Sp where
 ι := { l : List Nat // l.length < 90000 }
 A l := [.sl 1 (l.1.map dg)]
 B _ := []
 R l := R l.1
 B' _ := []
 inj i j vs bs h k _ _ := by
  obtain ⟨_, _, h1, k1, h, k⟩ := h.two k
  rw [mapdg_inj (h1.sl_inj k1)]; exact ⟨rfl, rfl⟩
theorem kTrim : Know 69 (spL fun l => .ret (.sl 1 ((trimL l).map dg))) := know (fun fn h => r69_ok h) [] .nil fun U fn hfn ⟨l, hs⟩ vs bs hv hb => by
 have hv : RVs [.sl 1 (l.map dg)] vs := hv
 have hb : RBs [] bs := hb
 show Sat U _ fun v bs' => RRes (.ret (.sl 1 ((trimL l).map dg))) v ∧ RBs [] bs'
 unfold r69
 (refine Zx ?_;with_reducible repeat' first|intro _|apply aI)
 refine sLp (fun (m : Nat) vs bs => ∃ (t : Tre Q) (off : Nat), vs = [.slice t 1 off l.length .no, .int .i64 m] ∧ bs = [] ∧ Rws 1 (l.map dg) t off ∧ m ≤ l.length ∧ trimN l m = trimN l l.length) (fun m => m) l.length ⟨_, _, rfl, rfl, by assumption, by omega, rfl⟩ (by simp only [FUEL]; omega) ?_
 rintro self m _ _ ⟨t, off, rfl, rfl, ht, hm, he⟩ ih
 (refine Zx ?_;with_reducible repeat' first|intro _|apply aI)
 ·refine sfTd (m - 1) (by assumption) (by omega) (by omega) fun _ _ => ?_
  (refine Zx ?_;with_reducible repeat' first|intro _|apply aI)
  ·refine ih (m - 1) _ _ ⟨_, _, by rw [show ((m - 1 : Nat) : Int) = (m : Int) - 1 by omega], rfl, ht, by omega, ?_⟩ (by omega)
   have h0 := ‹((l.getD (m - 1) 0 : Nat) : Int) = 0›
   obtain ⟨m, rfl⟩ : ∃ n, m = n + 1 := ⟨m - 1, by omega⟩
   rw [← he, trimN, if_pos (by simpa using h0)]; rfl
  ·have h0 := ‹¬ ((l.getD (m - 1) 0 : Nat) : Int) = 0›
   have e : trimL l = l.take m := by
    obtain ⟨m, rfl⟩ : ∃ n, m = n + 1 := ⟨m - 1, by omega⟩
    unfold trimL
    rw [← he, trimN, if_neg (by simpa using h0)]
   rw [e, List.map_take]
   exact sRet ⟨.ret _ _ (.sl _ _ _ _ _ (by simp; omega) (ht.take m)), .nil⟩
 ·have em : m = 0 := by omega
  subst em
  have e : trimL l = l.take 0 := by unfold trimL; rw [← he]; rfl
  rw [e, List.map_take]
  exact sRet ⟨.ret _ _ (.sl _ _ _ _ _ (by simp) (ht.take 0)), .nil⟩
theorem getD_i {l : List Nat} {i : Nat} (h : i < l.length) : l[i] = l.getD i 0 := by simp [List.getD, List.getElem?_eq_getElem h]
theorem D9.at {l : List Nat} (h : D9 l) (i : Nat) : l.getD i 0 ≤ 9 := by
 by_cases hi : i < l.length
 ·rw [← getD_i hi]; exact h _ (List.getElem_mem _)
 ·simp [List.getD, List.getElem?_eq_none (Nat.le_of_not_lt hi)]
def spLL (ok : List Nat → List Nat → Prop) (R : List Nat → List Nat → GRes) : Sp where
 ι := { p : List Nat × List Nat // p.1.length < 90000 ∧ p.2.length < 90000 ∧ ok p.1 p.2 }
 A p := [.sl 1 (p.1.1.map dg), .sl 1 (p.1.2.map dg)]
 B _ := []
 R p := R p.1.1 p.1.2
 B' _ := []
 inj i j vs bs h k _ _ := by
  obtain ⟨_, _, h1, k1, h, k⟩ := h.two k
  obtain ⟨_, _, h2, k2, h, k⟩ := h.two k
  rw [mapdg_inj (h1.sl_inj k1), mapdg_inj (h2.sl_inj k2)]; exact ⟨rfl, rfl⟩
theorem kOrder : Know 70 (spLL (fun _ _ => True) fun a b => .ret (.c (.i .i64 (ordL a b)))) := know (fun fn h => r70_ok h) [] .nil fun U fn hfn ⟨(a, b), ha, hbl, _⟩ vs bs hv hb => by
 have ha : a.length < 90000 := ha
 have hbl : b.length < 90000 := hbl
 have hv : RVs [.sl 1 (a.map dg), .sl 1 (b.map dg)] vs := hv
 have hb : RBs [] bs := hb
 show Sat U _ fun v bs' => RRes (.ret (.c (.i .i64 (ordL a b)))) v ∧ RBs [] bs'
 unfold r70
 (refine Zx ?_;with_reducible repeat' first|intro _|apply aI)
 ·have hl : a.length = b.length := by omega
  have e : ordL a b = ordFrom a b a.length := by unfold ordL; rw [if_pos hl]
  rw [e]
  refine sLp (fun (m : Nat) vs bs => ∃ (t : Tre Q) (off : Nat) (t' : Tre Q) (off' : Nat) (i : Int), vs = [.slice t 1 off a.length .no, .slice t' 1 off' b.length .no, .int .i64 i] ∧ bs = [] ∧ i = m - 1 ∧ Rws 1 (a.map dg) t off ∧ Rws 1 (b.map dg) t' off' ∧ m ≤ a.length ∧ ordFrom a b m = ordFrom a b a.length) (fun m => m) a.length ⟨_, _, _, _, _, rfl, rfl, rfl, by assumption, by assumption, by omega, rfl⟩ (by simp only [FUEL]; omega) ?_
  rintro self m _ _ ⟨t, off, t', off', i, rfl, rfl, rfl, ht, ht', hm, he⟩ ih
  (refine Zx ?_;with_reducible repeat' first|intro _|apply aI)
  ·refine sfTd (m - 1) (by assumption) (by omega) (by omega) fun _ _ => ?_
   (refine Zx ?_;with_reducible repeat' first|intro _|apply aI)
   refine sfTd (m - 1) (by assumption) (by omega) (by omega) fun _ _ => ?_
   (refine Zx ?_;with_reducible repeat' first|intro _|apply aI)
   ·obtain ⟨m, rfl⟩ : ∃ n, m = n + 1 := ⟨m - 1, by omega⟩
    exact sRet ⟨.ret _ _ (rvI (by rw [← he, ordFrom, if_pos (by simp only [Nat.add_sub_cancel] at *; omega)])), .nil⟩
   ·refine sfTd (m - 1) (by assumption) (by omega) (by omega) fun _ _ => ?_
    (refine Zx ?_;with_reducible repeat' first|intro _|apply aI)
    refine sfTd (m - 1) (by assumption) (by omega) (by omega) fun _ _ => ?_
    (refine Zx ?_;with_reducible repeat' first|intro _|apply aI)
    ·obtain ⟨m, rfl⟩ : ∃ n, m = n + 1 := ⟨m - 1, by omega⟩
     exact sRet ⟨.ret _ _ (rvI (by rw [← he, ordFrom, if_neg (by simp only [Nat.add_sub_cancel] at *; omega), if_pos (by simp only [Nat.add_sub_cancel] at *; omega)])), .nil⟩
    ·refine ih (m - 1) _ _ ?_ (by omega)
     obtain ⟨m, rfl⟩ : ∃ n, m = n + 1 := ⟨m - 1, by omega⟩
     exact ⟨_, _, _, _, _, rfl, rfl, by omega, ht, ht', by omega, by rw [← he, Nat.add_sub_cancel]; conv => rhs; rw [ordFrom, if_neg (by simp only [Nat.add_sub_cancel] at *; omega), if_neg (by simp only [Nat.add_sub_cancel] at *; omega)]⟩
  ·have em : m = 0 := by omega
   subst em
   exact sRet ⟨.ret _ _ (rvI (by rw [← he]; rfl)), .nil⟩
 ·exact sRet ⟨.ret _ _ (rvI (by unfold ordL; rw [if_neg (by omega), if_pos (by omega)])), .nil⟩
 ·exact sRet ⟨.ret _ _ (rvI (by unfold ordL; rw [if_neg (by omega), if_neg (by omega)])), .nil⟩
end
end Go.Proofs.YtccafnaghnbpeaaGreatDoor
