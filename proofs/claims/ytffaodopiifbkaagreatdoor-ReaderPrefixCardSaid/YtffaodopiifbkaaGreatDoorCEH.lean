/- The program's reader: the token that begins with a word. -/
import Derived.Test.YtffaodopiifbkaaGreatDoorCEG
import Derived.Test.YtffaodopiifbkaaGreatDoorCV
set_option linter.all false
namespace Go.Proofs.YtffaodopiifbkaaGreatDoor
open Go.Abs LQ
set_option maxRecDepth 100000
set_option maxHeartbeats 8000000
noncomputable section
def pT0 (i : Nat) : Tok := ⟨0, i, [], [], []⟩
def spWd : Sp where
 ι := { q : Str × Nat × Str × Nat // q.2.2.2 ≤ q.1.length ∧ q.1.length < 8000 ∧ 0 < q.2.2.1.length ∧ q.2.2.1.length < 8000 }
 A q := [.p 0 0, .a (tkG (pT0 q.1.2.1)), .c (.s q.1.2.2.1)]
 B q := [scG q.1.1 q.1.2.2.2]
 R q := tokR (wdS q.1.1 q.1.2.1 q.1.2.2.1 q.1.2.2.2)
 B' q := [scG q.1.1 (tokB q.1.2.2.2 (wdS q.1.1 q.1.2.1 q.1.2.2.1 q.1.2.2.2))]
 inj i j vs bs hv kv h k := by
  have e1 := scG_inj (RBs.one_inj h k)
  obtain ⟨_, _, _, _, hv, kv⟩ := hv.two kv
  obtain ⟨_, _, h2, k2, hv, kv⟩ := hv.two kv
  obtain ⟨_, _, h3, k3, _, _⟩ := hv.two kv
  have e2 := congrArg Tok.pos (tkG_inj (h2.a_inj k2))
  have e2 : i.1.2.1 = j.1.2.1 := e2
  rw [e1.1, e1.2, e2, s_inj h3 k3]; exact ⟨rfl, rfl⟩
theorem namedErr_ne {t p : Str} (h : 0 < t.length) : namedErr t p true = namedErr t p false := by
 unfold namedErr
 have : ((true = true ∧ t.length = 0) ∨ (p.length ≠ 0 ∧ validPkg p = false)) ↔ ((false = true ∧ t.length = 0) ∨ (p.length ≠ 0 ∧ validPkg p = false)) := ⟨fun h => h.elim (fun h => by omega) .inr, fun h => h.elim (fun h => by cases h.1) .inr⟩
 by_cases h1 : 40 < t.length
 ·rw [if_pos h1, if_pos h1]
 ·rw [if_neg h1, if_neg h1]
  by_cases h2 : (true = true ∧ t.length = 0) ∨ (p.length ≠ 0 ∧ validPkg p = false)
  ·rw [if_pos h2, if_pos (this.1 h2)]
  ·rw [if_neg h2, if_neg (fun h => h2 (this.2 h))]
theorem wordT_pos {s : Str} {i : Nat} (h : i < s.length) (hc : constit (bt s i) = true) : 0 < (wordT s i).length := by
 have h1 := we_in h hc
 have h2 := wordEnd_le s (i + 1) (by omega)
 unfold wordT; simp; omega
theorem numP_len (w : Str) : (numP w).1.length ≤ w.length ∧ (numP w).2.length ≤ max 1 w.length := by
 unfold numP cutB
 split <;> simp [oneStr] <;> omega
theorem wd_qual {s : Str} {i k : Nat} {w : Str} (h : has s k 58 58 = true) : wdS s i w k = qualTok s i w k := by unfold wdS; rw [if_pos h]
theorem wd_word {s : Str} {i k : Nat} {w : Str} (h : ¬ has s k 58 58 = true) : wdS s i w k = wordTok i w k := by unfold wdS; rw [if_neg h]
theorem qual_eq {s p : Str} {i k : Nat} (h : k + 2 < s.length) : qualTok s i p k = if bt s (k + 2) = 124 then (match encl s 124 (k + 2 + 1) [] with
  | .error e => .error e
  | .ok (l, j) => if namedErr (nums l) p true = 0 then .ok (⟨6, i, p, nums l, noStr⟩, j) else .error (namedErr (nums l) p true, i))
 else if constit (bt s (k + 2)) then (if namedErr (wordT s (k + 2)) p false = 0 then .ok (⟨6, i, p, wordT s (k + 2), noStr⟩, wordEnd s (k + 2)) else .error (namedErr (wordT s (k + 2)) p false, i))
 else .error (12, k + 2) := by rw [qualTok, if_pos h]; rfl
theorem kWorded (hst : Know 203 spIs) (hdl : Know 136 spDel) : Know 139 spWd := know (fun fn h => r139_ok h) [(160, _), (135, _), (51, _), (136, _), (138, _), (140, _), (137, _), (164, _), (165, _), (166, _), (155, _), (167, _)] (.cons kStarts (.cons kMore (.cons kFail (.cons hdl (.cons kConstit (.cons kWord (.cons (kNamedT hst) (.cons kNumeral (.cons kTrimS (.cons kPlain (.cons (kReduceN hst) (.cons kDigitsN .nil)))))))))))) fun U fn hfn ⟨(s, pos, w, k), hk, hsl, hw0, hwl⟩ vs bs hv hb => by
 have hs := hfn 160 _ rfl
 have hm := hfn 135 _ rfl
 have hf := hfn 51 _ rfl
 have hd := hfn 136 _ rfl
 have hc := hfn 138 _ rfl
 have hwd := hfn 140 _ rfl
 have hnm := hfn 137 _ rfl
 have hnu := hfn 164 _ rfl
 have htr := hfn 165 _ rfl
 have hpl := hfn 166 _ rfl
 have hre := hfn 155 _ rfl
 have hdg := hfn 167 _ rfl
 have hk : k ≤ s.length := hk
 have hsl : s.length < 8000 := hsl
 have hw0 : 0 < w.length := hw0
 have hwl : w.length < 8000 := hwl
 have hv : RVs [.p 0 0, .a [.i .i64 0, .i .i64 (pos : Int), .s [], .s [], .s []], .c (.s w)] vs := hv
 have hb : RBs [[.s s, .i .i64 (k : Int)]] bs := hb
 show Sat U _ fun v bs' => RRes (tokR (wdS s pos w k)) v ∧ RBs [scG s (tokB k (wdS s pos w k))] bs'
 unfold r139
 -- a failure
 have bad : ∀ {e : Int} {p : Nat} {vs : List V} {bs : List Bx} {K : V → List Bx → Om}, wdS s pos w k = .error (e, p) → RVs [.c (.i .i64 e), .c (.i .i64 (p : Int))] vs → RBs [] bs → Sat U (U.bind (fn 51 vs bs) K fun v => some (.pan (U.rn0 v), [.cells [.str s.length (code s), .int .i64 k]])) fun v bs' => RRes (tokR (wdS s pos w k)) v ∧ RBs [scG s (tokB k (wdS s pos w k))] bs' := fun {e p vs bs K} he hv hb => by
  rw [he]
  exact sCallP hf (e, (p : Int)) (r := .fl 122 e p) rfl hv hb fun _ hv => sPan hv (scC rfl)
 have badN : ∀ {t : Tok} {vs : List V} {bs : List Bx} {K : V → List Bx → Om}, t.pkg.length < 90000 → namedErr t.text t.pkg true ≠ 0 → wdS s pos w k = .error (namedErr t.text t.pkg true, t.pos) → RVs [.a (tkG t)] vs → RBs [] bs → Sat U (U.bind (fn 137 vs bs) K fun v => some (.pan (U.rn0 v), [.cells [.str s.length (code s), .int .i64 k]])) fun v bs' => RRes (tokR (wdS s pos w k)) v ∧ RBs [scG s (tokB k (wdS s pos w k))] bs' := fun {t vs bs K} hl h0 he hv hb => by
  rw [he]
  exact sCallP hnm ⟨t, hl⟩ (r := .fl 122 (namedErr t.text t.pkg true) t.pos) (by show namedR t = _; unfold namedR; rw [if_neg h0]) hv hb fun _ hv => sPan hv (scC rfl)
 (refine Zq ?_;with_reducible repeat' first|intro _|apply aI)
 refine sCall hs ⟨⟨(s, k), hk, by show s.length < 90000; omega⟩, dec 2 14906⟩ (r := .c (.b (has s k 58 58))) (by show GRes.ret (.c (.b (preS (s.drop k) (dec 2 14906)))) = _; rw [dec_cc, pre2 hk]; rfl) Zrv (scC rfl) fun _ _ _ hb1 => ?_
 have hb1 : RBs [[.s s, .i .i64 (k : Int)]] _ := hb1
 (refine Zy ?_;with_reducible repeat' first|intro _|apply aI)
 ·have hq : has s k 58 58 = true := ‹_›
  have hk2 := has_lt hq
  have ewd := wd_qual (i := pos) (w := w) hq
  refine sJnP (fun vs bs => ∃ (text : Str) (j : Nat), RVs [.p 1 0, .p 2 0] vs ∧ RBs [[.s s, .i .i64 (j : Int)], tkG ⟨6, pos, w, text, []⟩, z5] bs ∧ j ≤ s.length ∧ qualTok s pos w k = if namedErr text w true = 0 then .ok (⟨6, pos, w, text, []⟩, j) else .error (namedErr text w true, pos)) ?_ ?_
  ·rintro vs' bs' ⟨text, j, hv', hb', hj, he⟩
   have hb' : RBs [[.s s, .i .i64 (j : Int)], [.i .i64 6, .i .i64 (pos : Int), .s w, .s text, .s []], [.i .i64 0, .i .i64 0, .s [], .s [], .s []]] bs' := hb'
   (refine Zq ?_;with_reducible repeat' first|intro _|apply aI)
   by_cases h0 : namedErr text w true = 0
   ·rw [if_pos h0] at he
    refine sCall hnm ⟨⟨6, pos, w, text, []⟩, by show w.length < 90000; omega⟩ (r := .t []) (by show namedR _ = _; unfold namedR; rw [if_pos h0]) (.cons _ _ _ _ (.a _ _ _ rfl (by assumption)) .nil) .nil fun _ _ _ _ => ?_
    (refine Zq ?_;with_reducible repeat' first|intro _|apply aI)
    rw [ewd, he]
    exact sRet ⟨.ret _ _ (.a _ _ _ rfl (by assumption)), RB.bx (by assumption) rfl⟩
   ·rw [if_neg h0] at he
    exact badN (t := ⟨6, pos, w, text, []⟩) (by show w.length < 90000; omega) h0 (ewd.trans he) (.cons _ _ _ _ (.a _ _ _ rfl (by assumption)) .nil) .nil
  ·intro c hcc
   (refine Zq ?_;with_reducible repeat' first|intro _|apply aI)
   refine sCall hm ⟨(s, k + 2), by show k + 2 ≤ s.length; omega, by show s.length < 90000; omega⟩ (r := .c (.b (decide (k + 2 < s.length)))) rfl Zrv (scC (show (k : Int) + 2 = ((k + 2 : Nat) : Int) by omega)) fun _ _ _ hb2 => ?_
   have hb2 : RBs [[.s s, .i .i64 ((k + 2 : Nat) : Int)]] _ := hb2
   (refine Zq ?_;with_reducible repeat' first|intro _|apply aI)
   ·have hlt : k + 2 < s.length := of_decide_eq_true ‹_›
    have hbt : ((s.getD (k + 2) 0).toNat : Int) = bt s (k + 2) := rfl
    have hb0 := bt_nonneg s (k + 2)
    have hb9 := bt_lt s (k + 2)
    have e0 := qual_eq (i := pos) (p := w) hlt
    (refine Zq ?_;with_reducible repeat' first|intro _|apply aI)
    ·have h124 : bt s (k + 2) = 124 := ‹_›
     rw [if_pos h124] at e0
     have hds : delS s (k + 2) 124 = encl s 124 (k + 2 + 1) [] := rfl
     rw [← hds] at e0
     cases hde : delS s (k + 2) 124 with
     | error er =>
      obtain ⟨er, p⟩ := er
      rw [hde] at e0
      rw [ewd, e0]
      exact sCallP hd ⟨(⟨(s, k + 2), by show k + 2 ≤ s.length; omega, by show s.length < 90000; omega⟩, 124), .inr rfl, hlt, hsl⟩ (r := .fl 122 er p) (by show delR (delS s (k + 2) 124) = _; rw [hde]; rfl) Zrv (scC rfl) fun _ hv => sPan hv (scC rfl)
     | ok lj =>
      obtain ⟨l, j⟩ := lj
      rw [hde] at e0
      have hj := encl_gt hde
      refine sCall hd ⟨(⟨(s, k + 2), by show k + 2 ≤ s.length; omega, by show s.length < 90000; omega⟩, 124), .inr rfl, hlt, hsl⟩ (r := .c (.s (nums l))) (by show delR (delS s (k + 2) 124) = _; rw [hde]; rfl) Zrv (scC rfl) fun _ _ _ hb3 => ?_
      have hb3 : RBs [scG s (delB (k + 2) (delS s (k + 2) 124))] _ := hb3
      rw [hde] at hb3
      have hb3 : RBs [[.s s, .i .i64 (j : Int)]] _ := hb3
      (refine Zq ?_;with_reducible repeat' first|intro _|apply aI)
      exact fun e => hcc _ _ ⟨nums l, j, by (exact Zrv), .cons _ _ _ _ (scB rfl) (.cons _ _ _ _ (.cells _ _ (by subst e; (exact Zru))) (.cons _ _ _ _ z5B .nil)), hj.2, e0⟩ e
    ·have h124 : ¬ bt s (k + 2) = 124 := ‹_›
     rw [if_neg h124] at e0
     refine sCall hc ⟨bt s (k + 2), hb0, hb9⟩ (r := .c (.b (constit (bt s (k + 2))))) rfl Zrv .nil fun _ _ _ _ => ?_
     (refine Zq ?_;with_reducible repeat' first|intro _|apply aI)
     ·have hcs : constit (bt s (k + 2)) = true := ‹_›
      rw [if_pos hcs] at e0
      have hwe := wordEnd_le s (k + 2) (by omega)
      have hwp := wordT_pos hlt hcs
      refine sCall hwd ⟨(s, k + 2), by show k + 2 ≤ s.length; omega, by show s.length < 90000; omega⟩ (r := .c (.s (wordT s (k + 2)))) rfl Zrv (scC rfl) fun _ _ _ hb3 => ?_
      have hb3 : RBs [[.s s, .i .i64 ((wordEnd s (k + 2) : Nat) : Int)]] _ := hb3
      (refine Zq ?_;with_reducible repeat' first|intro _|apply aI)
      refine fun e => hcc _ _ ⟨wordT s (k + 2), wordEnd s (k + 2), by (exact Zrv), .cons _ _ _ _ (scB rfl) (.cons _ _ _ _ (.cells _ _ (by subst e; (exact Zru))) (.cons _ _ _ _ z5B .nil)), hwe.2, ?_⟩ e
      rw [namedErr_ne hwp]; exact e0
     ·have hcs : ¬ constit (bt s (k + 2)) = true := ‹_›
      rw [if_neg hcs] at e0
      exact bad (ewd.trans e0) Zrv .nil
   ·have hlt : ¬ k + 2 < s.length := fun h => ‹¬ decide (k + 2 < s.length) = true› (decide_eq_true h)
    exact bad (ewd.trans (by rw [qualTok, if_neg hlt])) Zrv .nil
 ·have hq : ¬ has s k 58 58 = true := ‹_›
  have ewd := wd_word (i := pos) (w := w) hq
  obtain ⟨nl1, nl2⟩ := numP_len w
  refine sCall hnu ⟨w, by show w.length < 90000; omega⟩ (r := .t [.c (.s (numP w).1), .c (.s (numP w).2), .c (.b (numeral w).2.2)]) rfl Zrv .nil fun _ _ _ _ => ?_
  (refine Zy ?_;with_reducible repeat' first|intro _|apply aI)
  refine sJnP (fun vs bs => ∃ t : Tok, RVs [.p 1 0, .p 2 0] vs ∧ RBs [[.s s, .i .i64 (k : Int)], tkG t, z5] bs ∧ wordTok pos w k = .ok (t, k)) ?_ ?_
  ·rintro vs' bs' ⟨t, hv', hb', he⟩
   have hb' : RBs [[.s s, .i .i64 (k : Int)], [.i .i64 t.kind, .i .i64 (t.pos : Int), .s t.pkg, .s t.text, .s t.den], [.i .i64 0, .i .i64 0, .s [], .s [], .s []]] bs' := hb'
   (refine Zq ?_;with_reducible repeat' first|intro _|apply aI)
   rw [ewd, he]
   exact sRet ⟨.ret _ _ (.a _ _ _ rfl (by assumption)), RB.bx (by assumption) rfl⟩
  ·intro c hcc
   (refine Zy ?_;with_reducible repeat' first|intro _|apply aI)
   ·have hdot : w = dec 1 46 := ‹_›
    refine fun e => hcc _ _ ⟨⟨3, pos, [], [], []⟩, by (exact Zrv), .cons _ _ _ _ (scB rfl) (.cons _ _ _ _ (.cells _ _ (by subst e; (exact Zru))) (.cons _ _ _ _ z5B .nil)), ?_⟩ e
    rw [wordTok, if_pos (by rw [hdot]; rfl)]; rfl
   ·have hdot : ¬ w = [46] := ‹_›
    refine sJnP (fun vs bs => ∃ z : Bool, RVs [.c (.s w), .p 1 0, .p 2 0, .c (.s (numP w).1), .c (.s (numP w).2), .c (.b (numeral w).2.2), .c (.b z)] vs ∧ RBs [[.s s, .i .i64 (k : Int)], tkG (pT0 pos), z5] bs ∧ (z = true ↔ (numeral w).2.2 = true ∧ Lib.trimS (numP w).2 [48] = [])) ?_ ?_
    ·rintro vs' bs' ⟨z, hv', hb', hz⟩
     have hb' : RBs [[.s s, .i .i64 (k : Int)], [.i .i64 0, .i .i64 (pos : Int), .s [], .s [], .s []], [.i .i64 0, .i .i64 0, .s [], .s [], .s []]] bs' := hb'
     (refine Zy ?_;with_reducible repeat' first|intro _|apply aI)
     ·obtain ⟨z1, z2⟩ := hz.1 ‹_›
      obtain ⟨c1, c2, c3⟩ := numeral_cipher z1
      exact bad (ewd.trans (by rw [wordTok, if_neg hdot, if_pos z1, if_pos (by rw [c2]; exact (plain_zero c3).1 z2)])) (.cons _ _ _ _ (.i _ _) (.cons _ _ _ _ (.q _ _ (by assumption)) .nil)) .nil
     ·have z1 : (numeral w).2.2 = true := ‹_›
      have z0 : ¬ z = true := ‹_›
      obtain ⟨c1, c2, c3⟩ := numeral_cipher z1
      have e9 : wordTok pos w k = if 100 < digitsS (reduceS (plain (numP w).1) (plain (numP w).2)).1 ∨ 100 < digitsS (reduceS (plain (numP w).1) (plain (numP w).2)).2 then .error (2, pos) else .ok (⟨5, pos, [], (reduceS (plain (numP w).1) (plain (numP w).2)).1, (reduceS (plain (numP w).1) (plain (numP w).2)).2⟩, k) := by
       rw [wordTok, if_neg hdot, if_pos z1, c1, c2, if_neg (fun h => z0 (hz.2 ⟨z1, (plain_zero c3).2 h⟩))]; rfl
      have p1 := plain_len (numP w).1
      have p2 := plain_len (numP w).2
      refine sCall hpl ⟨(numP w).1, by omega⟩ (r := .c (.s (plain (numP w).1))) rfl Zrv .nil fun _ _ _ _ => ?_
      (refine Zy ?_;with_reducible repeat' first|intro _|apply aI)
      refine sCall hpl ⟨(numP w).2, by omega⟩ (r := .c (.s (plain (numP w).2))) rfl Zrv .nil fun _ _ _ _ => ?_
      (refine Zy ?_;with_reducible repeat' first|intro _|apply aI)
      obtain ⟨rn, rd, er, _, _, l1, l2⟩ := reduce_facts (plain (numP w).1) (plain (numP w).2)
      have l3 : (showInt rn).length ≤ 1 + (showNat rn.natAbs).length := by
       rw [showInt_eq, List.length_append]
       have : (LQ.sgn rn).length ≤ 1 := by unfold LQ.sgn; split <;> simp
       omega
      rw [er] at e9
      simp only [] at e9
      rw [digitsS_dlen, digitsS_dlen] at e9
      refine sCall hre ⟨(plain (numP w).1, plain (numP w).2), by show (plain (numP w).1).length < 8000; omega, by show (plain (numP w).2).length < 8000; omega⟩ (r := .t [.c (.s (showInt rn)), .c (.s (showNat rd))]) (by show GRes.ret (.t [.c (.s (reduceS (plain (numP w).1) (plain (numP w).2)).1), .c (.s (reduceS (plain (numP w).1) (plain (numP w).2)).2)]) = _; rw [er]) Zrv .nil fun _ _ _ _ => ?_
      (refine Zy ?_;with_reducible repeat' first|intro _|apply aI)
      refine sJnP (fun vs bs => ∃ y : Bool, RVs [.p 1 0, .p 2 0, .c (.b y)] vs ∧ RBs [[.s s, .i .i64 (k : Int)], tkG ⟨5, pos, [], showInt rn, showNat rd⟩, z5] bs ∧ (y = true ↔ 100 < dlen (showInt rn) ∨ 100 < dlen (showNat rd))) ?_ ?_
      ·rintro vs' bs' ⟨y, hv', hb', hy⟩
       have hb' : RBs [[.s s, .i .i64 (k : Int)], [.i .i64 5, .i .i64 (pos : Int), .s [], .s (showInt rn), .s (showNat rd)], [.i .i64 0, .i .i64 0, .s [], .s [], .s []]] bs' := hb'
       (refine Zq ?_;with_reducible repeat' first|intro _|apply aI)
       ·rw [if_pos (hy.1 ‹_›)] at e9
        exact bad (ewd.trans e9) (.cons _ _ _ _ (.i _ _) (.cons _ _ _ _ (.q _ _ (by assumption)) .nil)) .nil
       ·rw [if_neg (fun h => ‹¬ y = true› (hy.2 h))] at e9
        exact hcc _ _ ⟨_, by (exact Zrv), .cons _ _ _ _ (.opa _ _ _ rfl (by assumption)) (.cons _ _ _ _ (.opa _ _ _ rfl (by assumption)) (.cons _ _ _ _ (.opa _ _ _ rfl (by assumption)) .nil)), e9⟩
      ·intro c2 hc2
       refine sCall hdg ⟨showInt rn, by omega⟩ (r := .c (.i .i64 (dlen (showInt rn) : Nat))) rfl Zrv .nil fun _ _ _ _ => ?_
       (refine Zq ?_;with_reducible repeat' first|intro _|apply aI)
       ·exact fun e => hc2 _ _ ⟨true, by (exact Zrv), .cons _ _ _ _ (.opa _ _ _ rfl (by assumption)) (.cons _ _ _ _ (.cells _ _ (by subst e; (exact Zru))) (.cons _ _ _ _ (.opa _ _ _ rfl (by assumption)) .nil)), by simp; omega⟩ e
       ·refine sCall hdg ⟨showNat rd, by omega⟩ (r := .c (.i .i64 (dlen (showNat rd) : Nat))) rfl Zrv .nil fun _ _ _ _ => ?_
        (refine Zq ?_;with_reducible repeat' first|intro _|apply aI)
        exact fun e => hc2 _ _ ⟨decide (100 < dlen (showNat rd)), .cons _ _ _ _ (.p _ _) (.cons _ _ _ _ (.p _ _) (.cons _ _ _ _ (rvB (by subst e; rw [cuLt, decide_eq_decide]; omega)) .nil)), .cons _ _ _ _ (.opa _ _ _ rfl (by assumption)) (.cons _ _ _ _ (.cells _ _ (by subst e; (exact Zru))) (.cons _ _ _ _ (.opa _ _ _ rfl (by assumption)) .nil)), decide_eq_true_iff.trans ⟨fun h => .inr h, fun h => h.resolve_left (fun h => ‹¬ 100 < ((dlen (showInt rn) : Nat) : Int)› (by omega))⟩⟩ e
     ·have z1 : ¬ (numeral w).2.2 = true := ‹_›
      have e9 : wordTok pos w k = if namedErr w [] false = 0 then .ok (⟨6, pos, [], w, []⟩, k) else .error (namedErr w [] false, pos) := by
       rw [wordTok, if_neg hdot, if_neg z1]; rfl
      rw [← namedErr_ne hw0] at e9
      by_cases h0 : namedErr w [] true = 0
      ·rw [if_pos h0] at e9
       refine fun e => sCall hnm ⟨⟨6, pos, [], w, []⟩, by show 0 < 90000; omega⟩ (r := .t []) (by show namedR _ = _; unfold namedR; rw [if_pos h0]) (.cons _ _ _ _ (.ag _ _ (by subst e; (exact Zru))) .nil) .nil (fun _ _ _ _ => ?_) e
       (refine Zq ?_;with_reducible repeat' first|intro _|apply aI)
       exact fun e => hcc _ _ ⟨_, by (exact Zrv), .cons _ _ _ _ (.opa _ _ _ rfl (by assumption)) (.cons _ _ _ _ (.cells _ _ (by subst e; (exact Zru))) (.cons _ _ _ _ (.opa _ _ _ rfl (by assumption)) .nil)), e9⟩ e
      ·rw [if_neg h0] at e9
       exact fun e => badN (t := ⟨6, pos, [], w, []⟩) (by show 0 < 90000; omega) h0 (ewd.trans e9) (.cons _ _ _ _ (.ag _ _ (by subst e; (exact Zru))) .nil) .nil e
    ·intro c2 hc2
     (refine Zy ?_;with_reducible repeat' first|intro _|apply aI)
     ·have z1 : (numeral w).2.2 = true := ‹_›
      refine sCall htr ⟨((numP w).2, [48]), by show (numP w).2.length < 4294967281; omega, by show 1 < 4294967281; omega, by simp⟩ (r := .c (.s (Lib.trimS (numP w).2 [48]))) rfl Zrv .nil fun _ _ _ _ => ?_
      (refine Zy ?_;with_reducible repeat' first|intro _|apply aI)
      exact fun e => hc2 _ _ ⟨decide (Lib.trimS (numP w).2 [48] = []), .cons _ _ _ _ (.s _ _ _ rfl rfl) (.cons _ _ _ _ (.p _ _) (.cons _ _ _ _ (.p _ _) (.cons _ _ _ _ (.s _ _ _ rfl rfl) (.cons _ _ _ _ (.s _ _ _ rfl rfl) (.cons _ _ _ _ (.b _) (.cons _ _ _ _ (rvB (by subst e; rw [cuSL]; rfl)) .nil)))))), .cons _ _ _ _ (scB rfl) (.cons _ _ _ _ (.opa _ _ _ rfl (by assumption)) (.cons _ _ _ _ z5B .nil)), by simp [z1]⟩ e
     ·have z1 : ¬ (numeral w).2.2 = true := ‹_›
      exact hc2 _ _ ⟨false, by (exact Zrv), .cons _ _ _ _ (scB rfl) (.cons _ _ _ _ (.opa _ _ _ rfl (by assumption)) (.cons _ _ _ _ z5B .nil)), by simp [z1]⟩
end
end Go.Proofs.YtffaodopiifbkaaGreatDoor
namespace Go.Abs
theorem sfIE {U : CombU} {P : VRes → List Bx → Prop} {b x : Int} {K : Int → Om} (hb : U = CU → b = x) (h : Sat U (K x) P) : Sat U (U.fI b K) P := fun e => by
 have := h e; rw [← hb e] at this; subst e; rw [CUfI]; exact this
theorem cuIsel (c : Bool) (a b : Int) : CU.isel c a b = cond c a b := by cases c <;> rfl
end Go.Abs
namespace Go.Proofs.YtffaodopiifbkaaGreatDoor
open Go.Abs LQ
set_option maxRecDepth 100000
set_option maxHeartbeats 8000000
noncomputable section
def nextS (s : Str) (i : Nat) : Except (Int × Nat) (Tok × Nat) := match LQ.skip s i with
 | none => .error (11, s.length)
 | some j => if j < s.length then tokOne s j else .ok (⟨0, j, [], [], []⟩, j)
def spNx : Sp where
 ι := { p : Str × Nat // p.2 ≤ p.1.length ∧ p.1.length < 8000 }
 A _ := [.p 0 0]
 B p := [scG p.1.1 p.1.2]
 R p := tokR (nextS p.1.1 p.1.2)
 B' p := [scG p.1.1 (tokB p.1.2 (nextS p.1.1 p.1.2))]
 inj i j vs bs _ _ h k := by
  have := scG_inj (RBs.one_inj h k)
  rw [this.1, this.2]; exact ⟨rfl, rfl⟩
theorem tokOne_wd {s : Str} {j : Nat} (h1 : bt s j ≠ 40) (h2 : bt s j ≠ 41) (h3 : bt s j ≠ 39) (h4 : bt s j ≠ 34) (h5 : bt s j ≠ 124) (hc : constit (bt s j) = true) : tokOne s j = wdS s j (wordT s j) (wordEnd s j) := by
 rw [tokOne, if_neg h1, if_neg h2, if_neg h3, if_neg h4, if_neg h5, if_pos hc]; rfl
theorem kNext (hst : Know 203 spIs) (hdl : Know 136 spDel) (hcr : Know 158 spCR) : Know 93 spNx := know (fun fn h => r93_ok h) [(134, _), (135, _), (51, _), (136, _), (138, _), (140, _), (137, _), (139, _)] (.cons (kSkip hcr) (.cons kMore (.cons kFail (.cons hdl (.cons kConstit (.cons kWord (.cons (kNamedT hst) (.cons (kWorded hst hdl) .nil)))))))) fun U fn hfn ⟨(s, i), hi, hsl⟩ vs bs hv hb => by
 have hs := hfn 134 _ rfl
 have hm := hfn 135 _ rfl
 have hf := hfn 51 _ rfl
 have hd := hfn 136 _ rfl
 have hc := hfn 138 _ rfl
 have hwd := hfn 140 _ rfl
 have hnm := hfn 137 _ rfl
 have hwo := hfn 139 _ rfl
 have hi : i ≤ s.length := hi
 have hsl : s.length < 8000 := hsl
 have hv : RVs [.p 0 0] vs := hv
 have hb : RBs [[.s s, .i .i64 (i : Int)]] bs := hb
 show Sat U _ fun v bs' => RRes (tokR (nextS s i)) v ∧ RBs [scG s (tokB i (nextS s i))] bs'
 unfold r93
 have bad : ∀ {e : Int} {p : Nat} {vs : List V} {bs : List Bx} {K : V → List Bx → Om}, nextS s i = .error (e, p) → RVs [.c (.i .i64 e), .c (.i .i64 (p : Int))] vs → RBs [] bs → Sat U (U.bind (fn 51 vs bs) K fun v => some (.pan (U.rn0 v), [.cells [.str s.length (code s), .int .i64 i]])) fun v bs' => RRes (tokR (nextS s i)) v ∧ RBs [scG s (tokB i (nextS s i))] bs' := fun {e p vs bs K} he hv hb => by
  rw [he]
  exact sCallP hf (e, (p : Int)) (r := .fl 122 e p) rfl hv hb fun _ hv => sPan hv (scC rfl)
 have badN : ∀ {t : Tok} {vs : List V} {bs : List Bx} {K : V → List Bx → Om}, t.pkg.length < 90000 → namedErr t.text t.pkg true ≠ 0 → nextS s i = .error (namedErr t.text t.pkg true, t.pos) → RVs [.a (tkG t)] vs → RBs [] bs → Sat U (U.bind (fn 137 vs bs) K fun v => some (.pan (U.rn0 v), [.cells [.str s.length (code s), .int .i64 i]])) fun v bs' => RRes (tokR (nextS s i)) v ∧ RBs [scG s (tokB i (nextS s i))] bs' := fun {t vs bs K} hl h0 he hv hb => by
  rw [he]
  exact sCallP hnm ⟨t, hl⟩ (r := .fl 122 (namedErr t.text t.pkg true) t.pos) (by show namedR t = _; unfold namedR; rw [if_neg h0]) hv hb fun _ hv => sPan hv (scC rfl)
 (refine Zq ?_;with_reducible repeat' first|intro _|apply aI)
 cases hsk : LQ.skip s i with
 | none =>
  have en : nextS s i = .error (11, s.length) := by unfold nextS; rw [hsk]
  rw [en]
  exact sCallP hs ⟨(s, i), hi, by show s.length < 90000; omega⟩ (r := .fl 122 11 s.length) (by show skipR s i = _; unfold skipR; rw [hsk]) Zrv (scC rfl) fun _ hv => sPan hv (scC rfl)
 | some j =>
  have hj := skip_ge hi hsk
  have en : nextS s i = if j < s.length then tokOne s j else .ok (⟨0, j, [], [], []⟩, j) := by unfold nextS; rw [hsk]
  refine sCall hs ⟨(s, i), hi, by show s.length < 90000; omega⟩ (r := .t []) (by show skipR s i = _; unfold skipR; rw [hsk]) Zrv (scC rfl) fun _ _ _ hb1 => ?_
  have eb : skipB s i = j := by unfold skipB; rw [hsk]; rfl
  have hb1 : RBs [scG s (skipB s i)] _ := hb1
  rw [eb] at hb1
  have hb1 : RBs [[.s s, .i .i64 (j : Int)]] _ := hb1
  (refine Zq ?_;with_reducible repeat' first|intro _|apply aI)
  refine sCall hm ⟨(s, j), hj.2, by show s.length < 90000; omega⟩ (r := .c (.b (decide (j < s.length)))) rfl Zrv (scC rfl) fun _ _ _ hb2 => ?_
  have hb2 : RBs [[.s s, .i .i64 (j : Int)]] _ := hb2
  (refine Zy ?_;with_reducible repeat' first|intro _|apply aI)
  ·have hlt : j < s.length := of_decide_eq_true ‹_›
   rw [if_pos hlt] at en
   have hbt : ((s.getD j 0).toNat : Int) = bt s j := rfl
   have hb0 := bt_nonneg s j
   have hb9 := bt_lt s j
   refine sJnP (fun vs bs => ∃ (t : Tok) (k : Nat), RVs [.p 1 0, .p 2 0] vs ∧ RBs [[.s s, .i .i64 (k : Int)], z5, tkG t] bs ∧ tokOne s j = .ok (t, k)) ?_ ?_
   ·rintro vs' bs' ⟨t, k, hv', hb', he⟩
    have hb' : RBs [[.s s, .i .i64 (k : Int)], [.i .i64 0, .i .i64 0, .s [], .s [], .s []], [.i .i64 t.kind, .i .i64 (t.pos : Int), .s t.pkg, .s t.text, .s t.den]] bs' := hb'
    (refine Zq ?_;with_reducible repeat' first|intro _|apply aI)
    rw [en, he]
    exact sRet ⟨.ret _ _ (.a _ _ _ rfl (by assumption)), RB.bx (by assumption) rfl⟩
   ·intro c hcc
    (refine Zy ?_;with_reducible repeat' first|intro _|apply aI)
    refine sJnP (fun vs bs => ∃ z : Bool, RVs [.p 0 0, .p 1 0, .p 2 0, .c (.i .u8 (bt s j)), .c (.b z)] vs ∧ RBs [[.s s, .i .i64 (j : Int)], z5, tkG (pT0 j)] bs ∧ (z = true ↔ bt s j = 40 ∨ bt s j = 41 ∨ bt s j = 39)) ?_ ?_
    ·rintro vs' bs' ⟨z, hv', hb', hz⟩
     have hb' : RBs [[.s s, .i .i64 (j : Int)], [.i .i64 0, .i .i64 0, .s [], .s [], .s []], [.i .i64 0, .i .i64 (j : Int), .s [], .s [], .s []]] bs' := hb'
     (refine Zy ?_;with_reducible repeat' first|intro _|apply aI)
     ·have hz1 := hz.1 ‹_›
      refine sChk (p := ¬(¬ bt s j = 40 ∧ ¬ bt s j = 41 ∧ ¬ bt s j = 39)) (by (repeat' (first | exact trT | exact trF | apply trNot | apply trAnd | exact trLtN | exact trLeN | exact trLt | exact trLe | exact trEq | exact trnLe3 | exact trnLe4 | exact trnLe2 | exact trnLe1 | exact trnLe | exact trnEq | exact trSS | exact trSL | exact trS | exact trV))) (by omega) ?_
      refine sfIE (x := if bt s j = 40 then 1 else if bt s j = 41 then 2 else 4) (fun e => by
       subst e
       rw [cuIsel, cuIsel, cuEq, cuEq]
       by_cases h1 : bt s j = 40
       ·simp [h1]
       ·by_cases h2 : bt s j = 41 <;> simp [h1, h2]) ?_
      (refine Zy ?_;with_reducible repeat' first|intro _|apply aI)
      refine fun e => hcc _ _ ⟨⟨if bt s j = 40 then 1 else if bt s j = 41 then 2 else 4, j, [], [], []⟩, j + 1, by (exact Zrv), .cons _ _ _ _ (.cells _ _ (by subst e; (exact Zru))) (.cons _ _ _ _ (.opa _ _ _ rfl (by assumption)) (.cons _ _ _ _ (.cells _ _ (by subst e; (exact Zru))) .nil)), ?_⟩ e
      rcases hz1 with h | h | h
      ·rw [tokOne, if_pos h, if_pos h]; rfl
      ·rw [tokOne, if_neg (by omega), if_pos h, if_neg (by omega), if_pos h]; rfl
      ·rw [tokOne, if_neg (by omega), if_neg (by omega), if_pos h, if_neg (by omega), if_neg (by omega)]; rfl
     ·have hz0 : ¬ (bt s j = 40 ∨ bt s j = 41 ∨ bt s j = 39) := fun h => ‹¬ z = true› (hz.2 h)
      have h34 : bt s j = 34 := ‹_›
      have e0 : tokOne s j = match delS s j 34 with
       | .error e => .error e
       | .ok (l, k) => if 200 < l.length then .error (2, j) else .ok (⟨7, j, noStr, nums l, noStr⟩, k) := by
       rw [tokOne, if_neg (by omega), if_neg (by omega), if_neg (by omega), if_pos h34]; rfl
      cases hde : delS s j 34 with
      | error er =>
       obtain ⟨er, p⟩ := er
       rw [hde] at e0
       rw [en, e0]
       exact sCallP hd ⟨(⟨(s, j), hj.2, by show s.length < 90000; omega⟩, 34), .inl rfl, hlt, hsl⟩ (r := .fl 122 er p) (by show delR (delS s j 34) = _; rw [hde]; rfl) Zrv (RB.bx (by assumption) rfl) fun _ hv => sPan hv (scC rfl)
      | ok lj =>
       obtain ⟨l, k⟩ := lj
       rw [hde] at e0
       refine sCall hd ⟨(⟨(s, j), hj.2, by show s.length < 90000; omega⟩, 34), .inl rfl, hlt, hsl⟩ (r := .c (.s (nums l))) (by show delR (delS s j 34) = _; rw [hde]; rfl) Zrv (RB.bx (by assumption) rfl) fun _ _ _ hb3 => ?_
       have hb3 : RBs [scG s (delB j (delS s j 34))] _ := hb3
       rw [hde] at hb3
       have hb3 : RBs [[.s s, .i .i64 (k : Int)]] _ := hb3
       have hll := nums_len l
       (refine Zy ?_;with_reducible repeat' first|intro _|apply aI)
       ·exact fun e => bad (en.trans (e0.trans (if_pos (by omega)))) (.cons _ _ _ _ (.i _ _) (.cons _ _ _ _ (.q _ _ (by subst e; exact Cel.at (by assumption) (by rfl))) .nil)) .nil e
       ·exact fun e => hcc _ _ ⟨⟨7, j, [], nums l, []⟩, k, by (exact Zrv), .cons _ _ _ _ (.opa _ _ _ rfl (by assumption)) (.cons _ _ _ _ (.opa _ _ _ rfl (by assumption)) (.cons _ _ _ _ (.cells _ _ (by subst e; (exact Zru))) .nil)), e0.trans (if_neg (by omega))⟩ e
     ·have hz0 : ¬ (bt s j = 40 ∨ bt s j = 41 ∨ bt s j = 39) := fun h => ‹¬ z = true› (hz.2 h)
      have h34 : ¬ bt s j = 34 := ‹_›
      have h124 : bt s j = 124 := ‹_›
      have e0 : tokOne s j = match delS s j 124 with
       | .error e => .error e
       | .ok (l, k) => if namedErr (nums l) noStr true = 0 then .ok (⟨6, j, noStr, nums l, noStr⟩, k) else .error (namedErr (nums l) noStr true, j) := by
       rw [tokOne, if_neg (by omega), if_neg (by omega), if_neg (by omega), if_neg h34, if_pos h124]; rfl
      cases hde : delS s j 124 with
      | error er =>
       obtain ⟨er, p⟩ := er
       rw [hde] at e0
       rw [en, e0]
       exact sCallP hd ⟨(⟨(s, j), hj.2, by show s.length < 90000; omega⟩, 124), .inr rfl, hlt, hsl⟩ (r := .fl 122 er p) (by show delR (delS s j 124) = _; rw [hde]; rfl) Zrv (RB.bx (by assumption) rfl) fun _ hv => sPan hv (scC rfl)
      | ok lj =>
       obtain ⟨l, k⟩ := lj
       rw [hde] at e0
       have e0 : tokOne s j = if namedErr (nums l) [] true = 0 then .ok (⟨6, j, [], nums l, []⟩, k) else .error (namedErr (nums l) [] true, j) := e0
       refine sCall hd ⟨(⟨(s, j), hj.2, by show s.length < 90000; omega⟩, 124), .inr rfl, hlt, hsl⟩ (r := .c (.s (nums l))) (by show delR (delS s j 124) = _; rw [hde]; rfl) Zrv (RB.bx (by assumption) rfl) fun _ _ _ hb3 => ?_
       have hb3 : RBs [scG s (delB j (delS s j 124))] _ := hb3
       rw [hde] at hb3
       have hb3 : RBs [[.s s, .i .i64 (k : Int)]] _ := hb3
       (refine Zy ?_;with_reducible repeat' first|intro _|apply aI)
       by_cases h0 : namedErr (nums l) [] true = 0
       ·rw [if_pos h0] at e0
        refine fun e => sCall hnm ⟨⟨6, j, [], nums l, []⟩, by show 0 < 90000; omega⟩ (r := .t []) (by show namedR _ = _; unfold namedR; rw [if_pos h0]) (.cons _ _ _ _ (.ag _ _ (by subst e; (exact Zru))) .nil) .nil (fun _ _ _ _ => ?_) e
        (refine Zy ?_;with_reducible repeat' first|intro _|apply aI)
        exact fun e => hcc _ _ ⟨_, k, by (exact Zrv), .cons _ _ _ _ (.opa _ _ _ rfl (by assumption)) (.cons _ _ _ _ (.opa _ _ _ rfl (by assumption)) (.cons _ _ _ _ (.cells _ _ (by subst e; (exact Zru))) .nil)), e0⟩ e
       ·rw [if_neg h0] at e0
        exact fun e => badN (t := ⟨6, j, [], nums l, []⟩) (by show 0 < 90000; omega) h0 (en.trans e0) (.cons _ _ _ _ (.ag _ _ (by subst e; (exact Zru))) .nil) .nil e
     ·have hz0 : ¬ (bt s j = 40 ∨ bt s j = 41 ∨ bt s j = 39) := fun h => ‹¬ z = true› (hz.2 h)
      have h34 : ¬ bt s j = 34 := ‹_›
      have h124 : ¬ bt s j = 124 := ‹_›
      refine sCall hc ⟨bt s j, hb0, hb9⟩ (r := .c (.b (constit (bt s j)))) rfl Zrv .nil fun _ _ _ _ => ?_
      (refine Zy ?_;with_reducible repeat' first|intro _|apply aI)
      ·have hcs : constit (bt s j) = true := ‹_›
       have hwe := wordEnd_le s j (by omega)
       have hwp := wordT_pos hlt hcs
       have hwl : (wordT s j).length ≤ s.length := by unfold wordT; simp; omega
       have e0 := tokOne_wd (fun h => hz0 (.inl h)) (fun h => hz0 (.inr (.inl h))) (fun h => hz0 (.inr (.inr h))) h34 h124 hcs
       refine sCall hwd ⟨(s, j), hj.2, by show s.length < 90000; omega⟩ (r := .c (.s (wordT s j))) rfl Zrv (RB.bx (by assumption) rfl) fun _ _ _ hb3 => ?_
       have hb3 : RBs [[.s s, .i .i64 ((wordEnd s j : Nat) : Int)]] _ := hb3
       (refine Zy ?_;with_reducible repeat' first|intro _|apply aI)
       cases hw : wdS s j (wordT s j) (wordEnd s j) with
       | error er =>
        obtain ⟨er, p⟩ := er
        rw [en, e0, hw]
        exact sCallP hwo ⟨(s, j, wordT s j, wordEnd s j), hwe.2, hsl, hwp, by show (wordT s j).length < 8000; omega⟩ (r := .fl 122 er p) (by show tokR (wdS s j (wordT s j) (wordEnd s j)) = _; rw [hw]; rfl) (.cons _ _ _ _ (.p _ _) (.cons _ _ _ _ (.a _ _ _ rfl (by assumption)) (.cons _ _ _ _ (.s _ _ _ rfl rfl) .nil))) (RB.bx (by assumption) rfl) fun _ hv => sPan hv (scC rfl)
       | ok tk =>
        obtain ⟨t, k⟩ := tk
        rw [hw] at e0
        refine sCall hwo ⟨(s, j, wordT s j, wordEnd s j), hwe.2, hsl, hwp, by show (wordT s j).length < 8000; omega⟩ (r := .a (tkG t)) (by show tokR (wdS s j (wordT s j) (wordEnd s j)) = _; rw [hw]; rfl) (.cons _ _ _ _ (.p _ _) (.cons _ _ _ _ (.a _ _ _ rfl (by assumption)) (.cons _ _ _ _ (.s _ _ _ rfl rfl) .nil))) (RB.bx (by assumption) rfl) fun _ _ _ hb4 => ?_
        have hb4 : RBs [scG s (tokB (wordEnd s j) (wdS s j (wordT s j) (wordEnd s j)))] _ := hb4
        rw [hw] at hb4
        have hb4 : RBs [[.s s, .i .i64 (k : Int)]] _ := hb4
        (refine Zy ?_;with_reducible repeat' first|intro _|apply aI)
        exact hcc _ _ ⟨t, k, by (exact Zrv), .cons _ _ _ _ (.opa _ _ _ rfl (by assumption)) (.cons _ _ _ _ (.opa _ _ _ rfl (by assumption)) (.cons _ _ _ _ (.opa _ _ _ rfl (by assumption)) .nil)), e0⟩
      ·have hcs : ¬ constit (bt s j) = true := ‹_›
       exact bad (en.trans (by rw [tokOne, if_neg (fun h => hz0 (.inl h)), if_neg (fun h => hz0 (.inr (.inl h))), if_neg (fun h => hz0 (.inr (.inr h))), if_neg h34, if_neg h124, if_neg hcs])) (.cons _ _ _ _ (.i _ _) (.cons _ _ _ _ (.q _ _ (by assumption)) .nil)) .nil
    ·intro c2 hc2
     (refine Zy ?_;with_reducible repeat' first|intro _|apply aI)
     ·exact hc2 _ _ ⟨true, by (exact Zrv), .cons _ _ _ _ (scB rfl) (.cons _ _ _ _ z5B (.cons _ _ _ _ (.cells _ _ Zrv) .nil)), by simp; omega⟩
     ·exact hc2 _ _ ⟨true, by (exact Zrv), .cons _ _ _ _ (scB rfl) (.cons _ _ _ _ z5B (.cons _ _ _ _ (.cells _ _ Zrv) .nil)), by simp; omega⟩
     ·exact fun e => hc2 _ _ ⟨decide (bt s j = 39), .cons _ _ _ _ (.p _ _) (.cons _ _ _ _ (.p _ _) (.cons _ _ _ _ (.p _ _) (.cons _ _ _ _ (.i _ _) (.cons _ _ _ _ (rvB (by subst e; rw [cuEq, decide_eq_decide]; omega)) .nil)))), .cons _ _ _ _ (scB rfl) (.cons _ _ _ _ z5B (.cons _ _ _ _ (.cells _ _ Zrv) .nil)), by rw [decide_eq_true_iff]; omega⟩ e
  ·have hlt : ¬ j < s.length := fun h => ‹¬ decide (j < s.length) = true› (decide_eq_true h)
   rw [if_neg hlt] at en
   rw [en]
   exact sRet ⟨.ret _ _ (.ag _ _ Zrv), scC rfl⟩
end
end Go.Proofs.YtffaodopiifbkaaGreatDoor
namespace Go.Proofs.YtffaodopiifbkaaGreatDoor
open Go.Abs LQ
set_option maxRecDepth 100000
set_option maxHeartbeats 8000000
noncomputable section
theorem tokOne_kind {s : Str} {i k : Nat} {t : Tok} (h : tokOne s i = .ok (t, k)) : t.kind ≠ 0 := by
 have fin : ∀ {x : Tok} {y : Nat}, x.kind ≠ 0 → (Except.ok (x, y) : Except (Int × Nat) (Tok × Nat)) = .ok (t, k) → t.kind ≠ 0 := by
  intro x y hx h; injection h with h; injection h with h1 h2; rw [← h1]; exact hx
 unfold tokOne at h
 repeat' split at h
 all_goals try (cases h; done)
 all_goals try exact fin (by decide) h
 all_goals try exact fin (show ¬ (6 : Int) = 0 by decide) h
 all_goals try exact fin (show ¬ (7 : Int) = 0 by decide) h
 all_goals try exact fin (show ¬ (1 : Int) = 0 by decide) h
 all_goals try exact fin (show ¬ (2 : Int) = 0 by decide) h
 all_goals try exact fin (show ¬ (4 : Int) = 0 by decide) h
 ·unfold qualTok at h
  simp only [] at h
  repeat' split at h
  all_goals try (cases h; done)
  all_goals exact fin (show ¬ (6 : Int) = 0 by decide) h
 ·unfold wordTok at h
  simp only [] at h
  repeat' split at h
  all_goals try (cases h; done)
  all_goals first | exact fin (show ¬ (3 : Int) = 0 by decide) h | exact fin (show ¬ (5 : Int) = 0 by decide) h | exact fin (show ¬ (6 : Int) = 0 by decide) h
theorem toks_next {s : Str} {i : Nat} {acc : List Tok} (hi : i ≤ s.length) : toksFrom s i acc = match nextS s i with
  | .error e => .error e
  | .ok (t, k) => if t.kind = 0 then .ok (acc ++ [t]) else toksFrom s k (acc ++ [t]) := by
 rw [toks_eq hi]
 unfold nextS
 cases hs : LQ.skip s i with
 | none => rfl
 | some j =>
  have hj := skip_ge hi hs
  simp only []
  by_cases hlt : j < s.length
  ·rw [if_pos hlt, if_pos hlt]
   cases ht : tokOne s j with
   | error e => rfl
   | ok p => simp only []; rw [if_neg (tokOne_kind (t := p.1) (k := p.2) ht)]
  ·rw [if_neg hlt, if_neg hlt]
   simp only []
   rw [if_pos trivial, show j = s.length by omega]; rfl
theorem next_gt {s : Str} {i k : Nat} {t : Tok} (hi : i ≤ s.length) (h : nextS s i = .ok (t, k)) (h0 : t.kind ≠ 0) : i < k ∧ k ≤ s.length := by
 unfold nextS at h
 cases hs : LQ.skip s i with
 | none => rw [hs] at h; cases h
 | some j =>
  have hj := skip_ge hi hs
  rw [hs] at h
  simp only [] at h
  by_cases hlt : j < s.length
  ·rw [if_pos hlt] at h; have := tokOne_gt hlt h; omega
  ·rw [if_neg hlt] at h; injection h with h; injection h with h1 h2; rw [← h1] at h0; exact absurd rfl h0
def toksR : Except (Int × Nat) (List Tok) → GRes
 | .ok T => .ret (.sl 5 (T.map tkG))
 | .error (e, p) => failG e p
def spScan : Sp where
 ι := { s : Str // s.length < 8000 }
 A s := [.c (.s s.1)]
 B _ := []
 R s := toksR (tokens s.1)
 B' _ := []
 inj i j vs bs h k _ _ := by
  obtain ⟨_, _, h1, k1, h, k⟩ := h.two k
  rw [s_inj h1 k1]; exact ⟨rfl, rfl⟩
theorem kScan (hst : Know 203 spIs) (hdl : Know 136 spDel) (hcr : Know 158 spCR) : Know 55 spScan := know (fun fn h => r55_ok h) [(51, _), (93, _)] (.cons kFail (.cons (kNext hst hdl hcr) .nil)) fun U fn hfn ⟨s, hsl⟩ vs bs hv hb => by
 have hf := hfn 51 _ rfl
 have hn := hfn 93 _ rfl
 have hsl : s.length < 8000 := hsl
 have hv : RVs [.c (.s s)] vs := hv
 have hb : RBs [] bs := hb
 show Sat U _ fun v bs' => RRes (toksR (tokens s)) v ∧ RBs [] bs'
 unfold r55
 (refine Zy ?_;with_reducible repeat' first|intro _|apply aI)
 refine sJnP (fun vs bs => vs = [.str s.length (code s)] ∧ bs = [] ∧ s.length ≤ 6000) ?_ ?_
 ·rintro _ _ ⟨rfl, rfl, hs6⟩
  (refine Zq ?_;with_reducible repeat' first|intro _|apply aI)
  have et : tokens s = toksFrom s 0 [] := by unfold tokens; rw [if_neg (by omega)]
  refine sLp (fun (i : Nat) vs bs => ∃ (acc : List Tok) (v : V) (b0 : Bx), vs = [.ptr 0 0, v] ∧ bs = [b0, .tok acc.length 5] ∧ RB (scG s i) b0 ∧ TokS 1 5 (acc.map tkG) v ∧ i ≤ s.length ∧ acc.length ≤ i ∧ tokens s = toksFrom s i acc) (fun i => s.length - i) 0 ⟨[], _, _, rfl, rfl, scB rfl, .b rfl, Nat.zero_le _, Nat.le_refl _, et⟩ (by simp only [FUEL]; omega) ?_
  rintro self i _ _ ⟨acc, v, b0, rfl, rfl, hb0, htk, hi, ha, he⟩ ih
  have hb0 : RB [.s s, .i .i64 (i : Int)] b0 := hb0
  rw [he, toks_next hi]
  (refine Zq ?_;with_reducible repeat' first|intro _|apply aI)
  cases hne : nextS s i with
  | error er =>
   obtain ⟨er, p⟩ := er
   exact sCallP hn ⟨(s, i), hi, hsl⟩ (r := .fl 122 er p) (by show tokR (nextS s i) = _; rw [hne]; rfl) Zrv (RB.bx (by assumption) rfl) fun _ hv => sPan hv .nil
  | ok tk =>
   obtain ⟨t, k⟩ := tk
   simp only []
   refine sCall hn ⟨(s, i), hi, hsl⟩ (r := .a (tkG t)) (by show tokR (nextS s i) = _; rw [hne]; rfl) Zrv (RB.bx (by assumption) rfl) fun _ _ hv1 hb1 => ?_
   have hb1 : RBs [scG s (tokB i (nextS s i))] _ := hb1
   rw [hne] at hb1
   have hb1 : RBs [[.s s, .i .i64 (k : Int)]] _ := hb1
   have hv1 : RV (.a [.i .i64 t.kind, .i .i64 (t.pos : Int), .s t.pkg, .s t.text, .s t.den]) _ := hv1
   (refine Zq ?_;with_reducible repeat' first|intro _|apply aI)
   refine sAT1 (xs := acc.map tkG) (r := tkG t) (n := 5) (off := 0) (by assumption) (fun _ => rowN (by rw [tkG_len]; decide) (by assumption)) (tkG_len _) (by simp) (by simp; omega) fun _ ht' => ?_
   rw [show acc.map tkG ++ [tkG t] = (acc ++ [t]).map tkG by simp] at ht'
   (refine Zq ?_;with_reducible repeat' first|intro _|apply aI)
   ·rw [if_pos ‹_›]
    exact sRet ⟨.ret _ _ (.sl _ _ _ _ _ (by simp) ht'), .nil⟩
   ·have h0 : ¬ t.kind = 0 := ‹_›
    rw [if_neg h0]
    have hg := next_gt hi hne h0
    have et2 : tokens s = toksFrom s k (acc ++ [t]) := by rw [he, toks_next hi, hne]; simp only []; rw [if_neg h0]
    rw [← et2]
    exact ih k _ _ ⟨acc ++ [t], _, _, rfl, by rw [List.length_append]; rfl, .opa _ _ _ rfl (by assumption), .a _ _ (by simp) ht', hg.2, by simp; omega, et2⟩ (by omega)
 ·intro c hc
  (refine Zy ?_;with_reducible repeat' first|intro _|apply aI)
  ·have e : tokens s = .error (2, 0) := by unfold tokens; rw [if_pos (by omega)]
   rw [e]
   exact sCallP hf (2, 0) (r := .fl 122 2 0) rfl Zrv .nil fun _ hv => sPan hv .nil
  ·exact hc _ _ ⟨rfl, rfl, by omega⟩
end
end Go.Proofs.YtffaodopiifbkaaGreatDoor
