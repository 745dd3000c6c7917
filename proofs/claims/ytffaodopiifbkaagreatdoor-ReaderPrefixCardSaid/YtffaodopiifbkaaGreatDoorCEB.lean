/- The program's reader: comments, blanks. -/
import Derived.Test.YtffaodopiifbkaaGreatDoorCEA
import Derived.Test.YtffaodopiifbkaaGreatDoorCN
set_option linter.all false
namespace Go.Proofs.YtffaodopiifbkaaGreatDoor
open Go.Abs LQ
set_option maxRecDepth 100000
set_option maxHeartbeats 4000000
noncomputable section
abbrev failG (e p : Int) : GRes := .pan (.fl 122 e p)
theorem kFail : Know 51 { ι := Int × Int, A := fun p => [.c (.i .i64 p.1), .c (.i .i64 p.2)], B := fun _ => [], R := fun p => failG p.1 p.2, B' := fun _ => [], inj := fun i j vs bs h k _ _ => (by
  obtain ⟨_, _, h1, k1, h, k⟩ := h.two k
  obtain ⟨_, _, h2, k2, h, k⟩ := h.two k
  rw [i_inj h1 k1, i_inj h2 k2]; exact ⟨rfl, rfl⟩) } := know (fun fn h => r51_ok h) [] .nil fun U fn hfn ⟨e, p⟩ vs bs hv hb => by
 have hv : RVs [.c (.i .i64 e), .c (.i .i64 p)] vs := hv
 have hb : RBs [] bs := hb
 show Sat U _ fun v bs' => RRes (failG e p) v ∧ RBs [] bs'
 unfold r51
 (refine Zq ?_;with_reducible repeat' first|intro _|apply aI)
 exact sRet ⟨.pan _ _ (.fl _ _ _ _ Zrv), .nil⟩
def spScP (ok : Str → Nat → Prop) (R : Str → Nat → GRes) (b : Str → Nat → Nat) : Sp where
 ι := { p : ScI // ok p.1.1 p.1.2 }
 A _ := [.p 0 0]
 B p := [scG p.1.1.1 p.1.1.2]
 R p := R p.1.1.1 p.1.1.2
 B' p := [scG p.1.1.1 (b p.1.1.1 p.1.1.2)]
 inj i j vs bs _ _ h k := by
  have := scG_inj (RBs.one_inj h k)
  rw [this.1, this.2]; exact ⟨rfl, rfl⟩
theorem pre2 {s : Str} {i : Nat} {a b : UInt8} (hi : i ≤ s.length) : preS (s.drop i) [a, b] = has s i a.toNat b.toNat := by
 unfold preS has
 by_cases h : i + 1 < s.length
 ·have e : (s.drop i).take 2 = [s[i], s[i + 1]] := by
   rw [List.drop_eq_getElem_cons (by omega), List.drop_eq_getElem_cons (by omega)]; rfl
  have b0 : bt s i = s[i].toNat := by unfold bt; simp [List.getD, List.getElem?_eq_getElem (show i < s.length by omega)]
  have b1 : bt s (i + 1) = s[i + 1].toNat := by unfold bt; simp [List.getD, List.getElem?_eq_getElem h]
  rw [Bool.eq_iff_iff, decide_eq_true_iff, decide_eq_true_iff, b0, b1]
  simp only [List.length_cons, List.length_nil, List.length_drop, e, List.cons.injEq, and_true]
  constructor
  ·rintro ⟨_, h1, h2⟩; rw [h1, h2]; exact ⟨h, rfl, rfl⟩
  ·rintro ⟨_, h1, h2⟩
   exact ⟨by omega, UInt8.toNat_inj.1 (by omega), UInt8.toNat_inj.1 (by omega)⟩
 ·rw [Bool.eq_iff_iff, decide_eq_true_iff, decide_eq_true_iff]
  simp only [List.length_cons, List.length_nil, List.length_drop]
  constructor
  ·rintro ⟨h1, _⟩; omega
  ·rintro ⟨h1, _⟩; omega
theorem dec_hb : dec 2 31779 = [35, 124] := by decide
theorem dec_bh : dec 2 9084 = [124, 35] := by decide
theorem dec_cc : dec 2 14906 = [58, 58] := by decide
def comO (s : Str) (i : Nat) : Option Nat := comEnd s (i + 2) 1
def comR (s : Str) (i : Nat) : GRes := match comO s i with
 | some _ => .ret (.t [])
 | none => failG 11 s.length
def comB (s : Str) (i : Nat) : Nat := (comO s i).getD i
theorem com_in {s : Str} {j d : Nat} (h : j < s.length) (hh : has s j 35 124 = true) : comEnd s j (d + 1) = comEnd s (j + 2) (d + 2) := by rw [comEnd, if_neg (by omega), if_pos h, if_pos hh]
theorem com_out {s : Str} {j d : Nat} (h : j < s.length) (hh : ¬ has s j 35 124 = true) (h2 : has s j 124 35 = true) : comEnd s j (d + 1) = comEnd s (j + 2) d := by rw [comEnd, if_neg (by omega), if_pos h, if_neg hh, if_pos h2]; rfl
theorem com_on {s : Str} {j d : Nat} (h : j < s.length) (hh : ¬ has s j 35 124 = true) (h2 : ¬ has s j 124 35 = true) : comEnd s j (d + 1) = comEnd s (j + 1) (d + 1) := by rw [comEnd, if_neg (by omega), if_pos h, if_neg hh, if_neg h2]
theorem com_end {s : Str} {j d : Nat} (h : ¬ j < s.length) : comEnd s j (d + 1) = none := by rw [comEnd, if_neg (by omega), if_neg h]
theorem com_0 (s : Str) (j : Nat) : comEnd s j 0 = some j := by rw [comEnd, if_pos rfl]
theorem kComment : Know 161 (spScP (fun s i => has s i 35 124 = true) comR comB) := know (fun fn h => r161_ok h) [(135, _), (160, _), (51, _)] (.cons kMore (.cons kStarts (.cons kFail .nil))) fun U fn hfn ⟨⟨(s, i), h1, h2⟩, h3⟩ vs bs hv hb => by
 have hm := hfn 135 _ rfl
 have hs := hfn 160 _ rfl
 have hf := hfn 51 _ rfl
 have hv : RVs [.p 0 0] vs := hv
 have hb : RBs [[.s s, .i .i64 (i : Int)]] bs := hb
 have h1 : i ≤ s.length := h1
 have h2 : s.length < 90000 := h2
 have h3 : has s i 35 124 = true := h3
 show Sat U _ fun v bs' => RRes (comR s i) v ∧ RBs [scG s (comB s i)] bs'
 unfold r161
 (refine Zq ?_;with_reducible repeat' first|intro _|apply aI)
 have h4 := has_lt h3
 refine sLp (fun (p : Nat × Nat) vs bs => vs = [.ptr 0 0, .int .i64 (p.2 : Int)] ∧ RBs [scG s p.1] bs ∧ p.1 ≤ s.length ∧ (p = (i, 0) ∨ ∃ d, p.2 = d + 1 ∧ d ≤ p.1 ∧ comEnd s p.1 (d + 1) = comO s i)) (fun p => s.length - p.1) (i, 0) ⟨rfl, scC rfl, h1, .inl rfl⟩ (by simp only [FUEL]; omega) ?_
 rintro self ⟨j, d⟩ vs bs ⟨rfl, hb, hj, hd⟩ ih
 have hb : RBs [[.s s, .i .i64 (j : Int)]] bs := hb
 have hj : j ≤ s.length := hj
 have hdj : d ≤ j + 1 := by
  rcases hd with hd | ⟨d', hd, h, _⟩
  ·injection hd with _ hd; omega
  ·have hd : d = d' + 1 := hd
   have h : d' ≤ j := h
   omega
 (refine Zq ?_;with_reducible repeat' first|intro _|apply aI)
 refine sCall hm ⟨(s, j), hj, h2⟩ (r := .c (.b (decide (j < s.length)))) rfl Zrv (RB.bx (by assumption) rfl) fun _ _ _ hb => ?_
 have hb : RBs [[.s s, .i .i64 (j : Int)]] _ := hb
 (refine Zq ?_;with_reducible repeat' first|intro _|apply aI)
 ·have hlt : j < s.length := of_decide_eq_true ‹_›
  refine sCall hs ⟨⟨(s, j), hj, h2⟩, dec 2 31779⟩ (r := .c (.b (preS (s.drop j) (dec 2 31779)))) rfl Zrv (RB.bx (by assumption) rfl) fun _ _ hv hb => ?_
  have hb : RBs [[.s s, .i .i64 (j : Int)]] _ := hb
  rw [dec_hb, pre2 hj] at hv
  (refine Zq ?_;with_reducible repeat' first|intro _|apply aI)
  ·have hh : has s j 35 124 = true := ‹_›
   have hlt2 := has_lt hh
   refine fun e => ih (j + 2, d + 1) _ _ ⟨by simp, scQ e (by assumption) (by omega), by simp; omega, .inr ⟨d, rfl, by simp; omega, ?_⟩⟩ (by simp; omega) e
   rcases hd with hd | ⟨d', hd, h, he⟩
   ·injection hd with h1 hd; subst h1 hd; rfl
   ·have hd : d = d' + 1 := hd
    subst hd
    rw [← he]; exact (com_in hlt hh).symm
  ·have hh : ¬ has s j 35 124 = true := ‹_›
   refine sCall hs ⟨⟨(s, j), hj, h2⟩, dec 2 9084⟩ (r := .c (.b (preS (s.drop j) (dec 2 9084)))) rfl Zrv (RB.bx (by assumption) rfl) fun _ _ hv hb => ?_
   have hb : RBs [[.s s, .i .i64 (j : Int)]] _ := hb
   rw [dec_bh, pre2 hj] at hv
   obtain ⟨d', hd, h, he⟩ : ∃ d', d = d' + 1 ∧ d' ≤ j ∧ comEnd s j (d' + 1) = comO s i := by
    rcases hd with hd | hd
    ·injection hd with h1 hd; subst h1; exact absurd h3 hh
    ·exact hd
   subst hd
   (refine Zq ?_;with_reducible repeat' first|intro _|apply aI)
   ·have hk : has s j 124 35 = true := ‹_›
    have hlt2 := has_lt hk
    have hz : d' = 0 := by omega
    subst hz
    have ho : comO s i = some (j + 2) := by rw [← he, com_out hlt hh hk, com_0]
    have e1 : comR s i = .ret (.t []) := by unfold comR; rw [ho]
    have e2 : comB s i = j + 2 := by unfold comB; rw [ho]; rfl
    rw [e1, e2]
    exact sRetU fun e => ⟨.ret _ _ (.t _ _ .nil), scQ e (by assumption) (by omega)⟩
   ·have hk : has s j 124 35 = true := ‹_›
    have hlt2 := has_lt hk
    refine fun e => ih (j + 2, d') _ _ ⟨by simp, scQ e (by assumption) (by omega), by simp; omega, .inr ⟨d' - 1, by simp; omega, by simp; omega, ?_⟩⟩ (by simp; omega) e
    rw [← he, com_out hlt hh hk, show d' - 1 + 1 = d' by omega]
   ·have hk : ¬ has s j 124 35 = true := ‹_›
    refine fun e => ih (j + 1, d' + 1) _ _ ⟨by simp, scQ e (by assumption) (by omega), by simp; omega, .inr ⟨d', rfl, by simp; omega, ?_⟩⟩ (by simp; omega) e
    rw [← he, com_on hlt hh hk]
 ·have hlt : ¬ j < s.length := fun h => ‹¬ decide (j < s.length) = true› (decide_eq_true h)
  obtain ⟨d', hd, h, he⟩ : ∃ d', d = d' + 1 ∧ d' ≤ j ∧ comEnd s j (d' + 1) = comO s i := by
   rcases hd with hd | hd
   ·injection hd with h1 hd; subst h1; omega
   ·exact hd
  have ho : comO s i = none := by rw [← he, com_end hlt]
  have e1 : comR s i = failG 11 s.length := by unfold comR; rw [ho]
  have e2 : comB s i = i := by unfold comB; rw [ho]; rfl
  rw [e1, e2]
  refine sCallP hf (11, (s.length : Int)) (r := .fl 122 11 s.length) rfl Zrv .nil fun _ hv => ?_
  exact sPan hv (scC rfl)
def spCR : Sp := spSI .i32 (fun s r => 0 ≤ r ∧ (r < 128 ∨ r < 256 ∧ s = dec 4 218761504)) fun s r => .c (.b (decide (r < 128 ∧ 0 ≤ Lib.indexByte s r.toNat.toUInt8)))
theorem blank_idx (c : Int) (h1 : 0 ≤ c) (h2 : c < 256) : (decide (c < 128 ∧ 0 ≤ Lib.indexByte (dec 4 218761504) c.toNat.toUInt8)) = isBlank c := by
 obtain ⟨n, rfl⟩ : ∃ n : Nat, c = n := ⟨c.toNat, by omega⟩
 rw [Int.toNat_natCast]
 have h3 : n < 256 := by omega
 have key : ∀ n : Fin 256, (decide ((n.1 : Int) < 128 ∧ 0 ≤ Lib.indexByte (dec 4 218761504) n.1.toUInt8)) = isBlank n.1 := by decide
 exact key ⟨n, h3⟩
def skipR (s : Str) (i : Nat) : GRes := match LQ.skip s i with
 | some _ => .ret (.t [])
 | none => failG 11 s.length
def skipB (s : Str) (i : Nat) : Nat := (LQ.skip s i).getD i
theorem lineEnd_idx (s : Str) (i : Nat) (hi : i ≤ s.length) : (lineEnd s i : Int) = i + (if Lib.indexByte (s.drop i) 10 < 0 then (s.length : Int) - i else Lib.indexByte (s.drop i) 10) := by
 generalize hm : s.length - i = m
 induction m generalizing i with
 | zero =>
  have : i = s.length := by omega
  subst this
  rw [lineEnd, if_neg (by omega), List.drop_length]
  simp [Lib.indexByte]
 | succ m ih =>
  have hlt : i < s.length := by omega
  have b0 : bt s i = s[i].toNat := by unfold bt; simp [List.getD, List.getElem?_eq_getElem hlt]
  have hge := (indexByte_lt (s.drop (i + 1)) 10).2
  have ex : Lib.indexByte (s.drop i) 10 = if s[i] = 10 then 0 else if Lib.indexByte (s.drop (i + 1)) 10 = -1 then -1 else Lib.indexByte (s.drop (i + 1)) 10 + 1 := by
   rw [List.drop_eq_getElem_cons hlt]
   simp only [Lib.indexByte, beq_iff_eq]
  rw [ex, lineEnd, if_pos hlt]
  by_cases h : s[i] = 10
  ·rw [if_pos (by rw [b0, h]; rfl)]; simp [h]
  ·have h' : ¬ bt s i = 10 := fun e => h (UInt8.toNat_inj.1 (by rw [b0] at e; show s[i].toNat = 10; omega))
   rw [if_neg h', ih (i + 1) (by omega) (by omega)]
   simp only [h, if_false]
   generalize Lib.indexByte (s.drop (i + 1)) 10 = x at *
   by_cases hz : x = -1
   ·subst hz; simp; omega
   ·simp only [hz, if_false]
    rw [if_neg (by omega), if_neg (by omega)]; push_cast; omega
theorem kSkip (hcr : Know 158 spCR) : Know 134 (spSc skipR skipB) := know (fun fn h => r134_ok h) [(135, _), (158, _), (159, _), (160, _), (161, _)] (.cons kMore (.cons hcr (.cons kIndexByte (.cons kStarts (.cons kComment .nil))))) fun U fn hfn ⟨(s, i), h1, h2⟩ vs bs hv hb => by
 have hm := hfn 135 _ rfl
 have hc := hfn 158 _ rfl
 have hx := hfn 159 _ rfl
 have hs := hfn 160 _ rfl
 have hk := hfn 161 _ rfl
 have hv : RVs [.p 0 0] vs := hv
 have hb : RBs [[.s s, .i .i64 (i : Int)]] bs := hb
 have h1 : i ≤ s.length := h1
 have h2 : s.length < 90000 := h2
 show Sat U _ fun v bs' => RRes (skipR s i) v ∧ RBs [scG s (skipB s i)] bs'
 unfold r134
 (refine Zq ?_;with_reducible repeat' first|intro _|apply aI)
 refine sLp (fun (j : Nat) vs bs => vs = [.ptr 0 0] ∧ RBs [scG s j] bs ∧ j ≤ s.length ∧ LQ.skip s j = LQ.skip s i) (fun j => s.length - j) i ⟨rfl, scC rfl, h1, rfl⟩ (by simp only [FUEL]; omega) ?_
 rintro self j vs bs ⟨rfl, hb, hj, he⟩ ih
 have hb : RBs [[.s s, .i .i64 (j : Int)]] bs := hb
 have stop : ∀ {x : Q}, LQ.skip s j = some j → Cel [.s s, .i .i64 (j : Int)] x 0 → Sat U (some (.ret (.tuple []), [.opa x 2])) fun v bs' => RRes (skipR s i) v ∧ RBs [scG s (skipB s i)] bs' := fun h hq => by
  have ho : LQ.skip s i = some j := by rw [← he, h]
  have e1 : skipR s i = .ret (.t []) := by unfold skipR; rw [ho]
  have e2 : skipB s i = j := by unfold skipB; rw [ho]; rfl
  rw [e1, e2]
  exact sRet ⟨.ret _ _ (.t _ _ .nil), RB.bx hq rfl⟩
 (refine Zq ?_;with_reducible repeat' first|intro _|apply aI)
 refine sCall hm ⟨(s, j), hj, h2⟩ (r := .c (.b (decide (j < s.length)))) rfl Zrv (RB.bx (by assumption) rfl) fun _ _ _ hb => ?_
 have hb : RBs [[.s s, .i .i64 (j : Int)]] _ := hb
 (refine Zq ?_;with_reducible repeat' first|intro _|apply aI)
 ·have hlt : j < s.length := of_decide_eq_true ‹_›
  have hbt : ((s.getD j 0).toNat : Int) = bt s j := rfl
  have hb0 := bt_nonneg s j
  have hb1 := bt_lt s j
  (refine Zq ?_;with_reducible repeat' first|intro _|apply aI)
  refine sfWr32 (m := bt s j) rfl (by omega) ?_
  refine sCall hc ⟨(dec 4 218761504, bt s j), hb0, .inr ⟨hb1, rfl⟩⟩ (r := .c (.b (isBlank (bt s j)))) (congrArg (fun b => GRes.ret (.c (.b b))) (blank_idx _ hb0 hb1)) Zrv .nil fun _ _ _ _ => ?_
  (refine Zq ?_;with_reducible repeat' first|intro _|apply aI)
  ·have hbl : isBlank (bt s j) = true := ‹_›
   exact fun e => ih (j + 1) _ _ ⟨rfl, scQ e (by assumption) (by omega), by omega, by rw [← skip_blank hlt hbl]; exact he⟩ (by omega) e
  ·have hbl : isBlank (bt s j) = false := by simpa using ‹¬ isBlank (bt s j) = true›
   have h59 : bt s j = 59 := ‹_›
   rw [Int.toNat_natCast]
   refine sCall hx ⟨(s.drop j, 10), by omega, by omega⟩ (r := .c (.i .i64 (Lib.indexByte (s.drop j) 10))) rfl Zrv .nil fun _ _ _ _ => ?_
   have hi := indexByte_lt (s.drop j) 10
   have hle := lineEnd_idx s j hj
   have hll := lineEnd_le s j hj
   have hl2 := lineEnd_lt s j hlt (by omega)
   simp only [List.length_drop] at hi
   (refine Zq ?_;with_reducible repeat' first|intro _|apply aI)
   ·rw [if_pos ‹_›] at hle
    exact fun e => ih (lineEnd s j) _ _ ⟨rfl, scQ e (by assumption) (by omega), by omega, by rw [← skip_line hlt hbl h59]; exact he⟩ (by omega) e
   ·rw [if_neg ‹_›] at hle
    exact fun e => ih (lineEnd s j) _ _ ⟨rfl, scQ e (by assumption) (by omega), by omega, by rw [← skip_line hlt hbl h59]; exact he⟩ (by omega) e
  ·have hbl : isBlank (bt s j) = false := by simpa using ‹¬ isBlank (bt s j) = true›
   have h59 : ¬ bt s j = 59 := ‹_›
   refine sCall hs ⟨⟨(s, j), hj, h2⟩, dec 2 31779⟩ (r := .c (.b (preS (s.drop j) (dec 2 31779)))) rfl Zrv (RB.bx (by assumption) rfl) fun _ _ hv hb => ?_
   have hb : RBs [[.s s, .i .i64 (j : Int)]] _ := hb
   rw [dec_hb, pre2 hj] at hv
   (refine Zq ?_;with_reducible repeat' first|intro _|apply aI)
   ·have hh : has s j 35 124 = true := ‹_›
    have hlt2 := has_lt hh
    cases hcm : comEnd s (j + 2) 1 with
    | some k =>
     have hkl := comEnd_le s (j + 2) 1 k (by omega) hcm
     refine sCall hk ⟨⟨(s, j), hj, h2⟩, hh⟩ (r := .t []) (by show comR s j = _; unfold comR comO; rw [hcm]) Zrv (RB.bx (by assumption) rfl) fun _ _ _ hb => ?_
     have hb : RBs [scG s (comB s j)] _ := hb
     have e2 : comB s j = k := by unfold comB comO; rw [hcm]; rfl
     rw [e2] at hb
     have hb : RBs [[.s s, .i .i64 (k : Int)]] _ := hb
     (refine Zq ?_;with_reducible repeat' first|intro _|apply aI)
     exact fun e => ih k _ _ ⟨rfl, RB.bx (by assumption) rfl, by omega, by rw [← skip_com hlt hbl h59 hh hcm]; exact he⟩ (by omega) e
    | none =>
     refine sCallP hk ⟨⟨(s, j), hj, h2⟩, hh⟩ (r := .fl 122 11 s.length) (by show comR s j = _; unfold comR comO; rw [hcm]) Zrv (RB.bx (by assumption) rfl) fun _ hv => ?_
     have ho : LQ.skip s i = none := by rw [← he, skip_open hlt hbl h59 hh hcm]
     have e1 : skipR s i = failG 11 s.length := by unfold skipR; rw [ho]
     have e2 : skipB s i = i := by unfold skipB; rw [ho]; rfl
     rw [e1, e2]
     exact sPan hv (scC rfl)
   ·exact stop (skip_stop hlt hbl h59 (by simpa using ‹¬ has s j 35 124 = true›)) (by assumption)
 ·have hlt : ¬ j < s.length := fun h => ‹¬ decide (j < s.length) = true› (decide_eq_true h)
  exact stop (skip_end hlt) (by assumption)
end
end Go.Proofs.YtffaodopiifbkaaGreatDoor
namespace Go.Proofs.YtffaodopiifbkaaGreatDoor
open Go.Abs LQ
set_option maxRecDepth 100000
set_option maxHeartbeats 4000000
noncomputable section
theorem dec_m : dec 1 45 = [45] := by decide
theorem cutPre_sign (s : Str) : cutPre s [45] = s.drop (signLen s) := by
 unfold cutPre preS signLen
 cases s with
 | nil => simp
 | cons c s =>
  have hb : bt (c :: s) 0 = c.toNat := rfl
  by_cases h : c = 45
  ·subst h; simp [hb]
  ·have h' : ¬ (c.toNat : Int) = 45 := fun e => h (UInt8.toNat_inj.1 (by show c.toNat = 45; omega))
   simp [h, hb, h']
theorem bt_drop (s : Str) (a k : Nat) : bt (s.drop a) k = bt s (a + k) := by unfold bt; simp [List.getD]
theorem digEnd_drop (s : Str) (a k : Nat) (h : a + k ≤ s.length) : digEnd s (a + k) = a + digEnd (s.drop a) k := by
 generalize hm : s.length - (a + k) = m
 induction m generalizing k with
 | zero => rw [digEnd, if_neg (by omega), digEnd, if_neg (by simp; omega)]
 | succ m ih =>
  have hb : bt (s.drop a) k = bt s (a + k) := bt_drop s a k
  rw [digEnd, if_pos (by omega)]
  conv => rhs; rw [digEnd, if_pos (by rw [List.length_drop]; omega), hb]
  by_cases hc : isDig (bt s (a + k)) = true
  ·rw [if_pos hc, if_pos hc]; exact ih (k + 1) (by omega) (by omega)
  ·rw [if_neg hc, if_neg hc]
theorem kValidN : Know 193 (sp1 fun s => .ret (.c (.b (decOk s)))) := know (fun fn h => r193_ok h) [(184, _)] (.cons kTrimPrefix .nil) fun U fn hfn ⟨s, hs⟩ vs bs hv hb => by
 have hp := hfn 184 _ rfl
 have hv : RVs [.c (.s s)] vs := hv
 have hb : RBs [] bs := hb
 show Sat U _ fun v bs' => RRes (.ret (.c (.b (decOk s)))) v ∧ RBs [] bs'
 obtain ⟨d, hd⟩ : ∃ d, s.drop (signLen s) = d := ⟨_, rfl⟩
 unfold r193
 (refine Zq ?_;with_reducible repeat' first|intro _|apply aI)
 refine sCall hp ⟨(s, dec 1 45), trivial⟩ (r := .c (.s d)) (by show GRes.ret (.c (.s (cutPre s (dec 1 45)))) = _; rw [dec_m, cutPre_sign, hd]) Zrv .nil fun _ _ _ _ => ?_
 have hsl := signLen_le s
 have hdl : d.length = s.length - signLen s := by rw [← hd]; simp
 have hb0 : ((d.getD 0 0).toNat : Int) = bt s (signLen s) := by rw [← hd]; exact (bt_drop s (signLen s) 0).trans (by rw [Nat.add_zero])
 have hb0' : ((d.getD (Int.toNat 0) 0).toNat : Int) = bt s (signLen s) := hb0
 have zz : ∀ b : Bool, decOk s = b → ∀ x : Bool, (U = CU → x = b) → Sat U (some (.ret (.bool x), [])) fun v bs' => RRes (.ret (.c (.b (decOk s)))) v ∧ RBs [] bs' := fun b h x hx => sRetU fun e => ⟨.ret _ _ (rvB (by rw [h, hx e])), .nil⟩
 have zs : (d = [] ∨ bt s (signLen s) = 48) → ∀ x : Bool, (U = CU → x = decide (s = dec 1 48)) → Sat U (some (.ret (.bool x), [])) fun v bs' => RRes (.ret (.c (.b (decOk s)))) v ∧ RBs [] bs' := fun h x hx => by
  refine zz (decide (s = dec 1 48)) ?_ x hx
  have : ¬ (signLen s < s.length ∧ bt s (signLen s) ≠ 48) := by
   rcases h with h | h
   ·rw [h] at hdl; simp at hdl; omega
   ·exact fun k => k.2 h
  unfold decOk
  rw [decide_eq_false this, Bool.false_and, Bool.or_false]; rfl
 (refine Zq ?_;with_reducible repeat' first|intro _|apply aI)
 ·exact zs (.inl ‹d = dec 0 0›) _ fun e => by subst e; exact cuSL s 1 48
 ·have hne : d ≠ [] := ‹¬ d = dec 0 0›
  have hpos : 0 < d.length := List.length_pos_iff.2 hne
  (refine Zq ?_;with_reducible repeat' first|intro _|apply aI)
  ·exact zs (.inr (hb0.symm.trans (by assumption))) _ fun e => by subst e; exact cuSL s 1 48
  ·have h48 : ¬ ((d.getD 0 0).toNat : Int) = 48 := by assumption
   have e0 : decOk s = decide (digEnd d 0 = d.length) := by
    have hz : ¬ s = zeroStr := fun e => h48 (by rw [hb0]; subst e; decide)
    have h1 : signLen s < s.length ∧ bt s (signLen s) ≠ 48 := ⟨by omega, by omega⟩
    have h2 := digEnd_drop s (signLen s) 0 (by omega)
    rw [Nat.add_zero, hd] at h2
    unfold decOk
    rw [decide_eq_true h1, Bool.true_and, decide_eq_false hz, Bool.false_or]
    rw [Bool.eq_iff_iff, decide_eq_true_iff, decide_eq_true_iff]; omega
   have hl : d.length < 90000 := by have : s.length < 90000 := hs; omega
   refine sLp (fun (i : Nat) vs bs => vs = [.str d.length (code d), .int .i64 d.length, .int .i64 i] ∧ bs = [] ∧ i ≤ d.length ∧ digEnd d i = digEnd d 0) (fun i => d.length - i) 0 ⟨rfl, rfl, by omega, rfl⟩ (by simp only [FUEL]; omega) ?_
   rintro self i vs bs ⟨rfl, rfl, hi, he⟩ ih
   (refine Zq ?_;with_reducible repeat' first|intro _|apply aI)
   ·exact sRet ⟨.ret _ _ (rvK (by rw [e0, ← he, dig_lo (i := i) (by omega) (by omega)]; exact decide_eq_false (by omega))), .nil⟩
   ·exact sRet ⟨.ret _ _ (rvK (by rw [e0, ← he, dig_lo (i := i) (by omega) (by omega)]; exact decide_eq_false (by omega))), .nil⟩
   ·exact ih (i + 1) _ _ ⟨rfl, rfl, by omega, by rw [← he, dig_in (i := i) (by omega) ‹_› ‹_›]⟩ (by omega)
   ·exact sRet ⟨.ret _ _ (rvK (by rw [e0, ← he, dig_end (i := i) (by omega)]; exact decide_eq_true (by omega))), .nil⟩
theorem kDecimal : Know 176 (sp1 fun s => .ret (.c (.s (decS s)))) := know (fun fn h => r176_ok h) [(193, _)] (.cons kValidN .nil) fun U fn hfn ⟨s, hs⟩ vs bs hv hb => by
 have hp := hfn 193 _ rfl
 have hv : RVs [.c (.s s)] vs := hv
 have hb : RBs [] bs := hb
 show Sat U _ fun v bs' => RRes (.ret (.c (.s (decS s)))) v ∧ RBs [] bs'
 unfold r176
 (refine Zq ?_;with_reducible repeat' first|intro _|apply aI)
 refine sCall hp ⟨s, hs⟩ (r := .c (.b (decOk s))) rfl Zrv .nil fun _ _ _ _ => ?_
 (refine Zq ?_;with_reducible repeat' first|intro _|apply aI)
 ·have e : decS s = s := by unfold decS; rw [if_pos ‹_›]
  rw [e]; exact sRet ⟨.ret _ _ (.s _ _ _ rfl rfl), .nil⟩
 ·have e : decS s = dec 1 48 := by unfold decS; rw [if_neg ‹_›]; rfl
  rw [e]; exact sRet ⟨.ret _ _ (.s _ _ _ rfl rfl), .nil⟩
theorem decS_len (s : Str) : (decS s).length ≤ s.length ∨ (decS s).length ≤ 1 := by unfold decS; split; exact .inl (Nat.le_refl _); exact .inr (by decide)
theorem decS_nat (s : Str) : (decS s).drop (signLen (decS s)) = showNat (decVal s).natAbs := by
 rw [decS_show, showInt_eq]
 have h := signLen_app (decVal s) (decVal s).natAbs []
 rw [List.append_nil] at h
 rw [h, List.drop_left]
theorem kDigitsN : Know 167 (sp1 fun s => .ret (.c (.i .i64 ((showNat (decVal s).natAbs).length : Nat)))) := know (fun fn h => r167_ok h) [(176, _), (184, _)] (.cons kDecimal (.cons kTrimPrefix .nil)) fun U fn hfn ⟨s, hs⟩ vs bs hv hb => by
 have hp := hfn 176 _ rfl
 have ht := hfn 184 _ rfl
 have hv : RVs [.c (.s s)] vs := hv
 have hb : RBs [] bs := hb
 show Sat U _ fun v bs' => RRes (.ret (.c (.i .i64 ((showNat (decVal s).natAbs).length : Nat)))) v ∧ RBs [] bs'
 unfold r167
 (refine Zq ?_;with_reducible repeat' first|intro _|apply aI)
 refine sCall hp ⟨s, hs⟩ (r := .c (.s (decS s))) rfl Zrv .nil fun _ _ _ _ => ?_
 (refine Zq ?_;with_reducible repeat' first|intro _|apply aI)
 refine sCall ht ⟨(decS s, dec 1 45), trivial⟩ (r := .c (.s (showNat (decVal s).natAbs))) (by show GRes.ret (.c (.s (cutPre (decS s) (dec 1 45)))) = _; rw [dec_m, cutPre_sign, decS_nat]) Zrv .nil fun _ _ _ _ => ?_
 (refine Zq ?_;with_reducible repeat' first|intro _|apply aI)
 exact sRet ⟨.ret _ _ (.i _ _), .nil⟩
end
end Go.Proofs.YtffaodopiifbkaaGreatDoor
namespace Go.Proofs.YtffaodopiifbkaaGreatDoor
open Go.Abs LQ
set_option maxRecDepth 100000
set_option maxHeartbeats 4000000
noncomputable section
def lg (d : Nat) : List G := [.i .u32 (d : Int)]
theorem lg_inj {a b : Nat} (h : lg a = lg b) : a = b := by simp only [lg, List.cons.injEq, G.i.injEq, and_true, true_and] at h; omega
theorem maplg_inj : ∀ {l m : List Nat}, l.map lg = m.map lg → l = m
 | [], [], _ => rfl
 | [], _ :: _, h => by simp at h
 | _ :: _, [], h => by simp at h
 | a :: l, b :: m, h => by simp only [List.map_cons, List.cons.injEq] at h; exact congr (congrArg List.cons (lg_inj h.1)) (maplg_inj h.2)
section
variable {U : CombU} {P : VRes → List Bx → Prop}
theorem sfTl {l : List Nat} {t : Tre Q} {off : Nat} {i : Int} (n : Nat) {K : Q → Om} (ht : Rws 1 (l.map lg) t off) (hn : i = n) (hi : n < l.length) (h : ∀ x, Cel (lg (l.getD n 0)) x 0 → Sat U (K x) P) : Sat U (U.fQ (U.tQ t (U.nAdd off (U.iNat i))) K) P := by
 subst hn
 refine sfTm (y := l.getD n 0) ht ?_ h
 rw [Int.toNat_natCast, List.getElem?_eq_getElem hi]
 simp [List.getD, List.getElem?_eq_getElem hi]
end
def spM (R : List Nat → GRes) : Sp where
 ι := { l : List Nat // l.length < 20000 }
 A l := [.sl 1 (l.1.map lg)]
 B _ := []
 R l := R l.1
 B' _ := []
 inj i j vs bs h k _ _ := by
  obtain ⟨_, _, h1, k1, h, k⟩ := h.two k
  rw [maplg_inj (h1.sl_inj k1)]; exact ⟨rfl, rfl⟩
def spMM (ok : List Nat → List Nat → Prop) (R : List Nat → List Nat → GRes) : Sp where
 ι := { p : List Nat × List Nat // p.1.length < 20000 ∧ p.2.length < 20000 ∧ ok p.1 p.2 }
 A p := [.sl 1 (p.1.1.map lg), .sl 1 (p.1.2.map lg)]
 B _ := []
 R p := R p.1.1 p.1.2
 B' _ := []
 inj i j vs bs h k _ _ := by
  obtain ⟨_, _, h1, k1, h, k⟩ := h.two k
  obtain ⟨_, _, h2, k2, h, k⟩ := h.two k
  rw [maplg_inj (h1.sl_inj k1), maplg_inj (h2.sl_inj k2)]; exact ⟨rfl, rfl⟩
theorem kTrimN : Know 222 (spM fun l => .ret (.sl 1 ((trimL l).map lg))) := know (fun fn h => r222_ok h) [] .nil fun U fn hfn ⟨l, hs⟩ vs bs hv hb => by
 have hv : RVs [.sl 1 (l.map lg)] vs := hv
 have hb : RBs [] bs := hb
 have hs : l.length < 20000 := hs
 show Sat U _ fun v bs' => RRes (.ret (.sl 1 ((trimL l).map lg))) v ∧ RBs [] bs'
 unfold r222
 (refine Zx ?_;with_reducible repeat' first|intro _|apply aI)
 refine sLp (fun (m : Nat) vs bs => ∃ (t : Tre Q) (off : Nat), vs = [.slice t 1 off m .no] ∧ bs = [] ∧ Rws 1 (l.map lg) t off ∧ m ≤ l.length ∧ trimN l m = trimN l l.length) (fun m => m) l.length ⟨_, _, rfl, rfl, by assumption, by omega, rfl⟩ (by simp only [FUEL]; omega) ?_
 rintro self m _ _ ⟨t, off, rfl, rfl, ht, hm, he⟩ ih
 have fin : ¬ (0 < m ∧ l.getD (m - 1) 0 = 0) → Sat U (some (.ret (.slice t 1 off m .no), [])) fun v bs' => RRes (.ret (.sl 1 ((trimL l).map lg))) v ∧ RBs [] bs' := fun h => by
  have e : trimL l = l.take m := by
   unfold trimL
   rw [← he]
   cases m with
   | zero => rfl
   | succ m => rw [trimN, if_neg (fun k => h ⟨by omega, by simpa using k⟩)]
  rw [e, List.map_take]
  exact sRet ⟨.ret _ _ (.sl _ _ _ _ _ (by simp; omega) (ht.take m)), .nil⟩
 (refine Zx ?_;with_reducible repeat' first|intro _|apply aI)
 ·refine sfTl (m - 1) (by assumption) (by omega) (by omega) fun _ _ => ?_
  (refine Zx ?_;with_reducible repeat' first|intro _|apply aI)
  ·have h0 := ‹((l.getD (m - 1) 0 : Nat) : Int) = 0›
   simp only [Int.toNat_zero, Nat.add_zero, Nat.sub_zero]
   refine ih (m - 1) _ _ ⟨t, off, by rw [show ((m : Int) - 1).toNat = m - 1 by omega], rfl, ht, by omega, ?_⟩ (by omega)
   obtain ⟨m, rfl⟩ : ∃ n, m = n + 1 := ⟨m - 1, by omega⟩
   rw [← he, trimN, if_pos (by simpa using h0)]; rfl
  ·exact fin fun h => ‹¬ ((l.getD (m - 1) 0 : Nat) : Int) = 0› (by omega)
 ·exact fin fun h => by omega
theorem kCompareN0 : Know 223 (spMM (fun _ _ => True) fun a b => .ret (.c (.i .i64 (ordL a b)))) := know (fun fn h => r223_ok h) [] .nil fun U fn hfn ⟨(a, b), ha, hbl, _⟩ vs bs hv hb => by
 have ha : a.length < 20000 := ha
 have hbl : b.length < 20000 := hbl
 have hv : RVs [.sl 1 (a.map lg), .sl 1 (b.map lg)] vs := hv
 have hb : RBs [] bs := hb
 show Sat U _ fun v bs' => RRes (.ret (.c (.i .i64 (ordL a b)))) v ∧ RBs [] bs'
 unfold r223
 (refine Zx ?_;with_reducible repeat' first|intro _|apply aI)
 ·have hl : a.length = b.length := by omega
  have e : ordL a b = ordFrom a b a.length := by unfold ordL; rw [if_pos hl]
  rw [e]
  refine sLp (fun (m : Nat) vs bs => ∃ (t : Tre Q) (off : Nat) (t' : Tre Q) (off' : Nat) (i : Int), vs = [.slice t 1 off a.length .no, .slice t' 1 off' b.length .no, .int .i64 i] ∧ bs = [] ∧ i = m - 1 ∧ Rws 1 (a.map lg) t off ∧ Rws 1 (b.map lg) t' off' ∧ m ≤ a.length ∧ ordFrom a b m = ordFrom a b a.length) (fun m => m) a.length ⟨_, _, _, _, _, rfl, rfl, rfl, by assumption, by assumption, by omega, rfl⟩ (by simp only [FUEL]; omega) ?_
  rintro self m _ _ ⟨t, off, t', off', i, rfl, rfl, rfl, ht, ht', hm, he⟩ ih
  (refine Zx ?_;with_reducible repeat' first|intro _|apply aI)
  ·refine sfTl (m - 1) (by assumption) (by omega) (by omega) fun _ _ => ?_
   (refine Zx ?_;with_reducible repeat' first|intro _|apply aI)
   refine sfTl (m - 1) (by assumption) (by omega) (by omega) fun _ _ => ?_
   (refine Zx ?_;with_reducible repeat' first|intro _|apply aI)
   ·refine ih (m - 1) _ _ ?_ (by omega)
    obtain ⟨m, rfl⟩ : ∃ n, m = n + 1 := ⟨m - 1, by omega⟩
    exact ⟨_, _, _, _, _, rfl, rfl, by omega, ht, ht', by omega, by rw [← he, Nat.add_sub_cancel]; conv => rhs; rw [ordFrom, if_neg (by simp only [Nat.add_sub_cancel] at *; omega), if_neg (by simp only [Nat.add_sub_cancel] at *; omega)]⟩
   ·refine sfTl (m - 1) (by assumption) (by omega) (by omega) fun _ _ => ?_
    (refine Zx ?_;with_reducible repeat' first|intro _|apply aI)
    refine sfTl (m - 1) (by assumption) (by omega) (by omega) fun _ _ => ?_
    (refine Zx ?_;with_reducible repeat' first|intro _|apply aI)
    ·obtain ⟨m, rfl⟩ : ∃ n, m = n + 1 := ⟨m - 1, by omega⟩
     exact sRet ⟨.ret _ _ (rvI (by rw [← he, ordFrom, if_pos (by simp only [Nat.add_sub_cancel] at *; omega)])), .nil⟩
    ·obtain ⟨m, rfl⟩ : ∃ n, m = n + 1 := ⟨m - 1, by omega⟩
     exact sRet ⟨.ret _ _ (rvI (by rw [← he, ordFrom, if_neg (by simp only [Nat.add_sub_cancel] at *; omega), if_pos (by simp only [Nat.add_sub_cancel] at *; omega)])), .nil⟩
  ·have em : m = 0 := by omega
   subst em
   exact sRet ⟨.ret _ _ (rvI (by rw [← he]; rfl)), .nil⟩
 ·exact sRet ⟨.ret _ _ (rvI (by unfold ordL; rw [if_neg (by omega), if_pos (by omega)])), .nil⟩
 ·exact sRet ⟨.ret _ _ (rvI (by unfold ordL; rw [if_neg (by omega), if_neg (by omega)])), .nil⟩
end
end Go.Proofs.YtffaodopiifbkaaGreatDoor
namespace Go.Proofs.YtffaodopiifbkaaGreatDoor
open Go.Abs LQ
set_option maxRecDepth 100000
set_option maxHeartbeats 4000000
noncomputable section
section
variable {U : CombU} {P : VRes → List Bx → Prop}
theorem wr_u32 {e : Int} (h1 : 0 ≤ e) (h2 : e < 4294967296) : wr .u32 e = e := by
 rw [wr_eq]; show e % 4294967296 = e; omega
theorem wr_u64 {e : Int} (h1 : 0 ≤ e) (h2 : e < 18446744073709551616) : wr .u64 e = e := by
 rw [wr_eq]; show e % 18446744073709551616 = e; omega
theorem sfU32 {e m : Int} {K : Int → Om} (he : e = m) (hr : 0 ≤ m ∧ m < 4294967296) (h : Sat U (K m) P) : Sat U (U.fI (U.wr .u32 e) K) P := fun e' => by
 have := h e'; subst e' he; rw [CUfI]
 show ∃ v bs, K (wr .u32 e) = some (v, bs) ∧ P v bs
 rw [wr_u32 hr.1 hr.2]; exact this
theorem sfU64 {e m : Int} {K : Int → Om} (he : e = m) (hr : 0 ≤ m ∧ m < 18446744073709551616) (h : Sat U (K m) P) : Sat U (U.fI (U.wr .u64 e) K) P := fun e' => by
 have := h e'; subst e' he; rw [CUfI]
 show ∃ v bs, K (wr .u64 e) = some (v, bs) ∧ P v bs
 rw [wr_u64 hr.1 hr.2]; exact this
end
def lgs (n : Nat) : List (List G) := (lms n).map lg
theorem lgs_inj {a b : Nat} (h : lgs a = lgs b) : a = b := lms_inj (maplg_inj h)
def spXX (ok : Nat → Nat → Prop) (R : Nat → Nat → GRes) : Sp where
 ι := { p : Nat × Nat // (lms p.1).length < 20000 ∧ (lms p.2).length < 20000 ∧ ok p.1 p.2 }
 A p := [.sl 1 (lgs p.1.1), .sl 1 (lgs p.1.2)]
 B _ := []
 R p := R p.1.1 p.1.2
 B' _ := []
 inj i j vs bs h k _ _ := by
  obtain ⟨_, _, h1, k1, h, k⟩ := h.two k
  obtain ⟨_, _, h2, k2, h, k⟩ := h.two k
  rw [lgs_inj (h1.sl_inj k1), lgs_inj (h2.sl_inj k2)]; exact ⟨rfl, rfl⟩
theorem lval_take_succ' (l : List Nat) (i : Nat) : lval (l.take (i + 1)) = lval (l.take i) + B9 ^ i * l.getD i 0 := by
 rcases Nat.lt_or_ge i l.length with h | h
 ·exact lval_take_succ l i h
 ·rw [List.take_of_length_le h, List.take_of_length_le (by omega)]; simp [List.getD, List.getElem?_eq_none h]
theorem take_set (l : List Nat) (i x : Nat) : (l.set i x).take i = l.take i := by
 rw [List.take_set_of_le (Nat.le_refl _)]
theorem lms_mono {x y : Nat} (h : y ≤ x) : (lms y).length ≤ (lms x).length := by
 have h1 := lval_lt (lms x) (lms_LB x)
 rw [lval_lms] at h1
 exact lms_len (by omega)
theorem LB_zeros (n : Nat) : LQ.LB (List.replicate n 0) := fun d h => by rw [List.eq_of_mem_replicate h]; decide
theorem getD_set_self {l : List Nat} {i x : Nat} (h : i < l.length) : (l.set i x).getD i 0 = x := by simp [List.getD, List.getElem?_set, h]
theorem minus_step {a b out : List Nat} {i bor bor' x : Nat} (hi : i < out.length) (he : lval (a.take i) + B9 ^ i * bor = lval (out.take i) + lval (b.take i)) (hx : a.getD i 0 + 1000000000 * bor' = x + b.getD i 0 + bor) :
  lval (a.take (i + 1)) + B9 ^ (i + 1) * bor' = lval ((out.set i x).take (i + 1)) + lval (b.take (i + 1)) := by
 rw [lval_take_succ' a, lval_take_succ' b, lval_take_succ' (out.set i x), take_set, getD_set_self hi, Nat.pow_succ, Nat.mul_assoc]
 have h := congrArg (B9 ^ i * ·) hx
 rw [show (1000000000 : Nat) = B9 from rfl] at h
 simp only [Nat.mul_add] at h
 omega
theorem gD {l : List Nat} {i : Nat} (h : i < l.length) : l[i] = l.getD i 0 := by simp only [List.getD, List.getElem?_eq_getElem h, Option.getD_some]
theorem gD0 {l : List Nat} {i : Nat} (h : l.length ≤ i) : l.getD i 0 = 0 := by simp only [List.getD, List.getElem?_eq_none h, Option.getD_none]
theorem minus_end {a b out : List Nat} {bor : Nat} (hol : out.length = a.length) (hyx : b.length ≤ a.length) (hxy : lval b ≤ lval a) (hLo : LQ.LB out) (hb : bor ≤ 1) (he : lval (a.take a.length) + B9 ^ a.length * bor = lval (out.take a.length) + lval (b.take a.length)) : lval out = lval a - lval b := by
 rw [List.take_of_length_le (Nat.le_refl _), List.take_of_length_le (by omega), List.take_of_length_le (by omega)] at he
 have h := lval_lt out hLo
 rw [hol] at h
 rcases Nat.lt_or_ge bor 1 with h1 | h1
 ·have : bor = 0 := by omega
  subst this; omega
 ·have : bor = 1 := by omega
  subst this; omega
theorem minusW {U : CombU} {fn : FF} {vs : List V} {bs : List Bx} (ht : Ans fn 222 (spM fun l => .ret (.sl 1 ((trimL l).map lg)))) {a b : List Nat} (hx : a.length < 20000) (hyx : b.length ≤ a.length) (hxy : lval b ≤ lval a) (hLa : LQ.LB a) (hLb : LQ.LB b) (hv : RVs [.sl 1 (a.map lg), .sl 1 (b.map lg)] vs) (hb : RBs [] bs) :
  Sat U (r205 U fn vs bs) fun v bs' => RRes (.ret (.sl 1 (lgs (lval a - lval b)))) v ∧ RBs [] bs' := by
 unfold r205
 (refine Zx ?_;with_reducible repeat' first|intro _|apply aI)
 refine sZT (n := 1) (r := lg 0) (fun _ => row1 (.i _ _)) rfl (by omega) fun t' ht' => ?_
 (refine Zx ?_;with_reducible repeat' first|intro _|apply aI)
 refine sLp (fun (i : Nat) vs bs => ∃ (t1 : Tre Q) (o1 : Nat) (t2 : Tre Q) (o2 : Nat) (t3 : Tre Q) (out : List Nat) (bor : Nat), vs = [.slice t1 1 o1 a.length .no, .slice t2 1 o2 b.length .no, .bslice 0 a.length, .int .i64 bor, .int .i64 a.length, .int .i64 i] ∧ bs = [.row t3 a.length] ∧ Rws 1 (a.map lg) t1 o1 ∧ Rws 1 (b.map lg) t2 o2 ∧ Rws 1 (out.map lg) t3 0 ∧ out.length = a.length ∧ LQ.LB out ∧ i ≤ a.length ∧ bor ≤ 1 ∧ lval (a.take i) + B9 ^ i * bor = lval (out.take i) + lval (b.take i)) (fun i => a.length - i) 0 ?_ (by simp only [FUEL]; omega) ?_
 ·exact ⟨_, _, _, _, t', List.replicate a.length 0, 0, by simp only [Int.toNat_natCast]; rfl, by simp, by assumption, by assumption, by simpa [List.map_replicate] using ht', by simp, LB_zeros _, by omega, by omega, by simp [lval]⟩
 rintro self i _ _ ⟨t1, o1, t2, o2, t3, out, bor, rfl, rfl, h1, h2, h3, hol, hLo, hi, hbor, he⟩ ih
 (refine Zx ?_;with_reducible repeat' first|intro _|apply aI)
 ·have q1 : a.getD i 0 < 1000000000 := LB_getD hLa i
  have q2 : b.getD i 0 < 1000000000 := LB_getD hLb i
  rw [gD (l := a) (by omega)]
  refine sfWr64 rfl (by omega) ?_
  (refine Zx ?_;with_reducible repeat' first|intro _|apply aI)
  ·rw [gD (l := b) (by omega)]
   refine sfWr64 rfl (by omega) ?_
   (refine Zx ?_;with_reducible repeat' first|intro _|apply aI)
   ·(refine sfU32 (m := ((a.getD i 0 + 1000000000 - bor - b.getD i 0 : Nat) : Int)) (by omega) (by omega) ?_; (refine Zx ?_;with_reducible repeat' first|intro _|apply aI); refine sST0 (r := lg (a.getD i 0 + 1000000000 - bor - b.getD i 0)) h3 (fun _ => row1 (.i _ _)) rfl (by simp; omega) (by omega) fun t9 h9 => ?_; (refine Zx ?_;with_reducible repeat' first|intro _|apply aI); refine ih (i + 1) _ _ ?_ (by omega); exact ⟨t1, o1, t2, o2, t9, out.set i (a.getD i 0 + 1000000000 - bor - b.getD i 0), 1, by simp, by simp, h1, h2, by rw [List.map_set]; simpa using h9, by simp [hol], LB_set hLo _ _ (by show _ < 1000000000; omega), by omega, by omega, minus_step (by omega) he (by omega)⟩)
   ·(refine sfU32 (m := ((a.getD i 0 - bor - b.getD i 0 : Nat) : Int)) (by omega) (by omega) ?_; (refine Zx ?_;with_reducible repeat' first|intro _|apply aI); refine sST0 (r := lg (a.getD i 0 - bor - b.getD i 0)) h3 (fun _ => row1 (.i _ _)) rfl (by simp; omega) (by omega) fun t9 h9 => ?_; (refine Zx ?_;with_reducible repeat' first|intro _|apply aI); refine ih (i + 1) _ _ ?_ (by omega); exact ⟨t1, o1, t2, o2, t9, out.set i (a.getD i 0 - bor - b.getD i 0), 0, by simp, by simp, h1, h2, by rw [List.map_set]; simpa using h9, by simp [hol], LB_set hLo _ _ (by show _ < 1000000000; omega), by omega, by omega, minus_step (by omega) he (by omega)⟩)
  ·have e2 : b.getD i 0 = 0 := gD0 (by omega)
   (refine sfU32 (m := ((a.getD i 0 + 1000000000 - bor : Nat) : Int)) (by omega) (by omega) ?_; (refine Zx ?_;with_reducible repeat' first|intro _|apply aI); refine sST0 (r := lg (a.getD i 0 + 1000000000 - bor)) h3 (fun _ => row1 (.i _ _)) rfl (by simp; omega) (by omega) fun t9 h9 => ?_; (refine Zx ?_;with_reducible repeat' first|intro _|apply aI); refine ih (i + 1) _ _ ?_ (by omega); exact ⟨t1, o1, t2, o2, t9, out.set i (a.getD i 0 + 1000000000 - bor), 1, by simp, by simp, h1, h2, by rw [List.map_set]; simpa using h9, by simp [hol], LB_set hLo _ _ (by show _ < 1000000000; omega), by omega, by omega, minus_step (by omega) he (by omega)⟩)
  ·have e2 : b.getD i 0 = 0 := gD0 (by omega)
   (refine sfU32 (m := ((a.getD i 0 - bor : Nat) : Int)) (by omega) (by omega) ?_; (refine Zx ?_;with_reducible repeat' first|intro _|apply aI); refine sST0 (r := lg (a.getD i 0 - bor)) h3 (fun _ => row1 (.i _ _)) rfl (by simp; omega) (by omega) fun t9 h9 => ?_; (refine Zx ?_;with_reducible repeat' first|intro _|apply aI); refine ih (i + 1) _ _ ?_ (by omega); exact ⟨t1, o1, t2, o2, t9, out.set i (a.getD i 0 - bor), 0, by simp, by simp, h1, h2, by rw [List.map_set]; simpa using h9, by simp [hol], LB_set hLo _ _ (by show _ < 1000000000; omega), by omega, by omega, minus_step (by omega) he (by omega)⟩)
 ·have em : i = a.length := by omega
  subst em
  refine sCall ht ⟨out, by show out.length < 20000; omega⟩ (r := .sl 1 (lgs (lval a - lval b))) (by rw [← minus_end hol hyx hxy hLo hbor he]; show GRes.ret (.sl 1 ((trimL out).map lg)) = _; rw [trimL_lms out hLo]; rfl) (.cons _ _ _ _ (.sl _ _ _ _ _ (by simp [hol]) h3) .nil) .nil fun _ _ _ _ => ?_
  (refine Zx ?_;with_reducible repeat' first|intro _|apply aI)
  exact sRet ⟨.ret _ _ (.sl _ _ _ _ _ (by simp [lgs]) (by assumption)), .nil⟩
theorem kMinusN : Know 205 (spXX (fun x y => y ≤ x) fun x y => .ret (.sl 1 (lgs (x - y)))) := know (fun fn h => r205_ok h) [(222, _)] (.cons kTrimN .nil) fun U fn hfn ⟨(x, y), hx, hy, hxy⟩ vs bs hv hb => by
 have h := minusW (U := U) (hfn 222 _ rfl) (a := lms x) (b := lms y) hx (lms_mono hxy) (by rw [lval_lms, lval_lms]; exact hxy) (lms_LB x) (lms_LB y) hv hb
 rw [lval_lms, lval_lms] at h; exact h
end
end Go.Proofs.YtffaodopiifbkaaGreatDoor
