/- Packages and the reading of objects from tokens: what they compute. No program in sight. -/
import Derived.Test.YtffaodopiifbkaaGreatDoorCR5e
import Derived.Test.YtffaodopiifbkaaGreatDoorCP
import Derived.Test.YtffaodopiifbkaaGreatDoorCN
set_option linter.all false
namespace Go.Proofs.YtffaodopiifbkaaGreatDoor
open Go.Abs LQ
abbrev Pk := Str × List Sy
def pg (p : Pk) : List G := [.s p.1, .l (p.2.map sg)]
theorem pg_len (p : Pk) : (pg p).length = 2 := rfl
def findP : List Pk → Str → Option Pk
 | [], _ => none
 | p :: l, n => if p.1 = n then some p else findP l n
def impS : List Sy → Str → Option Sy
 | [], _ => none
 | s :: l, n => if s.2 = n then some s else impS l n
def internS (L : List Pk) (cur nm : Str) : Sy × Int :=
 match findP L cur with
 | none => (([], []), 13)
 | some p => if nm.length < 1 ∨ 40 < nm.length then (([], []), 3) else
  match impS p.2 nm with
  | some s => (s, 0)
  | none => ((cur, nm), 0)
def visS (L : List Pk) (cur : Str) (s : Sy) : Bool := decide ((internS L cur s.2).2 = 0 ∧ (internS L cur s.2).1 = s)
def homeS (L : List Pk) (s : Sy) : Bool := visS L s.1 s
def t0 : Tok := ⟨0, 0, [], [], []⟩
def quoteO : O := .sy (lispS, [113, 117, 111, 116, 101])
def listE : List O → O → O
 | [], e => e
 | x :: l, e => .co x (listE l e)
def tokN (t : Tok) : O := .num (decVal t.text) (decVal t.den).natAbs
mutual
/-- The object at a token, inside depth others, and the place behind it; or the error and its offset. -/
def objS (L : List Pk) (cur : Str) (T : List Tok) : Nat → Nat → Nat → Except (Int × Nat) (O × Nat)
 | 0, _, _ => .error (0, 0)
 | n + 1, d, i =>
  let t := T.getD i t0
  if t.kind = 0 then .error (11, t.pos)
  else if t.kind = 2 ∨ t.kind = 3 then .error (12, t.pos)
  else if t.kind = 5 then .ok (tokN t, i + 1)
  else if t.kind = 7 then .ok (.tx t.text, i + 1)
  else if t.kind = 6 then
   let r := internS L (if t.pkg = [] then cur else t.pkg) t.text
   if r.2 = 0 then .ok (.sy r.1, i + 1) else .error (r.2, t.pos)
  else if 200 < d then .error (2, t.pos)
  else if t.kind = 4 then
   match objS L cur T n (d + 1) (i + 1) with
   | .error e => .error e
   | .ok (x, j) => .ok (listO [quoteO, x], j)
  else listS L cur T n (d + 1) (i + 1) []
/-- The rest of a list. -/
def listS (L : List Pk) (cur : Str) (T : List Tok) : Nat → Nat → Nat → List O → Except (Int × Nat) (O × Nat)
 | 0, _, _, _ => .error (0, 0)
 | n + 1, d, i, acc =>
  let t := T.getD i t0
  if t.kind = 2 then .ok (listE acc nilO, i + 1)
  else if t.kind = 3 ∧ acc ≠ [] then
   match objS L cur T n d (i + 1) with
   | .error e => .error e
   | .ok (x, j) =>
    let u := T.getD j t0
    if u.kind = 2 then .ok (listE acc x, j + 1)
    else if u.kind = 0 then .error (11, u.pos)
    else .error (12, u.pos)
  else
   match objS L cur T n d i with
   | .error e => .error e
   | .ok (x, j) => listS L cur T n d j (acc ++ [x])
end
def readFrom (L : List Pk) (cur : Str) (T : List Tok) : Nat → Nat → List (O × Nat) → Except (Int × Nat) (List (O × Nat))
 | 0, _, _ => .error (0, 0)
 | m + 1, i, acc =>
  let t := T.getD i t0
  if t.kind = 0 then .ok acc
  else if 100 ≤ acc.length ∧ t.kind ≠ 2 ∧ t.kind ≠ 3 then .error (2, t.pos)
  else
   match objS L cur T (2 * T.length + 2) 0 i with
   | .error e => .error e
   | .ok (x, j) => if 3000 < x.size then .error (2, t.pos) else readFrom L cur T m j (acc ++ [(x, t.pos)])
def readP (L : List Pk) (cur s : Str) : Except (Int × Nat) (List (O × Nat)) :=
 match tokens s with
 | .error e => .error e
 | .ok T => readFrom L cur T (T.length + 1) 0 []
end Go.Proofs.YtffaodopiifbkaaGreatDoor
namespace Go.Proofs.YtffaodopiifbkaaGreatDoor
open Go.Abs LQ
noncomputable section
open Classical
structure NT where
 kind : Int
 pkg : Str
 text : Str
 den : Str
def nt (t : Tok) : NT := ⟨t.kind, t.pkg, t.text, t.den⟩
def Lex (w : Str) (N : List NT) : Prop := ∀ s i r, At s i w r → Del r → ∃ T : List Tok, T.map nt = N ∧ ∀ acc, toksFrom s i acc = toksFrom s (i + w.length) (acc ++ T)
end
end Go.Proofs.YtffaodopiifbkaaGreatDoor
namespace Go.Proofs.YtffaodopiifbkaaGreatDoor
open Go.Abs LQ
noncomputable section
open Classical
end
end Go.Proofs.YtffaodopiifbkaaGreatDoor
namespace Go.Proofs.YtffaodopiifbkaaGreatDoor
open Go.Abs LQ
noncomputable section
end
end Go.Proofs.YtffaodopiifbkaaGreatDoor
namespace Go.Proofs.YtffaodopiifbkaaGreatDoor
open Go.Abs LQ
noncomputable section
open Classical
inductive LexL : List Str → List NT → Prop
 | nil : LexL [] []
 | cons {l : Str} {N : List NT} {ls : List Str} {M : List NT} : Lex l N → LexL ls M → LexL (l :: ls) (N ++ M)
end
end Go.Proofs.YtffaodopiifbkaaGreatDoor
namespace Go.Proofs.YtffaodopiifbkaaGreatDoor
open Go.Abs LQ
noncomputable section
open Classical
def cT (t : Tok) : Nat := 2 * t.text.length + t.pkg.length + t.den.length + 20
def OkT (t : Tok) : Prop := (t.kind = 5 → ∃ (n : Int) (d : Nat), t.text = showInt n ∧ t.den = showNat d ∧ 0 < d ∧ Nat.gcd n.natAbs d = 1 ∧ (showNat n.natAbs).length ≤ 100 ∧ (showNat d).length ≤ 100) ∧ (t.kind = 7 → t.text.length ≤ 200) ∧ (t.kind = 6 → t.pkg = [] ∨ validPkg t.pkg = true)
theorem okT_plain {k : Int} {p : Nat} (h5 : k ≠ 5) (h7 : k ≠ 7) : OkT ⟨k, p, noStr, noStr, noStr⟩ := ⟨fun h => absurd h h5, fun h => absurd h h7, fun _ => .inl rfl⟩
theorem okT_sy {p a b : Str} {i : Nat} (h : p = [] ∨ validPkg p = true) : OkT ⟨6, i, p, a, b⟩ := ⟨fun h => absurd h (show ¬ (6 : Int) = 5 by decide), fun h => absurd h (show ¬ (6 : Int) = 7 by decide), fun _ => h⟩
theorem okT_tx {p a b : Str} {i : Nat} (h : a.length ≤ 200) : OkT ⟨7, i, p, a, b⟩ := ⟨fun h => absurd h (show ¬ (7 : Int) = 5 by decide), fun _ => h, fun h => absurd h (show ¬ (7 : Int) = 6 by decide)⟩
theorem okT_num {p : Str} {i : Nat} {n : Int} {d : Nat} (h : 0 < d ∧ Nat.gcd n.natAbs d = 1 ∧ (showNat n.natAbs).length ≤ 100 ∧ (showNat d).length ≤ 100) : OkT ⟨5, i, p, showInt n, showNat d⟩ := ⟨fun _ => ⟨n, d, rfl, rfl, h⟩, fun h => absurd h (show ¬ (5 : Int) = 7 by decide), fun h => absurd h (show ¬ (5 : Int) = 6 by decide)⟩
theorem sh1 : showNat 1 = oneStr := by unfold showNat; rw [if_neg (by decide), digs_pos (by decide), show 1 / 10 = 0 from rfl, digs_zero]; rfl
theorem sh0 : showInt 0 = zeroStr := by unfold showInt showNat; rfl
theorem dgs_len (s : Str) (e : Nat) : ∀ (k : Nat) (acc : List Nat), (dgsFrom s e k acc).length = acc.length + (k - e)
 | 0, acc => by simp [dgsFrom]
 | k + 1, acc => by
  rw [dgsFrom]
  split
  ·rw [dgs_len s e k]; simp; omega
  ·omega
theorem dec_len (s : Str) : (digs (decVal s).natAbs).length ≤ s.length := by
 have h := congrArg Prod.snd (digS_eq s)
 simp only [] at h
 rw [← h]
 unfold digS
 split
 ·simp only [dgs_len, List.length_nil]; omega
 ·simp
theorem digs_mono {m n : Nat} (h : m ≤ n) : (digs m).length ≤ (digs n).length := by
 by_cases h0 : m = 0
 ·subst h0; rw [digs_zero]; simp
 ·have h1 := digs_ge m h0
  have h2 := val_lt (digs n) (digs_le n)
  rw [val_digs] at h2
  have h3 : 10 ^ ((digs m).length - 1) < 10 ^ (digs n).length := by omega
  have := (Nat.pow_lt_pow_iff_right (by decide : 1 < 10)).1 h3
  omega
theorem showNat_le (m : Nat) : (showNat m).length ≤ max 1 (digs m).length := by
 by_cases h : m = 0
 ·subst h; show 1 ≤ _; omega
 ·rw [showNat_size m h]; omega
theorem plain_len (s : Str) : (plain s).length ≤ max 1 s.length := by
 unfold plain
 have h1 := signLen_le s
 have h2 := zeroEnd_le s (signLen s) h1.1
 simp only []
 split
 ·show 1 ≤ _; omega
 ·split
  ·simp only [List.length_append, List.length_drop, List.length_take, List.length_cons, List.length_nil]; omega
  ·simp only [List.length_drop, List.length_take]; omega
theorem numeral_len (w : Str) : (numeral w).1.length ≤ w.length ∧ (numeral w).2.1.length ≤ max 1 w.length := by
 unfold numeral
 simp only []
 repeat' split
 all_goals (simp only [noStr, oneStr, List.length_nil, List.length_cons, List.length_drop, List.length_take]; omega)
theorem reduce_facts (a b : Str) : ∃ (n : Int) (d : Nat), reduceS a b = (showInt n, showNat d) ∧ 0 < d ∧ Nat.gcd n.natAbs d = 1 ∧ (showNat n.natAbs).length ≤ max 1 a.length ∧ (showNat d).length ≤ max 1 b.length := by
 unfold reduceS
 by_cases h0 : decVal b = 0
 ·rw [if_pos h0]
  exact ⟨0, 1, by rw [sh0, sh1], by decide, by decide, by show 1 ≤ _; omega, by rw [sh1]; show 1 ≤ _; omega⟩
 ·rw [if_neg h0]
  simp only []
  have hd : 0 < (decVal b).natAbs := by omega
  have hg : 0 < Nat.gcd (decVal a).natAbs (decVal b).natAbs := Nat.gcd_pos_of_pos_right _ hd
  refine ⟨_, _, rfl, Nat.div_pos (Nat.le_of_dvd hd (Nat.gcd_dvd_right _ _)) hg, ?_, ?_, ?_⟩
  ·have e : ∀ x : Nat, (((if (decVal a < 0) = (decVal b < 0) then (1 : Int) else -1) * ((x : Nat) : Int))).natAbs = x := by
    intro x; split <;> omega
   rw [e]
   rw [Nat.gcd_div (Nat.gcd_dvd_left _ _) (Nat.gcd_dvd_right _ _), Nat.div_self hg]
  ·have e : ∀ x : Nat, (((if (decVal a < 0) = (decVal b < 0) then (1 : Int) else -1) * ((x : Nat) : Int))).natAbs = x := by
    intro x; split <;> omega
   rw [e]
   have h1 := showNat_le ((decVal a).natAbs / Nat.gcd (decVal a).natAbs (decVal b).natAbs)
   have h2 := digs_mono (Nat.div_le_self (decVal a).natAbs (Nat.gcd (decVal a).natAbs (decVal b).natAbs))
   have h3 := dec_len a
   omega
  ·have h1 := showNat_le ((decVal b).natAbs / Nat.gcd (decVal a).natAbs (decVal b).natAbs)
   have h2 := digs_mono (Nat.div_le_self (decVal b).natAbs (Nat.gcd (decVal a).natAbs (decVal b).natAbs))
   have h3 := dec_len b
   omega
theorem encl_len {s : Str} {c : Int} {i : Nat} {acc l : List Int} {j : Nat} (h : encl s c i acc = .ok (l, j)) : l.length + i + 1 ≤ acc.length + j := by
 fun_induction encl s c i acc with
 | case1 i acc h1 h2 => injection h with h; injection h with h3 h4; subst h3; omega
 | case2 i acc h1 h2 h3 ih => have := ih h; simp at this; omega
 | case3 => cases h
 | case4 i acc h1 h2 h3 h4 h5 ih => have := ih h; simp at this; omega
 | case5 => cases h
 | case6 => cases h
theorem nums_len (l : List Int) : (nums l).length = l.length := by simp [nums]
theorem namedErr_zero {t p : Str} {b : Bool} (h : namedErr t p b = 0) : p = [] ∨ validPkg p = true := by
 unfold namedErr at h
 split at h
 ·cases h
 ·split at h
  ·cases h
  ·rename_i hc
   by_cases hp : p = []
   ·exact .inl hp
   ·right
    cases hv : validPkg p with
    | true => rfl
    | false => exact absurd (.inr ⟨fun e => hp (List.length_eq_zero_iff.1 e), hv⟩) hc
theorem wordTok_facts {i k : Nat} {w : Str} {t : Tok} {k' : Nat} (h : wordTok i w k = .ok (t, k')) (h0 : 0 < w.length) : OkT t ∧ cT t ≤ 26 * w.length ∧ k' = k := by
 unfold wordTok at h
 have hn := numeral_len w
 split at h
 ·injection h with h; injection h with h1 h2; subst h1 h2
  exact ⟨okT_plain (by decide) (by decide), by simp [cT, noStr]; omega, rfl⟩
 ·split at h
  ·split at h
   ·cases h
   ·simp only [] at h
    split at h
    ·cases h
    ·rename_i hdg
     injection h with h; injection h with h1 h2; subst h1 h2
     have p1 := plain_len (numeral w).1
     have p2 := plain_len (numeral w).2.1
     obtain ⟨n, d, e, hd, hg, l1, l2⟩ := reduce_facts (plain (numeral w).1) (plain (numeral w).2.1)
     rw [e] at hdg ⊢
     rw [digitsS_int, digitsS_nat] at hdg
     refine ⟨okT_num ⟨hd, hg, by omega, by omega⟩, ?_, rfl⟩
     have l3 : (showInt n).length ≤ 1 + (showNat n.natAbs).length := by
      rw [showInt_eq, List.length_append]
      have : (LQ.sgn n).length ≤ 1 := by unfold LQ.sgn; split <;> simp
      omega
     simp only [cT, noStr, List.length_nil]
     omega
  ·split at h
   ·rename_i he
    injection h with h; injection h with h1 h2; subst h1 h2
    exact ⟨okT_sy (.inl rfl), by simp [cT, noStr]; omega, rfl⟩
   ·cases h
theorem qualTok_facts {s p : Str} {i k k' : Nat} {t : Tok} (h : qualTok s i p k = .ok (t, k')) (hp : p.length + i ≤ k) : OkT t ∧ cT t ≤ 26 * (k' - i) := by
 unfold qualTok at h
 split at h
 ·rename_i hl
  split at h
  ·split at h
   ·cases h
   ·rename_i l j he
    split at h
    ·rename_i hz
     injection h with h; injection h with h1 h2; subst h1 h2
     have := encl_len he
     simp only [List.length_nil] at this
     refine ⟨okT_sy (namedErr_zero hz), ?_⟩
     simp only [cT, noStr, List.length_nil, nums_len]
     omega
    ·cases h
  ·split at h
   ·rename_i hc
    simp only [] at h
    split at h
    ·rename_i hz
     injection h with h; injection h with h1 h2; subst h1 h2
     have hw := wordEnd_le s (k + 2) (by omega)
     refine ⟨okT_sy (namedErr_zero hz), ?_⟩
     simp only [cT, noStr, List.length_nil, List.length_drop, List.length_take]
     omega
    ·cases h
   ·cases h
 ·cases h
theorem tokOne_facts {s : Str} {i k : Nat} {t : Tok} (hi : i < s.length) (h : tokOne s i = .ok (t, k)) : OkT t ∧ cT t ≤ 26 * (k - i) := by
 unfold tokOne at h
 split at h
 ·injection h with h; injection h with h1 h2; subst h1 h2; exact ⟨okT_plain (by decide) (by decide), by simp [cT, noStr]⟩
 split at h
 ·injection h with h; injection h with h1 h2; subst h1 h2; exact ⟨okT_plain (by decide) (by decide), by simp [cT, noStr]⟩
 split at h
 ·injection h with h; injection h with h1 h2; subst h1 h2; exact ⟨okT_plain (by decide) (by decide), by simp [cT, noStr]⟩
 split at h
 ·split at h
  ·cases h
  ·rename_i l j he
   split at h
   ·cases h
   ·injection h with h; injection h with h1 h2; subst h1 h2
    have := encl_len he
    simp only [List.length_nil] at this
    exact ⟨okT_tx (by simp only [nums_len]; omega), by simp only [cT, noStr, List.length_nil, nums_len]; omega⟩
 split at h
 ·split at h
  ·cases h
  ·rename_i l j he
   split at h
   ·injection h with h; injection h with h1 h2; subst h1 h2
    have := encl_len he
    simp only [List.length_nil] at this
    exact ⟨okT_sy (.inl rfl), by simp only [cT, noStr, List.length_nil, nums_len]; omega⟩
   ·cases h
 split at h
 ·rename_i hc
  have hw := wordEnd_le s i (by omega)
  have hw2 : i < wordEnd s i := by rw [wordEnd, if_pos hi, if_pos hc]; have := wordEnd_le s (i + 1) (by omega); omega
  have hl : ((s.take (wordEnd s i)).drop i).length = wordEnd s i - i := by simp; omega
  split at h
  ·exact qualTok_facts h (by rw [hl]; omega)
  ·obtain ⟨h1, h2, h3⟩ := wordTok_facts h (by rw [hl]; omega)
   subst h3
   rw [hl] at h2
   exact ⟨h1, h2⟩
 ·cases h
theorem toks_facts {s : Str} : ∀ (m : Nat) {i : Nat} {acc T : List Tok}, s.length - i ≤ m → i ≤ s.length → toksFrom s i acc = .ok T → ∃ T', T = acc ++ T' ∧ (∀ t ∈ T', OkT t) ∧ (T'.map cT).sum ≤ 26 * (s.length - i) + 20 ∧ T'.length ≤ s.length - i + 1
 | m, i, acc, T, hm, hi, h => by
  rw [toks_eq hi] at h
  split at h
  ·cases h
  ·rename_i j hs
   have hj := skip_ge hi hs
   split at h
   ·rename_i hlt
    split at h
    ·cases h
    ·rename_i t k ht
     have h1 := tokOne_gt hlt ht
     have h2 := tokOne_facts hlt ht
     cases m with
     | zero => omega
     | succ m =>
      obtain ⟨T', e1, e2, e3, e4⟩ := toks_facts m (by omega) h1.2 h
      refine ⟨t :: T', by rw [e1]; simp, ?_, ?_, ?_⟩
      ·intro x hx
       rcases List.mem_cons.1 hx with rfl | hx
       ·exact h2.1
       ·exact e2 x hx
      ·simp only [List.map_cons, List.sum_cons]; omega
      ·simp only [List.length_cons]; omega
   ·injection h with h
    refine ⟨[⟨0, s.length, noStr, noStr, noStr⟩], h.symm, ?_, by simp [cT, noStr], by simp⟩
    intro t ht
    rw [List.mem_singleton.1 ht]; exact okT_plain (by decide) (by decide)
structure PkOk (L : List Pk) (cur : Str) : Prop where
 home : ∀ c n s, (c = cur ∨ validPkg c = true) → internS L c n = (s, 0) → homeS L s = true ∧ named s = true ∧ s.1.length ≤ c.length + 4
 cur4 : cur.length ≤ 4
 nilH : homeS L (lispS, [110, 105, 108]) = true
 quoteH : homeS L (lispS, [113, 117, 111, 116, 101]) = true
section
variable {L : List Pk} {cur : Str} {T : List Tok}
end
end
end Go.Proofs.YtffaodopiifbkaaGreatDoor
namespace Go.Proofs.YtffaodopiifbkaaGreatDoor
open Go.Abs LQ
noncomputable section
open Classical
structure OkTs (T : List Tok) : Prop where
 len : T.length < 8000
 ok : ∀ t ∈ T, OkT t
 last : ∀ i, i + 1 = T.length → (T.getD i t0).kind = 0
 pos : 0 < T.length
 kinds : ∀ t ∈ T, 0 ≤ t.kind ∧ t.kind ≤ 7
theorem tokOne_kinds {s : Str} {i k : Nat} {t : Tok} (h : tokOne s i = .ok (t, k)) : 1 ≤ t.kind ∧ t.kind ≤ 7 := by
 have fin : ∀ {x : Tok} {y : Nat}, 1 ≤ x.kind ∧ x.kind ≤ 7 → (Except.ok (x, y) : Except (Int × Nat) (Tok × Nat)) = .ok (t, k) → 1 ≤ t.kind ∧ t.kind ≤ 7 := by
  intro x y hx h; injection h with h; injection h with h1 h2; rw [← h1]; exact hx
 unfold tokOne at h
 repeat' split at h
 all_goals try (cases h; done)
 all_goals try exact fin (show (1 : Int) ≤ 6 ∧ (6 : Int) ≤ 7 by decide) h
 all_goals try exact fin (show (1 : Int) ≤ 7 ∧ (7 : Int) ≤ 7 by decide) h
 all_goals try exact fin (show (1 : Int) ≤ 1 ∧ (1 : Int) ≤ 7 by decide) h
 all_goals try exact fin (show (1 : Int) ≤ 2 ∧ (2 : Int) ≤ 7 by decide) h
 all_goals try exact fin (show (1 : Int) ≤ 4 ∧ (4 : Int) ≤ 7 by decide) h
 ·unfold qualTok at h
  simp only [] at h
  repeat' split at h
  all_goals try (cases h; done)
  all_goals exact fin (show (1 : Int) ≤ 6 ∧ (6 : Int) ≤ 7 by decide) h
 ·unfold wordTok at h
  simp only [] at h
  repeat' split at h
  all_goals try (cases h; done)
  all_goals first | exact fin (show (1 : Int) ≤ 3 ∧ (3 : Int) ≤ 7 by decide) h | exact fin (show (1 : Int) ≤ 5 ∧ (5 : Int) ≤ 7 by decide) h | exact fin (show (1 : Int) ≤ 6 ∧ (6 : Int) ≤ 7 by decide) h
section
variable {L : List Pk} {cur : Str} {T : List Tok}
theorem getD_lt {i : Nat} (h : (T.getD i t0).kind ≠ 0) : i < T.length := by
 by_cases hi : i < T.length
 ·exact hi
 ·exfalso; apply h
  have : T.getD i t0 = t0 := by simp [List.getD, List.getElem?_eq_none (by omega : T.length ≤ i)]
  rw [this]; rfl
theorem obj_lt : ∀ n : Nat, (∀ d i o j, objS L cur T n d i = .ok (o, j) → i < j ∧ (T.getD (j - 1) t0).kind ≠ 0) ∧ (∀ d i acc o j, listS L cur T n d i acc = .ok (o, j) → i < j ∧ (T.getD (j - 1) t0).kind ≠ 0) := by
 intro n
 induction n with
 | zero => exact ⟨fun d i o j h => (by rw [objS] at h; cases h), fun d i acc o j h => (by rw [listS] at h; cases h)⟩
 | succ n ih =>
  obtain ⟨ih1, ih2⟩ := ih
  constructor
  ·intro d i o j h
   rw [objS] at h
   simp only [] at h
   split at h
   ·cases h
   rename_i k0
   split at h
   ·cases h
   split at h
   ·injection h with h; injection h with h1 h2; subst h2; exact ⟨by omega, k0⟩
   split at h
   ·injection h with h; injection h with h1 h2; subst h2; exact ⟨by omega, k0⟩
   split at h
   ·generalize (if (T.getD i t0).pkg = [] then cur else (T.getD i t0).pkg) = c at h
    split at h
    ·injection h with h; injection h with h1 h2; subst h2; exact ⟨by omega, k0⟩
    ·cases h
   split at h
   ·cases h
   split at h
   ·split at h
    ·cases h
    ·rename_i x j' hx
     injection h with h; injection h with h1 h2; subst h2
     have := ih1 _ _ _ _ hx
     exact ⟨by omega, this.2⟩
   ·have := ih2 _ _ _ _ _ h
    exact ⟨by omega, this.2⟩
  ·intro d i acc o j h
   rw [listS] at h
   simp only [] at h
   split at h
   ·rename_i k2
    injection h with h; injection h with h1 h2; subst h2
    exact ⟨by omega, by show (T.getD i t0).kind ≠ 0; rw [k2]; decide⟩
   split at h
   ·split at h
    ·cases h
    ·rename_i x j' hx
     split at h
     ·rename_i k2
      injection h with h; injection h with h1 h2; subst h2
      have := ih1 _ _ _ _ hx
      exact ⟨by omega, by show (T.getD j' t0).kind ≠ 0; rw [k2]; decide⟩
     ·split at h <;> cases h
   ·split at h
    ·cases h
    ·rename_i x j' hx
     have h1 := ih1 _ _ _ _ hx
     have := ih2 _ _ _ _ _ h
     exact ⟨by omega, this.2⟩
theorem fuel_more : ∀ n : Nat, (∀ m d i, n ≤ m → i ≤ T.length → 2 * T.length + 2 ≤ n + 2 * i → objS L cur T m d i = objS L cur T n d i) ∧ (∀ m d i acc, n ≤ m → i ≤ T.length → 2 * T.length + 3 ≤ n + 2 * i → listS L cur T m d i acc = listS L cur T n d i acc) := by
 have end0 : ∀ {n d i}, T.length ≤ i → objS L cur T (n + 1) d i = .error (11, 0) := by
  intro n d i h
  have e : T.getD i t0 = t0 := by simp [List.getD, List.getElem?_eq_none h]
  rw [objS]; simp only []; rw [e, if_pos (show t0.kind = 0 from rfl)]; rfl
 intro n
 induction n with
 | zero => exact ⟨fun m d i _ h1 h2 => by omega, fun m d i acc _ h1 h2 => by omega⟩
 | succ n ih =>
  obtain ⟨ih1, ih2⟩ := ih
  constructor
  ·intro m d i hm hl hf
   obtain ⟨m, rfl⟩ : ∃ k, m = k + 1 := ⟨m - 1, by omega⟩
   by_cases hi : i < T.length
   ·rw [objS, objS]
    simp only []
    rw [ih1 m (d + 1) (i + 1) (by omega) (by omega) (by omega), ih2 m (d + 1) (i + 1) [] (by omega) (by omega) (by omega)]
   ·rw [end0 (by omega), end0 (by omega)]
  ·intro m d i acc hm hl hf
   obtain ⟨m, rfl⟩ : ∃ k, m = k + 1 := ⟨m - 1, by omega⟩
   rw [listS, listS]
   simp only []
   by_cases hi : i < T.length
   ·rw [ih1 m d (i + 1) (by omega) (by omega) (by omega), ih1 m d i (by omega) (by omega) (by omega)]
    cases ho : objS L cur T n d i with
    | error e => rfl
    | ok p =>
     obtain ⟨x, j⟩ := p
     have hj := (obj_lt n).1 _ _ _ _ ho
     have hj2 := getD_lt hj.2
     simp only []
     rw [ih2 m d j _ (by omega) (by omega) (by omega)]
   ·have e : T.getD i t0 = t0 := by simp [List.getD, List.getElem?_eq_none (by omega : T.length ≤ i)]
    rw [e]
    obtain ⟨n, rfl⟩ : ∃ k, n = k + 1 := ⟨n - 1, by omega⟩
    obtain ⟨m, rfl⟩ : ∃ k, m = k + 1 := ⟨m - 1, by omega⟩
    have e2 : ¬ (t0.kind = 3 ∧ acc ≠ []) := fun h => absurd h.1 (by decide)
    rw [if_neg e2, if_neg e2, end0 (n := m) (by omega), end0 (n := n) (by omega)]
def objF (L : List Pk) (cur : Str) (T : List Tok) (d i : Nat) : Except (Int × Nat) (O × Nat) := objS L cur T (2 * T.length + 2) d i
def listF (L : List Pk) (cur : Str) (T : List Tok) (d i : Nat) (acc : List O) : Except (Int × Nat) (O × Nat) := listS L cur T (2 * T.length + 3) d i acc
theorem objF_eq {d i : Nat} (hi : i < T.length) : objF L cur T d i =
  if (T.getD i t0).kind = 0 then .error (11, (T.getD i t0).pos)
  else if (T.getD i t0).kind = 2 ∨ (T.getD i t0).kind = 3 then .error (12, (T.getD i t0).pos)
  else if (T.getD i t0).kind = 5 then .ok (tokN (T.getD i t0), i + 1)
  else if (T.getD i t0).kind = 7 then .ok (.tx (T.getD i t0).text, i + 1)
  else if (T.getD i t0).kind = 6 then
   (if (internS L (if (T.getD i t0).pkg = [] then cur else (T.getD i t0).pkg) (T.getD i t0).text).2 = 0 then .ok (.sy (internS L (if (T.getD i t0).pkg = [] then cur else (T.getD i t0).pkg) (T.getD i t0).text).1, i + 1) else .error ((internS L (if (T.getD i t0).pkg = [] then cur else (T.getD i t0).pkg) (T.getD i t0).text).2, (T.getD i t0).pos))
  else if 200 < d then .error (2, (T.getD i t0).pos)
  else if (T.getD i t0).kind = 4 then
   match objF L cur T (d + 1) (i + 1) with
   | .error e => .error e
   | .ok (x, j) => .ok (listO [quoteO, x], j)
  else listF L cur T (d + 1) (i + 1) [] := by
 have h1 : objF L cur T (d + 1) (i + 1) = objS L cur T (2 * T.length + 1) (d + 1) (i + 1) := (fuel_more _).1 _ _ _ (by omega) (by omega) (by omega)
 have h2 : listF L cur T (d + 1) (i + 1) [] = listS L cur T (2 * T.length + 1) (d + 1) (i + 1) [] := (fuel_more _).2 _ _ _ _ (by omega) (by omega) (by omega)
 rw [h1, h2]
 exact objS.eq_2 L cur T d i _
theorem listF_eq {d i : Nat} {acc : List O} (hi : i < T.length) : listF L cur T d i acc =
  if (T.getD i t0).kind = 2 then .ok (listE acc nilO, i + 1)
  else if (T.getD i t0).kind = 3 ∧ acc ≠ [] then
   match objF L cur T d (i + 1) with
   | .error e => .error e
   | .ok (x, j) =>
    if (T.getD j t0).kind = 2 then .ok (listE acc x, j + 1)
    else if (T.getD j t0).kind = 0 then .error (11, (T.getD j t0).pos)
    else .error (12, (T.getD j t0).pos)
  else
   match objF L cur T d i with
   | .error e => .error e
   | .ok (x, j) => listF L cur T d j (acc ++ [x]) := by
 have h1 : objS L cur T (2 * T.length + 2) d (i + 1) = objF L cur T d (i + 1) := rfl
 have h3 : objS L cur T (2 * T.length + 2) d i = objF L cur T d i := rfl
 unfold listF
 rw [listS]
 simp only []
 rw [h1, h3]
 cases ho : objF L cur T d i with
 | error e => rfl
 | ok p =>
  obtain ⟨x, j⟩ := p
  have hj := (obj_lt _).1 _ _ _ _ ho
  have hj2 := getD_lt hj.2
  simp only []
  rw [(fuel_more (2 * T.length + 2)).2 (2 * T.length + 3) d j _ (by omega) (by omega) (by omega)]
  first | done | rfl
theorem objF_lt (hT : OkTs T) {d i j : Nat} {o : O} (h : objF L cur T d i = .ok (o, j)) : i < j ∧ j < T.length := by
 have h1 := (obj_lt _).1 _ _ _ _ h
 have h2 := getD_lt h1.2
 refine ⟨h1.1, ?_⟩
 rcases Nat.lt_or_ge j T.length with h3 | h3
 ·exact h3
 ·exact absurd (hT.last (j - 1) (by omega)) h1.2
end
theorem toks_okTs {s : Str} {T : List Tok} (h : tokens s = .ok T) : OkTs T := by
 unfold tokens at h
 split at h
 ·cases h
 ·have key : ∀ (m : Nat) {i : Nat} {acc T : List Tok}, s.length - i ≤ m → i ≤ s.length → toksFrom s i acc = .ok T → ∃ T', T = acc ++ T' ++ [⟨0, s.length, noStr, noStr, noStr⟩] ∧ ∀ t ∈ T', 0 ≤ t.kind ∧ t.kind ≤ 7 := by
   intro m
   induction m with
   | zero =>
    intro i acc T hm hi h
    rw [toks_eq hi] at h
    split at h
    ·cases h
    ·rename_i j hs
     have hj := skip_ge hi hs
     rw [if_neg (by omega)] at h
     injection h with h
     exact ⟨[], by rw [← h]; simp, by simp⟩
   | succ m ih =>
    intro i acc T hm hi h
    rw [toks_eq hi] at h
    split at h
    ·cases h
    ·rename_i j hs
     have hj := skip_ge hi hs
     split at h
     ·rename_i hlt
      split at h
      ·cases h
      ·rename_i t k ht
       have h1 := tokOne_gt hlt ht
       have h2 := tokOne_kinds ht
       obtain ⟨T', e, hk⟩ := ih (by omega) h1.2 h
       refine ⟨t :: T', by rw [e]; simp, fun x hx => ?_⟩
       rcases List.mem_cons.1 hx with rfl | hx
       ·omega
       ·exact hk x hx
     ·injection h with h
      exact ⟨[], by rw [← h]; simp, by simp⟩
  obtain ⟨T1, e1, e2, e3, e4⟩ := toks_facts _ (Nat.le_refl _) (Nat.zero_le _) h
  obtain ⟨T', e, hk⟩ := key _ (Nat.le_refl _) (Nat.zero_le _) h
  rw [List.nil_append] at e1 e
  subst e1
  refine ⟨by omega, e2, fun i hi => ?_, by rw [e]; simp, fun x hx => ?_⟩
  ·rw [e] at hi ⊢
   have : i = T'.length := by simp at hi; omega
   subst this
   simp [List.getD]
  ·rw [e] at hx
   rcases List.mem_append.1 hx with hx | hx
   ·exact hk x hx
   ·rw [List.mem_singleton.1 hx]; show (0 : Int) ≤ 0 ∧ (0 : Int) ≤ 7; decide
end
end Go.Proofs.YtffaodopiifbkaaGreatDoor
