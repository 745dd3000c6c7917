/- Plain functions on texts: tokens. No program in sight. -/
import Derived.Test.YtccafnaghnbpeaaGreatDoorCG
set_option linter.all false
namespace LQ
abbrev Str := List UInt8
def bt (s : Str) (k : Nat) : Int := ((s.getD k 0).toNat : Int)
def isBlank (c : Int) : Bool := decide (c = 32 ∨ c = 9 ∨ c = 10 ∨ c = 13)
def has (s : Str) (i : Nat) (a b : Int) : Bool := decide (i + 1 < s.length ∧ bt s i = a ∧ bt s (i + 1) = b)

def lineEnd (s : Str) (i : Nat) : Nat :=
 if i < s.length then if bt s i = 10 then i else lineEnd s (i + 1) else i
termination_by s.length - i
def comEnd (s : Str) (i depth : Nat) : Option Nat :=
 if depth = 0 then some i
 else if i < s.length then
  if has s i 35 124 then comEnd s (i + 2) (depth + 1)
  else if has s i 124 35 then comEnd s (i + 2) (depth - 1)
  else comEnd s (i + 1) depth
 else none
termination_by s.length - i
def skip (s : Str) (i : Nat) : Option Nat :=
 if i < s.length then
  if isBlank (bt s i) then skip s (i + 1)
  else if bt s i = 59 then (if i < lineEnd s i then skip s (lineEnd s i) else some i)
  else if has s i 35 124 then
   match comEnd s (i + 2) 1 with
   | none => none
   | some j => if i < j then skip s j else some i
  else some i
 else some i
termination_by s.length - i
def isDig (c : Int) : Bool := decide (48 ≤ c ∧ c ≤ 57)
def digEnd (s : Str) (k : Nat) : Nat :=
 if k < s.length then if isDig (bt s k) then digEnd s (k + 1) else k else k
termination_by s.length - k
def zeroEnd (s : Str) (k : Nat) : Nat :=
 if k < s.length then if bt s k = 48 then zeroEnd s (k + 1) else k else k
termination_by s.length - k
def signLen (s : Str) : Nat := if 0 < s.length ∧ bt s 0 = 45 then 1 else 0
theorem signLen_le (s : Str) : signLen s ≤ s.length ∧ signLen s ≤ 1 := by unfold signLen; split <;> omega
def oneStr : Str := [49]
def zeroStr : Str := [48]
def plain (s : Str) : Str :=
 let i := zeroEnd s (signLen s)
 if i = s.length then zeroStr
 else if signLen s = 1 then ([45] : Str) ++ ((s.take (s.length)).drop (i))
 else ((s.take (s.length)).drop (i))
end LQ
namespace LQ
def pkgByte (c : Int) : Bool := decide ((97 ≤ c ∧ c ≤ 122) ∨ (48 ≤ c ∧ c ≤ 57) ∨ c = 45)
def pkgFrom (s : Str) (k : Nat) : Bool := if k < s.length then if pkgByte (bt s k) then pkgFrom s (k + 1) else false else true
termination_by s.length - k
def validPkg (s : Str) : Bool := decide (1 ≤ s.length ∧ s.length ≤ 40 ∧ 97 ≤ bt s 0 ∧ bt s 0 ≤ 122) && pkgFrom s 0
end LQ
namespace LQ
end LQ
namespace LQ
end LQ
namespace LQ
def decOk (s : Str) : Bool :=
 decide (s = zeroStr) || (decide (signLen s < s.length ∧ bt s (signLen s) ≠ 48) && decide (digEnd s (signLen s) = s.length))
def natFrom (s : Str) (k : Nat) (acc : Nat) : Nat := if k < s.length then natFrom s (k + 1) (10 * acc + (bt s k - 48).toNat) else acc
termination_by s.length - k
def decVal (s : Str) : Int := if decOk s then (if signLen s = 1 then -(natFrom s 1 0 : Int) else (natFrom s 0 0 : Int)) else 0
def digs (n : Nat) : List Nat := if h : n = 0 then [] else n % 10 :: digs (n / 10)
termination_by n
def showNat (n : Nat) : Str := if n = 0 then zeroStr else ((digs n).reverse.map fun d => UInt8.ofNat (48 + d))
def showInt (n : Int) : Str := if n < 0 then [45] ++ showNat n.natAbs else showNat n.natAbs
def reduceS (num den : Str) : Str × Str :=
 if decVal den = 0 then (zeroStr, oneStr)
 else
  let g := Nat.gcd (decVal num).natAbs (decVal den).natAbs
  (showInt ((if (decVal num < 0) = (decVal den < 0) then 1 else -1) * (((decVal num).natAbs / g : Nat) : Int)), showNat ((decVal den).natAbs / g))
def digitsS (a : Str) : Nat := max 1 (digs (decVal a).natAbs).length

structure Tok where
 kind : Int
 pos : Nat
 pkg : Str
 text : Str
 den : Str
end LQ
namespace LQ
end LQ
namespace LQ
theorem digEnd_all (s : Str) (i j : Nat) (hi : i ≤ j) (hj : j < digEnd s i) : 48 ≤ bt s j ∧ bt s j ≤ 57 := by
 fun_induction digEnd s i with
 | case1 i h1 h2 ih =>
  by_cases h : j = i
  ·subst h; simpa [isDig] using h2
  ·exact ih (by omega) hj
 | case2 => omega
 | case3 => omega
def dgsFrom (s : Str) (e : Nat) : Nat → List Nat → List Nat
 | 0, acc => acc
 | k + 1, acc => if e ≤ k then dgsFrom s e k (acc ++ [(bt s k - 48).toNat]) else acc
def digS (s : Str) : Bool × List Nat :=
 if decOk s = true ∧ s ≠ zeroStr then (decide (signLen s = 1), dgsFrom s (signLen s) s.length []) else (false, [])
def trimN (l : List Nat) : Nat → Nat
 | 0 => 0
 | n + 1 => if l.getD n 0 = 0 then trimN l n else n + 1
def trimL (l : List Nat) : List Nat := l.take (trimN l l.length)
def ordFrom (a b : List Nat) : Nat → Int
 | 0 => 0
 | k + 1 => if a.getD k 0 < b.getD k 0 then -1 else if b.getD k 0 < a.getD k 0 then 1 else ordFrom a b k
def ordL (a b : List Nat) : Int :=
 if a.length = b.length then ordFrom a b a.length else if a.length < b.length then -1 else 1
def subDig (a b : List Nat) (i bor : Nat) : Int := (a.getD i 0 : Int) - bor - (if i < b.length then (b.getD i 0 : Int) else 0)
def subFrom (a b : List Nat) (i bor : Nat) (acc : List Nat) : List Nat :=
 if i < a.length then
  if subDig a b i bor < 0 then subFrom a b (i + 1) 1 (acc ++ [(subDig a b i bor + 10).toNat])
  else subFrom a b (i + 1) 0 (acc ++ [(subDig a b i bor).toNat])
 else acc
termination_by a.length - i
def subL (a b : List Nat) : List Nat := trimL (subFrom a b 0 0 [])
end LQ
namespace LQ
end LQ
namespace LQ
end LQ
namespace LQ
def val : List Nat → Nat
 | [] => 0
 | d :: t => d + 10 * val t
def D9 (l : List Nat) : Prop := ∀ d ∈ l, d ≤ 9
theorem digs_zero : digs 0 = [] := by rw [digs]; simp
theorem digs_pos {n : Nat} (h : n ≠ 0) : digs n = n % 10 :: digs (n / 10) := by rw [digs, dif_neg h]
theorem val_digs (n : Nat) : val (digs n) = n := by
 induction n using Nat.strongRecOn with
 | _ n ih =>
  by_cases h : n = 0
  ·subst h; rw [digs_zero]; rfl
  ·rw [digs_pos h, val, ih (n / 10) (by omega)]; omega
theorem digs_le (n : Nat) : D9 (digs n) := by
 induction n using Nat.strongRecOn with
 | _ n ih =>
  by_cases h : n = 0
  ·subst h; rw [digs_zero]; intro d hd; simp at hd
  ·rw [digs_pos h]; intro d hd; simp at hd
   rcases hd with rfl | hd
   ·omega
   ·exact ih (n / 10) (by omega) d hd
theorem digs_cons {d m : Nat} (hd : d ≤ 9) (h : d ≠ 0 ∨ m ≠ 0) : digs (d + 10 * m) = d :: digs m := by
 rw [digs_pos (by omega)]; congr 1
 ·omega
 ·congr 1; omega
theorem val_append (a b : List Nat) : val (a ++ b) = val a + 10 ^ a.length * val b := by
 induction a with
 | nil => simp [val]
 | cons d t ih => simp only [List.cons_append, val, ih, List.length_cons, Nat.pow_succ]; rw [Nat.mul_add, ← Nat.mul_assoc, Nat.mul_comm (10 ^ t.length) 10]; omega
theorem digs_snoc (t : List Nat) (d : Nat) (h9 : D9 (t ++ [d])) (hd : d ≠ 0) : digs (val (t ++ [d])) = t ++ [d] := by
 induction t with
 | nil =>
  have : d ≤ 9 := h9 d (by simp)
  simp only [List.nil_append, val]
  rw [Nat.mul_zero, ← Nat.mul_zero 10, digs_cons this (.inl hd), digs_zero]
 | cons x t ih =>
  simp only [List.cons_append, val]
  rw [digs_cons (h9 x (by simp)), ih (fun y hy => h9 y (by simp at hy ⊢; exact .inr hy))]
  refine .inr fun h0 => hd ?_
  have h2 := val_append t [d]
  rw [h0] at h2
  simp only [val] at h2
  have h3 : 0 < 10 ^ t.length := Nat.pow_pos (by omega)
  rw [Nat.mul_zero, Nat.add_zero] at h2
  have h4 : 10 ^ t.length * d = 0 := by omega
  rcases Nat.mul_eq_zero.1 h4 with h | h <;> omega
theorem trimN_digs (l : List Nat) (h9 : D9 l) (n : Nat) (hn : n ≤ l.length) : l.take (trimN l n) = digs (val (l.take n)) := by
 induction n with
 | zero => simp [trimN, val, digs_zero]
 | succ n ih =>
  have hlt : n < l.length := by omega
  have htk : l.take (n + 1) = l.take n ++ [l.getD n 0] := by
   rw [List.take_succ_eq_append_getElem hlt]; simp [List.getD, hlt]
  simp only [trimN]
  split
  ·rename_i h0
   rw [ih (by omega), htk, h0, val_append]
   simp [val]
  ·rename_i h0
   rw [htk, digs_snoc _ _ _ h0]
   intro d hd
   rw [← htk] at hd
   exact h9 d (List.mem_of_mem_take hd)
theorem trimL_digs (l : List Nat) (h9 : D9 l) : trimL l = digs (val l) := by
 unfold trimL; rw [trimN_digs l h9 l.length (Nat.le_refl _), List.take_length]
def subD : List Nat → List Nat → Nat → List Nat
 | [], _, _ => []
 | x :: a, b, bor =>
  if (x : Int) - bor - (b.headD 0 : Int) < 0 then ((x : Int) - bor - (b.headD 0 : Int) + 10).toNat :: subD a b.tail 1
  else ((x : Int) - bor - (b.headD 0 : Int)).toNat :: subD a b.tail 0
theorem subDig_drop (a b : List Nat) (i bor : Nat) : subDig a b i bor = (a.getD i 0 : Int) - bor - ((b.drop i).headD 0 : Int) := by
 unfold subDig
 rcases Nat.lt_or_ge i b.length with h | h
 ·rw [if_pos h, List.drop_eq_getElem_cons h]; simp [List.getD, h]
 ·rw [if_neg (by omega), List.drop_eq_nil_of_le h]; simp
theorem subFrom_eq (a b : List Nat) (i bor : Nat) (acc : List Nat) (hi : i ≤ a.length) : subFrom a b i bor acc = acc ++ subD (a.drop i) (b.drop i) bor := by
 fun_induction subFrom a b i bor acc with
 | case1 i bor acc h1 h2 ih =>
  rw [ih (by omega), List.drop_eq_getElem_cons h1, subD]
  rw [subDig_drop] at h2 ⊢
  simp only [List.getD, List.getElem?_eq_getElem h1, Option.getD_some] at h2 ⊢
  rw [if_pos h2]; simp
 | case2 i bor acc h1 h2 ih =>
  rw [ih (by omega), List.drop_eq_getElem_cons h1, subD]
  rw [subDig_drop] at h2 ⊢
  simp only [List.getD, List.getElem?_eq_getElem h1, Option.getD_some] at h2 ⊢
  rw [if_neg h2]; simp
 | case3 i bor acc h1 =>
  rw [List.drop_eq_nil_of_le (by omega)]; simp [subD]
theorem val_tail (b : List Nat) : val b = b.headD 0 + 10 * val b.tail := by cases b <;> simp [val]
theorem subD_val (a b : List Nat) (bor : Nat) (ha : D9 a) (hb : D9 b) (hbor : bor ≤ 1) (h : val b + bor ≤ val a) : val (subD a b bor) + val b + bor = val a := by
 induction a generalizing b bor with
 | nil => simp [val] at h; simp [subD, val]; omega
 | cons x a ih =>
  have hx : x ≤ 9 := ha x (by simp)
  have ha' : D9 a := fun d hd => ha d (by simp [hd])
  have hb' : D9 b.tail := fun d hd => hb d (List.mem_of_mem_tail hd)
  have hy : b.headD 0 ≤ 9 := by
   cases b with
   | nil => simp
   | cons y t => exact hb y (by simp)
  have hvb := val_tail b
  simp only [val] at h
  simp only [subD]
  split
  ·rename_i hz
   have := ih b.tail 1 ha' hb' (by omega) (by omega)
   simp only [val]
   omega
  ·rename_i hz
   have := ih b.tail 0 ha' hb' (by omega) (by omega)
   simp only [val]
   omega
theorem subD_le (a b : List Nat) (bor : Nat) (ha : D9 a) (hb : D9 b) (hbor : bor ≤ 1) : D9 (subD a b bor) := by
 induction a generalizing b bor with
 | nil => intro d hd; simp [subD] at hd
 | cons x a ih =>
  have hx : x ≤ 9 := ha x (by simp)
  have ha' : D9 a := fun d hd => ha d (by simp [hd])
  have hb' : D9 b.tail := fun d hd => hb d (List.mem_of_mem_tail hd)
  simp only [subD]
  split
  ·rename_i hz; intro d hd
   rcases List.mem_cons.1 hd with rfl | hd
   ·omega
   ·exact ih b.tail 1 ha' hb' (by omega) d hd
  ·rename_i hz; intro d hd
   rcases List.mem_cons.1 hd with rfl | hd
   ·omega
   ·exact ih b.tail 0 ha' hb' (by omega) d hd
theorem subL_digs (x y : Nat) (h : y ≤ x) : subL (digs x) (digs y) = digs (x - y) := by
 unfold subL
 rw [subFrom_eq _ _ _ _ _ (Nat.zero_le _)]
 simp only [List.nil_append, List.drop_zero]
 rw [trimL_digs _ (subD_le _ _ _ (digs_le x) (digs_le y) (by omega))]
 have := subD_val (digs x) (digs y) 0 (digs_le x) (digs_le y) (by omega) (by rw [val_digs, val_digs]; omega)
 rw [val_digs, val_digs] at this
 congr 1; omega
theorem val_lt (l : List Nat) (h9 : D9 l) : val l < 10 ^ l.length := by
 induction l with
 | nil => simp [val]
 | cons d t ih =>
  have h1 := ih (fun x hx => h9 x (by simp [hx]))
  have h2 : d ≤ 9 := h9 d (by simp)
  simp only [val, List.length_cons, Nat.pow_succ]
  omega
theorem digs_ge (n : Nat) (h : n ≠ 0) : 10 ^ ((digs n).length - 1) ≤ n := by
 induction n using Nat.strongRecOn with
 | _ n ih =>
  rw [digs_pos h]
  simp only [List.length_cons, Nat.add_sub_cancel]
  by_cases h1 : n / 10 = 0
  ·rw [h1, digs_zero]; simp; omega
  ·have := ih (n / 10) (by omega) h1
   have h2 : (digs (n / 10)).length ≠ 0 := by rw [digs_pos h1]; simp
   have h3 : 10 ^ (digs (n / 10)).length = 10 * 10 ^ ((digs (n / 10)).length - 1) := by
    rw [← Nat.pow_succ']; congr 1; omega
   omega
theorem ordFrom_val (a b : List Nat) (ha : D9 a) (hb : D9 b) (n : Nat) (hna : n ≤ a.length) (hnb : n ≤ b.length) :
  ordFrom a b n = if val (a.take n) < val (b.take n) then -1 else if val (b.take n) < val (a.take n) then 1 else 0 := by
 induction n with
 | zero => simp [ordFrom, val]
 | succ n ih =>
  have hla : n < a.length := by omega
  have hlb : n < b.length := by omega
  have e1 : a.take (n + 1) = a.take n ++ [a.getD n 0] := by rw [List.take_succ_eq_append_getElem hla]; simp [List.getD, hla]
  have e2 : b.take (n + 1) = b.take n ++ [b.getD n 0] := by rw [List.take_succ_eq_append_getElem hlb]; simp [List.getD, hlb]
  have v1 := val_append (a.take n) [a.getD n 0]
  have v2 := val_append (b.take n) [b.getD n 0]
  have l1 : (a.take n).length = n := by simp; omega
  have l2 : (b.take n).length = n := by simp; omega
  have b1 := val_lt (a.take n) (fun d hd => ha d (List.mem_of_mem_take hd))
  have b2 := val_lt (b.take n) (fun d hd => hb d (List.mem_of_mem_take hd))
  rw [l1] at v1 b1
  rw [l2] at v2 b2
  simp only [val, Nat.mul_zero, Nat.add_zero] at v1 v2
  rw [e1, e2, v1, v2]
  simp only [ordFrom]
  rw [ih (by omega) (by omega)]
  generalize a.getD n 0 = x at *
  generalize b.getD n 0 = y at *
  generalize val (a.take n) = p at *
  generalize val (b.take n) = q at *
  generalize 10 ^ n = P at *
  by_cases h1 : x < y
  ·have : P * (x + 1) ≤ P * y := Nat.mul_le_mul_left P h1
   rw [Nat.mul_add, Nat.mul_one] at this
   rw [if_pos h1, if_pos (by omega)]
  ·rw [if_neg h1]
   by_cases h2 : y < x
   ·have : P * (y + 1) ≤ P * x := Nat.mul_le_mul_left P h2
    rw [Nat.mul_add, Nat.mul_one] at this
    rw [if_pos h2, if_neg (by omega), if_pos (by omega)]
   ·rw [if_neg h2]
    have h3 : x = y := by omega
    subst h3
    simp only [Nat.add_lt_add_iff_right]
theorem ordL_digs (x y : Nat) : ordL (digs x) (digs y) = if x < y then -1 else if y < x then 1 else 0 := by
 unfold ordL
 split
 ·rename_i h
  rw [ordFrom_val _ _ (digs_le x) (digs_le y) _ (Nat.le_refl _) (by omega), List.take_length, h, List.take_length, val_digs, val_digs]
 ·rename_i h
  have b1 := val_lt (digs x) (digs_le x)
  have b2 := val_lt (digs y) (digs_le y)
  rw [val_digs] at b1 b2
  split
  ·rename_i h2
   have hy : y ≠ 0 := by intro e; rw [e, digs_zero] at h2; simp at h2
   have g2 := digs_ge y hy
   have : 10 ^ (digs x).length ≤ 10 ^ ((digs y).length - 1) := Nat.pow_le_pow_right (by omega) (by omega)
   rw [if_pos (by omega)]
  ·rename_i h2
   have hx : x ≠ 0 := by intro e; rw [e, digs_zero] at h h2; simp only [List.length_nil] at h h2; omega
   have g1 := digs_ge x hx
   have : 10 ^ (digs y).length ≤ 10 ^ ((digs x).length - 1) := Nat.pow_le_pow_right (by omega) (by omega)
   rw [if_neg (by omega), if_pos (by omega)]

theorem dgsFrom_app (s : Str) (e : Nat) (k : Nat) (acc : List Nat) : dgsFrom s e k acc = acc ++ dgsFrom s e k [] := by
 induction k generalizing acc with
 | zero => simp [dgsFrom]
 | succ k ih =>
  simp only [dgsFrom]
  split
  ·rw [ih (acc ++ _), ih ([] ++ _)]; simp
  ·simp
end LQ
namespace LQ
theorem dgs_cons (s : Str) (e k : Nat) (h : e ≤ k) : dgsFrom s e (k + 1) [] = (bt s k - 48).toNat :: dgsFrom s e k [] := by
 rw [dgsFrom, if_pos h, dgsFrom_app]; simp
theorem dgs_nil (s : Str) (e : Nat) : dgsFrom s e e [] = [] := by
 cases e with
 | zero => rfl
 | succ e => rw [dgsFrom, if_neg (by omega)]
theorem natFrom_dgs (s : Str) (e k : Nat) (he : e ≤ k) (hk : k ≤ s.length) : natFrom s e 0 = natFrom s k (val (dgsFrom s e k [])) := by
 induction k with
 | zero => obtain rfl : e = 0 := by omega
           rfl
 | succ k ih =>
  by_cases h : e = k + 1
  ·subst h; rw [dgs_nil]; rfl
  ·rw [ih (by omega) (by omega), dgs_cons s e k (by omega), natFrom, if_pos (by omega)]
   congr 1
   simp only [val]; omega
theorem natFrom_val (s : Str) (e : Nat) (he : e ≤ s.length) : natFrom s e 0 = val (dgsFrom s e s.length []) := by
 rw [natFrom_dgs s e s.length he (Nat.le_refl _), natFrom, if_neg (by omega)]
theorem dgs_snoc (s : Str) (e k : Nat) (h : e < k) : ∃ t, dgsFrom s e k [] = t ++ [(bt s e - 48).toNat] := by
 induction k with
 | zero => omega
 | succ k ih =>
  rw [dgs_cons s e k (by omega)]
  by_cases hk : e = k
  ·subst hk; exact ⟨[], by rw [dgs_nil]; rfl⟩
  ·obtain ⟨t, ht⟩ := ih (by omega)
   exact ⟨_ :: t, by rw [ht]; rfl⟩
theorem dgs_D9 (s : Str) (e k : Nat) (h : ∀ j, e ≤ j → j < k → 48 ≤ bt s j ∧ bt s j ≤ 57) : D9 (dgsFrom s e k []) := by
 induction k with
 | zero => intro d hd; simp [dgsFrom] at hd
 | succ k ih =>
  by_cases he : e ≤ k
  ·rw [dgs_cons s e k he]
   intro d hd
   rcases List.mem_cons.1 hd with rfl | hd
   ·have := h k he (by omega); omega
   ·exact ih (fun j h1 h2 => h j h1 (by omega)) d hd
  ·rw [dgsFrom, if_neg he]; intro d hd; simp at hd
theorem decVal_zero : decVal zeroStr = 0 := by
 have h1 : signLen zeroStr = 0 := by decide
 have h2 : natFrom zeroStr 0 0 = 0 := by rw [natFrom, if_pos (by decide), natFrom, if_neg (by decide)]; decide
 unfold decVal
 rw [h1, h2]; simp
theorem digS_eq (s : Str) : digS s = (decide (decVal s < 0), digs (decVal s).natAbs) := by
 unfold digS
 split
 ·rename_i h
  obtain ⟨h1, h2⟩ := h
  have h3 : signLen s < s.length ∧ bt s (signLen s) ≠ 48 ∧ digEnd s (signLen s) = s.length := by
   simp [decOk, h2] at h1; exact ⟨h1.1.1, h1.1.2, h1.2⟩
  have hall : ∀ j, signLen s ≤ j → j < s.length → 48 ≤ bt s j ∧ bt s j ≤ 57 := fun j a b => digEnd_all s (signLen s) j a (by omega)
  have h9 := dgs_D9 s (signLen s) s.length hall
  obtain ⟨t, ht⟩ := dgs_snoc s (signLen s) s.length h3.1
  have hd0 : (bt s (signLen s) - 48).toNat ≠ 0 := by have := hall (signLen s) (Nat.le_refl _) h3.1; omega
  have hcan : digs (val (dgsFrom s (signLen s) s.length [])) = dgsFrom s (signLen s) s.length [] := by
   rw [ht] at h9 ⊢; exact digs_snoc t _ h9 hd0
  have hv := natFrom_val s (signLen s) (by omega)
  have hpos : 0 < natFrom s (signLen s) 0 := by
   rcases Nat.eq_zero_or_pos (natFrom s (signLen s) 0) with h | h
   ·rw [← hv, h, digs_zero] at hcan; rw [ht] at hcan; simp at hcan
   ·exact h
  unfold decVal
  rw [if_pos h1]
  have hs1 := signLen_le s
  by_cases hsg : signLen s = 1
  ·rw [if_pos hsg]
   rw [hsg] at hcan hv hpos ⊢
   rw [hv, Int.natAbs_neg, Int.natAbs_natCast, hcan]
   congr 1
   rw [← hv]; simp; omega
  ·have hs0 : signLen s = 0 := by omega
   rw [if_neg hsg]
   rw [hs0] at hcan hv hpos ⊢
   rw [hv, Int.natAbs_natCast, hcan]
   congr 1
 ·rename_i h
  have : decVal s = 0 := by
   by_cases h1 : decOk s = true
   ·have : s = zeroStr := by
     by_cases h2 : s = zeroStr
     ·exact h2
     ·exact absurd ⟨h1, h2⟩ h
    rw [this]; exact decVal_zero
   ·unfold decVal; rw [if_neg h1]
  rw [this]; simp [digs_zero]
end LQ
namespace LQ
theorem over_step (X a y : Nat) (hy : 0 < y) : (a + 10 * X) / y = (a + 10 * (X % y)) / y + 10 * (X / y) ∧ (a + 10 * X) % y = (a + 10 * (X % y)) % y := by
 have h := Nat.div_add_mod X y
 have e : a + 10 * X = (a + 10 * (X % y)) + y * (10 * (X / y)) := by
  have : y * (10 * (X / y)) = 10 * (y * (X / y)) := by rw [Nat.mul_left_comm]
  rw [this]; omega
 rw [e]
 exact ⟨by rw [Nat.add_mul_div_left _ _ hy], by rw [Nat.add_mul_mod_self_left]⟩
theorem over_inner (R t y : Nat) (hy : 0 < y) (h1 : t * y ≤ R) (h2 : R - t * y < y) : R / y = t ∧ R % y = R - t * y := by
 have e : R = (R - t * y) + y * t := by rw [Nat.mul_comm y t]; omega
 constructor
 ·rw [e, Nat.add_mul_div_left _ _ hy, Nat.div_eq_of_lt h2]; omega
 ·have : R % y = ((R - t * y) + y * t) % y := by rw [← e]
  rw [this, Nat.add_mul_mod_self_left, Nat.mod_eq_of_lt h2]
theorem digs_drop (x k : Nat) (h : k < (digs x).length) : val ((digs x).drop k) = (digs x).getD k 0 + 10 * val ((digs x).drop (k + 1)) := by
 rw [List.drop_eq_getElem_cons h]; simp [val, List.getD, h]
theorem digs_cons_trim (a r : Nat) (ha : a ≤ 9) : trimL (a :: digs r) = digs (a + 10 * r) := by
 rw [trimL_digs]
 ·simp only [val, val_digs]
 ·intro d hd
  rcases List.mem_cons.1 hd with rfl | hd
  ·exact ha
  ·exact digs_le r d hd
end LQ
namespace LQ
theorem showNat_bt (n k : Nat) (h : n ≠ 0) (hk : k < (digs n).length) : bt (showNat n) k = 48 + ((digs n).getD ((digs n).length - 1 - k) 0 : Int) := by
 have hs : (showNat n).length = (digs n).length := by unfold showNat; rw [if_neg h]; simp
 have hbt : bt (showNat n) k = (((showNat n)[k]'(by omega)).toNat : Int) := by unfold bt; simp [List.getD, List.getElem?_eq_getElem (show k < (showNat n).length by omega)]
 rw [hbt]
 have h9 : (digs n).getD ((digs n).length - 1 - k) 0 ≤ 9 := by
  have hlt : (digs n).length - 1 - k < (digs n).length := by omega
  simp only [List.getD, List.getElem?_eq_getElem hlt, Option.getD_some]
  exact digs_le n _ (List.getElem_mem hlt)
 have : (showNat n)[k]'(by omega) = UInt8.ofNat (48 + (digs n).getD ((digs n).length - 1 - k) 0) := by
  have e : showNat n = ((digs n).reverse.map fun d => UInt8.ofNat (48 + d)) := by unfold showNat; rw [if_neg h]
  simp only [e]
  simp [List.getD, show (digs n).length - 1 - k < (digs n).length by omega]
 rw [this]
 simp only [UInt8.toNat_ofNat']
 omega

theorem showNat_size (n : Nat) (h : n ≠ 0) : (showNat n).length = (digs n).length := by unfold showNat; rw [if_neg h]; simp
theorem digs_last (n : Nat) (h : n ≠ 0) : (digs n).getD ((digs n).length - 1) 0 ≠ 0 := by
 induction n using Nat.strongRecOn with
 | _ n ih =>
  rw [digs_pos h]
  by_cases h1 : n / 10 = 0
  ·rw [h1, digs_zero]; simp; omega
  ·have := ih (n / 10) (by omega) h1
   have h2 : (digs (n / 10)).length ≠ 0 := by rw [digs_pos h1]; simp
   obtain ⟨m, hm⟩ : ∃ m, (digs (n / 10)).length = m + 1 := ⟨_, (Nat.succ_pred h2).symm⟩
   rw [hm] at this
   simp only [List.length_cons, hm, Nat.add_sub_cancel]
   simpa [List.getD] using this
theorem digEnd_full (s : Str) (i : Nat) (hi : i ≤ s.length) (h : ∀ j, i ≤ j → j < s.length → 48 ≤ bt s j ∧ bt s j ≤ 57) : digEnd s i = s.length := by
 fun_induction digEnd s i with
 | case1 i h1 h2 ih => exact ih (by omega) (fun j a b => h j (by omega) b)
 | case2 i h1 h2 => exact absurd (by have := h i (Nat.le_refl _) h1; simp [isDig]; omega) h2
 | case3 i h1 => omega
theorem dgs_show (n k : Nat) (h : n ≠ 0) (hk : k ≤ (digs n).length) : dgsFrom (showNat n) 0 k [] = (digs n).drop ((digs n).length - k) := by
 induction k with
 | zero => simp [dgsFrom]
 | succ k ih =>
  rw [dgs_cons _ _ _ (Nat.zero_le _), ih (by omega), showNat_bt n k h (by omega)]
  have hlt : (digs n).length - (k + 1) < (digs n).length := by omega
  rw [List.drop_eq_getElem_cons hlt]
  congr 1
  ·simp only [List.getD, show (digs n).length - 1 - k = (digs n).length - (k + 1) by omega, List.getElem?_eq_getElem hlt, Option.getD_some]; omega
  ·congr 1; omega
theorem decVal_showNat (n : Nat) : decVal (showNat n) = n := by
 by_cases h : n = 0
 ·subst h; exact decVal_zero
 ·have hs := showNat_size n h
  have hl : (digs n).length ≠ 0 := by rw [digs_pos h]; simp
  have hall : ∀ j, 0 ≤ j → j < (showNat n).length → 48 ≤ bt (showNat n) j ∧ bt (showNat n) j ≤ 57 := by
   intro j _ hj
   rw [showNat_bt n j h (by omega)]
   have hlt : (digs n).length - 1 - j < (digs n).length := by omega
   have := digs_le n ((digs n)[(digs n).length - 1 - j]) (List.getElem_mem hlt)
   simp only [List.getD, List.getElem?_eq_getElem hlt, Option.getD_some]
   omega
  have h0 := hall 0 (Nat.le_refl _) (by omega)
  have hsg : signLen (showNat n) = 0 := by unfold signLen; rw [if_neg (by omega)]
  have hb0 : bt (showNat n) 0 ≠ 48 := by
   rw [showNat_bt n 0 h (by omega)]
   have := digs_last n h
   rw [Nat.sub_zero]
   omega
  have hok : decOk (showNat n) = true := by
   unfold decOk
   rw [hsg, digEnd_full _ 0 (Nat.zero_le _) hall]
   simp [hb0]; right; omega
  unfold decVal
  rw [if_pos hok, hsg, if_neg (by omega), natFrom_val _ 0 (Nat.zero_le _), hs, dgs_show n _ h (Nat.le_refl _), Nat.sub_self, List.drop_zero, val_digs]
end LQ
namespace LQ
theorem bt_cons (c : UInt8) (s : Str) (k : Nat) : bt (c :: s) (k + 1) = bt s k := by simp [bt]
theorem natFrom_cons (c : UInt8) (s : Str) (k acc : Nat) : natFrom (c :: s) (k + 1) acc = natFrom s k acc := by
 fun_induction natFrom s k acc with
 | case1 k acc h ih => rw [natFrom, if_pos (by simp; omega), bt_cons, ih]
 | case2 k acc h => rw [natFrom, if_neg (by simp; omega)]
theorem digEnd_cons (c : UInt8) (s : Str) (k : Nat) : digEnd (c :: s) (k + 1) = digEnd s k + 1 := by
 fun_induction digEnd s k with
 | case1 k h1 h2 ih => rw [digEnd, if_pos (by simp; omega), bt_cons, if_pos h2, ih]
 | case2 k h1 h2 => rw [digEnd, if_pos (by simp; omega), bt_cons, if_neg h2]
 | case3 k h => rw [digEnd, if_neg (by simp; omega)]
theorem showNat_all (n : Nat) (h : n ≠ 0) : (∀ j, 0 ≤ j → j < (showNat n).length → 48 ≤ bt (showNat n) j ∧ bt (showNat n) j ≤ 57) ∧ bt (showNat n) 0 ≠ 48 ∧ 0 < (showNat n).length := by
 have hs := showNat_size n h
 have hl : (digs n).length ≠ 0 := by rw [digs_pos h]; simp
 refine ⟨?_, ?_, by omega⟩
 ·intro j _ hj
  rw [showNat_bt n j h (by omega)]
  have hlt : (digs n).length - 1 - j < (digs n).length := by omega
  have := digs_le n ((digs n)[(digs n).length - 1 - j]) (List.getElem_mem hlt)
  simp only [List.getD, List.getElem?_eq_getElem hlt, Option.getD_some]
  omega
 ·rw [showNat_bt n 0 h (by omega)]
  have := digs_last n h
  rw [Nat.sub_zero]
  omega
theorem decVal_neg (n : Nat) (h : n ≠ 0) : decVal (45 :: showNat n) = -(n : Int) := by
 obtain ⟨h1, h2, h3⟩ := showNat_all n h
 have hsg : signLen (45 :: showNat n) = 1 := by unfold signLen; rw [if_pos]; exact ⟨by simp, rfl⟩
 have hsg0 : signLen (showNat n) = 0 := by unfold signLen; rw [if_neg]; have := h1 0 (Nat.le_refl _) h3; omega
 have hok : decOk (45 :: showNat n) = true := by
  unfold decOk
  rw [hsg, show (1 : Nat) = 0 + 1 from rfl, digEnd_cons, bt_cons, digEnd_full _ 0 (Nat.zero_le _) h1]
  simp [h2]; right; omega
 have hv := decVal_showNat n
 have hok0 : decOk (showNat n) = true := by
  unfold decOk
  rw [hsg0, digEnd_full _ 0 (Nat.zero_le _) h1]
  simp [h2]; right; omega
 unfold decVal at hv
 rw [if_pos hok0, hsg0, if_neg (by omega)] at hv
 unfold decVal
 rw [if_pos hok, hsg, if_pos rfl, show (1 : Nat) = 0 + 1 from rfl, natFrom_cons, hv]
theorem decVal_showInt (n : Int) : decVal (showInt n) = n := by
 unfold showInt
 split
 ·rename_i h
  show decVal (45 :: showNat n.natAbs) = n
  rw [decVal_neg _ (by omega)]; omega
 ·rw [decVal_showNat]; omega
theorem showInt_inj {a b : Int} (h : showInt a = showInt b) : a = b := by rw [← decVal_showInt a, h, decVal_showInt]
theorem showNat_inj {a b : Nat} (h : showNat a = showNat b) : a = b := by
 have := congrArg decVal h
 rw [decVal_showNat, decVal_showNat] at this
 omega
end LQ
namespace Go.Proofs.YtccafnaghnbpeaaGreatDoor
open Go.Abs LQ
noncomputable section
abbrev Sy := Str × Str
inductive O where
 | num (n : Int) (d : Nat)
 | sy (s : Sy)
 | tx (s : Str)
 | co (a d : O)
 | no
namespace O
def k : O → Int
 | num _ _ => 1
 | sy _ => 2
 | tx _ => 3
 | co _ _ => 4
 | no => 0
def nu : O → Str
 | num n _ => showInt n
 | _ => []
def de : O → Str
 | num _ d => showNat d
 | _ => []
def sym : O → Sy
 | sy s => s
 | _ => ([], [])
def txt : O → Str
 | tx s => s
 | _ => []
def ps : O → List O
 | co a d => [a, d]
 | _ => []
def g : O → List G
 | num n d => [.i .i64 1, .s (showInt n), .s (showNat d), .s [], .s [], .s [], .l []]
 | sy s => [.i .i64 2, .s [], .s [], .s s.1, .s s.2, .s [], .l []]
 | tx s => [.i .i64 3, .s [], .s [], .s [], .s [], .s s, .l []]
 | co a d => [.i .i64 4, .s [], .s [], .s [], .s [], .s [], .l [a.g, d.g]]
 | no => [.i .i64 0, .s [], .s [], .s [], .s [], .s [], .l []]
theorem g_eq (a : O) : a.g = [.i .i64 a.k, .s a.nu, .s a.de, .s a.sym.1, .s a.sym.2, .s a.txt, .l (a.ps.map O.g)] := by cases a <;> rfl
theorem g_len (a : O) : a.g.length = 7 := by cases a <;> rfl
theorem ps_le (a : O) : a.ps.length ≤ 2 := by cases a <;> simp [ps]
theorem ps_fuel (a : O) : a.ps.length - 0 < FUEL := by cases a <;> simp [ps, FUEL]
theorem ext {a b : O} (h1 : a.k = b.k) (h2 : a.nu = b.nu) (h3 : a.de = b.de) (h4 : a.sym = b.sym) (h5 : a.txt = b.txt) (h6 : a.ps = b.ps) : a = b := by
 cases a <;> cases b <;> simp_all [k, nu, de, sym, txt, ps]
 exact ⟨showInt_inj h2, showNat_inj h3⟩
theorem g_inj : ∀ {a b : O}, a.g = b.g → a = b := by
 intro a
 induction a with
 | num n d => intro b h; cases b <;> simp only [g, List.cons.injEq, G.s.injEq, G.i.injEq, reduceCtorEq, and_true, true_and, false_and, and_false, Int.reduceEq] at h; exact (congrArg (O.num · _) (showInt_inj h.1)).trans (congrArg (O.num _) (showNat_inj h.2))
 | sy s => intro b h; cases b <;> simp [g] at h; exact congrArg O.sy (Prod.ext h.1 h.2)
 | tx s => intro b h; cases b <;> simp [g] at h; rw [h]
 | co a d iha ihd => intro b h; cases b <;> simp [g] at h; rw [iha h.1, ihd h.2]
 | no => intro b h; cases b <;> simp [g] at h; rfl
open Classical in
def eqb (a b : O) : Bool := decide (a = b)
theorem eqb_t {a b : O} : eqb a b = true ↔ a = b := by unfold eqb; simp
theorem eqb_f {a b : O} : eqb a b = false ↔ ¬ a = b := by unfold eqb; simp
def size : O → Nat
 | co a d => 1 + a.size + d.size
 | _ => 1
theorem size_pos (a : O) : 0 < a.size := by cases a <;> simp [size] <;> omega
theorem ps_size (a : O) : ∀ x ∈ a.ps, x.size < a.size := by cases a <;> simp [ps, size] <;> omega
end O
theorem mapg_inj : ∀ {l m : List O}, l.map O.g = m.map O.g → l = m
 | [], [], _ => rfl
 | [], _ :: _, h => by simp at h
 | _ :: _, [], h => by simp at h
 | a :: l, b :: m, h => by simp only [List.map_cons, List.cons.injEq] at h; exact congr (congrArg List.cons (O.g_inj h.1)) (mapg_inj h.2)
theorem a1_inj {x y : O} {vs : List V} (h : RVs [.a x.g] vs) (k : RVs [.a y.g] vs) : x = y := by
 cases h with | cons _ _ v _ h _ => cases k with | cons _ _ _ _ k _ => exact O.g_inj (h.a_inj k)
theorem a2_inj {x y x' y' : O} {vs : List V} (h : RVs [.a x.g, .a x'.g] vs) (k : RVs [.a y.g, .a y'.g] vs) : x = y ∧ x' = y' := by
 cases h with | cons _ _ v _ h h' => cases k with | cons _ _ _ _ k k' => exact ⟨O.g_inj (h.a_inj k), a1_inj h' k'⟩
end
end Go.Proofs.YtccafnaghnbpeaaGreatDoor
namespace Go.Proofs.YtccafnaghnbpeaaGreatDoor
open Go.Abs LQ
structure Tr (p q : Prop) : Prop where
 go : q → p
theorem Tr.refl {p : Prop} : Tr p p := ⟨id⟩
theorem Tr.b {p p' q : Prop} (f : p' → p) (h : Tr p' q) : Tr p q := ⟨fun k => f (h.go k)⟩
theorem Tr.all {α : Sort _} {p q : α → Prop} (h : ∀ x, Tr (p x) (q x)) : Tr (∀ x, p x) (∀ x, q x) := ⟨fun k x => (h x).go (k x)⟩
theorem Tr.chk {U : CombU} {P : VRes → List Bx → Prop} {b : Bool} {p q : Prop} {x : Om} (ht : Says U b p) (hp : p) (h : Tr (Sat U x P) q) : Tr (Sat U (U.chk b x) P) q := ⟨fun k => sChk ht hp (h.go k)⟩
theorem Tr.cnd {U : CombU} {P : VRes → List Bx → Prop} {b : Bool} {p : Prop} {q1 : p → Prop} {q2 : ¬p → Prop} {x y : Om} (ht : Says U b p) (h : ∀ a, Tr (Sat U x P) (q1 a)) (k : ∀ a, Tr (Sat U y P) (q2 a)) : Tr (Sat U (U.cnd b x y) P) ((∀ a, q1 a) ∧ (∀ a, q2 a)) := ⟨fun g => sCnd ht (fun a => (h a).go (g.1 a)) (fun a => (k a).go (g.2 a))⟩
theorem Zx {p q : Prop} (k : q) (h : Tr p q := by ((repeat' (first | (with_reducible apply Tr.all) | (with_reducible intro _) | (apply Tr.b; (case f => first | exact sCons | exact sConsR (by assumption) | exact sNil | exact sNilR (by assumption) | exact sNilB | exact sNilBR (by assumption) | exact sConsB | exact sConsBR (by assumption) | exact sP | exact sPR (by assumption) | exact sIV | exact sI (by assumption) | exact sBV | exact sBK | exact sB (by assumption) | exact sSV | exact sS (by assumption) | exact sA | exact sAR (by assumption) (by rfl) | exact sSlV (by rfl) | exact sSlN (by rfl) | exact sSlTM (by assumption) (by rfl) | exact sSlT (by assumption) (by rfl) | exact sSlM (by assumption) | exact sSl (by assumption) | exact sTu (by assumption) | exact sBo | exact sBoR (by assumption) (by rfl) | exact sBc | exact sBcR (by assumption) | exact sBt | exact sBs | exact sBr | exact sfSub0 (by assumption) | exact sfSub (by assumption) | exact sfCel (by assumption) (by rfl) | exact sCS' (by assumption) (by rfl) | exact sCI' (by assumption) (by rfl) | exact sCB' (by assumption) (by rfl) | exact sCS (by assumption) | exact sCI (by assumption) | exact sCB (by assumption) | exact sfIdxN (by first | omega | (simp only [List.length_map] at *; omega)) | exact sfIdx (by first | omega | (simp only [List.length_map] at *; omega)) | exact sfOfN | exact sfAddNI | exact sfSubNI | exact sfNat | exact sfMulI | exact sfAddN | exact sfSubN | exact sfBSelN | exact sfBSelE | exact sfB | exact sJn | exact sCndT | exact sCndF | exact sCndN | exact sCSlM (by assumption) (by (first | exact mapLen O.g_len | exact mapLen (fun _ => rfl))) | exact sCSl (by assumption) (by (first | exact mapLen O.g_len | exact mapLen (fun _ => rfl))) | exact sfWrA (by first | omega | (simp only [List.length_map] at *; omega)) | exact sfWrS (by first | omega | (simp only [List.length_map] at *; omega)) | exact sfTi (by assumption) (by first | assumption | omega | (simp only [List.length_map] at *; omega)) | exact sfT (by assumption) (by rfl))) | (apply Tr.chk; (case ht => (repeat' (first | exact trT | exact trF | apply trNot | apply trAnd | exact trLtN | exact trLeN | exact trLt | exact trLe | exact trEq | exact trnLe3 | exact trnLe4 | exact trnLe2 | exact trnLe1 | exact trnLe | exact trnEq | exact trSS | exact trSL | exact trS | exact trV))); (case hp => first | omega | (simp only [List.length_map] at *; omega))) | (apply Tr.cnd; (case ht => (repeat' (first | exact trT | exact trF | apply trNot | apply trAnd | exact trLtN | exact trLeN | exact trLt | exact trLe | exact trEq | exact trnLe3 | exact trnLe4 | exact trnLe2 | exact trnLe1 | exact trnLe | exact trnEq | exact trSS | exact trSL | exact trS | exact trV)))))); all_goals exact Tr.refl)) : p := h.go k
theorem Zy {p q : Prop} (k : q) (h : Tr p q := by ((repeat' (first | (with_reducible apply Tr.all) | (with_reducible intro _) | (apply Tr.b; (case f => first | exact sCons | exact sConsR (by assumption) | exact sNil | exact sNilR (by assumption) | exact sNilB | exact sNilBR (by assumption) | exact sConsB | exact sConsBR (by assumption) | exact sP | exact sPR (by assumption) | exact sIV | exact sI (by assumption) | exact sBV | exact sBK | exact sB (by assumption) | exact sSV | exact sS (by assumption) | exact sA | exact sAR (by assumption) (by rfl) | exact sSlV (by rfl) | exact sSlN (by rfl) | exact sSlTM (by assumption) (by rfl) | exact sSlT (by assumption) (by rfl) | exact sSlM (by assumption) | exact sSl (by assumption) | exact sTu (by assumption) | exact sBo | exact sBoR (by assumption) (by rfl) | exact sBc | exact sBcR (by assumption) | exact sBt | exact sBs | exact sBr | exact sfSub0 (by assumption) | exact sfSub (by assumption) | exact sfCel (by assumption) (by rfl) | exact sCS' (by assumption) (by rfl) | exact sCI' (by assumption) (by rfl) | exact sCB' (by assumption) (by rfl) | exact sCS (by assumption) | exact sCI (by assumption) | exact sCB (by assumption) | exact sfIdxN (by first | omega | (simp only [List.length_map] at *; omega)) | exact sfIdx (by first | omega | (simp only [List.length_map] at *; omega)) | exact sfOfN | exact sfAddNI | exact sfSubNI | exact sfNat | exact sfMulI | exact sfAddN | exact sfSubN | exact sfBSelN | exact sfBSelE | exact sfB | exact sCndT | exact sCndF | exact sCndN | exact sCSlM (by assumption) (by (first | exact mapLen O.g_len | exact mapLen (fun _ => rfl))) | exact sCSl (by assumption) (by (first | exact mapLen O.g_len | exact mapLen (fun _ => rfl))) | exact sfWrA (by first | omega | (simp only [List.length_map] at *; omega)) | exact sfWrS (by first | omega | (simp only [List.length_map] at *; omega)) | exact sfTi (by assumption) (by first | assumption | omega | (simp only [List.length_map] at *; omega)) | exact sfT (by assumption) (by rfl))) | (apply Tr.chk; (case ht => (repeat' (first | exact trT | exact trF | apply trNot | apply trAnd | exact trLtN | exact trLeN | exact trLt | exact trLe | exact trEq | exact trnLe3 | exact trnLe4 | exact trnLe2 | exact trnLe1 | exact trnLe | exact trnEq | exact trSS | exact trSL | exact trS | exact trV))); (case hp => first | omega | (simp only [List.length_map] at *; omega))) | (apply Tr.cnd; (case ht => (repeat' (first | exact trT | exact trF | apply trNot | apply trAnd | exact trLtN | exact trLeN | exact trLt | exact trLe | exact trEq | exact trnLe3 | exact trnLe4 | exact trnLe2 | exact trnLe1 | exact trnLe | exact trnEq | exact trSS | exact trSL | exact trS | exact trV)))))); all_goals exact Tr.refl)) : p := h.go k
theorem Zw {p q : Prop} (k : q) (h : Tr p q := by ((repeat' (first | (with_reducible apply Tr.all) | (with_reducible intro _) | (apply Tr.b; (case f => first | exact sCons | exact sConsR (by assumption) | exact sNil | exact sNilR (by assumption) | exact sNilB | exact sNilBR (by assumption) | exact sConsB | exact sConsBR (by assumption) | exact sP | exact sPR (by assumption) | exact sIV | exact sI (by assumption) | exact sBV | exact sBK | exact sB (by assumption) | exact sSV | exact sS (by assumption) | exact sA | exact sAR (by assumption) (by rfl) | exact sSlV (by rfl) | exact sSlN (by rfl) | exact sSlTM (by assumption) (by rfl) | exact sSlT (by assumption) (by rfl) | exact sSlM (by assumption) | exact sSl (by assumption) | exact sTu (by assumption) | exact sBo | exact sBoR (by assumption) (by rfl) | exact sBc | exact sBcR (by assumption) | exact sBt | exact sBs | exact sBr | exact sfSub0 (by assumption) | exact sfSub (by assumption) | exact sfCel (by assumption) (by rfl) | exact sCS' (by assumption) (by rfl) | exact sCI' (by assumption) (by rfl) | exact sCB' (by assumption) (by rfl) | exact sCS (by assumption) | exact sCI (by assumption) | exact sCB (by assumption) | exact sfIdxN (by first | omega | (simp only [List.length_map] at *; omega)) | exact sfIdx (by first | omega | (simp only [List.length_map] at *; omega)) | exact sfOfN | exact sfAddNI | exact sfSubNI | exact sfNat | exact sfMulI | exact sfAddN | exact sfSubN | exact sfBSelN | exact sfBSelE | exact sfB | exact sJn | exact sCndT | exact sCndF | exact sCndN | exact sCSlM (by assumption) (by (first | exact mapLen O.g_len | exact mapLen (fun _ => rfl))) | exact sCSl (by assumption) (by (first | exact mapLen O.g_len | exact mapLen (fun _ => rfl))) | exact sfWrA (by first | omega | (simp only [List.length_map] at *; omega)) | exact sfWrS (by first | omega | (simp only [List.length_map] at *; omega)) | exact sfTi (by assumption) (by first | assumption | omega | (simp only [List.length_map] at *; omega)) | exact sfT (by assumption) (by rfl))) | (apply Tr.chk; (case ht => (repeat' (first | exact trT | exact trF | apply trNot | apply trAnd | exact trLtN | exact trLeN | exact trLt | exact trLe | exact trEq | exact trnLe3 | exact trnLe4 | exact trnLe2 | exact trnLe1 | exact trnLe | exact trnEq | exact trSS | exact trSL | exact trS | exact trV))); (case hp => first | omega | (simp only [List.length_map] at *; omega))))); all_goals exact Tr.refl)) : p := h.go k
theorem Zrv {p : Prop} (h : p := by (repeat' (first | exact RVs.nil | refine RVs.cons _ _ _ _ ?_ ?_ | exact RBs.nil | assumption | exact RV.i _ _ | exact RV.b _ | exact RV.kn _ | exact RV.s _ _ _ rfl rfl | refine RV.a _ _ _ (by first | rfl | exact (O.g_len _).symm) (by assumption) | refine RV.sl _ _ _ _ _ (by first | rfl | simp) (by assumption) | refine RV.q _ _ (by assumption) | exact RV.p _ _ | exact RV.cl _ _ _ _ _ rfl (Rws.nil _ _ _) | refine RV.ag _ _ ?_ | refine RV.t _ _ ?_ | refine RV.sl _ _ _ _ _ (by rfl) (Rws.nil _ _ _) | exact RV.sl0 _ _ _ | refine RV.s _ _ _ (by rfl) (by rfl)))) : p := h
theorem Zru {p : Prop} (h : p := by (repeat' (first | exact RVs.nil | refine RVs.cons _ _ _ _ ?_ ?_ | exact RBs.nil | assumption | exact RV.i _ _ | exact RV.b _ | exact RV.kn _ | exact RV.s _ _ _ rfl rfl | refine RV.q _ _ (Cel.at (by assumption) (by rfl)) | refine RV.a _ _ _ (by first | rfl | exact (O.g_len _).symm) (by assumption) | refine RV.q _ _ (by assumption) | refine RV.cl _ _ _ _ _ rfl (Rws.nil _ _ _) | refine RV.ag _ _ ?_ | refine RV.t _ _ ?_ | refine RV.s _ _ _ (by rfl) (by rfl)))) : p := h
theorem aI {a b : Prop} (left : a) (right : b) : a ∧ b := ⟨left, right⟩
theorem oV {a : O} {x : Q} (h : Cel a.g x 0 := by assumption) : RV (.a a.g) (.a x 7) := .a _ _ _ a.g_len.symm h
theorem oA {a : O} {x : Q} (h : Cel a.g x 0 := by assumption) : RVs [.a a.g] [.a x 7] := .cons _ _ _ _ (oV h) .nil
theorem oR {U : CombU} {P : VRes → List Bx → Prop} {a : O} {v : V} {K : Q → Om} (k : ∀ q, Cel a.g q 0 → Sat U (K q) P) (h : RV (.a a.g) v := by assumption) : Sat U (U.uA 7 v K) P := sAR h a.g_len k
end Go.Proofs.YtccafnaghnbpeaaGreatDoor
