/- Limbs of nine digits: no program in sight. -/
import Derived.Test.YtffaodopiifbkaaGreatDoorCP
import Derived.Lib.ItoaNum
set_option linter.all false
namespace LQ
def B9 : Nat := 1000000000
def lms (n : Nat) : List Nat := if h : n = 0 then [] else n % B9 :: lms (n / B9)
termination_by n
decreasing_by exact Nat.div_lt_self (Nat.pos_of_ne_zero h) (by decide)
def lval : List Nat → Nat
 | [] => 0
 | d :: t => d + B9 * lval t
def LB (l : List Nat) : Prop := ∀ d ∈ l, d < B9
theorem lms_zero : lms 0 = [] := by rw [lms]; simp
theorem lms_pos {n : Nat} (h : n ≠ 0) : lms n = n % B9 :: lms (n / B9) := by rw [lms, dif_neg h]
theorem lval_lms (n : Nat) : lval (lms n) = n := by
 induction n using Nat.strongRecOn with
 | _ n ih =>
  by_cases h : n = 0
  ·subst h; rw [lms_zero]; rfl
  ·rw [lms_pos h, lval, ih (n / B9) (Nat.div_lt_self (Nat.pos_of_ne_zero h) (by decide))]
   unfold B9; omega
theorem lms_LB (n : Nat) : LB (lms n) := by
 induction n using Nat.strongRecOn with
 | _ n ih =>
  by_cases h : n = 0
  ·subst h; rw [lms_zero]; intro d hd; simp at hd
  ·rw [lms_pos h]; intro d hd; simp at hd
   rcases hd with rfl | hd
   ·exact Nat.mod_lt _ (by decide)
   ·exact ih (n / B9) (Nat.div_lt_self (Nat.pos_of_ne_zero h) (by decide)) d hd
theorem lms_cons {d m : Nat} (hd : d < B9) (h : d ≠ 0 ∨ m ≠ 0) : lms (d + B9 * m) = d :: lms m := by
 unfold B9 at hd
 rw [lms_pos (by unfold B9; omega)]; congr 1
 ·unfold B9; omega
 ·congr 1; unfold B9; omega
theorem lval_append (a b : List Nat) : lval (a ++ b) = lval a + B9 ^ a.length * lval b := by
 induction a with
 | nil => simp [lval]
 | cons d t ih => simp only [List.cons_append, lval, ih, List.length_cons, Nat.pow_succ]; rw [Nat.mul_add, ← Nat.mul_assoc, Nat.mul_comm (B9 ^ t.length) B9]; omega
theorem lms_snoc (t : List Nat) (d : Nat) (h9 : LB (t ++ [d])) (hd : d ≠ 0) : lms (lval (t ++ [d])) = t ++ [d] := by
 induction t with
 | nil =>
  have : d < B9 := h9 d (by simp)
  simp only [List.nil_append, lval]
  rw [lms_cons this (.inl hd), lms_zero]
 | cons x t ih =>
  simp only [List.cons_append, lval]
  rw [lms_cons (h9 x (by simp)), ih (fun y hy => h9 y (by simp at hy ⊢; exact .inr hy))]
  refine .inr fun h0 => hd ?_
  have h2 := lval_append t [d]
  rw [h0] at h2
  simp only [lval] at h2
  have h3 : 0 < B9 ^ t.length := Nat.pow_pos (by decide)
  rw [Nat.mul_zero, Nat.add_zero] at h2
  have h4 : B9 ^ t.length * d = 0 := by omega
  rcases Nat.mul_eq_zero.1 h4 with h | h <;> omega
theorem trimN_lms (l : List Nat) (h9 : LB l) (n : Nat) (hn : n ≤ l.length) : l.take (trimN l n) = lms (lval (l.take n)) := by
 induction n with
 | zero => simp [trimN, lval, lms_zero]
 | succ n ih =>
  have hlt : n < l.length := by omega
  have htk : l.take (n + 1) = l.take n ++ [l.getD n 0] := by
   rw [List.take_succ_eq_append_getElem hlt]; simp [List.getD, hlt]
  simp only [trimN]
  split
  ·rename_i h0
   rw [ih (by omega), htk, h0, lval_append]
   simp [lval]
  ·rename_i h0
   rw [htk, lms_snoc _ _ _ h0]
   intro d hd
   rw [← htk] at hd
   exact h9 d (List.mem_of_mem_take hd)
theorem trimL_lms (l : List Nat) (h9 : LB l) : trimL l = lms (lval l) := by
 unfold trimL; rw [trimN_lms l h9 l.length (Nat.le_refl _), List.take_length]
theorem lval_lt (l : List Nat) (h9 : LB l) : lval l < B9 ^ l.length := by
 induction l with
 | nil => simp [lval]
 | cons d t ih =>
  have h1 := ih (fun x hx => h9 x (by simp [hx]))
  have h2 : d < B9 := h9 d (by simp)
  simp only [lval, List.length_cons, Nat.pow_succ]
  unfold B9 at *
  omega
theorem lms_ge (n : Nat) (h : n ≠ 0) : B9 ^ ((lms n).length - 1) ≤ n := by
 induction n using Nat.strongRecOn with
 | _ n ih =>
  rw [lms_pos h]
  simp only [List.length_cons, Nat.add_sub_cancel]
  by_cases h1 : n / B9 = 0
  ·rw [h1, lms_zero]; simp; omega
  ·have := ih (n / B9) (Nat.div_lt_self (Nat.pos_of_ne_zero h) (by decide)) h1
   have h2 : (lms (n / B9)).length ≠ 0 := by rw [lms_pos h1]; simp
   have h3 : B9 ^ (lms (n / B9)).length = B9 * B9 ^ ((lms (n / B9)).length - 1) := by
    rw [← Nat.pow_succ']; congr 1; omega
   rw [h3]
   have h4 := Nat.mul_le_mul_left B9 this
   have h5 : B9 * (n / B9) ≤ n := Nat.mul_div_le n B9
   omega
theorem ordFrom_lval (a b : List Nat) (ha : LB a) (hb : LB b) (n : Nat) (hna : n ≤ a.length) (hnb : n ≤ b.length) :
  ordFrom a b n = if lval (a.take n) < lval (b.take n) then -1 else if lval (b.take n) < lval (a.take n) then 1 else 0 := by
 induction n with
 | zero => simp [ordFrom, lval]
 | succ n ih =>
  have hla : n < a.length := by omega
  have hlb : n < b.length := by omega
  have e1 : a.take (n + 1) = a.take n ++ [a.getD n 0] := by rw [List.take_succ_eq_append_getElem hla]; simp [List.getD, hla]
  have e2 : b.take (n + 1) = b.take n ++ [b.getD n 0] := by rw [List.take_succ_eq_append_getElem hlb]; simp [List.getD, hlb]
  have v1 := lval_append (a.take n) [a.getD n 0]
  have v2 := lval_append (b.take n) [b.getD n 0]
  have l1 : (a.take n).length = n := by simp; omega
  have l2 : (b.take n).length = n := by simp; omega
  have b1 := lval_lt (a.take n) (fun d hd => ha d (List.mem_of_mem_take hd))
  have b2 := lval_lt (b.take n) (fun d hd => hb d (List.mem_of_mem_take hd))
  rw [l1] at v1 b1
  rw [l2] at v2 b2
  simp only [lval, Nat.mul_zero, Nat.add_zero] at v1 v2
  rw [e1, e2, v1, v2]
  simp only [ordFrom]
  rw [ih (by omega) (by omega)]
  generalize a.getD n 0 = x at *
  generalize b.getD n 0 = y at *
  generalize lval (a.take n) = p at *
  generalize lval (b.take n) = q at *
  generalize B9 ^ n = P at *
  by_cases h1 : x < y
  ·have : P * (x + 1) ≤ P * y := Nat.mul_le_mul_left P h1
   rw [Nat.mul_add, Nat.mul_one] at this
   rw [if_pos h1, if_pos (by omega)]
  ·rw [if_neg h1]
   by_cases h2 : y < x
   ·have : P * (y + 1) ≤ P * x := Nat.mul_le_mul_left P h2
    rw [Nat.mul_add, Nat.mul_one] at this
    rw [if_pos h2, if_neg (by omega), if_pos (by omega)]
   ·rw [if_neg h2]
    have h3 : x = y := by omega
    subst h3
    simp only [Nat.add_lt_add_iff_right]
theorem ordL_lms (x y : Nat) : ordL (lms x) (lms y) = if x < y then -1 else if y < x then 1 else 0 := by
 unfold ordL
 split
 ·rename_i h
  rw [ordFrom_lval _ _ (lms_LB x) (lms_LB y) _ (Nat.le_refl _) (by omega), List.take_length, h, List.take_length, lval_lms, lval_lms]
 ·rename_i h
  have b1 := lval_lt (lms x) (lms_LB x)
  have b2 := lval_lt (lms y) (lms_LB y)
  rw [lval_lms] at b1 b2
  split
  ·rename_i h2
   have hy : y ≠ 0 := by intro e; rw [e, lms_zero] at h2; simp at h2
   have g2 := lms_ge y hy
   have : B9 ^ (lms x).length ≤ B9 ^ ((lms y).length - 1) := Nat.pow_le_pow_right (by decide) (by omega)
   rw [if_pos (by omega)]
  ·rename_i h2
   have hx : x ≠ 0 := by intro e; rw [e, lms_zero] at h h2; simp only [List.length_nil] at h h2; omega
   have g1 := lms_ge x hx
   have : B9 ^ (lms y).length ≤ B9 ^ ((lms x).length - 1) := Nat.pow_le_pow_right (by decide) (by omega)
   rw [if_neg (by omega), if_pos (by omega)]
theorem lms_inj {a b : Nat} (h : lms a = lms b) : a = b := by rw [← lval_lms a, h, lval_lms]
theorem lms_len {n k : Nat} (h : n < B9 ^ k) : (lms n).length ≤ k := by
 by_cases h0 : n = 0
 ·subst h0; simp [lms_zero]
 ·have h1 := lms_ge n h0
  by_cases h2 : (lms n).length ≤ k
  ·exact h2
  ·have : B9 ^ k ≤ B9 ^ ((lms n).length - 1) := Nat.pow_le_pow_right (by decide) (by omega)
   omega
theorem lms_step (x r : Nat) (hx : x < B9) : trimL (x :: lms r) = lms (x + B9 * r) := by
 rw [trimL_lms]
 ·simp only [lval, lval_lms]
 ·intro d hd
  rcases List.mem_cons.1 hd with rfl | hd
  ·exact hx
  ·exact lms_LB r d hd
end LQ
namespace LQ
theorem lval_getD (l : List Nat) (i : Nat) (h : i < l.length) : lval (l.drop i) = l.getD i 0 + B9 * lval (l.drop (i + 1)) := by
 rw [List.drop_eq_getElem_cons h]; simp [lval, List.getD, h]
theorem lval_take_succ (l : List Nat) (i : Nat) (h : i < l.length) : lval (l.take (i + 1)) = lval (l.take i) + B9 ^ i * l.getD i 0 := by
 have e : l.take (i + 1) = l.take i ++ [l.getD i 0] := by rw [List.take_succ_eq_append_getElem h]; simp [List.getD, h]
 rw [e, lval_append]
 have : (l.take i).length = i := by simp; omega
 rw [this]; simp [lval]
theorem lval_set (l : List Nat) (i x : Nat) (h : i < l.length) : lval (l.set i x) + B9 ^ i * l.getD i 0 = lval l + B9 ^ i * x := by
 induction l generalizing i with
 | nil => simp at h
 | cons d t ih =>
  cases i with
  | zero => simp [lval, List.getD]; omega
  | succ i =>
   have := ih i (by simpa using h)
   simp only [List.set_cons_succ, lval, Nat.pow_succ, List.getD_cons_succ]
   have e1 : B9 ^ i * B9 * t.getD i 0 = B9 * (B9 ^ i * t.getD i 0) := by rw [Nat.mul_comm (B9 ^ i) B9, Nat.mul_assoc]
   have e2 : B9 ^ i * B9 * x = B9 * (B9 ^ i * x) := by rw [Nat.mul_comm (B9 ^ i) B9, Nat.mul_assoc]
   rw [e1, e2]
   have e3 : B9 * (lval (t.set i x) + B9 ^ i * t.getD i 0) = B9 * (lval t + B9 ^ i * x) := by rw [this]
   rw [Nat.mul_add, Nat.mul_add] at e3
   omega
theorem LB_set {l : List Nat} (h : LB l) (i x : Nat) (hx : x < B9) : LB (l.set i x) := fun d hd => by
 rcases List.mem_or_eq_of_mem_set hd with h1 | rfl
 ·exact h d h1
 ·exact hx
theorem LB_getD {l : List Nat} (h : LB l) (i : Nat) : l.getD i 0 < B9 := by
 by_cases hi : i < l.length
 ·simp only [List.getD, List.getElem?_eq_getElem hi, Option.getD_some]; exact h _ (List.getElem_mem hi)
 ·simp only [List.getD, List.getElem?_eq_none (Nat.le_of_not_lt hi), Option.getD_none]; decide
theorem lval_zeros (n : Nat) : lval (List.replicate n 0) = 0 := by
 induction n with
 | zero => rfl
 | succ n ih => simp [List.replicate_succ, lval, ih]
def nat10 (s : Str) : Nat := natFrom s 0 0
theorem natFrom_app (a b : Str) (k acc : Nat) (hk : k ≤ a.length) : natFrom (a ++ b) k acc = natFrom b 0 (natFrom a k acc) := by
 fun_induction natFrom a k acc with
 | case1 k acc h ih =>
  rw [natFrom, if_pos (by simp; omega), ← ih (by omega)]
  congr 2
  have : bt (a ++ b) k = bt a k := by unfold bt; simp [List.getD, List.getElem?_append_left h]
  rw [this]
 | case2 k acc h =>
  have hk' : k = a.length := by omega
  subst hk'
  clear h hk
  have : ∀ (j acc : Nat), natFrom (a ++ b) (a.length + j) acc = natFrom b j acc := by
   intro j acc
   fun_induction natFrom b j acc with
   | case1 j acc h ih =>
    rw [natFrom, if_pos (by simp; omega), ← ih, Nat.add_assoc]
    congr 2
    have : bt (a ++ b) (a.length + j) = bt b j := by unfold bt; simp only [List.getD]; rw [List.getElem?_append_right (Nat.le_add_right _ _), Nat.add_sub_cancel_left]
    rw [this]
   | case2 j acc h => rw [natFrom, if_neg (by simp; omega)]
  exact this 0 acc
theorem nat10_app (a b : Str) : nat10 (a ++ b) = nat10 a * 10 ^ b.length + nat10 b := by
 unfold nat10
 rw [natFrom_app a b 0 0 (Nat.zero_le _), natFrom_acc b 0 _ (Nat.zero_le _)]; simp
theorem nat10_cons (c : UInt8) (s : Str) : nat10 (c :: s) = (bt [c] 0 - 48).toNat * 10 ^ s.length + nat10 s := by
 rw [show c :: s = [c] ++ s from rfl, nat10_app]
 congr 2
 unfold nat10
 rw [natFrom, if_pos (by simp), natFrom, if_neg (by simp)]; omega
theorem nat10_lt (s : Str) (h : ∀ j, j < s.length → 48 ≤ bt s j ∧ bt s j ≤ 57) : nat10 s < 10 ^ s.length := by
 induction s with
 | nil => unfold nat10; rw [natFrom, if_neg (by simp)]; simp
 | cons c s ih =>
  rw [nat10_cons, List.length_cons, Nat.pow_succ]
  have h0 := h 0 (by simp)
  have e : bt [c] 0 = bt (c :: s) 0 := rfl
  have := ih fun j hj => by have := h (j + 1) (by simpa using hj); rwa [bt_cons] at this
  have h1 : (bt [c] 0 - 48).toNat ≤ 9 := by rw [e]; omega
  have := Nat.mul_le_mul_right (10 ^ s.length) h1
  omega
end LQ
namespace LQ
theorem dgs_text (s : Str) (e k : Nat) (hk : k ≤ s.length) (h : ∀ j, e ≤ j → j < k → 48 ≤ bt s j ∧ bt s j ≤ 57) :
  (dgsFrom s e k []).reverse.map (fun d => UInt8.ofNat (48 + d)) = (s.take k).drop e := by
 induction k with
 | zero => simp [dgsFrom]
 | succ k ih =>
  by_cases he : e ≤ k
  ·rw [dgs_cons s e k he, List.reverse_cons, List.map_append, ih (by omega) (fun j h1 h2 => h j h1 (by omega))]
   have hlt : k < s.length := by omega
   rw [List.take_succ_eq_append_getElem hlt, List.drop_append_of_le_length (by simp; omega)]
   congr 1
   have := h k he (by omega)
   have hb : bt s k = (s[k].toNat : Int) := by unfold bt; simp [List.getD, List.getElem?_eq_getElem hlt]
   rw [hb] at this ⊢
   simp only [List.map_cons, List.map_nil, List.cons.injEq, and_true]
   apply UInt8.toNat_inj.1
   rw [UInt8.toNat_ofNat']
   have := s[k].toNat_lt
   omega
  ·rw [dgsFrom, if_neg he, List.drop_eq_nil_of_le (by simp; omega)]; rfl
theorem dec_parts {s : Str} (h1 : decOk s = true) (h2 : s ≠ zeroStr) : signLen s < s.length ∧ bt s (signLen s) ≠ 48 ∧ (∀ j, signLen s ≤ j → j < s.length → 48 ≤ bt s j ∧ bt s j ≤ 57) ∧
  dgsFrom s (signLen s) s.length [] = digs (decVal s).natAbs ∧ (decVal s).natAbs ≠ 0 ∧ (signLen s = 1 ↔ decVal s < 0) := by
 have h3 : signLen s < s.length ∧ bt s (signLen s) ≠ 48 ∧ digEnd s (signLen s) = s.length := by
  simp [decOk, h2] at h1; exact ⟨h1.1.1, h1.1.2, h1.2⟩
 have hall : ∀ j, signLen s ≤ j → j < s.length → 48 ≤ bt s j ∧ bt s j ≤ 57 := fun j a b => digEnd_all s (signLen s) j a (by omega)
 have e := digS_eq s
 unfold digS at e
 rw [if_pos ⟨h1, h2⟩] at e
 injection e with e1 e2
 obtain ⟨t, ht⟩ := dgs_snoc s (signLen s) s.length h3.1
 refine ⟨h3.1, h3.2.1, hall, e2, fun h0 => ?_, by simpa using e1⟩
 rw [h0, digs_zero, ht] at e2
 simp at e2
theorem sign_text {s : Str} (h : signLen s = 1) : s = 45 :: s.drop 1 := by
 unfold signLen at h
 split at h
 ·rename_i hh
  cases s with
  | nil => simp at hh
  | cons c s =>
   have : (c.toNat : Int) = 45 := hh.2
   simp only [List.drop_succ_cons, List.drop_zero, List.cons.injEq, and_true]
   exact UInt8.toNat_inj.1 (by show c.toNat = 45; omega)
 ·omega
theorem show_dec {s : Str} (h : decOk s = true) : showInt (decVal s) = s := by
 by_cases h2 : s = zeroStr
 ·subst h2; rw [decVal_zero]; decide
 ·obtain ⟨q1, q2, q3, q4, q5, q6⟩ := dec_parts h h2
  have ht := dgs_text s (signLen s) s.length (Nat.le_refl _) q3
  rw [q4, List.take_length] at ht
  have e : showNat (decVal s).natAbs = s.drop (signLen s) := by unfold showNat; rw [if_neg q5]; exact ht
  unfold showInt
  rw [e]
  by_cases hs : signLen s = 1
  ·rw [if_pos (q6.1 hs), hs]; exact (sign_text hs).symm
  ·rw [if_neg (fun k => hs (q6.2 k))]
   have : signLen s = 0 := by have := signLen_le s; omega
   rw [this]; rfl
theorem decOk_showNat (n : Nat) : decOk (showNat n) = true := by
 by_cases h : n = 0
 ·subst h; decide
 ·obtain ⟨h1, h2, h3⟩ := showNat_all n h
  have hsg0 : signLen (showNat n) = 0 := by unfold signLen; rw [if_neg]; have := h1 0 (Nat.le_refl _) h3; omega
  unfold decOk
  rw [hsg0, digEnd_full _ 0 (Nat.zero_le _) h1]
  simp [h2]; right; omega
def decS (s : Str) : Str := if decOk s then s else zeroStr
theorem decS_show (s : Str) : decS s = showInt (decVal s) := by
 unfold decS
 split
 ·rename_i h; exact (show_dec h).symm
 ·rename_i h
  have : decVal s = 0 := by unfold decVal; rw [if_neg h]
  rw [this]; decide
theorem showInt_nat (n : Nat) : showInt (n : Int) = showNat n := by unfold showInt; rw [if_neg (by omega)]; rfl
def negS (s : Str) : Str := showInt (-decVal s)
theorem reduceS_int (a b : Int) (hb : 0 < b) : reduceS (showInt a) (showInt b) = (showInt (a / (Nat.gcd a.natAbs b.natAbs : Int)), showInt (b / (Nat.gcd a.natAbs b.natAbs : Int))) := by
 unfold reduceS
 rw [decVal_showInt, decVal_showInt, if_neg (by omega)]
 simp only []
 have hg : 0 < Nat.gcd a.natAbs b.natAbs := Nat.gcd_pos_of_pos_right _ (by omega)
 have hd1 := Nat.gcd_dvd_left a.natAbs b.natAbs
 have hd2 := Nat.gcd_dvd_right a.natAbs b.natAbs
 generalize Nat.gcd a.natAbs b.natAbs = g at *
 have e2 : b / (g : Int) = ((b.natAbs / g : Nat) : Int) := by
  conv => lhs; rw [show b = (b.natAbs : Int) by omega]
  rfl
 have e1 : a / (g : Int) = (if (a < 0) = (b < 0) then 1 else -1) * ((a.natAbs / g : Nat) : Int) := by
  obtain ⟨k, hk⟩ := hd1
  rw [hk, Nat.mul_div_cancel_left _ hg]
  by_cases h : a < 0
  ·rw [if_neg (by simp [h]; omega)]
   have : a = (g : Int) * (-(k : Int)) := by
    have : ((a.natAbs : Nat) : Int) = (g : Int) * (k : Int) := by rw [hk]; simp
    rw [Int.mul_neg]; omega
   rw [this, Int.mul_ediv_cancel_left _ (by omega)]; omega
  ·rw [if_pos (by simp [h]; omega)]
   have : a = (g : Int) * (k : Int) := by
    have : ((a.natAbs : Nat) : Int) = (g : Int) * (k : Int) := by rw [hk]; simp
    omega
   rw [this, Int.mul_ediv_cancel_left _ (by omega)]; omega
 rw [e1, e2, showInt_nat]
end LQ
namespace LQ
def At (s : Str) (i : Nat) (w r : Str) : Prop := s.drop i = w ++ r
theorem At.bt {s w r : Str} {i j : Nat} (h : At s i w r) (hj : j < w.length) : LQ.bt s (i + j) = LQ.bt w j := by
 unfold LQ.bt
 have : s[i + j]? = w[j]? := by rw [← List.getElem?_drop, h, List.getElem?_append_left hj]
 simp only [List.getD, this]
theorem At.btr {s w r : Str} {i j : Nat} (h : At s i w r) : LQ.bt s (i + w.length + j) = LQ.bt r j := by
 unfold LQ.bt
 have : s[i + w.length + j]? = r[j]? := by rw [Nat.add_assoc, ← List.getElem?_drop, h, List.getElem?_append_right (Nat.le_add_right _ _), Nat.add_sub_cancel_left]
 simp only [List.getD, this]
def Del (r : Str) : Prop := r = [] ∨ bt r 0 = 32 ∨ bt r 0 = 41 ∨ bt r 0 = 10
def ints (l : Str) : List Int := l.map fun b => (b.toNat : Int)
theorem nums_ints (l : Str) : nums (ints l) = l := by
 unfold nums ints
 rw [List.map_map]
 conv => rhs; rw [← List.map_id l]
 exact List.map_congr_left fun b _ => by simp
theorem skip_ge {s : Str} {i j : Nat} (hi : i ≤ s.length) (h : skip s i = some j) : i ≤ j ∧ j ≤ s.length := by
 fun_induction skip s i with
 | case1 i h1 h2 ih => have := ih (by omega) h; omega
 | case2 i h1 h2 h3 h4 ih => have := lineEnd_le s i (by omega); have := ih (by omega) h; omega
 | case3 i h1 h2 h3 h4 => injection h with h; omega
 | case4 i h1 h2 h3 h4 h5 => cases h
 | case5 i h1 h2 h3 h4 j' h5 h6 ih => have := has_lt h4; have := comEnd_le s (i + 2) 1 j' (by omega) h5; have := ih (by omega) h; omega
 | case6 i h1 h2 h3 h4 j' h5 h6 => injection h with h; omega
 | case7 i h1 h2 h3 h4 => injection h with h; omega
 | case8 i h1 => injection h with h; omega
theorem encl_gt {s : Str} {c : Int} {i : Nat} {acc l : List Int} {j : Nat} (h : encl s c i acc = .ok (l, j)) : i < j ∧ j ≤ s.length := by
 fun_induction encl s c i acc with
 | case1 i acc h1 h2 => injection h with h; injection h with h3 h4; omega
 | case2 i acc h1 h2 h3 ih => have := ih h; omega
 | case3 => cases h
 | case4 i acc h1 h2 h3 h4 h5 ih => have := ih h; omega
 | case5 => cases h
 | case6 => cases h
theorem tokOne_gt {s : Str} {i k : Nat} {t : Tok} (hi : i < s.length) (h : tokOne s i = .ok (t, k)) : i < k ∧ k ≤ s.length := by
 unfold tokOne at h
 repeat' split at h
 all_goals try (cases h; done)
 all_goals try (injection h with h; injection h with h1 h2; subst h2; omega)
 all_goals try (rename_i h0 _; have := encl_gt h0; injection h with h; injection h with h1 h2; subst h2; omega)
 ·rename_i hc _
  have hw := wordEnd_le s i (by omega)
  have hw2 : i < wordEnd s i := by rw [wordEnd, if_pos hi, if_pos hc]; have := wordEnd_le s (i + 1) (by omega); omega
  unfold qualTok at h
  repeat' split at h
  all_goals try (cases h; done)
  all_goals try (rename_i h0 _; have := encl_gt h0; injection h with h; injection h with h1 h2; subst h2; omega)
  all_goals (simp only [] at h; split at h; all_goals try (cases h; done)
             all_goals (injection h with h; injection h with h1 h2; have := wordEnd_le s (wordEnd s i + 2) (by omega); subst h2; omega))
 ·rename_i hc _
  have hw := wordEnd_le s i (by omega)
  have hw2 : i < wordEnd s i := by rw [wordEnd, if_pos hi, if_pos hc]; have := wordEnd_le s (i + 1) (by omega); omega
  unfold wordTok at h
  repeat' split at h
  all_goals try (cases h; done)
  all_goals try (simp only [] at h; split at h)
  all_goals try (cases h; done)
  all_goals (injection h with h; injection h with h1 h2; subst h2; omega)
theorem toks_eq {s : Str} {i : Nat} {acc : List Tok} (hi : i ≤ s.length) : toksFrom s i acc = match skip s i with
  | none => .error (11, s.length)
  | some j => if j < s.length then match tokOne s j with
   | .error e => .error e
   | .ok (t, k) => toksFrom s k (acc ++ [t])
   else .ok (acc ++ [⟨0, s.length, noStr, noStr, noStr⟩]) := by
 rw [toksFrom]
 cases hs : skip s i with
 | none => rfl
 | some j =>
  have h1 := skip_ge hi hs
  simp only
  by_cases hj : j < s.length
  ·rw [if_pos hj, if_pos hj]
   cases ht : tokOne s j with
   | error e => rfl
   | ok p =>
    have h2 := tokOne_gt (t := p.1) (k := p.2) hj ht
    simp only
    rw [if_pos (by omega)]
  ·rw [if_neg hj, if_neg hj]
end LQ
namespace LQ
def allD (w : Str) : Prop := ∀ j, j < w.length → 48 ≤ bt w j ∧ bt w j ≤ 57
theorem allD_showNat (n : Nat) : allD (showNat n) := by
 by_cases h : n = 0
 ·subst h; intro j hj; have : j = 0 := by simp [showNat, zeroStr] at hj; omega
  subst this; decide
 ·exact fun j hj => (showNat_all n h).1 j (Nat.zero_le _) hj
theorem showNat_ne (n : Nat) : showNat n ≠ [] := by
 by_cases h : n = 0
 ·subst h; decide
 ·intro e; have := (showNat_all n h).2.2; rw [e] at this; simp at this
theorem showNat_pos (n : Nat) : 0 < (showNat n).length := List.length_pos_iff.2 (showNat_ne n)
theorem digEnd_at {s w r : Str} {i : Nat} (h : At s i w r) (hw : allD w) (hr : r = [] ∨ ¬ (48 ≤ bt r 0 ∧ bt r 0 ≤ 57)) : digEnd s i = i + w.length := by
 have key : ∀ n j, w.length - j = n → j ≤ w.length → digEnd s (i + j) = i + w.length := by
  intro n
  induction n with
  | zero =>
   intro j hj hle
   have : j = w.length := by omega
   subst this
   rw [digEnd]
   split
   ·rename_i hlt
    have hb := h.btr (j := 0)
    rw [Nat.add_zero] at hb
    rcases hr with hr | hr
    ·exfalso
     subst hr
     have := congrArg List.length h
     simp at this; omega
    ·rw [if_neg]; rw [hb]; simp [isDig]; omega
   ·rfl
  | succ n ih =>
   intro j hj hle
   have hlt : i + j < s.length := by
    have := congrArg List.length h
    simp at this; omega
   have := hw j (by omega)
   rw [digEnd, if_pos hlt, if_pos (by rw [h.bt (by omega)]; simp [isDig]; omega), Nat.add_assoc]
   exact ih (j + 1) (by omega) (by omega)
 exact key _ 0 rfl (Nat.zero_le _)
def sgn (n : Int) : Str := if n < 0 then [45] else []
theorem showInt_eq (n : Int) : showInt n = sgn n ++ showNat n.natAbs := by unfold showInt sgn; split <;> rfl
theorem signLen_app (n : Int) (d : Nat) (r : Str) : signLen (sgn n ++ (showNat d ++ r)) = (sgn n).length := by
 unfold sgn
 split
 ·unfold signLen; rw [if_pos ⟨by simp, rfl⟩]; rfl
 ·unfold signLen
  rw [if_neg]; · rfl
  intro h
  have h0 := (allD_showNat d) 0 (showNat_pos d)
  have : bt ([] ++ (showNat d ++ r)) 0 = bt (showNat d) 0 := by
   have h1 : At (showNat d ++ r) 0 (showNat d) r := rfl
   have := h1.bt (j := 0) (showNat_pos d)
   simpa using this
  rw [this] at h
  omega
theorem digitsS_nat (n : Nat) : digitsS (showNat n) = (showNat n).length := by
 unfold digitsS
 rw [decVal_showNat, Int.natAbs_natCast]
 by_cases h : n = 0
 ·subst h; simp [digs_zero, showNat, zeroStr]
 ·rw [← showNat_size n h]; have := showNat_pos n; omega
theorem digitsS_int (n : Int) : digitsS (showInt n) = (showNat n.natAbs).length := by
 have := digitsS_nat n.natAbs
 unfold digitsS at this ⊢
 rw [decVal_showNat, Int.natAbs_natCast] at this
 rw [decVal_showInt, this]
theorem reduceS_low (n : Int) (d : Nat) (hd : 0 < d) (hg : Nat.gcd n.natAbs d = 1) : reduceS (showInt n) (showNat d) = (showInt n, showNat d) := by
 have := reduceS_int n d (by omega)
 rw [Int.natAbs_natCast, hg] at this
 rw [← showInt_nat, this]; simp
theorem bt_app (u v : Str) (j : Nat) : bt (u ++ v) j = if j < u.length then bt u j else bt v (j - u.length) := by
 unfold bt
 split
 ·rename_i h; simp only [List.getD, List.getElem?_append_left h]
 ·rename_i h; simp only [List.getD, List.getElem?_append_right (Nat.le_of_not_lt h)]
end LQ
namespace LQ
theorem tokOne_c {s : Str} {i : Nat} (hc : constit (bt s i) = true) : tokOne s i = if has s (wordEnd s i) 58 58 then qualTok s i (((s.take ((wordEnd s i))).drop (i))) (wordEnd s i) else wordTok i (((s.take ((wordEnd s i))).drop (i))) (wordEnd s i) := by
 have h : 33 ≤ bt s i ∧ bt s i ≤ 126 ∧ bt s i ≠ 40 ∧ bt s i ≠ 41 ∧ bt s i ≠ 39 ∧ bt s i ≠ 34 ∧ bt s i ≠ 59 ∧ bt s i ≠ 124 ∧ bt s i ≠ 58 := by simpa [constit] using hc
 unfold tokOne
 rw [if_neg (by omega), if_neg (by omega), if_neg (by omega), if_neg (by omega), if_neg (by omega), if_pos hc]
end LQ
namespace LQ
structure Pre (s t : Str) : Prop where
 le : s.length ≤ t.length
 bt : ∀ i, i < s.length → bt t i = bt s i
 pos : 0 < s.length
 last : LQ.bt s (s.length - 1) = 32
 tk : t.take s.length = s
theorem pre_of (s u : Str) : Pre (s ++ [32]) (s ++ [32] ++ u) := by
 refine ⟨by simp, fun i hi => ?_, by simp, ?_, List.take_left⟩
 ·rw [bt_app (s ++ [32]) u, if_pos hi]
 ·rw [bt_app]; simp; rfl
section
variable {s t : Str} (P : Pre s t)
include P
theorem Pre.has {i : Nat} {a b : Int} (hi : i < s.length) (ha : a ≠ 32) : has t i a b = has s i a b := by
 unfold LQ.has
 by_cases h : i + 1 < s.length
 ·rw [P.bt i hi, P.bt (i + 1) h]
  have := P.le
  simp only [h, show i + 1 < t.length by omega]
 ·have e : i = s.length - 1 := by omega
  have := P.last
  rw [← e] at this
  rw [P.bt i hi, this]
  simp [Ne.symm ha, h]
theorem Pre.word {i : Nat} (hi : i < s.length) : wordEnd t i = wordEnd s i ∧ wordEnd s i < s.length := by
 generalize hm : s.length - i = m
 induction m generalizing i with
 | zero => omega
 | succ m ih =>
  have := P.le
  rw [wordEnd, if_pos (by omega), wordEnd.eq_def s, if_pos hi, P.bt i hi]
  by_cases hc : constit (LQ.bt s i) = true
  ·rw [if_pos hc, if_pos hc]
   have hne : i ≠ s.length - 1 := fun e => by rw [e, P.last] at hc; exact absurd hc (by decide)
   exact ih (by omega) (by omega)
  ·rw [if_neg hc, if_neg hc]; exact ⟨rfl, hi⟩
theorem Pre.sub {i k : Nat} (hk : k ≤ s.length) : (t.take k).drop i = (s.take k).drop i := by
 have : t.take k = s.take k := by
  conv => rhs; rw [← P.tk]
  rw [List.take_take, Nat.min_eq_left hk]
 rw [this]
theorem Pre.line {i : Nat} (hi : i ≤ s.length) (h : lineEnd s i < s.length) : lineEnd t i = lineEnd s i := by
 generalize hm : s.length - i = m
 induction m generalizing i with
 | zero =>
  have : i = s.length := by omega
  subst this
  rw [lineEnd, if_neg (by omega)] at h; omega
 | succ m ih =>
  have := P.le
  have hlt : i < s.length := by omega
  rw [lineEnd, if_pos hlt] at h
  rw [lineEnd, if_pos (by omega), lineEnd.eq_def s, if_pos hlt, P.bt i hlt]
  by_cases hc : LQ.bt s i = 10
  ·rw [if_pos hc, if_pos hc]
  ·rw [if_neg hc] at h
   rw [if_neg hc, if_neg hc]
   exact ih (by omega) h (by omega)
theorem Pre.com {i d j : Nat} (hi : i ≤ s.length) (hd : 0 < d) (h : comEnd s i d = some j) : comEnd t i d = some j ∧ j < s.length := by
 generalize hm : s.length - i = m
 induction m using Nat.strongRecOn generalizing i d with
 | _ m ih =>
  have := P.le
  rw [comEnd, if_neg (by omega)] at h
  split at h
  ·rename_i hlt
   rw [comEnd, if_neg (by omega), if_pos (by omega), P.has hlt (by decide), P.has hlt (by decide)]
   split at h
   ·rename_i hh
    have := has_lt hh
    rw [if_pos hh]
    exact ih _ (by omega) (by omega) (by omega) h rfl
   ·rename_i hh
    rw [if_neg hh]
    split at h
    ·rename_i h2
     have := has_lt h2
     rw [if_pos h2]
     by_cases hd1 : d = 1
     ·subst hd1
      rw [comEnd, if_pos rfl] at h
      injection h with h
      subst h
      refine ⟨by rw [comEnd, if_pos rfl], ?_⟩
      rcases Nat.lt_or_ge (i + 2) s.length with h3 | h3
      ·exact h3
      ·exfalso
       have hl := P.last
       rw [show s.length - 1 = i + 1 by omega] at hl
       simp [LQ.has] at h2
       omega
     ·exact ih _ (by omega) (by omega) (by omega) h rfl
    ·rename_i h2
     rw [if_neg h2]
     exact ih _ (by omega) (by omega) hd h rfl
  ·cases h
theorem Pre.skip {i j : Nat} (hi : i ≤ s.length) (h : LQ.skip s i = some j) (hj : j < s.length) : LQ.skip t i = some j := by
 generalize hm : s.length - i = m
 induction m using Nat.strongRecOn generalizing i with
 | _ m ih =>
  have hle := P.le
  by_cases hlt : i < s.length
  ·by_cases hb : isBlank (LQ.bt s i) = true
   ·rw [skip_blank hlt hb] at h
    rw [skip_blank (by omega) (by rw [P.bt i hlt]; exact hb)]
    exact ih _ (by omega) (by omega) h rfl
   ·have hb' : isBlank (LQ.bt s i) = false := by simpa using hb
    by_cases h9 : LQ.bt s i = 59
    ·rw [skip_line hlt hb' h9] at h
     have hl := lineEnd_lt s i hlt (by omega)
     have hl2 := lineEnd_le s i (by omega)
     have hl3 : lineEnd s i < s.length := by
      rcases Nat.lt_or_ge (lineEnd s i) s.length with h1 | h1
      ·exact h1
      ·rw [skip_end (by omega)] at h; injection h with h; omega
     rw [skip_line (by omega) (by rw [P.bt i hlt]; exact hb') (by rw [P.bt i hlt]; exact h9), P.line (by omega) hl3]
     exact ih _ (by omega) (by omega) h rfl
    ·by_cases hh : LQ.has s i 35 124 = true
     ·have hlt2 := has_lt hh
      cases hc : comEnd s (i + 2) 1 with
      | none => rw [skip_open hlt hb' h9 hh hc] at h; cases h
      | some k =>
       rw [skip_com hlt hb' h9 hh hc] at h
       have hk := comEnd_le s (i + 2) 1 k (by omega) hc
       obtain ⟨hc2, _⟩ := P.com (by omega) (by decide) hc
       rw [skip_com (by omega) (by rw [P.bt i hlt]; exact hb') (by rw [P.bt i hlt]; exact h9) (by rw [P.has hlt (by decide)]; exact hh) hc2]
       exact ih _ (by omega) (by omega) h rfl
     ·have hh' : LQ.has s i 35 124 = false := by simpa using hh
      rw [skip_stop hlt hb' h9 hh'] at h
      rw [skip_stop (by omega) (by rw [P.bt i hlt]; exact hb') (by rw [P.bt i hlt]; exact h9) (by rw [P.has hlt (by decide)]; exact hh')]
      exact h
  ·rw [skip_end hlt] at h; injection h with h; omega
theorem Pre.encl {c : Int} {i : Nat} {acc : List Int} (h : ∀ p, LQ.encl s c i acc ≠ .error (11, p)) : LQ.encl t c i acc = LQ.encl s c i acc := by
 generalize hm : s.length - i = m
 induction m using Nat.strongRecOn generalizing i acc with
 | _ m ih =>
  have hle := P.le
  by_cases hlt : i < s.length
  ·rw [LQ.encl.eq_def s, if_pos hlt] at h ⊢
   rw [LQ.encl, if_pos (by omega), P.bt i hlt]
   by_cases h1 : LQ.bt s i = c
   ·rw [if_pos h1, if_pos h1]
   ·rw [if_neg h1] at h ⊢
    rw [if_neg h1]
    by_cases h2 : LQ.bt s i ≠ 92
    ·rw [if_pos h2] at h ⊢
     rw [if_pos h2]
     exact ih _ (by omega) h rfl
    ·rw [if_neg h2] at h ⊢
     rw [if_neg h2]
     by_cases h3 : i + 1 < s.length
     ·rw [if_pos h3] at h ⊢
      rw [if_pos (by omega), P.bt (i + 1) h3]
      by_cases h4 : LQ.bt s (i + 1) ≠ c ∧ LQ.bt s (i + 1) ≠ 92
      ·rw [if_pos h4, if_pos h4]
      ·rw [if_neg h4] at h ⊢
       rw [if_neg h4]
       exact ih _ (by omega) h rfl
     ·rw [if_neg h3] at h
      exact absurd rfl (h _)
  ·rw [LQ.encl, if_neg hlt] at h
   exact absurd rfl (h _)
theorem Pre.tok {i : Nat} (hi : i < s.length) (h : ∀ p, tokOne s i ≠ .error (11, p)) : tokOne t i = tokOne s i := by
 have hle := P.le
 have hw := P.word hi
 have hq : (if LQ.has s (wordEnd s i) 58 58 then qualTok s i (((s.take ((wordEnd s i))).drop (i))) (wordEnd s i) else wordTok i (((s.take ((wordEnd s i))).drop (i))) (wordEnd s i)) = tokOne s i → constit (LQ.bt s i) = true →
   (if LQ.has t (wordEnd t i) 58 58 then qualTok t i (((t.take ((wordEnd t i))).drop (i))) (wordEnd t i) else wordTok i (((t.take ((wordEnd t i))).drop (i))) (wordEnd t i)) = tokOne s i := by
  intro e _
  rw [hw.1, P.has hw.2 (by decide), P.sub (Nat.le_of_lt hw.2), ← e]
  split
  ·rename_i hh
   rw [if_pos hh] at e
   unfold qualTok at e ⊢
   have h2 := has_lt hh
   by_cases h3 : wordEnd s i + 2 < s.length
   ·rw [if_pos h3] at e ⊢
    rw [if_pos (by omega), P.bt _ h3]
    split
    ·rename_i h4
     rw [if_pos h4] at e
     have he : ∀ p, LQ.encl s 124 (wordEnd s i + 2 + 1) [] ≠ .error (11, p) := fun p hp => by rw [hp] at e; exact h p e.symm
     rw [P.encl he]
    ·split
     ·rename_i h5
      have hw2 := P.word h3
      simp only []
      rw [hw2.1, P.sub (Nat.le_of_lt hw2.2)]
     ·rfl
   ·rw [if_neg h3] at e
    exact absurd e.symm (h _)
  ·rfl
 unfold tokOne at h ⊢
 rw [P.bt i hi]
 split
 ·rfl
 split
 ·rfl
 split
 ·rfl
 split
 ·rename_i h1 h2 h3 h4
  rw [if_neg h1, if_neg h2, if_neg h3, if_pos h4] at h
  have he : ∀ p, LQ.encl s 34 (i + 1) [] ≠ .error (11, p) := fun p hp => by rw [hp] at h; exact h p rfl
  rw [P.encl he]
 split
 ·rename_i h1 h2 h3 h4 h5
  rw [if_neg h1, if_neg h2, if_neg h3, if_neg h4, if_pos h5] at h
  have he : ∀ p, LQ.encl s 124 (i + 1) [] ≠ .error (11, p) := fun p hp => by rw [hp] at h; exact h p rfl
  rw [P.encl he]
 split
 ·rename_i h1 h2 h3 h4 h5 h6
  have := hq (by rw [tokOne_c h6]) h6
  rw [tokOne_c h6] at this
  exact this
 ·rfl
theorem Pre.toks {i : Nat} {acc : List Tok} {c : Int} {p : Nat} (hi : i ≤ s.length) (h : toksFrom s i acc = .error (c, p)) (hc : c ≠ 11) : toksFrom t i acc = .error (c, p) := by
 have hle := P.le
 generalize hm : s.length - i = m
 induction m using Nat.strongRecOn generalizing i acc with
 | _ m ih =>
  rw [toks_eq hi] at h
  rw [toks_eq (by omega)]
  cases hs : LQ.skip s i with
  | none => rw [hs] at h; injection h with h; injection h with h1 h2; exact absurd h1.symm hc
  | some j =>
   have hj := skip_ge hi hs
   rw [hs] at h
   simp only at h
   by_cases hlt : j < s.length
   ·rw [if_pos hlt] at h
    rw [P.skip hi hs hlt]
    simp only
    rw [if_pos (by omega)]
    have h11 : ∀ q, tokOne s j ≠ .error (11, q) := fun q hq => by rw [hq] at h; injection h with h; injection h with h1 h2; exact hc h1.symm
    rw [P.tok hlt h11]
    cases ht : tokOne s j with
    | error e => rw [ht] at h; exact h
    | ok x =>
     obtain ⟨tk, k⟩ := x
     rw [ht] at h
     have hk := tokOne_gt hlt ht
     exact ih _ (by omega) (by omega) h rfl
   ·rw [if_neg hlt] at h; cases h
end
theorem encl_err {s : Str} {c : Int} {i : Nat} {acc : List Int} {e p} (hi : i ≤ s.length) (h : encl s c i acc = .error (e, p)) : p ≤ s.length := by
 fun_induction encl s c i acc with
 | case1 => cases h
 | case2 i acc h1 h2 h3 ih => exact ih (by omega) h
 | case3 i acc h1 h2 h3 h4 h5 => injection h with h; injection h with h1 h2; omega
 | case4 i acc h1 h2 h3 h4 h5 ih => exact ih (by omega) h
 | case5 => injection h with h; injection h with h1 h2; omega
 | case6 => injection h with h; injection h with h1 h2; omega
theorem tokOne_err {s : Str} {i : Nat} {e p} (hi : i < s.length) (h : tokOne s i = .error (e, p)) : p ≤ s.length := by
 unfold tokOne at h
 repeat' split at h
 all_goals try (cases h; done)
 all_goals try (injection h with h; injection h with h1 h2; omega)
 all_goals try (rename_i h0; injection h with h; subst h; exact encl_err (by omega) h0)
 ·have hw := wordEnd_le s i (by omega)
  unfold qualTok at h
  repeat' split at h
  all_goals try (cases h; done)
  all_goals try (injection h with h; injection h with h1 h2; omega)
  all_goals try (rename_i h0; injection h with h; subst h; exact encl_err (by omega) h0)
  all_goals (simp only [] at h; split at h; all_goals first | (cases h; done) | (injection h with h; injection h with h1 h2; omega))
 ·unfold wordTok at h
  repeat' split at h
  all_goals try (cases h; done)
  all_goals try (simp only [] at h; split at h)
  all_goals try (cases h; done)
  all_goals (injection h with h; injection h with h1 h2; omega)
theorem toks_err {s : Str} {i : Nat} {acc : List Tok} {e p} (hi : i ≤ s.length) (h : toksFrom s i acc = .error (e, p)) : p ≤ s.length := by
 generalize hm : s.length - i = m
 induction m using Nat.strongRecOn generalizing i acc with
 | _ m ih =>
  rw [toks_eq hi] at h
  cases hs : skip s i with
  | none => rw [hs] at h; injection h with h; injection h with h1 h2; omega
  | some j =>
   have hj := skip_ge hi hs
   rw [hs] at h
   simp only at h
   by_cases hlt : j < s.length
   ·rw [if_pos hlt] at h
    cases ht : tokOne s j with
    | error x => rw [ht] at h; injection h with h; subst h; exact tokOne_err hlt ht
    | ok x =>
     obtain ⟨tk, k⟩ := x
     rw [ht] at h
     have hk := tokOne_gt hlt ht
     exact ih _ (by omega) (by omega) h rfl
   ·rw [if_neg hlt] at h; cases h
theorem tokens_prefix {s u : Str} {e : Int} {p : Nat} (hl : (s ++ [32] ++ u).length ≤ 6000) (h : tokens (s ++ [32]) = .error (e, p)) : p ≤ s.length + 1 ∧ (e ≠ 11 → tokens (s ++ [32] ++ u) = .error (e, p)) := by
 have hl2 : (s ++ [32]).length ≤ 6000 := by simp at hl ⊢; omega
 unfold tokens at h
 rw [if_neg (by omega)] at h
 constructor
 ·have := toks_err (Nat.zero_le _) h; simpa using this
 ·intro he
  unfold tokens
  rw [if_neg (by omega)]
  exact (pre_of s u).toks (Nat.zero_le _) h he
end LQ
namespace LQ
open Go
theorem decDigits_showNat : ∀ n : Nat, Lib.decDigits n = showNat n := by
 intro n
 induction n using Nat.strongRecOn with
 | _ n ih =>
  unfold Lib.decDigits
  by_cases h : n < 10
  ·simp only [h, dite_true, if_true]
   by_cases h0 : n = 0
   ·subst h0; rfl
   ·unfold showNat
    rw [if_neg h0, digs_pos h0, show n / 10 = 0 by omega, digs_zero, Nat.mod_eq_of_lt h]
    rfl
  ·simp only [h, dite_false, if_false]
   rw [ih (n / 10) (by omega)]
   have h1 : ¬ n / 10 = 0 := by omega
   have h0 : ¬ n = 0 := by omega
   unfold showNat
   rw [if_neg h1, if_neg h0, digs_pos h0, List.reverse_cons, List.map_append]
   rfl
theorem itoa_showNat (n : Nat) : Lib.itoa (n : Int) = showNat n := by
 unfold Lib.itoa
 rw [if_neg (by omega), decDigits_showNat, show ((n : Int)).toNat = n by omega]
theorem digs_short {n k : Nat} (h : n < 10 ^ k) : (digs n).length ≤ k := by
 induction k generalizing n with
 | zero => rw [show n = 0 by simpa using h, digs_zero]; simp
 | succ k ih =>
  by_cases h0 : n = 0
  ·rw [h0, digs_zero]; simp
  ·rw [digs_pos h0, List.length_cons]
   have := ih (n := n / 10) (by rw [Nat.pow_succ] at h; omega)
   omega
theorem digs_split {m : Nat} (hm : m ≠ 0) : ∀ (k d : Nat), d < 10 ^ k → digs (d + 10 ^ k * m) = digs d ++ (List.replicate (k - (digs d).length) 0 ++ digs m)
 | 0, d, h => by
  have : d = 0 := by simpa using h
  subst this
  simp [digs_zero]
 | k + 1, d, h => by
  have h' : d / 10 < 10 ^ k := by rw [Nat.pow_succ] at h; omega
  have e1 : d + 10 ^ (k + 1) * m = d + 10 * (10 ^ k * m) := by rw [Nat.pow_succ, Nat.mul_comm (10 ^ k) 10, Nat.mul_assoc]
  have hp : 0 < 10 ^ k * m := Nat.mul_pos (Nat.pow_pos (by decide)) (Nat.pos_of_ne_zero hm)
  rw [e1, digs_pos (by omega), show (d + 10 * (10 ^ k * m)) % 10 = d % 10 by omega, show (d + 10 * (10 ^ k * m)) / 10 = d / 10 + 10 ^ k * m by omega, digs_split hm k (d / 10) h']
  by_cases h0 : d = 0
  ·subst h0; simp [digs_zero, List.replicate_succ]
  ·rw [digs_pos h0, List.length_cons, List.cons_append, show k + 1 - ((digs (d / 10)).length + 1) = k - (digs (d / 10)).length by omega]
theorem showNat_len9 {n : Nat} (h : n < 1000000000) : (showNat n).length ≤ 9 := by
 by_cases h0 : n = 0
 ·subst h0; decide
 ·unfold showNat; rw [if_neg h0]; simpa using digs_short (k := 9) h
theorem showNat_split {m d : Nat} (hm : m ≠ 0) (hd : d < 1000000000) : showNat (d + B9 * m) = showNat m ++ (List.replicate (9 - (showNat d).length) 48 ++ showNat d) := by
 have hB : B9 = 10 ^ 9 := rfl
 have hp : 0 < B9 * m := Nat.mul_pos (by decide) (Nat.pos_of_ne_zero hm)
 have e : showNat (d + B9 * m) = (digs (d + 10 ^ 9 * m)).reverse.map (fun d => UInt8.ofNat (48 + d)) := by unfold showNat; rw [if_neg (by omega), hB]
 rw [e, digs_split hm 9 d hd]
 have e2 : showNat m = (digs m).reverse.map (fun d => UInt8.ofNat (48 + d)) := by unfold showNat; rw [if_neg hm]
 rw [e2]
 simp only [List.reverse_append, List.map_append, List.reverse_replicate, List.map_replicate]
 by_cases h0 : d = 0
 ·subst h0; rw [digs_zero]; simp; decide
 ·have e3 : showNat d = (digs d).reverse.map (fun d => UInt8.ofNat (48 + d)) := by unfold showNat; rw [if_neg h0]
  rw [e3]; simp
end LQ
