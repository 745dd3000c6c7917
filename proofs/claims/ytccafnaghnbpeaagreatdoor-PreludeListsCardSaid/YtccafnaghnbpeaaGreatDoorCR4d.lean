/- The reference's numbers: products. -/
import Derived.Test.YtccafnaghnbpeaaGreatDoorCR4c
set_option linter.all false
namespace Go.Proofs.YtccafnaghnbpeaaGreatDoor
open Go.Abs LQ
set_option maxRecDepth 100000
set_option maxHeartbeats 4000000
noncomputable section
theorem sfWrMN {U : CombU} {P : VRes → List Bx → Prop} {a b : Nat} {K : Int → Om} (h1 : a * b < 9223372036854775808) (h : Sat U (K ((a * b : Nat) : Int)) P) : Sat U (U.fI (U.wr .i64 (U.iMul (a : Int) (b : Int))) K) P := by
 have e : ((a * b : Nat) : Int) = (a : Int) * b := Int.natCast_mul a b
 exact sfWrM (by rw [← e]; omega) (by rw [← e]; exact h)
theorem val_set : ∀ {l : List Nat} {k : Nat} (v : Nat), k < l.length → val (l.set k v) + l.getD k 0 * 10 ^ k = val l + v * 10 ^ k
 | [], k, v, h => by simp at h
 | d :: t, 0, v, h => by simp [val]; omega
 | d :: t, k + 1, v, h => by
  have := val_set (l := t) (k := k) v (by simpa using h)
  have e1 : (d :: t).getD (k + 1) 0 = t.getD k 0 := by simp [List.getD]
  rw [e1, List.set_cons_succ, val, val, Nat.pow_succ]
  have e2 : t.getD k 0 * (10 ^ k * 10) = 10 * (t.getD k 0 * 10 ^ k) := by rw [← Nat.mul_assoc, Nat.mul_comm]
  have e3 : v * (10 ^ k * 10) = 10 * (v * 10 ^ k) := by rw [← Nat.mul_assoc, Nat.mul_comm]
  rw [e2, e3]; omega
theorem val_take {l : List Nat} {k : Nat} (h : k < l.length) : val (l.take (k + 1)) = val (l.take k) + l.getD k 0 * 10 ^ k := by
 rw [List.take_add_one, List.getElem?_eq_getElem h, getD_i' h]
 simp only [Option.toList_some]
 rw [val_append, List.length_take, Nat.min_eq_left (by omega)]
 simp [val, Nat.mul_comm]
theorem mul_step {o c ab q r P V V' : Nat} (hs : o + c + ab = 10 * q + r) (hv : V' + o * P = V + r * P) : V' + q * (10 * P) = V + c * P + ab * P := by
 have h := congrArg (· * P) hs
 simp only [Nat.add_mul] at h
 have e : q * (10 * P) = 10 * q * P := by rw [← Nat.mul_assoc, Nat.mul_comm q 10]
 omega
theorem val_rep0 (n : Nat) : val (List.replicate n 0) = 0 := by
 induction n with
 | zero => rfl
 | succ n ih => rw [List.replicate_succ, val, ih]
def spTimes : Sp where
 ι := { p : Nat × Nat // (digs p.1).length < 40000 ∧ (digs p.2).length < 40000 }
 A p := [.sl 1 ((digs p.1.1).map dg), .sl 1 ((digs p.1.2).map dg)]
 B _ := []
 R p := .ret (.sl 1 ((digs (p.1.1 * p.1.2)).map dg))
 B' _ := []
 inj i j vs bs h k _ _ := by
  obtain ⟨_, _, h1, k1, h, k⟩ := h.two k
  obtain ⟨_, _, h2, k2, h, k⟩ := h.two k
  have e1 := congrArg val (mapdg_inj (h1.sl_inj k1))
  have e2 := congrArg val (mapdg_inj (h2.sl_inj k2))
  rw [val_digs, val_digs] at e1 e2
  rw [e1, e2]; exact ⟨rfl, rfl⟩
theorem kTimes : Know 218 spTimes := know (fun fn h => r218_ok h) [(69, _)] (.cons kTrim .nil) fun U fn hfn ⟨(x, y), hx, hy⟩ vs bs hv hb => by
 have hr := hfn 69 _ rfl
 have hx : (digs x).length < 40000 := hx
 have hy : (digs y).length < 40000 := hy
 have hv : RVs [.sl 1 ((digs x).map dg), .sl 1 ((digs y).map dg)] vs := hv
 have hb : RBs [] bs := hb
 show Sat U _ fun v bs' => RRes (.ret (.sl 1 ((digs (x * y)).map dg))) v ∧ RBs [] bs'
 have h9x := digs_le x
 have h9y := digs_le y
 have hvx := val_digs x
 have hvy := val_digs y
 obtain ⟨a, ea⟩ : ∃ a, a = digs x := ⟨_, rfl⟩
 obtain ⟨b, eb⟩ : ∃ b, b = digs y := ⟨_, rfl⟩
 rw [← ea] at hx hv h9x hvx
 rw [← eb] at hy hv h9y hvy
 unfold r218
 (refine Zx ?_;with_reducible repeat' first|intro _|apply aI)
 have hL : ((a.length : Int) + b.length + 1).toNat = a.length + b.length + 1 := by omega
 rw [hL]
 refine sZT (fun _ => row1 (.i _ _)) rfl (by omega) fun t0 ht0 => ?_
 have ht0 : Rws 1 ((List.replicate (a.length + b.length + 1) 0).map dg) t0 0 := by have := ht0; simpa [dg] using this
 generalize hLe : a.length + b.length + 1 = L at *
 (refine Zx ?_;with_reducible repeat' first|intro _|apply aI)
 refine sLp (fun (i : Nat) vs bs => ∃ (t : Tre Q) (off : Nat) (t' : Tre Q) (off' : Nat) (to : Tre Q) (o : List Nat), vs = [.slice t 1 off a.length .no, .slice t' 1 off' b.length .no, .bslice 0 L, .int .i64 i] ∧ bs = [.row to L] ∧ i ≤ a.length ∧ Rws 1 (a.map dg) t off ∧ Rws 1 (b.map dg) t' off' ∧ Rws 1 (o.map dg) to 0 ∧ o.length = L ∧ D9 o ∧
  (∀ k, i + b.length ≤ k → o.getD k 0 = 0) ∧ val o = val (a.take i) * y) (fun i => a.length - i) 0
  ⟨_, _, _, _, _, _, rfl, rfl, by omega, by assumption, by assumption, ht0, by simp, by intro d hd; simp at hd; omega, fun k _ => rep0 _ k, by rw [val_rep0]; simp [val]⟩ (by simp only [FUEL]; omega) ?_
 rintro self i _ _ ⟨t, off, t', off', to, o, rfl, rfl, hi, ht, ht', hto, hol, ho9, ho0, hov⟩ ih
 (refine Zx ?_;with_reducible repeat' first|intro _|apply aI)
 ·have ha9 := D9.at h9x i
  have hta := val_take (l := a) (k := i) (by omega)
  generalize hai : a.getD i 0 = ai at *
  refine sLp (fun (j : Nat) vs bs => ∃ (t : Tre Q) (off : Nat) (t' : Tre Q) (off' : Nat) (to : Tre Q) (p : List Nat) (c : Nat), vs = [.slice t 1 off a.length .no, .slice t' 1 off' b.length .no, .bslice 0 L, .int .i64 i, .int .i64 c, .int .i64 j] ∧ bs = [.row to L] ∧ Rws 1 (a.map dg) t off ∧ Rws 1 (b.map dg) t' off' ∧ Rws 1 (p.map dg) to 0 ∧ p.length = L ∧ D9 p ∧
   c ≤ 9 ∧ j ≤ b.length + 1 ∧ (j = b.length + 1 → c = 0) ∧ (∀ k, i + b.length + 1 ≤ k → p.getD k 0 = 0) ∧ (j ≤ b.length → p.getD (i + b.length) 0 = 0) ∧
   val p + c * 10 ^ (i + j) = val o + ai * val (b.take j) * 10 ^ i) (fun j => b.length + 2 - j) 0
   ⟨_, _, _, _, _, o, 0, rfl, rfl, ht, ht', hto, hol, ho9, by omega, by omega, by omega, fun k hk => ho0 k (by omega), fun _ => ho0 _ (by omega), by simp [val]⟩ (by simp only [FUEL]; omega) ?_
  rintro self2 j _ _ ⟨t, off, t', off', to, p, c, rfl, rfl, ht, ht', hto, hpl, hp9, hc, hj, hj1, hp0, hpb, hpv⟩ ih2
  (refine Zx ?_;with_reducible repeat' first|intro _|apply aI)
  ·have hk : ((i : Int) + j).toNat * 1 = i + j := by omega
   rw [hk]
   have hp9' := D9.at hp9 (i + j)
   have e1 : a[i] = ai := by rw [getD_i (by omega)]; exact hai
   have e2 : b[j] = b.getD j 0 := getD_i (by omega)
   have hb9' := D9.at h9y j
   have hm : a[i] * b[j] ≤ 9 * 9 := Nat.mul_le_mul (by omega) (by omega)
   refine sfTk (g := .i .i64 (p.getD (i + j) 0 : Nat)) hto (by rw [List.getElem?_map, List.getElem?_eq_getElem (by omega), getD_i' (by omega)]; rfl) fun _ _ => ?_
   (refine Zx ?_;with_reducible repeat' first|intro _|apply aI)
   all_goals try (exfalso; omega)
   refine sfWrMN (by omega) ?_
   generalize hab : a[i] * b[j] = ab at *
   (refine Zx ?_;with_reducible repeat' first|intro _|apply aI)
   generalize hS : p.getD (i + j) 0 + c + ab = S at *
   refine sfRemN (n := S) (m := 10) (by omega) rfl ?_
   (refine Zx ?_;with_reducible repeat' first|intro _|apply aI)
   rw [hk]
   refine sST0 hto (fun _ => row1 (.i _ _)) rfl (by simp; omega) (by omega) fun _ ht2 => ?_
   rw [mapdg_set _ _ _ rfl] at ht2
   (refine Zx ?_;with_reducible repeat' first|intro _|apply aI)
   refine sfWrQN (n := S) (m := 10) (by omega) rfl (by omega) ?_
   (refine Zx ?_;with_reducible repeat' first|intro _|apply aI)
   refine ih2 (j + 1) _ _ ⟨_, _, _, _, _, p.set (i + j) (S % 10), S / 10, rfl, rfl, ht, ht', ht2, by simp; omega, D9_set hp9 _ (by omega), by omega, by omega, by omega, fun k hk => by rw [getD_set_ne (by omega)]; exact hp0 k hk, fun h => by rw [getD_set_ne (by omega)]; exact hpb (by omega), ?_⟩ (by omega)
   have hs := val_set (l := p) (k := i + j) (S % 10) (by omega)
   have ms := mul_step (q := S / 10) (P := 10 ^ (i + j)) (c := c) (ab := ab) (by omega) hs
   rw [show i + (j + 1) = (i + j) + 1 by omega, Nat.pow_succ, Nat.mul_comm (10 ^ (i + j)) 10, ms, hpv, val_take (l := b) (by omega), ← hab, e1, e2]
   simp only [Nat.mul_add, Nat.add_mul, Nat.pow_add]
   have : ai * (b.getD j 0 * 10 ^ j) * 10 ^ i = ai * b.getD j 0 * (10 ^ i * 10 ^ j) := by ac_rfl
   omega
  ·have hjl : j = b.length := by omega
   have hk : ((i : Int) + j).toNat * 1 = i + j := by omega
   rw [hk]
   have hp0' : p.getD (i + j) 0 = 0 := by rw [hjl]; exact hpb (by omega)
   refine sfTk (g := .i .i64 (p.getD (i + j) 0 : Nat)) hto (by rw [List.getElem?_map, List.getElem?_eq_getElem (by omega), getD_i' (by omega)]; rfl) fun _ _ => ?_
   (refine Zx ?_;with_reducible repeat' first|intro _|apply aI)
   all_goals try (exfalso; omega)
   refine sfRemN (n := c) (m := 10) (by omega) rfl ?_
   (refine Zx ?_;with_reducible repeat' first|intro _|apply aI)
   rw [hk]
   refine sST0 hto (fun _ => row1 (.i _ _)) rfl (by simp; omega) (by omega) fun _ ht2 => ?_
   rw [mapdg_set _ _ _ rfl] at ht2
   (refine Zx ?_;with_reducible repeat' first|intro _|apply aI)
   refine sfWrQN (n := c) (m := 10) (by omega) rfl (by omega) ?_
   (refine Zx ?_;with_reducible repeat' first|intro _|apply aI)
   refine ih2 (j + 1) _ _ ⟨_, _, _, _, _, p.set (i + j) (c % 10), c / 10, rfl, rfl, ht, ht', ht2, by simp; omega, D9_set hp9 _ (by omega), by omega, by omega, by omega, fun k hk => by rw [getD_set_ne (by omega)]; exact hp0 k hk, fun h => by omega, ?_⟩ (by omega)
   have hs := val_set (l := p) (k := i + j) (c % 10) (by omega)
   have ms := mul_step (q := c / 10) (P := 10 ^ (i + j)) (c := c) (ab := 0) (by omega) hs
   rw [show i + (j + 1) = (i + j) + 1 by omega, Nat.pow_succ, Nat.mul_comm (10 ^ (i + j)) 10, ms, hpv, List.take_of_length_le (by omega : b.length ≤ j), List.take_of_length_le (by omega : b.length ≤ j + 1)]
   omega
  ·have hc0 : c = 0 := by omega
   subst hc0
   refine ih (i + 1) _ _ ⟨_, _, _, _, _, p, rfl, rfl, by omega, ht, ht', hto, hpl, hp9, fun k hk => hp0 k (by omega), ?_⟩ (by omega)
   rw [Nat.zero_mul, Nat.add_zero, List.take_of_length_le (by omega : b.length ≤ j), hvy] at hpv
   rw [hpv, hov, hta, Nat.add_mul]
   have : ai * y * 10 ^ i = ai * 10 ^ i * y := by ac_rfl
   omega
 ·have e : trimL o = digs (x * y) := by rw [trimL_digs o ho9, hov, List.take_of_length_le (by omega), hvx]
  refine sCall hr ⟨o, by omega⟩ (r := .sl 1 ((digs (x * y)).map dg)) (by rw [← e]; rfl) (.cons _ _ _ _ (.sl _ _ _ _ _ (by simp; omega) hto) .nil) .nil fun _ _ _ _ => ?_
  (refine Zx ?_;with_reducible repeat' first|intro _|apply aI)
  exact sRet ⟨.ret _ _ Zrv, .nil⟩
end
end Go.Proofs.YtccafnaghnbpeaaGreatDoor
