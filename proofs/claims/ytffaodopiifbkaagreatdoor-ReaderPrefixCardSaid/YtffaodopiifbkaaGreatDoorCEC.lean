/- The program's numbers: products. -/
import Derived.Test.YtffaodopiifbkaaGreatDoorCEB
set_option linter.all false
namespace Go.Proofs.YtffaodopiifbkaaGreatDoor
open Go.Abs LQ
set_option maxRecDepth 100000
set_option maxHeartbeats 4000000
noncomputable section
section
variable {U : CombU} {P : VRes → List Bx → Prop}
theorem sfU64A {a b m : Int} {K : Int → Om} (he : a + b = m) (hr : 0 ≤ m ∧ m < 18446744073709551616) (h : Sat U (K m) P) : Sat U (U.fI (U.wr .u64 (U.iAdd a b)) K) P := fun e' => by
 have := h e'; subst e'; rw [CUfI]
 show ∃ v bs, K (wr .u64 (iAdd a b)) = some (v, bs) ∧ P v bs
 rw [iAdd_eq, he, wr_u64 hr.1 hr.2]; exact this
theorem sfU64M {a b m : Int} {K : Int → Om} (he : a * b = m) (hr : 0 ≤ m ∧ m < 18446744073709551616) (h : Sat U (K m) P) : Sat U (U.fI (U.wr .u64 (U.iMul a b)) K) P := fun e' => by
 have := h e'; subst e'; rw [CUfI]
 show ∃ v bs, K (wr .u64 (iMul a b)) = some (v, bs) ∧ P v bs
 rw [iMul_eq, he, wr_u64 hr.1 hr.2]; exact this
theorem sfU64Q {n m : Nat} {K : Int → Om} (hn : n < 18446744073709551616) (h : Sat U (K ((n / m : Nat) : Int)) P) : Sat U (U.fI (U.wr .u64 (U.iQuo (n : Int) (m : Int))) K) P := fun e' => by
 have := h e'; subst e'; rw [CUfI]
 show ∃ v bs, K (wr .u64 (iQuo (n : Int) (m : Int))) = some (v, bs) ∧ P v bs
 have hd := Nat.div_le_self n m
 rw [iQuo_eq, show (n : Int).tdiv m = ((n / m : Nat) : Int) from (Int.ofNat_tdiv n m).symm, wr_u64 (Int.natCast_nonneg _) (by omega)]; exact this
theorem sQV {x : Q} {K : Q → Om} (h : Sat U (K x) P) : Sat U (U.uQ (.q x) K) P := fun e => by have := h e; subst e; exact this
end
theorem lval_take_le (l : List Nat) (n : Nat) : lval (l.take n) ≤ lval l := by
 have h := lval_append (l.take n) (l.drop n)
 rw [List.take_append_drop] at h; omega
theorem getD_zero {l : List Nat} {k : Nat} (h : lval l < B9 ^ k) : l.getD k 0 = 0 := by
 have h1 := lval_take_le l (k + 1)
 rw [lval_take_succ'] at h1
 rcases Nat.eq_zero_or_pos (l.getD k 0) with h2 | h2
 ·exact h2
 ·have := Nat.le_mul_of_pos_right (B9 ^ k) h2
  omega
theorem mul_lt9 {x y : Nat} (hx : x < 1000000000) (hy : y < 1000000000) : x * y ≤ 999999998000000001 :=
 Nat.le_trans (Nat.mul_le_mul (show x ≤ 999999999 by omega) (show y ≤ 999999999 by omega)) (by decide)
theorem times_step {out b : List Nat} {i j c x L : Nat} (hj : i + j < out.length) (he : lval out + B9 ^ (i + j) * c = L + B9 ^ i * x * lval (b.take j)) :
  lval (out.set (i + j) ((out.getD (i + j) 0 + x * b.getD j 0 + c) % 1000000000)) + B9 ^ (i + (j + 1)) * ((out.getD (i + j) 0 + x * b.getD j 0 + c) / 1000000000) = L + B9 ^ i * x * lval (b.take (j + 1)) := by
 have h := lval_set out (i + j) ((out.getD (i + j) 0 + x * b.getD j 0 + c) % 1000000000) hj
 rw [lval_take_succ' b, Nat.mul_add, show i + (j + 1) = (i + j) + 1 by omega, Nat.pow_succ]
 have hd := Nat.div_add_mod (out.getD (i + j) 0 + x * b.getD j 0 + c) 1000000000
 have h2 := congrArg (B9 ^ (i + j) * ·) hd
 simp only [Nat.mul_add] at h2
 rw [show B9 ^ i * x * (B9 ^ j * b.getD j 0) = B9 ^ (i + j) * (x * b.getD j 0) by rw [Nat.pow_add]; ac_rfl, show B9 ^ (i + j) * B9 * ((out.getD (i + j) 0 + x * b.getD j 0 + c) / 1000000000) = B9 ^ (i + j) * (1000000000 * ((out.getD (i + j) 0 + x * b.getD j 0 + c) / 1000000000)) by rw [Nat.mul_assoc]; rfl]
 omega
theorem times_row {out a b : List Nat} {i c : Nat} (hi : i + b.length < out.length) (hz : out.getD (i + b.length) 0 = 0) (he : lval out + B9 ^ (i + b.length) * c = lval (a.take i) * lval b + B9 ^ i * a.getD i 0 * lval (b.take b.length)) :
  lval (out.set (i + b.length) c) = lval (a.take (i + 1)) * lval b := by
 have h := lval_set out (i + b.length) c hi
 rw [hz, Nat.mul_zero, Nat.add_zero] at h
 rw [List.take_of_length_le (Nat.le_refl _)] at he
 rw [lval_take_succ' a, Nat.add_mul]
 omega
theorem times_zero {out a b : List Nat} {i : Nat} (ha : LQ.LB a) (hb : LQ.LB b) (he : lval out = lval (a.take i) * lval b) (hi : i ≤ a.length) : out.getD (i + b.length) 0 = 0 := by
 refine getD_zero ?_
 have h1 := lval_lt (a.take i) (fun d hd => ha d (List.mem_of_mem_take hd))
 rw [List.length_take, Nat.min_eq_left hi] at h1
 have h2 := lval_lt b hb
 rw [he, Nat.pow_add]
 exact Nat.mul_lt_mul'' h1 h2
section
theorem timesW {U : CombU} {fn : FF} {vs : List V} {bs : List Bx} (ht : Ans fn 222 (spM fun l => .ret (.sl 1 ((trimL l).map lg)))) {a b : List Nat} (hab : a.length + b.length < 20000) (hLa : LQ.LB a) (hLb : LQ.LB b) (hv : RVs [.sl 1 (a.map lg), .sl 1 (b.map lg)] vs) (hb : RBs [] bs) :
  Sat U (r226 U fn vs bs) fun v bs' => RRes (.ret (.sl 1 (lgs (lval a * lval b)))) v ∧ RBs [] bs' := by
 unfold r226
 (refine Zx ?_;with_reducible repeat' first|intro _|apply aI)
 refine sZT (n := 1) (r := lg 0) (fun _ => row1 (.i _ _)) rfl (by omega) fun t' ht' => ?_
 (refine Zx ?_;with_reducible repeat' first|intro _|apply aI)
 refine sLp (fun (i : Nat) vs bs => ∃ (t1 : Tre Q) (o1 : Nat) (t2 : Tre Q) (o2 : Nat) (t3 : Tre Q) (out : List Nat), vs = [.slice t2 1 o2 b.length .no, .bslice 0 (a.length + b.length), .slice t1 1 o1 a.length .no, .int .i64 a.length, .int .i64 i] ∧ bs = [.row t3 (a.length + b.length)] ∧ Rws 1 (a.map lg) t1 o1 ∧ Rws 1 (b.map lg) t2 o2 ∧ Rws 1 (out.map lg) t3 0 ∧ out.length = a.length + b.length ∧ LQ.LB out ∧ i ≤ a.length ∧ lval out = lval (a.take i) * lval b) (fun i => a.length - i) 0 ?_ (by simp only [FUEL]; omega) ?_
 ·exact ⟨_, _, _, _, t', List.replicate (a.length + b.length) 0, by simp only [← Int.natCast_add, Int.toNat_natCast]; rfl, by simp only [← Int.natCast_add, Int.toNat_natCast], by assumption, by assumption, by simpa [← Int.natCast_add, List.map_replicate] using ht', by simp, LB_zeros _, by omega, by simp [lval, lval_zeros]⟩
 rintro self i _ _ ⟨t1, o1, t2, o2, t3, out, rfl, rfl, h1, h2, h3, hol, hLo, hi, he⟩ ih
 (refine Zx ?_;with_reducible repeat' first|intro _|apply aI)
 ·have hi' : i < a.length := by omega
  have q1 : a.getD i 0 < 1000000000 := LB_getD hLa i
  have hz := times_zero hLa hLb he hi
  rename_i x1 hx1 x2 hx2
  rw [gD (l := a) hi'] at hx2
  refine sLp (fun (j : Nat) vs bs => ∃ (t1 : Tre Q) (o1 : Nat) (t2 : Tre Q) (o2 : Nat) (t4 : Tre Q) (o4 : Nat) (t3 : Tre Q) (o : List Nat) (c : Nat), vs = [.slice t2 1 o2 b.length .no, .bslice 0 (a.length + b.length), .int .i64 i, .q x2, .int .u64 c, .slice t1 1 o1 a.length .no, .int .i64 a.length, .int .i64 i, .slice t4 1 o4 b.length .no, .int .i64 b.length, .int .i64 j] ∧ bs = [.row t3 (a.length + b.length)] ∧ Rws 1 (a.map lg) t1 o1 ∧ Rws 1 (b.map lg) t2 o2 ∧ Rws 1 (b.map lg) t4 o4 ∧ Rws 1 (o.map lg) t3 0 ∧ o.length = a.length + b.length ∧ LQ.LB o ∧ j ≤ b.length ∧ c < 1000000000 ∧ o.getD (i + b.length) 0 = 0 ∧ lval o + B9 ^ (i + j) * c = lval (a.take i) * lval b + B9 ^ i * a.getD i 0 * lval (b.take j)) (fun j => b.length - j) 0 ⟨t1, o1, t2, o2, t2, o2, t3, out, 0, rfl, rfl, h1, h2, h2, h3, hol, hLo, by omega, by omega, hz, by simp [lval, he]⟩ (by simp only [FUEL]; omega) ?_
  clear h1 h2 h3
  rintro self' j _ _ ⟨t1, o1, t2, o2, t4, o4, t3, o, c, rfl, rfl, h1, h2, h4, h3, hol, hLo, hj, hc, hz, he⟩ ih'
  (refine Zx ?_;with_reducible repeat' first|intro _|apply aI)
  refine sQV ?_
  (refine Zx ?_;with_reducible repeat' first|intro _|apply aI)
  ·have hj' : j < b.length := by omega
   have q2 : b.getD j 0 < 1000000000 := LB_getD hLb j
   have q3 : o.getD (i + j) 0 < 1000000000 := LB_getD hLo (i + j)
   have q4 := mul_lt9 q1 q2
   rw [show ((i : Int) + j).toNat * 1 = i + j by omega]
   refine sfTk (g := .i .u32 (o.getD (i + j) 0)) h3 (by rw [List.getElem?_map, List.getElem?_eq_getElem (by omega), gD (by omega)]; rfl) fun x98 hx98 => ?_
   refine sCI hx98 ?_
   refine sfU64 rfl (by omega) ?_
   refine sCI hx2 ?_
   refine sfU64 rfl (by omega) ?_
   (refine Zx ?_;with_reducible repeat' first|intro _|apply aI)
   rw [gD (l := b) hj']
   refine sfU64 rfl (by omega) ?_
   refine sfU64M (m := ((a.getD i 0 * b.getD j 0 : Nat) : Int)) (by rw [Int.natCast_mul]) (by omega) ?_
   refine sfU64A (m := ((o.getD (i + j) 0 + a.getD i 0 * b.getD j 0 : Nat) : Int)) (by rw [← Int.natCast_add]) (by omega) ?_
   refine sfU64A (m := ((o.getD (i + j) 0 + a.getD i 0 * b.getD j 0 + c : Nat) : Int)) (by rw [← Int.natCast_add]) (by omega) ?_
   (refine Zx ?_;with_reducible repeat' first|intro _|apply aI)
   have st := times_step (out := o) (b := b) (x := a.getD i 0) (L := lval (a.take i) * lval b) (by omega) he
   generalize hT : o.getD (i + j) 0 + a.getD i 0 * b.getD j 0 + c = T at st ⊢
   refine sfRemN (n := T) (m := 1000000000) rfl rfl ?_
   refine sfU32 (m := ((T % 1000000000 : Nat) : Int)) rfl (by omega) ?_
   (refine Zx ?_;with_reducible repeat' first|intro _|apply aI)
   refine sfU64Q (n := T) (m := 1000000000) (by omega) ?_
   (refine Zx ?_;with_reducible repeat' first|intro _|apply aI)
   refine sST0 (r := lg (T % 1000000000)) h3 (fun _ => row1 (.i _ _)) rfl (by simp; omega) (by omega) fun t9 h9 => ?_
   (refine Zx ?_;with_reducible repeat' first|intro _|apply aI)
   refine ih' (j + 1) _ _ ?_ (by omega)
   exact ⟨t1, o1, t2, o2, t4, o4, t9, o.set (i + j) (T % 1000000000), T / 1000000000, by simp, by simp, h1, h2, h4, by rw [List.map_set]; simpa [← Int.natCast_add] using h9, by simp [hol], LB_set hLo _ _ (by show _ < 1000000000; omega), by omega, by omega, by rw [getD_set_ne (by omega)]; exact hz, st⟩
  ·have ej : j = b.length := by omega
   subst ej
   refine sfU32 rfl (by omega) ?_
   (refine Zx ?_;with_reducible repeat' first|intro _|apply aI)
   refine sST0 (r := lg c) h3 (fun _ => row1 (.i _ _)) rfl (by simp; omega) (by omega) fun t9 h9 => ?_
   (refine Zx ?_;with_reducible repeat' first|intro _|apply aI)
   refine ih (i + 1) _ _ ?_ (by omega)
   exact ⟨t1, o1, t2, o2, t9, o.set (i + b.length) c, by simp, by simp, h1, h2, by rw [List.map_set]; simpa [← Int.natCast_add] using h9, by simp [hol], LB_set hLo _ _ (by show _ < 1000000000; omega), by omega, times_row (by omega) hz he⟩
 ·have em : i = a.length := by omega
  subst em
  rw [List.take_of_length_le (Nat.le_refl _)] at he
  refine sCall ht ⟨out, by show out.length < 20000; omega⟩ (r := .sl 1 (lgs (lval a * lval b))) (by rw [← he]; show GRes.ret (.sl 1 ((trimL out).map lg)) = _; rw [trimL_lms out hLo]; rfl) (.cons _ _ _ _ (.sl _ _ _ _ _ (by simp [hol]) h3) .nil) .nil fun _ _ _ _ => ?_
  (refine Zx ?_;with_reducible repeat' first|intro _|apply aI)
  exact sRet ⟨.ret _ _ (.sl _ _ _ _ _ (by simp [lgs]) (by assumption)), .nil⟩
theorem kTimesN : Know 226 (spMM (fun a b => LQ.LB a ∧ LQ.LB b ∧ a.length + b.length < 20000) fun a b => .ret (.sl 1 (lgs (lval a * lval b)))) := know (fun fn h => r226_ok h) [(222, _)] (.cons kTrimN .nil) fun U fn hfn ⟨(a, b), _, _, ha, hb', hl⟩ vs bs hv hb =>
 timesW (U := U) (hfn 222 _ rfl) (a := a) (b := b) hl ha hb' hv hb
end
end
end Go.Proofs.YtffaodopiifbkaaGreatDoor
namespace Go.Proofs.YtffaodopiifbkaaGreatDoor
open Go.Abs LQ
set_option maxRecDepth 100000
set_option maxHeartbeats 4000000
noncomputable section
section
variable {U : CombU} {P : VRes → List Bx → Prop}
theorem sFnR {g : Nat} {l cs : List V} {v : V} {K : List V → List V → Om} (hv : RV (.raw (.func (.func g) l cs)) v) (h : Sat U (K l cs) P) : Sat U (U.uFn g v K) P := fun e => by
 cases hv
 have := h e; subst e
 show ∃ v bs, cond (Nat.beq g g) (K l cs) none = some (v, bs) ∧ P v bs
 rw [Nat.beq_refl]; exact this
theorem sfQuoN {n m : Nat} {e M : Int} {K : Int → Om} (he : e = n) (hM : M = m) (h : Sat U (K ((n / m : Nat) : Int)) P) : Sat U (U.fI (U.iQuo e M) K) P := by
 subst he hM
 exact sfQuo (by rw [Int.ofNat_tdiv] at *; exact h)
theorem sFnV {g : Nat} {l cs : List V} {K : List V → List V → Om} (h : Sat U (K l cs) P) : Sat U (U.uFn g (.func (.func g) l cs) K) P := sFnR (.raw _) h
theorem sSlLg {n : Nat} {v : V} {K : Tre Q → Nat → Nat → Om} (hv : RV (.c (.l (lgs n))) v) (h : ∀ t off, Rws 1 ((lms n).map lg) t off → Sat U (K t off (lms n).length) P) : Sat U (U.uSl 1 0 v K) P :=
 sSlC hv (fun r hr => by obtain ⟨d, _, rfl⟩ := List.mem_map.1 hr; rfl) fun t off ht => by
  have := h t off ht
  rwa [show (lgs n).length = (lms n).length by simp [lgs]]
end
def clo : V := .func (.func 225) [] [.ptr 0 0, .ptr 1 0]
theorem rbLg {n : Nat} {t : Tre Q} {off k : Nat} (h : Rws 1 ((lms n).map lg) t off) (hk : k = (lms n).length) : RB [.l (lgs n)] (.cells [.slice t 1 off k .no]) := .cells _ _ (.cons _ _ _ _ (.cl _ _ _ _ _ (by simp [lgs, hk]) h) .nil)
theorem lms_lt9 {d : Nat} (h : d < 1000000000) : (lms d).length ≤ 1 := lms_len (k := 1) (by rw [Nat.pow_one]; exact h)
theorem lb1 {d : Nat} (h : d < 1000000000) : LQ.LB [d] := fun x hx => by simp at hx; subst hx; exact h
theorem lval1 (d : Nat) : lval [d] = d := by simp [lval]
theorem rws1 {d : Nat} : Rws 1 ([d].map lg) (.node (.int .u32 (d : Int)) .nil .nil) 0 := .cons _ _ _ _ _ rfl (row1 (.i _ _)).1 (fun g e => (row1 (.i _ _)).2 g e) (.nil _ _ _)
theorem lms_mul_len {y m : Nat} (h : m < 1000000000) : (lms (y * m)).length ≤ (lms y).length + 1 := by
 have h1 := lval_lt (lms y) (lms_LB y)
 rw [lval_lms] at h1
 refine lms_len ?_
 rw [Nat.pow_succ]
 exact Nat.mul_lt_mul'' h1 h
abbrev D1I := { p : (Nat × Nat) × Nat // (lms p.1.1).length < 10000 ∧ (lms p.1.2).length < 19999 ∧ p.2 < 1000000000 }
theorem rbs2_inj {a b c d : Nat} {bs : List Bx} (h : RBs [[.l (lgs a)], [.l (lgs b)]] bs) (k : RBs [[.l (lgs c)], [.l (lgs d)]] bs) : a = c ∧ b = d := by
 cases h with
 | cons _ _ b1 bs h1 h2 => cases k with
  | cons _ _ _ _ k1 k2 => cases h2 with
   | cons _ _ _ _ h2 _ => cases k2 with
    | cons _ _ _ _ k2 _ =>
     have e1 := h1.inj k1
     have e2 := h2.inj k2
     injection e1 with e1; injection e1 with e1
     injection e2 with e2; injection e2 with e2
     exact ⟨lgs_inj e1, lgs_inj e2⟩
def spD1 : Sp where
 ι := D1I
 A p := [.c (.i .i64 p.1.2), .p 0 0, .p 1 0]
 B p := [[.l (lgs p.1.1.1)], [.l (lgs p.1.1.2)]]
 R p := .ret (.c (.b (decide (p.1.1.2 < p.1.1.1 * p.1.2))))
 B' p := [[.l (lgs p.1.1.1)], [.l (lgs p.1.1.2)]]
 inj i j vs bs h k hb kb := by
  obtain ⟨e1, e2⟩ := rbs2_inj hb kb
  obtain ⟨_, _, h1, k1, h, k⟩ := h.two k
  have e3 := i_inj h1 k1
  have e3 : i.1.2 = j.1.2 := by omega
  rw [e1, e2, e3]; exact ⟨rfl, rfl⟩
def spSr : Sp where
 ι := { p : Nat × Nat // (lms p.1).length < 10000 ∧ (lms p.2).length < 19999 ∧ p.1 ≠ 0 ∧ p.2 < p.1 * 1000000000 }
 A p := [.c (.i .i64 1000000000), .raw clo]
 B p := [[.l (lgs p.1.1)], [.l (lgs p.1.2)]]
 R p := .ret (.c (.i .i64 ((p.1.2 / p.1.1 + 1 : Nat) : Int)))
 B' p := [[.l (lgs p.1.1)], [.l (lgs p.1.2)]]
 inj i j vs bs h k hb kb := by
  obtain ⟨e1, e2⟩ := rbs2_inj hb kb
  rw [e1, e2]; exact ⟨rfl, rfl⟩
section
theorem kD1 : Know 225 spD1 := know (fun fn h => r225_ok h) [(226, _), (223, _)] (.cons kTimesN (.cons kCompareN0 .nil)) fun U fn hfn ⟨((y, r), m), hy, hr, hm⟩ vs bs hv hb => by
 have hv : RVs [.c (.i .i64 (m : Int)), .p 0 0, .p 1 0] vs := hv
 have hb : RBs [[.l (lgs y)], [.l (lgs r)]] bs := hb
 have hy : (lms y).length < 10000 := hy
 have hr : (lms r).length < 19999 := hr
 have hm : m < 1000000000 := hm
 show Sat U _ fun v bs' => RRes (.ret (.c (.b (decide (r < y * m))))) v ∧ RBs [[.l (lgs y)], [.l (lgs r)]] bs'
 unfold r225
 (refine Zq ?_;with_reducible repeat' first|intro _|apply aI)
 have ht := hfn 226 _ rfl
 have hc := hfn 223 _ rfl
 refine sSlLg (by assumption) fun tb ob htb => ?_
 (refine Zq ?_;with_reducible repeat' first|intro _|apply aI)
 refine sSlLg (by assumption) fun tr or htr => ?_
 (refine Zq ?_;with_reducible repeat' first|intro _|apply aI)
 refine sfU32 rfl (by omega) ?_
 (refine Zq ?_;with_reducible repeat' first|intro _|apply aI)
 have hl := lms_mul_len (y := y) hm
 refine sCall ht ⟨(lms y, [m]), by show (lms y).length < 20000; omega, by show 1 < 20000; omega, lms_LB y, lb1 hm, by show (lms y).length + 1 < 20000; omega⟩ (r := .sl 1 (lgs (y * m))) (by show GRes.ret (.sl 1 (lgs (lval (lms y) * lval [m]))) = _; rw [lval_lms, lval1]) (.cons _ _ _ _ (.sl _ _ _ _ _ (by simp) htb) (.cons _ _ _ _ (.sl _ _ _ _ _ rfl rws1) .nil)) .nil fun _ _ _ _ => ?_
 (refine Zq ?_;with_reducible repeat' first|intro _|apply aI)
 refine sCall hc ⟨(lms (y * m), lms r), by show (lms (y * m)).length < 20000; omega, by show (lms r).length < 20000; omega, trivial⟩ (r := .c (.i .i64 (ordL (lms (y * m)) (lms r)))) rfl (.cons _ _ _ _ (.sl _ _ _ _ _ (by simp [lgs]) (by assumption)) (.cons _ _ _ _ (.sl _ _ _ _ _ (by simp) htr) .nil)) .nil fun _ _ _ _ => ?_
 (refine Zq ?_;with_reducible repeat' first|intro _|apply aI)
 refine sRetU fun e => ⟨.ret _ _ ?_, .cons _ _ _ _ (rbLg htb rfl) (.cons _ _ _ _ (rbLg htr rfl) .nil)⟩
 have eb : U.iLt 0 (ordL (lms (y * m)) (lms r)) = decide (r < y * m) := by
  subst e
  show iLt 0 (ordL (lms (y * m)) (lms r)) = _
  rw [iLt_eq, ordL_lms]
  by_cases h1 : r < y * m
  ·rw [if_neg (by omega), if_pos h1]; simp [h1]
  ·by_cases h2 : y * m < r
   ·rw [if_pos h2]; simp [h1]
   ·rw [if_neg h2, if_neg h1]; simp [h1]
 rw [eb]; exact .b _
theorem kSr : Know 224 spSr := know (fun fn h => r224_ok h) [(225, _)] (.cons kD1 .nil) fun U fn hfn ⟨(y, r), hy, hr, hy0, hr9⟩ vs bs hv hb => by
 have hv : RVs [.c (.i .i64 1000000000), .raw clo] vs := hv
 have hb : RBs [[.l (lgs y)], [.l (lgs r)]] bs := hb
 have hy : (lms y).length < 10000 := hy
 have hr : (lms r).length < 19999 := hr
 have hy0 : y ≠ 0 := hy0
 have hr9 : r < y * 1000000000 := hr9
 show Sat U _ fun v bs' => RRes (.ret (.c (.i .i64 ((r / y + 1 : Nat) : Int)))) v ∧ RBs [[.l (lgs y)], [.l (lgs r)]] bs'
 have hd := hfn 225 _ rfl
 have hq : r / y < 1000000000 := (Nat.div_lt_iff_lt_mul (by omega)).2 (by rw [Nat.mul_comm]; exact hr9)
 unfold r224
 (refine Zq ?_;with_reducible repeat' first|intro _|apply aI)
 refine sFnR (by assumption) ?_
 (refine Zq ?_;with_reducible repeat' first|intro _|apply aI)
 refine sSlLg (by assumption) fun tb ob htb => ?_
 (refine Zq ?_;with_reducible repeat' first|intro _|apply aI)
 refine sSlLg (by assumption) fun tr or htr => ?_
 (refine Zq ?_;with_reducible repeat' first|intro _|apply aI)
 refine sLp (fun (k : Nat) vs bs => ∃ (i j : Nat) (tb : Tre Q) (ob : Nat) (tr : Tre Q) (or : Nat), vs = [.func (.func 225) [] [.ptr 0 0, .ptr 1 0], .int .i64 i, .int .i64 j] ∧ bs = [.cells [.slice tb 1 ob (lms y).length .no], .cells [.slice tr 1 or (lms r).length .no]] ∧ Rws 1 ((lms y).map lg) tb ob ∧ Rws 1 ((lms r).map lg) tr or ∧ i ≤ r / y + 1 ∧ r / y + 1 ≤ j ∧ j ≤ 1000000000 ∧ j - i < 2 ^ k) (fun k => k) 30 ⟨0, 1000000000, tb, ob, tr, or, rfl, rfl, htb, htr, Nat.zero_le _, by omega, by omega, by decide⟩ (by decide) ?_
 clear htb htr
 rintro self k _ _ ⟨i, j, tb, ob, tr, or, rfl, rfl, htb, htr, hi, hj, hj9, hk⟩ ih
 (refine Zq ?_;with_reducible repeat' first|intro _|apply aI)
 refine sFnV ?_
 (refine Zq ?_;with_reducible repeat' first|intro _|apply aI)
 ·refine sfU64 rfl (by omega) ?_
  (refine Zq ?_;with_reducible repeat' first|intro _|apply aI)
  refine sfQuoN (n := i + j) (m := 2) (by omega) rfl ?_
  have hm : (i + j) / 2 < 1000000000 := by omega
  refine sfWr64 rfl (by omega) ?_
  obtain ⟨k, rfl⟩ : ∃ n, k = n + 1 := by
   cases k with
   | zero => exact absurd hk (by omega)
   | succ n => exact ⟨n, rfl⟩
  have hk' : (2 : Nat) ^ (k + 1) = 2 * 2 ^ k := by rw [Nat.pow_succ]; omega
  refine sCall hd ⟨((y, r), (i + j) / 2), hy, hr, hm⟩ (r := .c (.b (decide (r < y * ((i + j) / 2))))) rfl (.cons _ _ _ _ (.i _ _) (.cons _ _ _ _ (.p _ _) (.cons _ _ _ _ (.p _ _) .nil))) (.cons _ _ _ _ (rbLg htb rfl) (.cons _ _ _ _ (rbLg htr rfl) .nil)) fun _ _ _ hb9 => ?_
  have hb9 : RBs [[.l (lgs y)], [.l (lgs r)]] _ := hb9
  have hdiv : r < y * ((i + j) / 2) ↔ r / y < (i + j) / 2 := by rw [Nat.div_lt_iff_lt_mul (by omega), Nat.mul_comm]
  (refine Zq ?_;with_reducible repeat' first|intro _|apply aI)
  refine sSlLg (by assumption) fun tb ob htb => ?_
  (refine Zq ?_;with_reducible repeat' first|intro _|apply aI)
  refine sSlLg (by assumption) fun tr or htr => ?_
  (refine Zq ?_;with_reducible repeat' first|intro _|apply aI)
  ·have hc : r < y * ((i + j) / 2) := of_decide_eq_true ‹_›
   exact ih k _ _ ⟨i, (i + j) / 2, tb, ob, tr, or, rfl, rfl, htb, htr, hi, hdiv.1 hc, by omega, by omega⟩ (by omega)
  ·have hc : ¬ r < y * ((i + j) / 2) := fun h => ‹¬ decide (r < y * ((i + j) / 2)) = true› (decide_eq_true h)
   have hc' : ¬ r / y < (i + j) / 2 := fun h => hc (hdiv.2 h)
   exact ih k _ _ ⟨(i + j) / 2 + 1, j, tb, ob, tr, or, rfl, rfl, htb, htr, by omega, hj, hj9, by omega⟩ (by omega)
 ·have e : i = r / y + 1 := by omega
  subst e
  exact sRet ⟨.ret _ _ (.i _ _), .cons _ _ _ _ (rbLg htb rfl) (.cons _ _ _ _ (rbLg htr rfl) .nil)⟩
end
end
end Go.Proofs.YtffaodopiifbkaaGreatDoor
namespace Go.Proofs.YtffaodopiifbkaaGreatDoor
open Go.Abs LQ
set_option maxRecDepth 100000
set_option maxHeartbeats 4000000
noncomputable section
theorem drop_set_self {l : List Nat} {i x : Nat} (h : i < l.length) : (l.set i x).drop i = x :: l.drop (i + 1) := by
 rw [List.drop_eq_getElem_cons (by simpa using h)]
 simp [List.drop_set_of_lt (show i < i + 1 by omega)]
theorem div_step {out a : List Nat} {m r y : Nat} (ho : m < out.length) (ha : m < a.length) (he : lval (out.drop (m + 1)) * y + r = lval (a.drop (m + 1))) :
  lval ((out.set m ((a.getD m 0 + B9 * r) / y)).drop m) * y + (a.getD m 0 + B9 * r) % y = lval (a.drop m) := by
 rw [drop_set_self ho, lval_getD a m ha, ← he]
 show ((a.getD m 0 + B9 * r) / y + B9 * lval (out.drop (m + 1))) * y + _ = _
 have h := Nat.div_add_mod (a.getD m 0 + B9 * r) y
 rw [Nat.add_mul, Nat.mul_add, show (a.getD m 0 + B9 * r) / y * y = y * ((a.getD m 0 + B9 * r) / y) from Nat.mul_comm _ _, Nat.mul_assoc]
 omega
theorem div_end {out a : List Nat} {r y : Nat} (hr : r < y) (he : lval out * y + r = lval a) : lval out = lval a / y ∧ r = lval a % y := by
 have hy : 0 < y := by omega
 rw [← he, Nat.mul_comm, Nat.mul_add_div hy, Nat.mul_add_mod, Nat.div_eq_of_lt hr, Nat.mod_eq_of_lt hr]; simp
theorem dig_lt {a r y : Nat} (ha : a < 1000000000) (hr : r < y) : (a + B9 * r) / y < 1000000000 := by
 refine (Nat.div_lt_iff_lt_mul (by omega)).2 ?_
 have : B9 * r + B9 ≤ B9 * y := by rw [← Nat.mul_succ]; exact Nat.mul_le_mul_left _ hr
 have e : 1000000000 * y = B9 * y := rfl
 have e' : B9 = 1000000000 := rfl
 omega
theorem lms_cons_len {d r : Nat} (h : d < B9) : (lms (d + B9 * r)).length ≤ (lms r).length + 1 := by
 have h1 := lval_lt (lms r) (lms_LB r)
 rw [lval_lms] at h1
 refine lms_len ?_
 rw [Nat.pow_succ, Nat.mul_comm (B9 ^ _) B9]
 have e' : B9 = 1000000000 := rfl
 have : B9 * r + B9 ≤ B9 * B9 ^ (lms r).length := by rw [← Nat.mul_succ]; exact Nat.mul_le_mul_left _ h1
 omega
def okDv (x y : Nat) : Prop := y ≠ 0 ∧ (lms x).length < 9000 ∧ (lms y).length < 9000
section
theorem kDivideN : Know 202 (spXX okDv fun x y => .ret (.t [.sl 1 (lgs (x / y)), .sl 1 (lgs (x % y))])) := know (fun fn h => r202_ok h) [(222, _), (226, _), (223, _), (205, _), (224, _)] (.cons kTrimN (.cons kTimesN (.cons kCompareN0 (.cons kMinusN (.cons kSr .nil))))) fun U fn hfn ⟨(x, y), _, _, hy0, hx, hy⟩ vs bs hv hb => by
 have hv : RVs [.sl 1 (lgs x), .sl 1 (lgs y)] vs := hv
 have hb : RBs [] bs := hb
 have hy0 : y ≠ 0 := hy0
 have hx : (lms x).length < 9000 := hx
 have hy : (lms y).length < 9000 := hy
 show Sat U _ fun v bs' => RRes (.ret (.t [.sl 1 (lgs (x / y)), .sl 1 (lgs (x % y))])) v ∧ RBs [] bs'
 have htr := hfn 222 _ rfl
 have hti := hfn 226 _ rfl
 have hco := hfn 223 _ rfl
 have hmi := hfn 205 _ rfl
 have hse := hfn 224 _ rfl
 unfold lgs at hv
 have hLa := lms_LB x
 have hLb := lms_LB y
 unfold r202
 (refine Zq ?_;with_reducible repeat' first|intro _|apply aI)
 refine sZT (n := 1) (r := lg 0) (fun _ => row1 (.i _ _)) rfl (by omega) fun t' ht' => ?_
 (refine Zq ?_;with_reducible repeat' first|intro _|apply aI)
 refine sLp (fun (m : Nat) vs bs => ∃ (i : Int) (t1 : Tre Q) (o1 : Nat) (tb : Tre Q) (ob : Nat) (vr : V) (t3 : Tre Q) (out : List Nat) (r : Nat) (v6 : V), vs = [.slice t1 1 o1 (lms x).length .no, .ptr 0 0, .bslice 1 (lms x).length, .ptr 2 0, .int .i64 i, v6] ∧ bs = [.cells [.slice tb 1 ob (lms y).length .no], .row t3 (lms x).length, .cells [vr]] ∧ i = m - 1 ∧ RV (.c (.l (lgs r))) vr ∧ Rws 1 ((lms x).map lg) t1 o1 ∧ Rws 1 ((lms y).map lg) tb ob ∧ Rws 1 (out.map lg) t3 0 ∧ out.length = (lms x).length ∧ LQ.LB out ∧ m ≤ (lms x).length ∧ r < y ∧ lval (out.drop m) * y + r = lval ((lms x).drop m)) (fun m => m) (lms x).length ?_ (by simp only [FUEL]; omega) ?_
 ·exact ⟨_, _, _, _, _, _, t', List.replicate (lms x).length 0, 0, _, by simp only [Int.toNat_natCast]; rfl, by simp only [Int.toNat_natCast]; rfl, rfl, .cl _ _ _ _ _ (by simp [lgs, lms_zero]) (by simp only [lgs, lms_zero]; exact .nil _ _ _), by assumption, by assumption, by simpa [List.map_replicate] using ht', by simp, LB_zeros _, by omega, by omega, by simp [lval]⟩
 rintro self m _ _ ⟨i, t1, o1, tb, ob, vr, t3, out, r, v6, rfl, rfl, hi, hvr, h1, hbb, h3, hol, hLo, hm, hry, he⟩ ih
 have hrl : (lms r).length ≤ (lms y).length := lms_mono (by omega)
 (refine Zq ?_;with_reducible repeat' first|intro _|apply aI)
 refine sSlLg (by assumption) fun tr or htr' => ?_
 (refine Zq ?_;with_reducible repeat' first|intro _|apply aI)
 ·obtain ⟨n, rfl⟩ : ∃ n : Nat, i = n := ⟨i.toNat, by omega⟩
  have em : m = n + 1 := by omega
  subst em
  have q1 : (lms x).getD n 0 < 1000000000 := LB_getD hLa n
  refine sfTl n h1 rfl (by omega) fun x59 hx59 => ?_
  refine sfCel hx59 rfl fun x60 hx60 => ?_
  (refine Zq ?_;with_reducible repeat' first|intro _|apply aI)
  refine sAT (n := 1) (xs := [lg ((lms x).getD n 0)]) (ys := (lms r).map lg) (.cons _ _ _ _ _ rfl (row1 hx60).1 (fun g e => (row1 hx60).2 g e) (.nil _ _ _)) htr' rfl (by simp) (by simp; omega) fun t62 h62 => ?_
  have hR := lms_cons_len (d := (lms x).getD n 0) (r := r) q1
  have hRl := lms_step ((lms x).getD n 0) r q1
  have hst := div_step (out := out) (a := lms x) (m := n) (r := r) (y := y) (by omega) (by omega) he
  have hdl := dig_lt q1 hry
  generalize hRR : (lms x).getD n 0 + B9 * r = R at *
  refine sCall htr ⟨(lms x).getD n 0 :: lms r, by show (lms r).length + 1 < 20000; omega⟩ (r := .sl 1 (lgs R)) (by show GRes.ret (.sl 1 ((trimL ((lms x).getD n 0 :: lms r)).map lg)) = _; rw [hRl]; rfl) (.cons _ _ _ _ (.sl _ _ _ _ _ (by simp; omega) h62) .nil) .nil fun _ _ _ _ => ?_
  (refine Zq ?_;with_reducible repeat' first|intro _|apply aI)
  refine sCall hco ⟨(lms R, lms y), by show (lms R).length < 20000; omega, by show (lms y).length < 20000; omega, trivial⟩ (r := .c (.i .i64 (if R < y then -1 else if y < R then 1 else 0))) (by show GRes.ret (.c (.i .i64 (ordL (lms R) (lms y)))) = _; rw [ordL_lms]) (.cons _ _ _ _ (.sl _ _ _ _ _ (by simp [lgs]) (by assumption)) (.cons _ _ _ _ (.sl _ _ _ _ _ (by simp) hbb) .nil)) .nil fun _ _ _ _ => ?_
  (refine Zq ?_;with_reducible repeat' first|intro _|apply aI)
  ·have hge : ¬ R < y := fun h => by
    rw [if_pos h] at *
    omega
   obtain ⟨q, hqe⟩ : ∃ q, q = R / y := ⟨_, rfl⟩
   rw [← hqe] at hst
   have hdl9 := hdl
   rw [← hqe] at hdl
   refine sCall hse ⟨(y, R), by show (lms y).length < 10000; omega, by show (lms R).length < 19999; omega, hy0, (Nat.div_lt_iff_lt_mul (by omega)).1 hdl9 |> fun h => by rw [Nat.mul_comm]; exact h⟩ (r := .c (.i .i64 ((q + 1 : Nat) : Int))) (by rw [hqe]; rfl) (.cons _ _ _ _ (.i _ _) (.cons _ _ _ _ (.raw _) .nil)) (.cons _ _ _ _ (rbLg hbb rfl) (.cons _ _ _ _ (.cells _ _ (.cons _ _ _ _ (.cl _ _ _ _ _ (by simp [lgs]) (by assumption)) .nil)) .nil)) fun _ _ _ hb9 => ?_
   have hb9 : RBs [[.l (lgs y)], [.l (lgs R)]] _ := hb9
   (refine Zq ?_;with_reducible repeat' first|intro _|apply aI)
   refine sSlLg (by assumption) fun tb ob htb => ?_
   (refine Zq ?_;with_reducible repeat' first|intro _|apply aI)
   refine sSlLg (by assumption) fun tR oR htR => ?_
   (refine Zq ?_;with_reducible repeat' first|intro _|apply aI)
   refine sfU32 (m := (q : Int)) (by omega) (by omega) ?_
   (refine Zq ?_;with_reducible repeat' first|intro _|apply aI)
   refine sCall htr ⟨[q], by show 1 < 20000; omega⟩ (r := .sl 1 (lgs q)) (by show GRes.ret (.sl 1 ((trimL [q]).map lg)) = _; rw [trimL_lms [q] (lb1 hdl), lval1]; rfl) (.cons _ _ _ _ (.sl _ _ _ _ _ rfl rws1) .nil) .nil fun _ _ _ _ => ?_
   (refine Zq ?_;with_reducible repeat' first|intro _|apply aI)
   have hq1 := lms_lt9 hdl
   refine sCall hti ⟨(lms y, lms q), by show (lms y).length < 20000; omega, by show (lms q).length < 20000; omega, lms_LB y, lms_LB q, by show (lms y).length + (lms q).length < 20000; omega⟩ (r := .sl 1 (lgs (y * q))) (by show GRes.ret (.sl 1 (lgs (lval (lms y) * lval (lms q)))) = _; rw [lval_lms, lval_lms]) (.cons _ _ _ _ (.sl _ _ _ _ _ (by simp) htb) (.cons _ _ _ _ (.sl _ _ _ _ _ (by simp [lgs]) (by assumption)) .nil)) .nil fun _ _ _ _ => ?_
   (refine Zq ?_;with_reducible repeat' first|intro _|apply aI)
   have hle : y * q ≤ R := by rw [hqe]; exact Nat.mul_div_le R y
   have hsub : R - y * q = R % y := by have := Nat.div_add_mod R y; rw [← hqe] at this; omega
   have hml := lms_mono hle
   refine sCall hmi ⟨(R, y * q), by show (lms R).length < 20000; omega, by show (lms (y * q)).length < 20000; omega, hle⟩ (r := .sl 1 (lgs (R % y))) (by show GRes.ret (.sl 1 (lgs (R - y * q))) = _; rw [hsub]) (.cons _ _ _ _ (.sl _ _ _ _ _ (by simp [lgs]) htR) (.cons _ _ _ _ (.sl _ _ _ _ _ (by simp [lgs]) (by assumption)) .nil)) .nil fun _ _ _ _ => ?_
   (refine Zq ?_;with_reducible repeat' first|intro _|apply aI)
   refine sST0 (r := lg (q)) h3 (fun _ => row1 (.i _ _)) rfl (by simp; omega) (by omega) fun t9 h9 => ?_
   (refine Zq ?_;with_reducible repeat' first|intro _|apply aI)
   refine ih n _ _ ⟨_, t1, o1, _, _, _, t9, out.set n (q), R % y, _, rfl, rfl, rfl, .cl _ _ _ _ _ (by simp [lgs]) (by assumption), h1, by assumption, by rw [List.map_set]; simpa using h9, by simp [hol], LB_set hLo _ _ (by show _ < 1000000000; omega), by omega, Nat.mod_lt _ (by omega), hst⟩ (by omega)
  ·have hlt : R < y := by
    by_cases h : R < y
    ·exact h
    ·exfalso; rw [if_neg h] at *; split at * <;> omega
   rw [Nat.div_eq_of_lt hlt] at hst
   have hmod := Nat.mod_eq_of_lt hlt
   rw [hmod] at hst
   (refine Zq ?_;with_reducible repeat' first|intro _|apply aI)
   refine sST0 (r := lg (0)) h3 (fun _ => row1 (.i _ _)) rfl (by simp; omega) (by omega) fun t9 h9 => ?_
   (refine Zq ?_;with_reducible repeat' first|intro _|apply aI)
   refine ih n _ _ ⟨_, t1, o1, _, _, _, t9, out.set n (0), R, _, rfl, rfl, rfl, .cl _ _ _ _ _ (by simp [lgs]) (by assumption), h1, by assumption, by rw [List.map_set]; simpa using h9, by simp [hol], LB_set hLo _ _ (by show _ < 1000000000; omega), by omega, hlt, hst⟩ (by omega)
 ·have em : m = 0 := by omega
  subst em
  simp only [List.drop_zero] at he
  obtain ⟨hd1, hd2⟩ := div_end hry he
  rw [lval_lms] at hd1 hd2
  refine sCall htr ⟨out, by show out.length < 20000; omega⟩ (r := .sl 1 (lgs (x / y))) (by rw [← hd1]; show GRes.ret (.sl 1 ((trimL out).map lg)) = _; rw [trimL_lms out hLo]; rfl) (.cons _ _ _ _ (.sl _ _ _ _ _ (by simp [hol]) h3) .nil) .nil fun _ _ _ _ => ?_
  (refine Zq ?_;with_reducible repeat' first|intro _|apply aI)
  rw [← hd2]
  exact sRet ⟨.ret _ _ (.t _ _ (.cons _ _ _ _ (.sl _ _ _ _ _ (by simp [lgs]) (by assumption)) (.cons _ _ _ _ (.sl _ _ _ _ _ (by simp [lgs]) (by assumption)) .nil))), .nil⟩
end
end
end Go.Proofs.YtffaodopiifbkaaGreatDoor
