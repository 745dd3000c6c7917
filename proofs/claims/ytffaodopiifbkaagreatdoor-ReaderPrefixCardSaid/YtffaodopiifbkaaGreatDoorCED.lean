/- The program's numbers: a text as limbs. -/
import Derived.Test.YtffaodopiifbkaaGreatDoorCEC
set_option linter.all false
namespace Go.Proofs.YtffaodopiifbkaaGreatDoor
open Go.Abs LQ Go.RowKit Go.Lib Go.Sort
set_option maxRecDepth 100000
set_option maxHeartbeats 4000000
noncomputable section
theorem pum_ok (l : List UInt8) : ∀ acc : Nat, (∀ c ∈ l, 48 ≤ c.toNat ∧ c.toNat ≤ 57) → acc * 10 ^ l.length + nat10 l ≤ 4294967295 → Lib.parseUintM 4294967295 acc l = .ok (acc * 10 ^ l.length + nat10 l) := by
 induction l with
 | nil => intro acc _ _; simp [Lib.parseUintM, nat10, natFrom]
 | cons c r ih =>
  intro acc hd h
  obtain ⟨h1, h2⟩ := hd c (by simp)
  have e : nat10 (c :: r) = (c.toNat - 48) * 10 ^ r.length + nat10 r := by
   rw [nat10_cons]
   have : (bt [c] 0 - 48).toNat = c.toNat - 48 := by show (((c.toNat : Nat) : Int) - 48).toNat = _; omega
   rw [this]
  rw [e, List.length_cons, Nat.pow_succ] at h ⊢
  have hp : 1 ≤ 10 ^ r.length := Nat.one_le_pow _ _ (by decide)
  have e2 : (acc * 10 + (c.toNat - 48)) * 10 ^ r.length + nat10 r = acc * (10 ^ r.length * 10) + ((c.toNat - 48) * 10 ^ r.length + nat10 r) := by
   rw [Nat.add_mul, Nat.mul_assoc, Nat.mul_comm 10, Nat.add_assoc]
  have hb : acc * 10 + (c.toNat - 48) ≤ (acc * 10 + (c.toNat - 48)) * 10 ^ r.length := Nat.le_mul_of_pos_right _ hp
  rw [Lib.parseUintM, if_pos ⟨h1, h2⟩, if_neg (by omega), if_neg (by omega), ih _ (fun d hd' => hd d (by simp [hd'])) (by rw [e2]; exact h), e2]
theorem dig_mem {s : Str} (h : ∀ j, j < s.length → 48 ≤ bt s j ∧ bt s j ≤ 57) : ∀ c ∈ s, 48 ≤ c.toNat ∧ c.toNat ≤ 57 := fun c hc => by
 obtain ⟨j, hj, rfl⟩ := List.getElem_of_mem hc
 have := h j hj
 unfold bt at this
 simp only [List.getD, List.getElem?_eq_getElem hj, Option.getD_some] at this
 omega
theorem pub_ok {s : Str} (h0 : 0 < s.length) (h9 : s.length ≤ 9) (h : ∀ j, j < s.length → 48 ≤ bt s j ∧ bt s j ≤ 57) : Lib.parseUintB 32 s = .ok (nat10 s) := by
 have hl := nat10_lt s h
 have hp : (10 : Nat) ^ s.length ≤ 10 ^ 9 := Nat.pow_le_pow_right (by decide) h9
 have := pum_ok s 0 (dig_mem h) (by rw [Nat.zero_mul]; omega)
 rw [Nat.zero_mul, Nat.zero_add] at this
 unfold Lib.parseUintB
 rw [if_neg (by intro e; subst e; simp at h0)]
 exact this
def spPU : Sp where
 ι := { s : Str // 0 < s.length ∧ s.length ≤ 9 ∧ ∀ j, j < s.length → 48 ≤ bt s j ∧ bt s j ≤ 57 }
 A s := [.c (.s s.1), .c (.i .i64 10), .c (.i .i64 32)]
 B _ := []
 R s := .ret (.t [.c (.i .u64 ((nat10 s.1 : Nat) : Int)), .nilI])
 B' _ := []
 inj i j vs bs h k _ _ := by
  obtain ⟨_, _, h1, k1, h, k⟩ := h.two k
  rw [s_inj h1 k1]; exact ⟨rfl, rfl⟩
theorem kPU : Know 221 spPU := fun ⟨s, h0, h9, hd⟩ vs bs hv hb => by
 change RVs [.c (.s s), .c (.i .i64 10), .c (.i .i64 32)] vs at hv
 cases hb
 refine ⟨.ret (.tuple [.int .u64 ((nat10 s : Nat) : Int), .nilIface]), [], fun hok => ?_, .ret _ _ (.t _ _ (.cons _ _ _ _ (.i _ _) (.cons _ _ _ _ .nilI .nil))), .nil⟩
 have hx : vs.map toD = [D.str s, .int .i64 10, .int .i64 32] := by
  cases hv with
  | cons _ _ v _ h1 h2 => cases h2 with
   | cons _ _ v2 _ h2 h3 => cases h3 with
    | cons _ _ v3 _ h3 h4 =>
     cases h4
     rw [List.map_cons, List.map_cons, List.map_cons, toD_s h1, toD_i h2, toD_i h3]; rfl
 rw [hx]
 refine cm_of_calls (d := .tuple [.int .u64 ((nat10 s : Nat) : Int), .nilIface]) Tryz.call221 fun w S M us hg hwi hr => ?_
 have hus : us = [.string ⟨s.toArray⟩, .int .i64 10, .int .i64 32] := by
  cases hr with
  | cons _ _ _ _ r1 r2 => cases r2 with
   | cons _ _ _ _ r2 r3 => cases r3 with
    | cons _ _ _ _ r3 r4 =>
     cases r4; cases r1; cases r2; cases r3
     rename_i sb hs
     rw [str_of hs]
 subst hus
 refine (Any.strconv_ParseUint_10_at32_ok Tryz.laysPu14 ⟨s.toArray⟩ (by simp [ByteArray.size]; omega) (nat10 s) (pub_ok h0 h9 hd) w).mono ?_
 rintro e w' ⟨rfl, hw⟩
 have hb : Below w.heap.size w w' := by
  rcases hw with rfl | rfl
  ·exact Below.refl _ _
  ·exact Lib.bytesWorld_below _ _ _
 refine ⟨hb, _, S, rfl, ⟨fun _ _ h => h, fun _ _ h => .inl h⟩, within_below hwi hb, .tuple _ _ (.cons _ _ _ _ (.int _ _) (.cons _ _ _ _ .nilIface .nil)), ⟨(fun _ _ _ h => by cases h), fun vs ds hv hd i u e h1 h2 => ?_⟩⟩
 injection hv with hv
 injection hd with hd
 subst hv hd
 intro len c z he
 subst he
 match i with
 | 0 => simp at h2
 | 1 => simp at h2
 | i + 2 => simp at h2
section
variable {U : CombU} {P : VRes → List Bx → Prop}
theorem sNilI {v : V} {K : Om} (hv : RV .nilI v) (h : Sat U K P) : Sat U (U.uNilI v K) P := fun e => by
 have := h e; subst e; cases hv; exact this
theorem sfMax0 {a : Int} {K : Int → Om} (h : Sat U (K (if 0 < a then a else 0)) P) : Sat U (U.fI (U.isel (U.iLt 0 a) a 0) K) P :=
 sfIsel trLt (fun k => by rw [if_pos k] at h; exact h) (fun k => by rw [if_neg k] at h; exact h)
end
def intG (neg : Bool) (n : Nat) : List G := [.b neg, .l (lgs n)]
theorem nat10_split {D : Str} {m : Nat} (hm : m ≤ D.length) (h9 : 9 ≤ m) : nat10 (D.take m) = nat10 (D.take (m - 9)) * 10 ^ 9 + nat10 ((D.take m).drop (m - 9)) := by
 have e : D.take m = D.take (m - 9) ++ (D.take m).drop (m - 9) := by
  have := (List.take_append_drop (m - 9) (D.take m)).symm
  rw [List.take_take, Nat.min_eq_left (by omega)] at this; exact this
 conv => lhs; rw [e]
 rw [nat10_app]
 have : ((D.take m).drop (m - 9)).length = 9 := by simp; omega
 rw [this]
theorem chunk_dig {D : Str} (h : ∀ j, j < D.length → 48 ≤ bt D j ∧ bt D j ≤ 57) (k m : Nat) (hm : m ≤ D.length) : ∀ j, j < ((D.take m).drop k).length → 48 ≤ bt ((D.take m).drop k) j ∧ bt ((D.take m).drop k) j ≤ 57 := fun j hj => by
 simp at hj
 have e : bt ((D.take m).drop k) j = bt D (k + j) := by
  rw [bt_drop]; unfold bt; simp [List.getD, List.getElem?_take, show k + j < m by omega]
 rw [e]; exact h _ (by omega)
theorem lval_snoc (a : List Nat) (d : Nat) : lval (a ++ [d]) = lval a + B9 ^ a.length * d := by rw [lval_append, lval1]
theorem mapl_snoc {acc : List Nat} {d : Nat} {n : Int} (h : n = d) : acc.map lg ++ [[.i .u32 n]] = (acc ++ [d]).map lg := by subst h; simp [lg]
theorem LB_snoc {a : List Nat} {d : Nat} (h : LQ.LB a) (hd : d < 1000000000) : LQ.LB (a ++ [d]) := fun x hx => by
 rcases List.mem_append.1 hx with hx | hx
 ·exact h x hx
 ·simp at hx; subst hx; exact hd
theorem parse_step {D : Str} {acc : List Nat} {m k N : Nat} (hd : ∀ j, j < D.length → 48 ≤ bt D j ∧ bt D j ≤ 57) (hm : m ≤ D.length) (hk : k = m - 9) (he : lval acc + B9 ^ acc.length * nat10 (D.take m) = N) :
  nat10 ((D.take m).drop k) < 1000000000 ∧ lval (acc ++ [nat10 ((D.take m).drop k)]) + B9 ^ (acc ++ [nat10 ((D.take m).drop k)]).length * nat10 (D.take k) = N := by
 subst hk
 have hlt := nat10_lt _ (chunk_dig hd (m - 9) m hm)
 have hl : ((D.take m).drop (m - 9)).length ≤ 9 := by simp; omega
 have h9 : nat10 ((D.take m).drop (m - 9)) < 1000000000 := Nat.lt_of_lt_of_le hlt (Nat.pow_le_pow_right (by decide) hl)
 refine ⟨h9, ?_⟩
 rw [lval_snoc, ← he, List.length_append, List.length_singleton, Nat.pow_succ]
 by_cases h : 9 ≤ m
 ·rw [nat10_split hm h]
  generalize nat10 (D.take (m - 9)) = a
  generalize nat10 ((D.take m).drop (m - 9)) = b
  rw [show (10 : Nat) ^ 9 = B9 from rfl, Nat.mul_add, Nat.mul_comm a B9, ← Nat.mul_assoc]
  omega
 ·have e : m - 9 = 0 := by omega
  rw [e, List.take_zero, List.drop_zero, show nat10 ([] : Str) = 0 by simp [nat10, natFrom], Nat.mul_zero, Nat.add_zero]
theorem nat10_show (n : Nat) : nat10 (showNat n) = n := by
 have hv := decVal_showNat n
 have hok := decOk_showNat n
 have hs : signLen (showNat n) = 0 := by
  unfold signLen; rw [if_neg]; rintro ⟨h, h2⟩; have := allD_showNat n 0 h; omega
 unfold decVal at hv
 rw [if_pos hok, hs, if_neg (by decide)] at hv
 unfold nat10; omega
theorem show_lt (s : Str) : (showNat (decVal s).natAbs).length ≤ (decS s).length ∧ (decide (((showNat (decVal s).natAbs).length : Int) < ((decS s).length : Int)) = decide (decVal s < 0)) := by
 rw [decS_show]
 unfold showInt
 split <;> simp <;> omega
theorem kParse : Know 201 (sp1 fun s => .ret (.a (intG (decide (decVal s < 0)) (decVal s).natAbs))) := know (fun fn h => r201_ok h) [(176, _), (184, _), (221, _), (222, _)] (.cons kDecimal (.cons kTrimPrefix (.cons kPU (.cons kTrimN .nil)))) fun U fn hfn ⟨s, hs⟩ vs bs hv hb => by
 have hd := hfn 176 _ rfl
 have ht := hfn 184 _ rfl
 have hp := hfn 221 _ rfl
 have hr := hfn 222 _ rfl
 have hv : RVs [.c (.s s)] vs := hv
 have hb : RBs [] bs := hb
 have hs : s.length < 90000 := hs
 show Sat U _ fun v bs' => RRes (.ret (.a (intG (decide (decVal s < 0)) (decVal s).natAbs))) v ∧ RBs [] bs'
 unfold r201
 (refine Zq ?_;with_reducible repeat' first|intro _|apply aI)
 refine sCall hd ⟨s, hs⟩ (r := .c (.s (decS s))) rfl Zrv .nil fun _ _ _ _ => ?_
 have hl := decS_len s
 have h7 := show_lt s
 (refine Zq ?_;with_reducible repeat' first|intro _|apply aI)
 refine sCall ht ⟨(decS s, dec 1 45), trivial⟩ (r := .c (.s (showNat (decVal s).natAbs))) (by show GRes.ret (.c (.s (cutPre (decS s) (dec 1 45)))) = _; rw [dec_m, cutPre_sign, decS_nat]) Zrv .nil fun _ _ _ _ => ?_
 (refine Zq ?_;with_reducible repeat' first|intro _|apply aI)
 generalize hD : showNat (decVal s).natAbs = D at *
 have hdig : ∀ j, j < D.length → 48 ≤ bt D j ∧ bt D j ≤ 57 := by rw [← hD]; exact allD_showNat _
 have hval : nat10 D = (decVal s).natAbs := by rw [← hD, nat10_show]
 refine sLp (fun (p : Nat × List Nat) vs bs => ∃ (m : Nat) (acc : List Nat) (v bx : V) (ng : Bool) (v4 : V), p = (m, acc) ∧ vs = [.ptr 0 0, .str (D.take m).length (code (D.take m)), .ptr 1 0, v4] ∧ bs = [.cells [bx, .slice .nil 0 0 0 .exact], .cells [.bool ng, v], .tok acc.length 1] ∧ (U = CU → ng = decide (decVal s < 0)) ∧ TokS 2 1 (acc.map lg) v ∧ m ≤ D.length ∧ LQ.LB acc ∧ (9 * acc.length + m = D.length ∨ m = 0 ∧ 9 * acc.length ≤ D.length + 8) ∧ lval acc + B9 ^ acc.length * nat10 (D.take m) = (decVal s).natAbs ∧ RV (.c (.b false)) bx) (fun p => p.1) (D.length, []) ?_ (by simp only [FUEL]; omega) ?_
 ·refine ⟨D.length, [], _, _, _, _, rfl, by simp only [List.take_length]; rfl, rfl, fun e => by subst e; rw [cuLt]; exact h7.2, .b rfl, Nat.le_refl _, fun d h => (by cases h), by simp, by rw [← hval]; simp [lval], .kn _⟩
 rintro self _ _ _ ⟨m, acc, v, bx, ng, v4, rfl, rfl, rfl, hng, htok, hm, hLB, hlen, he, hbx⟩ ih
 have hml : (D.take m).length = m := by simp; omega
 (refine Zq ?_;with_reducible repeat' first|intro _|apply aI)
 ·refine sfMax0 ?_
  obtain ⟨k, hk, hk2⟩ : ∃ k : Nat, k = m - 9 ∧ (if 0 < ((D.take m).length : Int) - 9 then ((D.take m).length : Int) - 9 else 0) = (k : Int) := ⟨m - 9, rfl, by split <;> omega⟩
  rw [hk2]
  have hkm : k ≤ m := by omega
  have hm0 : 0 < m := by omega
  (refine Zq ?_;with_reducible repeat' first|intro _|apply aI)
  obtain ⟨s1, s2⟩ := parse_step hdig hm hk he
  have hcl : ((D.take m).drop k).length = m - k := by simp; omega
  refine sCall hp ⟨(D.take m).drop k, by omega, by omega, chunk_dig hdig k m hm⟩ (r := .t [.c (.i .u64 ((nat10 ((D.take m).drop k) : Nat) : Int)), .nilI]) rfl Zrv .nil fun _ _ _ _ => ?_
  (refine Zq ?_;with_reducible repeat' first|intro _|apply aI)
  refine sNilI (by assumption) ?_
  (refine Zq ?_;with_reducible repeat' first|intro _|apply aI)
  refine sfU32 (m := ((nat10 ((D.take m).drop k) : Nat) : Int)) rfl (by omega) ?_
  (refine Zq ?_;with_reducible repeat' first|intro _|apply aI)
  refine sAT1 (by assumption) (fun _ => row1 (by first | exact .i _ _ | exact .s _ _ _ rfl rfl | assumption)) (by rfl) (by simp) (by simp only [List.length_map]; omega) fun _ _ => ?_
  (refine Zq ?_;with_reducible repeat' first|intro _|apply aI)
  have e1 : List.drop (Int.toNat 0) (List.take ((k : Int)).toNat (D.take m)) = D.take k := by
   rw [Int.toNat_natCast, List.take_take, Nat.min_eq_left hkm]; rfl
  rw [e1]
  refine ih (k, acc ++ [nat10 ((D.take m).drop k)]) _ _ ?_ (by show k < m; omega)
  refine ⟨k, _, _, _, _, _, rfl, rfl, by rw [List.length_append]; rfl, hng, .a _ _ (by simp) ?_, by omega, LB_snoc hLB s1, by rw [List.length_append, List.length_singleton]; omega, s2, .b _⟩
  rw [← mapl_snoc (n := ((nat10 ((D.take m).drop k) : Nat) : Int)) rfl]
  assumption
 ·have hm0 : m = 0 := by omega
  subst hm0
  have e0 : lval acc = (decVal s).natAbs := by
   rw [List.take_zero, show nat10 ([] : Str) = 0 by simp [nat10, natFrom], Nat.mul_zero, Nat.add_zero] at he; exact he
  refine sCall hr ⟨acc, by omega⟩ (r := .sl 1 (lgs (decVal s).natAbs)) (by show GRes.ret (.sl 1 ((trimL acc).map lg)) = _; rw [trimL_lms acc hLB, e0]; rfl) Zrv .nil fun _ _ _ _ => ?_
  (refine Zq ?_;with_reducible repeat' first|intro _|apply aI)
  exact sRetU fun e => by
   rw [hng e]
   exact ⟨.ret _ _ (.ag _ _ (.cons _ _ _ _ (.b _) (.cons _ _ _ _ (.cl _ _ _ _ _ (by simp [lgs]) (by assumption)) .nil))), .nil⟩
end
end Go.Proofs.YtffaodopiifbkaaGreatDoor
namespace Go.Proofs.YtffaodopiifbkaaGreatDoor
open Go.Abs LQ
set_option maxRecDepth 100000
set_option maxHeartbeats 4000000
noncomputable section
section
variable {U : CombU} {P : VRes → List Bx → Prop}
theorem sQR {g : G} {v : V} {K : Q → Om} (hv : RV (.c g) v) (h : ∀ x, RG g x → Sat U (K x) P) : Sat U (U.uQ v K) P := fun e => by
 have h2 : ∃ x, CU.uQ v K = K x ∧ RG g x := by
  cases hv with
  | b x => exact ⟨_, rfl, .b x⟩
  | kn x => exact ⟨_, rfl, .b x⟩
  | i k n => exact ⟨_, rfl, .i k n⟩
  | s x l c h1 h2 => exact ⟨_, rfl, .s x l c h1 h2⟩
  | cl xs t n off len h1 h2 => exact ⟨_, rfl, .l xs t n off len h1 h2⟩
  | q _ x h => exact ⟨_, rfl, h⟩
 obtain ⟨x, h3, h4⟩ := h2
 have := h x h4 e
 subst e
 rw [h3]; exact this
theorem sfCat {x y : List UInt8} {l c1 c2 : Nat} {K : Nat → Om} (h1 : l = x.length) (e1 : c1 = code x) (e2 : c2 = code y) (k : Sat U (K (code (x ++ y))) P) : Sat U (U.fN (U.sCat l c1 c2) K) P := fun e => by
 subst h1 e1 e2
 have := k e
 subst e
 rw [CUfN]
 show ∃ v bs, K (sCat x.length (code x) (code y)) = some (v, bs) ∧ P v bs
 rw [sCat_code]; exact this
end
theorem intG_inj {a b : Bool} {m n : Nat} (h : intG a m = intG b n) : a = b ∧ m = n := by
 simp only [intG, List.cons.injEq, G.b.injEq, G.l.injEq, and_true] at h
 exact ⟨h.1, lgs_inj h.2⟩
def spIs : Sp where
 ι := { p : Bool × Nat // (lms p.2).length < 20000 }
 A p := [.a (intG p.1.1 p.1.2)]
 B _ := []
 R p := .ret (.c (.s (sgn p.1.1 p.1.2)))
 B' _ := []
 inj i j vs bs h k _ _ := by
  obtain ⟨_, _, h1, k1, h, k⟩ := h.two k
  obtain ⟨e1, e2⟩ := intG_inj (h1.a_inj k1)
  rw [e1, e2]; exact ⟨rfl, rfl⟩
theorem lgs_len (n : Nat) : ∀ r ∈ lgs n, r.length = 1 := fun r hr => by obtain ⟨_, _, rfl⟩ := List.mem_map.1 hr; rfl
theorem rvLg {n : Nat} {x : Q} (h : RG (.l (lgs n)) x) : RV (.sl 1 (lgs n)) (.q x) := .slq _ _ _ h (lgs_len n)
theorem lms_le_digs (n : Nat) : (lms n).length ≤ (digs n).length := by
 refine lms_len ?_
 have h := val_lt (digs n) (digs_le n)
 rw [val_digs] at h
 exact Nat.lt_of_lt_of_le h (Nat.pow_le_pow_left (by decide) _)
theorem sgn_nat (n : Nat) : sgn false n = showNat n := sgn_false n
theorem kGcdN (hst : Know 203 spIs) : Know 178 (sp2 fun a b => .ret (.c (.s (showNat (Nat.gcd (decVal a).natAbs (decVal b).natAbs))))) := know (fun fn h => r178_ok h) [(201, _), (202, _), (203, _)] (.cons kParse (.cons kDivideN (.cons hst .nil))) fun U fn hfn ⟨(a, b), ha, hbl⟩ vs bs hv hb => by
 have hp := hfn 201 _ rfl
 have hd := hfn 202 _ rfl
 have hs := hfn 203 _ rfl
 have ha : a.length < 9000 := ha
 have hbl : b.length < 9000 := hbl
 have hv : RVs [.c (.s a), .c (.s b)] vs := hv
 have hb : RBs [] bs := hb
 show Sat U _ fun v bs' => RRes (.ret (.c (.s (showNat (Nat.gcd (decVal a).natAbs (decVal b).natAbs))))) v ∧ RBs [] bs'
 have la := digS_len a
 have lb := digS_len b
 unfold r178
 (refine Zq ?_;with_reducible repeat' first|intro _|apply aI)
 refine sCall hp ⟨a, by show a.length < 90000; omega⟩ (r := .a (intG (decide (decVal a < 0)) (decVal a).natAbs)) rfl Zrv .nil fun _ _ hv1 _ => ?_
 have hv1 : RV (.a [.b _, .l (lgs _)]) _ := hv1
 (refine Zq ?_;with_reducible repeat' first|intro _|apply aI)
 refine sCall hp ⟨b, by show b.length < 90000; omega⟩ (r := .a (intG (decide (decVal b < 0)) (decVal b).natAbs)) rfl Zrv .nil fun _ _ hv2 _ => ?_
 have hv2 : RV (.a [.b _, .l (lgs _)]) _ := hv2
 generalize (decVal a).natAbs = x at *
 generalize (decVal b).natAbs = y at *
 (refine Zq ?_;with_reducible repeat' first|intro _|apply aI)
 refine sLp (fun (p : Nat × Nat) vs bs => ∃ (m n : Nat) (v1 v2 : V), p = (m, n) ∧ vs = [v1, v2] ∧ bs = [] ∧ RV (.c (.l (lgs m))) v1 ∧ RV (.c (.l (lgs n))) v2 ∧ Nat.gcd m n = Nat.gcd x y ∧ (digs m).length < 9000 ∧ (digs n).length < 9000) (fun p => mu p.1 p.2) (x, y) ⟨x, y, _, _, rfl, rfl, rfl, .q _ _ (by assumption), .q _ _ (by assumption), rfl, by omega, by omega⟩ (show mu x y < FUEL from mu_le (by omega) (by omega)) ?_
 rintro self _ _ _ ⟨m, n, v1, v2, rfl, rfl, rfl, h1, h2, hg, hm, hn⟩ ih
 have lm := lms_le_digs m
 have ln := lms_le_digs n
 (refine Zq ?_;with_reducible repeat' first|intro _|apply aI)
 refine sQR h1 fun x1 g1 => ?_
 (refine Zq ?_;with_reducible repeat' first|intro _|apply aI)
 refine sQR h2 fun x2 g2 => ?_
 (refine Zq ?_;with_reducible repeat' first|intro _|apply aI)
 refine sCSl g2 (lgs_len n) fun t off ht => ?_
 (refine Zq ?_;with_reducible repeat' first|intro _|apply aI)
 ·have hn0 : n ≠ 0 := by rintro rfl; simp [lgs, lms_zero] at *
  refine sCall hd ⟨(m, n), by show (lms m).length < 20000; omega, by show (lms n).length < 20000; omega, hn0, by show (lms m).length < 9000; omega, by show (lms n).length < 9000; omega⟩ (r := .t [.sl 1 (lgs (m / n)), .sl 1 (lgs (m % n))]) rfl (.cons _ _ _ _ (rvLg g1) (.cons _ _ _ _ (rvLg g2) .nil)) .nil fun _ _ _ _ => ?_
  (refine Zq ?_;with_reducible repeat' first|intro _|apply aI)
  refine ih (n, m % n) _ _ ⟨n, m % n, _, _, rfl, rfl, rfl, .q _ _ g2, .cl _ _ _ _ _ (by simp [lgs]) (by assumption), ?_, hn, Nat.lt_of_le_of_lt (digs_len_le (Nat.le_of_lt (Nat.mod_lt m (Nat.pos_of_ne_zero hn0)))) hn⟩ (mu_step (Nat.pos_of_ne_zero hn0))
  rw [← hg, Nat.gcd_comm n (m % n), ← Nat.gcd_rec n m, Nat.gcd_comm]
 ·have hn0 : n = 0 := by
   have : (lgs n).length = 0 := by omega
   simp only [lgs, List.length_map, List.length_eq_zero_iff] at this
   exact lms_inj (this.trans lms_zero.symm)
  subst hn0
  rw [Nat.gcd_zero_right] at hg
  subst hg
  refine sCall hs ⟨(false, Nat.gcd x y), by show (lms (Nat.gcd x y)).length < 20000; omega⟩ (r := .c (.s (showNat (Nat.gcd x y)))) (by show GRes.ret (.c (.s (sgn false _))) = _; rw [sgn_nat]) (.cons _ _ _ _ (.ag _ _ (.cons _ _ _ _ (.kn _) (.cons _ _ _ _ (.q _ _ g1) .nil))) .nil) .nil fun _ _ _ _ => ?_
  (refine Zq ?_;with_reducible repeat' first|intro _|apply aI)
  exact sRet ⟨.ret _ _ (.s _ _ _ rfl rfl), .nil⟩
theorem showInt_pos (n : Int) : 0 < (showInt n).length := by
 have := showNat_pos n.natAbs
 unfold showInt; split <;> simp <;> omega
theorem showInt_bt (n : Int) : bt (showInt n) 0 = 45 ↔ n < 0 := by
 unfold showInt
 split
 ·rename_i h; exact ⟨fun _ => h, fun _ => rfl⟩
 ·rename_i h
  have := allD_showNat n.natAbs 0 (showNat_pos _)
  exact ⟨fun k => by omega, fun k => absurd k h⟩
theorem showInt_1 : showInt 1 = dec 1 49 := by
 show showInt ((1 : Nat) : Int) = _
 rw [showInt_nat, showNat_one]; decide
theorem showInt_one (n : Int) : showInt n = dec 1 49 ↔ n = 1 := ⟨fun h => showInt_inj (h.trans showInt_1.symm), fun h => by subst h; exact showInt_1⟩
theorem showInt_zero (n : Int) : showInt n = dec 1 48 ↔ n = 0 := ⟨fun h => showInt_inj (h.trans (by decide)), fun h => by subst h; decide⟩
theorem kNegate : Know 177 (sp1 fun s => .ret (.c (.s (negS s)))) := know (fun fn h => r177_ok h) [(176, _)] (.cons kDecimal .nil) fun U fn hfn ⟨s, hs⟩ vs bs hv hb => by
 have hd := hfn 176 _ rfl
 have hv : RVs [.c (.s s)] vs := hv
 have hb : RBs [] bs := hb
 have hs : s.length < 90000 := hs
 show Sat U _ fun v bs' => RRes (.ret (.c (.s (negS s)))) v ∧ RBs [] bs'
 unfold r177
 (refine Zq ?_;with_reducible repeat' first|intro _|apply aI)
 have hl := decS_len s
 refine sCall hd ⟨s, hs⟩ (r := .c (.s (decS s))) rfl Zrv .nil fun _ _ _ _ => ?_
 rw [decS_show] at *
 unfold negS
 generalize decVal s = n at *
 have h0 := showInt_pos n
 have hbt : (((showInt n).getD 0 0).toNat : Int) = bt (showInt n) 0 := rfl
 (refine Zq ?_;with_reducible repeat' first|intro _|apply aI)
 ·have e : n = 0 := (showInt_zero n).1 ‹_›
  subst e
  exact sRet ⟨.ret _ _ (.s _ _ _ rfl rfl), .nil⟩
 ·have e : n < 0 := (showInt_bt n).1 ‹_›
  have e2 : showInt (-n) = (showInt n).drop (Int.toNat 1) := by
   unfold showInt
   rw [if_pos e, if_neg (by omega), Int.natAbs_neg]; rfl
  rw [e2]
  exact sRet ⟨.ret _ _ (.s _ _ _ rfl rfl), .nil⟩
 ·have e : ¬ n < 0 := fun k => ‹¬ (((showInt n).getD (Int.toNat 0) 0).toNat : Int) = 45› ((showInt_bt n).2 k)
  have e0 : n ≠ 0 := fun k => ‹¬ showInt n = dec 1 48› ((showInt_zero n).2 k)
  have e2 : showInt (-n) = [45] ++ showInt n := by
   unfold showInt
   rw [if_neg e, if_pos (by omega), Int.natAbs_neg]
  rw [e2]
  refine sfCat (x := [45]) (y := showInt n) rfl rfl rfl ?_
  exact sRet ⟨.ret _ _ (.s _ _ _ (by simp; omega) rfl), .nil⟩
theorem lms_lt {s : Str} (h : s.length < 9000) : (lms (decVal s).natAbs).length < 9000 := by
 have := digS_len s
 have := lms_le_digs (decVal s).natAbs
 omega
theorem sgn_quo {a b : Int} (hb : 0 < b) (hd : b ∣ a) : sgn (decide (a < 0) != decide (b < 0)) (a.natAbs / b.natAbs) = showInt (a / b) := by
 obtain ⟨q, rfl⟩ := hd
 have h1 : ¬ b < 0 := by omega
 have hb' : 0 < b.natAbs := by omega
 rw [Int.mul_ediv_cancel_left _ (by omega), Int.natAbs_mul, Nat.mul_div_cancel_left _ hb', ← sgn_int q]
 have : decide (b * q < 0) = decide (q < 0) := by
  rw [Bool.eq_iff_iff, decide_eq_true_iff, decide_eq_true_iff]
  constructor
  ·intro h
   by_cases hq : q < 0
   ·exact hq
   ·have := Int.mul_nonneg (show 0 ≤ b by omega) (show 0 ≤ q by omega); omega
  ·intro h; exact Int.mul_neg_of_pos_of_neg hb h
 rw [this, decide_eq_false h1, Bool.bne_false]
theorem mod_zero {a b : Int} (hd : b ∣ a) : a.natAbs % b.natAbs = 0 := Nat.mod_eq_zero_of_dvd (Int.natAbs_dvd_natAbs.2 hd)
def spDv : Sp where
 ι := { p : Str × Str // p.1.length < 9000 ∧ p.2.length < 9000 ∧ 0 < decVal p.2 ∧ decVal p.2 ∣ decVal p.1 }
 A p := [.c (.s p.1.1), .c (.s p.1.2)]
 B _ := []
 R p := .ret (.t [.c (.s (showInt (decVal p.1.1 / decVal p.1.2))), .c (.s zeroStr)])
 B' _ := []
 inj i j vs bs h k _ _ := by
  obtain ⟨_, _, h1, k1, h, k⟩ := h.two k
  obtain ⟨_, _, h2, k2, h, k⟩ := h.two k
  rw [s_inj h1 k1, s_inj h2 k2]; exact ⟨rfl, rfl⟩
theorem kDivide (hst : Know 203 spIs) : Know 179 spDv := know (fun fn h => r179_ok h) [(201, _), (176, _), (202, _), (203, _)] (.cons kParse (.cons kDecimal (.cons kDivideN (.cons hst .nil)))) fun U fn hfn ⟨(a, b), ha, hbl, hb0, hba⟩ vs bs hv hb => by
 have hp := hfn 201 _ rfl
 have hd := hfn 202 _ rfl
 have hs := hfn 203 _ rfl
 have ha : a.length < 9000 := ha
 have hbl : b.length < 9000 := hbl
 have hb0 : 0 < decVal b := hb0
 have hba : decVal b ∣ decVal a := hba
 have hv : RVs [.c (.s a), .c (.s b)] vs := hv
 have hb : RBs [] bs := hb
 show Sat U _ fun v bs' => RRes (.ret (.t [.c (.s (showInt (decVal a / decVal b))), .c (.s zeroStr)])) v ∧ RBs [] bs'
 have la := lms_lt ha
 have lb := lms_lt hbl
 have e1 := sgn_quo hb0 hba
 have e2 := mod_zero hba
 have hx0 : (decVal b).natAbs ≠ 0 := by omega
 have hq : (lms ((decVal a).natAbs / (decVal b).natAbs)).length ≤ (lms (decVal a).natAbs).length := lms_mono (Nat.div_le_self _ _)
 unfold r179
 (refine Zq ?_;with_reducible repeat' first|intro _|apply aI)
 refine sCall hp ⟨a, by show a.length < 90000; omega⟩ (r := .a (intG (decide (decVal a < 0)) (decVal a).natAbs)) rfl Zrv .nil fun _ _ hv1 _ => ?_
 have hv1 : RV (.a [.b _, .l (lgs _)]) _ := hv1
 (refine Zq ?_;with_reducible repeat' first|intro _|apply aI)
 refine sCall hp ⟨b, by show b.length < 90000; omega⟩ (r := .a (intG (decide (decVal b < 0)) (decVal b).natAbs)) rfl Zrv .nil fun _ _ hv2 _ => ?_
 have hv2 : RV (.a [.b _, .l (lgs _)]) _ := hv2
 generalize (decVal a).natAbs = x at *
 generalize (decVal b).natAbs = y at *
 have hly : (lgs y).length ≠ 0 := by
  intro e
  simp only [lgs, List.length_map, List.length_eq_zero_iff] at e
  exact hx0 (lms_inj (e.trans lms_zero.symm))
 (refine Zq ?_;with_reducible repeat' first|intro _|apply aI)
 refine sCSl (by assumption) (lgs_len y) fun t off ht => ?_
 (refine Zq ?_;with_reducible repeat' first|intro _|apply aI)
 ·exact absurd (by omega) hly
 ·refine sCall hd ⟨(x, y), by show (lms x).length < 20000; omega, by show (lms y).length < 20000; omega, hx0, la, lb⟩ (r := .t [.sl 1 (lgs (x / y)), .sl 1 (lgs 0)]) (by show GRes.ret (.t [.sl 1 (lgs (x / y)), .sl 1 (lgs (x % y))]) = _; rw [e2]) (.cons _ _ _ _ (rvLg (by assumption)) (.cons _ _ _ _ (rvLg (by assumption)) .nil)) .nil fun _ _ _ _ => ?_
  (refine Zq ?_;with_reducible repeat' first|intro _|apply aI)
  all_goals
   refine sBoR (gs := intG (decide (decVal a < 0) != decide (decVal b < 0)) (x / y)) (.cells _ _ (.cons _ _ _ _ (.b _) (.cons _ _ _ _ (.cl _ _ _ _ _ (by simp [lgs]) (by assumption)) .nil))) rfl fun _ hc1 => ?_
   (refine Zq ?_;with_reducible repeat' first|intro _|apply aI)
   refine sBoR (gs := intG (decide (decVal b < 0)) 0) (.cells _ _ (.cons _ _ _ _ (.q _ _ (by assumption)) (.cons _ _ _ _ (.cl _ _ _ _ _ (by simp [lgs]) (by assumption)) .nil))) rfl fun _ hc2 => ?_
   (refine Zq ?_;with_reducible repeat' first|intro _|apply aI)
   all_goals first
   | exact absurd ‹0 < (((lms 0).length : Nat) : Int)› (by simp [lms_zero])
   | refine sCall hs ⟨(_, x / y), by show (lms (x / y)).length < 20000; omega⟩ (r := .c (.s (showInt (decVal a / decVal b)))) (by show GRes.ret (.c (.s (sgn (decide (decVal a < 0) != decide (decVal b < 0)) (x / y)))) = _; rw [e1]) (.cons _ _ _ _ (.a _ _ _ rfl (by assumption)) .nil) .nil fun _ _ _ _ => ?_
     (refine Zq ?_;with_reducible repeat' first|intro _|apply aI)
     refine sCall hs ⟨(decide (decVal b < 0), 0), by show (lms 0).length < 20000; simp [lms_zero]⟩ (r := .c (.s zeroStr)) rfl (.cons _ _ _ _ (.a _ _ _ rfl (by assumption)) .nil) .nil fun _ _ _ _ => ?_
     (refine Zq ?_;with_reducible repeat' first|intro _|apply aI)
     exact sRet ⟨.ret _ _ Zrv, .nil⟩
theorem decS_val (s : Str) : decVal (decS s) = decVal s := by rw [decS_show, decVal_showInt]
theorem reduceS_val {a b a' b' : Str} (h1 : decVal a = decVal a') (h2 : decVal b = decVal b') : reduceS a b = reduceS a' b' := by unfold reduceS; rw [h1, h2]
def sp2b (R : Str → Str → GRes) : Sp where
 ι := { p : Str × Str // p.1.length < 8000 ∧ p.2.length < 8000 }
 A p := [.c (.s p.1.1), .c (.s p.1.2)]
 B _ := []
 R p := R p.1.1 p.1.2
 B' _ := []
 inj i j vs bs h k _ _ := by
  obtain ⟨_, _, h1, k1, h, k⟩ := h.two k
  obtain ⟨_, _, h2, k2, h, k⟩ := h.two k
  rw [s_inj h1 k1, s_inj h2 k2]; exact ⟨rfl, rfl⟩
theorem neg_len (n : Int) : (showInt (-n)).length ≤ (showInt n).length + 1 := by
 unfold showInt
 rw [Int.natAbs_neg]
 split <;> split <;> simp <;> omega
theorem red_0 (x : Int) : reduceS (showInt x) (showInt 0) = (zeroStr, oneStr) := by unfold reduceS; rw [decVal_showInt, if_pos rfl]
theorem red_1 (x : Int) : reduceS (showInt x) (showInt 1) = (showInt x, showInt 1) := by
 rw [reduceS_int x 1 (by decide)]
 simp
theorem red_neg (x y : Int) : reduceS (showInt x) (showInt y) = reduceS (showInt (-x)) (showInt (-y)) := by
 rw [reduceS_qn, reduceS_qn]
 simp only [decVal_showInt]
 have : qn x y = qn (-x) (-y) := by
  unfold qn
  rw [Int.natAbs_neg, Int.natAbs_neg]
  by_cases hy : y = 0
  ·rw [if_pos hy, if_pos (by omega)]
  ·rw [if_neg hy, if_neg (show ¬ -y = 0 by omega)]
   by_cases hx : x = 0
   ·subst hx; simp <;> (intro h; exact absurd h hy)
   ·have e : (if (x < 0) = (y < 0) then (1 : Int) else -1) = if (-x < 0) = (-y < 0) then 1 else -1 := by
     by_cases h1 : x < 0 <;> by_cases h2 : y < 0 <;> simp [h1, h2] <;> omega
    rw [e]
 rw [this]
theorem red_gcd {m n : Int} (hn : 0 < n) (h : Nat.gcd m.natAbs n.natAbs = 1) : reduceS (showInt m) (showInt n) = (showInt m, showInt n) := by
 rw [reduceS_int m n hn, h]; simp
theorem kReduceN (hst : Know 203 spIs) : Know 155 (sp2b fun a b => .ret (.t [.c (.s (reduceS a b).1), .c (.s (reduceS a b).2)])) := know (fun fn h => r155_ok h) [(176, _), (177, _), (178, _), (179, _)] (.cons kDecimal (.cons kNegate (.cons (kGcdN hst) (.cons (kDivide hst) .nil)))) fun U fn hfn ⟨(a, b), ha, hbl⟩ vs bs hv hb => by
 have hd := hfn 176 _ rfl
 have hn := hfn 177 _ rfl
 have hg := hfn 178 _ rfl
 have hq := hfn 179 _ rfl
 have ha : a.length < 8000 := ha
 have hbl : b.length < 8000 := hbl
 have hv : RVs [.c (.s a), .c (.s b)] vs := hv
 have hb : RBs [] bs := hb
 show Sat U _ fun v bs' => RRes (.ret (.t [.c (.s (reduceS a b).1), .c (.s (reduceS a b).2)])) v ∧ RBs [] bs'
 unfold r155
 (refine Zq ?_;with_reducible repeat' first|intro _|apply aI)
 refine sCall hd ⟨a, by show a.length < 90000; omega⟩ (r := .c (.s (decS a))) rfl Zrv .nil fun _ _ _ _ => ?_
 (refine Zq ?_;with_reducible repeat' first|intro _|apply aI)
 refine sCall hd ⟨b, by show b.length < 90000; omega⟩ (r := .c (.s (decS b))) rfl Zrv .nil fun _ _ _ _ => ?_
 have la : (decS a).length < 8000 := by have := decS_len a; omega
 have lb : (decS b).length < 8000 := by have := decS_len b; omega
 rw [reduceS_val (decS_val a).symm (decS_val b).symm]
 rw [decS_show a, decS_show b] at *
 generalize decVal a = x at *
 generalize decVal b = y at *
 have h0 := showInt_pos y
 have hbt : (((showInt y).getD 0 0).toNat : Int) = bt (showInt y) 0 := rfl
 (refine Zy ?_;with_reducible repeat' first|intro _|apply aI)
 refine sJnP (fun vs bs => ∃ m n : Int, RVs [.c (.s (showInt m)), .c (.s (showInt n))] vs ∧ RBs [] bs ∧ 0 < n ∧ (showInt m).length < 8500 ∧ (showInt n).length < 8500 ∧ reduceS (showInt x) (showInt y) = reduceS (showInt m) (showInt n)) ?_ ?_
 ·rintro vs' bs' ⟨m, n, hv', hb', hn0, hml, hnl, he⟩
  rw [he]
  have hgv : GRes.ret (.c (.s (showNat (Nat.gcd (decVal (showInt m)).natAbs (decVal (showInt n)).natAbs)))) = .ret (.c (.s (showNat (Nat.gcd m.natAbs n.natAbs)))) := by rw [decVal_showInt, decVal_showInt]
  obtain ⟨g, hge⟩ : ∃ g, g = Nat.gcd m.natAbs n.natAbs := ⟨_, rfl⟩
  rw [← hge] at hgv
  have hg0 : 0 < g := by rw [hge]; exact Nat.gcd_pos_of_pos_right _ (by omega)
  have hgd : (g : Int) ∣ m ∧ (g : Int) ∣ n := by
   rw [hge]; exact ⟨Int.ofNat_dvd_left.2 (Nat.gcd_dvd_left _ _), Int.ofNat_dvd_left.2 (Nat.gcd_dvd_right _ _)⟩
  have hdv : decVal (showNat g) = (g : Int) := decVal_showNat g
  have hgl : (showNat g).length < 9000 := by
   have h1 := showNat_len g
   have h2 : (digs g).length ≤ (digs n.natAbs).length := digs_len_le (by rw [hge]; exact Nat.le_of_dvd (by omega) (Nat.gcd_dvd_right _ _))
   have h3 := digs_len_int n
   omega
  (refine Zq ?_;with_reducible repeat' first|intro _|apply aI)
  refine sCall hg ⟨(showInt m, showInt n), by show (showInt m).length < 9000; omega, by show (showInt n).length < 9000; omega⟩ (r := .c (.s (showNat g))) hgv Zrv .nil fun _ _ _ _ => ?_
  (refine Zq ?_;with_reducible repeat' first|intro _|apply aI)
  ·have e1 : g = 1 := by
    have := (showInt_one (g : Int)).1 (by rw [showInt_nat]; assumption)
    omega
   rw [red_gcd hn0 (by rw [← hge]; exact e1)]
   exact sRet ⟨.ret _ _ Zrv, .nil⟩
  ·rw [reduceS_int m n hn0, ← hge]
   refine sCall hq ⟨(showInt m, showNat g), by show (showInt m).length < 9000; omega, hgl, by show 0 < decVal (showNat g); omega, by show decVal (showNat g) ∣ decVal (showInt m); rw [hdv, decVal_showInt]; exact hgd.1⟩ (r := .t [.c (.s (showInt (m / g))), .c (.s zeroStr)]) (by show GRes.ret (.t [.c (.s (showInt (decVal (showInt m) / decVal (showNat g)))), .c (.s zeroStr)]) = _; rw [hdv, decVal_showInt]) Zrv .nil fun _ _ _ _ => ?_
   (refine Zq ?_;with_reducible repeat' first|intro _|apply aI)
   refine sCall hq ⟨(showInt n, showNat g), by show (showInt n).length < 9000; omega, hgl, by show 0 < decVal (showNat g); omega, by show decVal (showNat g) ∣ decVal (showInt n); rw [hdv, decVal_showInt]; exact hgd.2⟩ (r := .t [.c (.s (showInt (n / g))), .c (.s zeroStr)]) (by show GRes.ret (.t [.c (.s (showInt (decVal (showInt n) / decVal (showNat g)))), .c (.s zeroStr)]) = _; rw [hdv, decVal_showInt]) Zrv .nil fun _ _ _ _ => ?_
   (refine Zq ?_;with_reducible repeat' first|intro _|apply aI)
   exact sRet ⟨.ret _ _ Zrv, .nil⟩
 ·intro c hc
  (refine Zq ?_;with_reducible repeat' first|intro _|apply aI)
  ·have e : y = 0 := (showInt_zero y).1 ‹_›
   subst e
   rw [red_0]
   exact sRet ⟨.ret _ _ Zrv, .nil⟩
  ·have e : y = 1 := (showInt_one y).1 ‹_›
   subst e
   rw [red_1]
   exact sRet ⟨.ret _ _ Zrv, .nil⟩
  ·have e : y < 0 := (showInt_bt y).1 ‹_›
   refine sCall hn ⟨showInt x, by show (showInt x).length < 90000; omega⟩ (r := .c (.s (showInt (-x)))) (by show GRes.ret (.c (.s (showInt (-decVal (showInt x))))) = _; rw [decVal_showInt]) Zrv .nil fun _ _ _ _ => ?_
   (refine Zq ?_;with_reducible repeat' first|intro _|apply aI)
   refine sCall hn ⟨showInt y, by show (showInt y).length < 90000; omega⟩ (r := .c (.s (showInt (-y)))) (by show GRes.ret (.c (.s (showInt (-decVal (showInt y))))) = _; rw [decVal_showInt]) Zrv .nil fun _ _ _ _ => ?_
   (refine Zq ?_;with_reducible repeat' first|intro _|apply aI)
   have l1 := neg_len x
   have l2 := neg_len y
   exact hc _ _ ⟨-x, -y, by (exact Zrv), .nil, by omega, by omega, by omega, red_neg x y⟩
  ·have e : ¬ y < 0 := fun k => ‹¬ (((showInt y).getD (Int.toNat 0) 0).toNat : Int) = 45› ((showInt_bt y).2 k)
   have e0 : y ≠ 0 := fun k => ‹¬ showInt y = dec 1 48› ((showInt_zero y).2 k)
   exact hc _ _ ⟨x, y, by (exact Zrv), .nil, by omega, by omega, by omega, rfl⟩
end
end Go.Proofs.YtffaodopiifbkaaGreatDoor
namespace Go.Proofs.YtffaodopiifbkaaGreatDoor
open Go.Abs LQ
set_option maxRecDepth 100000
set_option maxHeartbeats 4000000
noncomputable section
theorem dw_nil {p : UInt8 → Bool} : ∀ {l : Str}, l.dropWhile p = [] ↔ ∀ b ∈ l, p b = true
 | [] => by simp
 | c :: l => by
  by_cases h : p c = true
  ·rw [List.dropWhile_cons_of_pos h, dw_nil]; simp [h]
  ·rw [List.dropWhile_cons_of_neg h]; simp [h]
theorem dw_head {p : UInt8 → Bool} {c : UInt8} {r : Str} : ∀ {l : Str}, l.dropWhile p = c :: r → p c = false
 | [], h => by simp at h
 | d :: l, h => by
  by_cases hp : p d = true
  ·rw [List.dropWhile_cons_of_pos hp] at h; exact dw_head h
  ·rw [List.dropWhile_cons_of_neg hp] at h
   injection h with h _; subst h; simpa using hp
theorem trim_all {l cs : Str} : Lib.trimS l cs = [] ↔ ∀ b ∈ l, cs.contains b = true := by
 unfold Lib.trimS Lib.trimLeftS Lib.trimRightS
 constructor
 ·intro h
  have h1 := dw_nil.1 h
  cases hd : l.reverse.dropWhile (cs.contains ·) with
  | nil => intro b hb; exact dw_nil.1 hd b (List.mem_reverse.2 hb)
  | cons c r =>
   rw [hd] at h1
   have h2 := h1 c (by simp)
   have h3 := dw_head hd
   rw [h2] at h3; cases h3
 ·intro h
  have : l.reverse.dropWhile (cs.contains ·) = [] := dw_nil.2 fun b hb => h b (List.mem_reverse.1 hb)
  rw [this]; rfl
def ten : Str := dec 10 270211885617516653982000
theorem ten_dig (b : UInt8) : ten.contains b = isDig b.toNat := by
 have key : ∀ n : Fin 256, ten.contains (UInt8.ofNat n.1) = isDig n.1 := by decide
 have := key ⟨b.toNat, b.toNat_lt⟩
 simpa using this
def cipherS (u : Str) : Bool := decide (u ≠ [] ∧ digEnd u 0 = u.length)
theorem digEnd_iff {u : Str} {k : Nat} (hk : k ≤ u.length) : digEnd u k = u.length ↔ ∀ j, k ≤ j → j < u.length → 48 ≤ bt u j ∧ bt u j ≤ 57 :=
 ⟨fun h j h1 h2 => digEnd_all u k j h1 (by omega), fun h => digEnd_full u k hk h⟩
theorem cipher_eq (u : Str) : decide (Lib.trimS u ten = []) = decide (digEnd u 0 = u.length) := by
 rw [Bool.eq_iff_iff, decide_eq_true_iff, decide_eq_true_iff, trim_all, digEnd_iff (Nat.zero_le _)]
 constructor
 ·intro h j _ hj
  have := h u[j] (List.getElem_mem hj)
  rw [ten_dig] at this
  have e : bt u j = u[j].toNat := by unfold bt; simp [List.getD, List.getElem?_eq_getElem hj]
  rw [e]; simpa [isDig] using this
 ·intro h b hb
  obtain ⟨j, hj, rfl⟩ := List.getElem_of_mem hb
  rw [ten_dig]
  have e : bt u j = u[j].toNat := by unfold bt; simp [List.getD, List.getElem?_eq_getElem hj]
  have := h j (Nat.zero_le _) hj
  rw [e] at this; simpa [isDig] using this
theorem kCipher : Know 183 (sp1 fun s => .ret (.c (.b (cipherS s)))) := know (fun fn h => r183_ok h) [(165, _)] (.cons kTrimS .nil) fun U fn hfn ⟨s, hs⟩ vs bs hv hb => by
 have ht := hfn 165 _ rfl
 have hv : RVs [.c (.s s)] vs := hv
 have hb : RBs [] bs := hb
 have hs : s.length < 90000 := hs
 show Sat U _ fun v bs' => RRes (.ret (.c (.b (cipherS s)))) v ∧ RBs [] bs'
 unfold r183
 (refine Zq ?_;with_reducible repeat' first|intro _|apply aI)
 ·have h0 : s = dec 0 0 := ‹_›
  have e : cipherS s = false := by unfold cipherS; rw [decide_eq_false]; exact fun h => h.1 h0
  rw [e]
  exact sRet ⟨.ret _ _ (.kn _), .nil⟩
 ·have h0 : ¬ s = dec 0 0 := ‹_›
  refine sCall ht ⟨(s, ten), by show s.length < 4294967281; omega, (by decide : ten.length < 4294967281), (by decide : ∀ b ∈ ten, b.toNat < 128)⟩ (r := .c (.s (Lib.trimS s ten))) rfl Zrv .nil fun _ _ _ _ => ?_
  (refine Zq ?_;with_reducible repeat' first|intro _|apply aI)
  exact sRetU fun e => by
   subst e
   refine ⟨.ret _ _ (rvB ?_), .nil⟩
   rw [cuSL]
   show cipherS s = decide (Lib.trimS s ten = [])
   rw [cipher_eq]
   unfold cipherS
   rw [Bool.eq_iff_iff, decide_eq_true_iff, decide_eq_true_iff]
   exact ⟨fun h => h.2, fun h => ⟨h0, h⟩⟩
theorem ib_at {s : Str} {c : UInt8} (h : 0 ≤ Lib.indexByte s c) : bt s (Lib.indexByte s c).toNat = c.toNat ∧ ∀ j, j < (Lib.indexByte s c).toNat → bt s j ≠ c.toNat := by
 induction s with
 | nil => simp [Lib.indexByte] at h
 | cons b r ih =>
  have ex : Lib.indexByte (b :: r) c = if b = c then 0 else if Lib.indexByte r c = -1 then -1 else Lib.indexByte r c + 1 := by simp only [Lib.indexByte, beq_iff_eq]
  rw [ex] at h ⊢
  by_cases hb : b = c
  ·rw [if_pos hb]; subst hb; exact ⟨rfl, fun j hj => by simp at hj⟩
  ·rw [if_neg hb] at h ⊢
   by_cases h1 : Lib.indexByte r c = -1
   ·rw [if_pos h1] at h; omega
   ·rw [if_neg h1] at h ⊢
    have hge := (indexByte_lt r c).2
    obtain ⟨i1, i2⟩ := ih (by omega)
    rw [show (Lib.indexByte r c + 1).toNat = (Lib.indexByte r c).toNat + 1 by omega]
    refine ⟨by rw [bt_cons]; exact i1, fun j hj => ?_⟩
    cases j with
    | zero => exact fun e => hb (UInt8.toNat_inj.1 (by have : bt (b :: r) 0 = b.toNat := rfl; omega))
    | succ j => rw [bt_cons]; exact i2 j (by omega)
theorem ib_none {s : Str} {c : UInt8} (h : ¬ 0 ≤ Lib.indexByte s c) : ∀ j, j < s.length → bt s j ≠ c.toNat := by
 induction s with
 | nil => intro j hj; simp at hj
 | cons b r ih =>
  have ex : Lib.indexByte (b :: r) c = if b = c then 0 else if Lib.indexByte r c = -1 then -1 else Lib.indexByte r c + 1 := by simp only [Lib.indexByte, beq_iff_eq]
  rw [ex] at h
  by_cases hb : b = c
  ·rw [if_pos hb] at h; omega
  ·rw [if_neg hb] at h
   have hge := (indexByte_lt r c).2
   have h1 : ¬ 0 ≤ Lib.indexByte r c := by split at h <;> omega
   intro j hj
   cases j with
   | zero => exact fun e => hb (UInt8.toNat_inj.1 (by have : bt (b :: r) 0 = b.toNat := rfl; omega))
   | succ j => rw [bt_cons]; exact ih h1 j (by simpa using hj)
theorem digEnd_stop (s : Str) (i : Nat) : digEnd s i < s.length → ¬ (48 ≤ bt s (digEnd s i) ∧ bt s (digEnd s i) ≤ 57) := by
 fun_induction digEnd s i with
 | case1 i h1 h2 ih => exact ih
 | case2 i h1 h2 => intro _ h; exact h2 (by simpa [isDig] using h)
 | case3 i h1 => intro h; exact absurd h h1
def numP (s : Str) : Str × Str := ((cutB s 47).1, if (cutB s 47).2.2 then (cutB s 47).2.1 else oneStr)
theorem digs_part {s : Str} {i p : Nat} (hp : p ≤ s.length) (hi : i ≤ p) (hn : p < s.length → ¬ (48 ≤ bt s p ∧ bt s p ≤ 57)) : (∀ j, i ≤ j → j < p → 48 ≤ bt s j ∧ bt s j ≤ 57) ↔ digEnd s i = p := by
 constructor
 ·intro h
  have hA : At s i ((s.take p).drop i) (s.drop p) := by
   unfold At
   have := (List.take_append_drop p s).symm
   conv => lhs; rw [this]
   rw [List.drop_append_of_le_length (by simp; omega)]
  have hl : ((s.take p).drop i).length = p - i := by simp; omega
  rw [digEnd_at hA (fun j hj => by
   rw [hl] at hj
   have e : bt ((s.take p).drop i) j = bt s (i + j) := by rw [bt_drop]; unfold bt; simp [List.getD, List.getElem?_take, show i + j < p by omega]
   rw [e]; exact h _ (by omega) (by omega)) ?_, hl]
  ·omega
  ·by_cases h2 : p < s.length
   ·right; rw [bt_drop]; exact hn h2
   ·left; exact List.drop_eq_nil_of_le (by omega)
 ·intro h j h1 h2; exact digEnd_all s i j h1 (by omega)
theorem cipher_part {s : Str} {i p : Nat} (hp : p ≤ s.length) (hi : i ≤ p) (hn : p < s.length → ¬ (48 ≤ bt s p ∧ bt s p ≤ 57)) : cipherS ((s.take p).drop i) = decide (i < p ∧ digEnd s i = p) := by
 unfold cipherS
 have hl : ((s.take p).drop i).length = p - i := by simp; omega
 rw [Bool.eq_iff_iff, decide_eq_true_iff, decide_eq_true_iff, digEnd_iff (Nat.zero_le _), hl, ← digs_part hp hi hn]
 have hb : ∀ j, j < p - i → bt ((s.take p).drop i) j = bt s (i + j) := fun j hj => by
  rw [bt_drop]; unfold bt; simp [List.getD, List.getElem?_take, show i + j < p by omega]
 constructor
 ·rintro ⟨h1, h2⟩
  refine ⟨?_, fun j h3 h4 => ?_⟩
  ·have := List.length_pos_iff.2 h1; omega
  ·have := h2 (j - i) (Nat.zero_le _) (by omega)
   rw [hb _ (by omega), show i + (j - i) = j by omega] at this; exact this
 ·rintro ⟨h1, h2⟩
  refine ⟨fun e => by rw [e] at hl; simp at hl; omega, fun j _ hj => ?_⟩
  rw [hb j hj]; exact h2 _ (by omega) (by omega)
theorem cutPre_take {s : Str} {p : Nat} (hp : signLen s ≤ p) (hl : p ≤ s.length) : cutPre (s.take p) [45] = (s.take p).drop (signLen s) := by
 rw [cutPre_sign]
 congr 1
 have hs := signLen_le s
 unfold signLen at hp ⊢
 have hlen : (s.take p).length = p := by simp; omega
 by_cases h : 0 < s.length ∧ bt s 0 = 45
 ·rw [if_pos h] at hp ⊢
  rw [if_pos ⟨by omega, by unfold bt at *; simp only [List.getD, List.getElem?_take]; rw [if_pos (by omega)]; exact h.2⟩]
 ·rw [if_neg h]
  rw [if_neg]
  rintro ⟨h1, h2⟩
  refine h ⟨by omega, ?_⟩
  unfold bt at h2 ⊢
  simp only [List.getD, List.getElem?_take] at h2
  rw [if_pos (by omega)] at h2; exact h2
theorem cipher_one : cipherS oneStr = true := by
 unfold cipherS
 refine decide_eq_true ⟨by decide, digEnd_full oneStr 0 (by decide) ?_⟩
 intro j _ hj
 have e : j = 0 := Nat.lt_one_iff.1 hj
 rw [e]; decide
theorem numeral_is (s : Str) : (cipherS (cutPre (numP s).1 [45]) && cipherS (numP s).2) = (numeral s).2.2 ∧ ((numeral s).2.2 = true → (numeral s).1 = (numP s).1 ∧ (numeral s).2.1 = (numP s).2) := by
 have hs := signLen_le s
 have hd := digEnd_le s (signLen s) hs.1
 have hstop := digEnd_stop s (signLen s)
 have hsg : ∀ j, j < signLen s → bt s j = 45 := fun j hj => by
  unfold signLen at hj
  split at hj
  ·rename_i h; have : j = 0 := by omega
   subst this; exact h.2
  ·omega
 unfold numP cutB
 by_cases hp : 0 ≤ Lib.indexByte s 47
 ·obtain ⟨p1, p2⟩ := ib_at hp
  have p3 := (indexByte_lt s 47).1
  simp only [if_pos hp]
  obtain ⟨p, hpe⟩ : ∃ p, p = (Lib.indexByte s 47).toNat := ⟨_, rfl⟩
  rw [show (Lib.indexByte s 47 + 1).toNat = p + 1 by omega]
  rw [← hpe] at p1 p2 ⊢
  have hpl : p < s.length := by omega
  have hip : signLen s ≤ p := by
   by_cases h : p < signLen s
   ·have := hsg p h; rw [p1] at this; simp at this
   ·omega
  have p1' : bt s p = 47 := p1
  have hkp : digEnd s (signLen s) ≤ p := by
   by_cases h : p < digEnd s (signLen s)
   ·have := digEnd_all s (signLen s) p hip h; omega
   ·omega
  rw [cutPre_take hip (by omega), cipher_part (by omega) hip (fun _ => by omega)]
  have hden : s.drop (p + 1) = (s.take s.length).drop (p + 1) := by rw [List.take_length]
  simp only [if_true]
  rw [hden, cipher_part (Nat.le_refl _) (by omega) (fun h => by omega)]
  unfold numeral
  simp only []
  by_cases h1 : digEnd s (signLen s) = signLen s
  ·rw [if_pos h1]
   refine ⟨?_, fun h => by cases h⟩
   rw [decide_eq_false (by omega)]; rfl
  ·rw [if_neg h1, if_neg (by omega)]
   by_cases h2 : digEnd s (signLen s) = p
   ·rw [h2]
    by_cases h3 : p + 1 = s.length
    ·rw [if_pos (.inr h3)]
     refine ⟨?_, fun h => by cases h⟩
     rw [show decide (p + 1 < s.length ∧ digEnd s (p + 1) = s.length) = false from decide_eq_false (by omega), Bool.and_false]
    ·rw [if_neg (by omega)]
     have hsp : signLen s < p := by omega
     by_cases h4 : digEnd s (p + 1) = s.length
     ·rw [if_pos h4]
      refine ⟨?_, fun _ => ⟨by simp, by simp⟩⟩
      rw [decide_eq_true ⟨hsp, rfl⟩, decide_eq_true ⟨by omega, h4⟩]; rfl
     ·rw [if_neg h4]
      refine ⟨?_, fun h => by cases h⟩
      rw [show decide (p + 1 < s.length ∧ digEnd s (p + 1) = s.length) = false from decide_eq_false (fun h => h4 h.2), Bool.and_false]
   ·rw [if_pos (.inl (p2 _ (by omega)))]
    refine ⟨?_, fun h => by cases h⟩
    rw [decide_eq_false (fun h => h2 h.2)]; rfl
 ·have p2 := ib_none hp
  simp only [if_neg hp]
  rw [show cutPre s [45] = (s.take s.length).drop (signLen s) by rw [List.take_length, cutPre_sign], cipher_part (Nat.le_refl _) hs.1 (fun h => by omega)]
  simp only [Bool.false_eq_true, if_false]
  rw [cipher_one, Bool.and_true]
  unfold numeral
  simp only []
  by_cases h1 : digEnd s (signLen s) = signLen s
  ·rw [if_pos h1]
   refine ⟨decide_eq_false (by omega), fun h => by cases h⟩
  ·rw [if_neg h1]
   by_cases h2 : digEnd s (signLen s) = s.length
   ·rw [if_pos h2]
    exact ⟨decide_eq_true ⟨by omega, h2⟩, fun _ => ⟨rfl, rfl⟩⟩
   ·rw [if_neg h2, if_pos (.inl (p2 _ (by omega)))]
    exact ⟨decide_eq_false (fun h => h2 h.2), fun h => by cases h⟩
theorem dec_sl : dec 1 47 = [47] := by decide
theorem kNumeral : Know 164 (sp1 fun s => .ret (.t [.c (.s (numP s).1), .c (.s (numP s).2), .c (.b (numeral s).2.2)])) := know (fun fn h => r164_ok h) [(182, _), (184, _), (183, _)] (.cons kCut (.cons kTrimPrefix (.cons kCipher .nil))) fun U fn hfn ⟨s, hs⟩ vs bs hv hb => by
 have hc := hfn 182 _ rfl
 have ht := hfn 184 _ rfl
 have hi := hfn 183 _ rfl
 have hv : RVs [.c (.s s)] vs := hv
 have hb : RBs [] bs := hb
 have hs : s.length < 90000 := hs
 show Sat U _ fun v bs' => RRes (.ret (.t [.c (.s (numP s).1), .c (.s (numP s).2), .c (.b (numeral s).2.2)])) v ∧ RBs [] bs'
 unfold r164
 obtain ⟨n1, n2⟩ := numeral_is s
 have hl : (numP s).1.length ≤ s.length ∧ ((numP s).2.length ≤ s.length ∨ (numP s).2.length ≤ 1) := by
  unfold numP cutB
  split <;> simp [oneStr] <;> omega
 have hcp : (cutPre (numP s).1 [45]).length ≤ (numP s).1.length := by unfold cutPre; split <;> simp
 rw [← n1]
 (refine Zq ?_;with_reducible repeat' first|intro _|apply aI)
 refine sCall hc ⟨(s, dec 1 47), ⟨hs, 47, dec_sl⟩⟩ (r := .t [.c (.s (cutB s 47).1), .c (.s (cutB s 47).2.1), .c (.b (cutB s 47).2.2)]) (by show GRes.ret (.t [.c (.s (cutB s ((dec 1 47).headD 0)).1), .c (.s (cutB s ((dec 1 47).headD 0)).2.1), .c (.b (cutB s ((dec 1 47).headD 0)).2.2)]) = _; rw [dec_sl]; rfl) Zrv .nil fun _ _ _ _ => ?_
 (refine Zy ?_;with_reducible repeat' first|intro _|apply aI)
 refine sJnP (fun vs bs => RVs [.c (.s (numP s).1), .c (.s (numP s).2)] vs ∧ RBs [] bs) ?_ ?_
 ·rintro vs' bs' ⟨hv', hb'⟩
  (refine Zq ?_;with_reducible repeat' first|intro _|apply aI)
  refine sCall ht ⟨((numP s).1, dec 1 45), trivial⟩ (r := .c (.s (cutPre (numP s).1 [45]))) (by show GRes.ret (.c (.s (cutPre _ (dec 1 45)))) = _; rw [dec_m]) Zrv .nil fun _ _ _ _ => ?_
  (refine Zq ?_;with_reducible repeat' first|intro _|apply aI)
  refine sCall hi ⟨cutPre (numP s).1 [45], by omega⟩ (r := .c (.b (cipherS (cutPre (numP s).1 [45])))) rfl Zrv .nil fun _ _ _ _ => ?_
  (refine Zq ?_;with_reducible repeat' first|intro _|apply aI)
  ·have h1 : cipherS (cutPre (numP s).1 [45]) = true := ‹_›
   rw [h1, Bool.true_and]
   refine sCall hi ⟨(numP s).2, by omega⟩ (r := .c (.b (cipherS (numP s).2))) rfl Zrv .nil fun _ _ _ _ => ?_
   (refine Zq ?_;with_reducible repeat' first|intro _|apply aI)
   exact sRet ⟨.ret _ _ Zrv, .nil⟩
  ·have h1 : cipherS (cutPre (numP s).1 [45]) = false := by simpa using ‹¬ cipherS (cutPre (numP s).1 [45]) = true›
   rw [h1, Bool.false_and]
   exact sRet ⟨.ret _ _ Zrv, .nil⟩
 ·intro c hc
  have e1 : (numP s).1 = (cutB s 47).1 := rfl
  have e2 : (numP s).2 = if (cutB s 47).2.2 then (cutB s 47).2.1 else oneStr := rfl
  (refine Zq ?_;with_reducible repeat' first|intro _|apply aI)
  ·refine hc _ _ ⟨?_, .nil⟩
   rw [e1, e2, if_pos ‹_›]
   exact Zrv
  ·refine hc _ _ ⟨?_, .nil⟩
   rw [e1, e2, if_neg ‹_›]
   exact Zrv
theorem zero_drop (s : Str) (a : Nat) : Lib.trimLeftS (s.drop a) [48] = s.drop (zeroEnd s a) := by
 fun_induction zeroEnd s a with
 | case1 a h1 h2 ih =>
  rw [← ih, List.drop_eq_getElem_cons h1]
  have : s[a] = 48 := UInt8.toNat_inj.1 (by have e : bt s a = s[a].toNat := by unfold bt; simp [List.getD, List.getElem?_eq_getElem h1]
                                            rw [e] at h2; show s[a].toNat = 48; omega)
  unfold Lib.trimLeftS
  rw [List.dropWhile_cons_of_pos (by rw [this]; decide)]
 | case2 a h1 h2 =>
  rw [List.drop_eq_getElem_cons h1]
  unfold Lib.trimLeftS
  rw [List.dropWhile_cons_of_neg]
  simp only [List.contains_cons, List.contains_nil, Bool.or_false, beq_iff_eq]
  intro e
  refine h2 ?_
  unfold bt; simp [List.getD, List.getElem?_eq_getElem h1, e]
 | case3 a h1 => rw [List.drop_eq_nil_of_le (by omega)]; rfl
theorem kPlain : Know 166 (sp1 fun s => .ret (.c (.s (plain s)))) := know (fun fn h => r166_ok h) [(184, _), (192, _)] (.cons kTrimPrefix (.cons kTrimLeftS .nil)) fun U fn hfn ⟨s, hs⟩ vs bs hv hb => by
 have ht := hfn 184 _ rfl
 have hl := hfn 192 _ rfl
 have hv : RVs [.c (.s s)] vs := hv
 have hb : RBs [] bs := hb
 have hs : s.length < 90000 := hs
 show Sat U _ fun v bs' => RRes (.ret (.c (.s (plain s)))) v ∧ RBs [] bs'
 unfold r166
 (refine Zq ?_;with_reducible repeat' first|intro _|apply aI)
 refine sCall ht ⟨(s, dec 1 45), trivial⟩ (r := .c (.s (s.drop (signLen s)))) (by show GRes.ret (.c (.s (cutPre s (dec 1 45)))) = _; rw [dec_m, cutPre_sign]) Zrv .nil fun _ _ _ _ => ?_
 (refine Zq ?_;with_reducible repeat' first|intro _|apply aI)
 refine sCall hl ⟨(s.drop (signLen s), dec 1 48), by show (s.drop (signLen s)).length < 4294967281; simp; omega, (by decide : (dec 1 48).length < 4294967281), (by decide : ∀ b ∈ dec 1 48, b.toNat < 128)⟩ (r := .c (.s (s.drop (zeroEnd s (signLen s))))) (by show GRes.ret (.c (.s (Lib.trimLeftS (s.drop (signLen s)) (dec 1 48)))) = _; rw [← zero_drop]; rfl) Zrv .nil fun _ _ _ _ => ?_
 have hsl := signLen_le s
 have hz := zeroEnd_le s (signLen s) hsl.1
 have hbt : ((s.getD 0 0).toNat : Int) = bt s 0 := rfl
 have e1 : plain s = if zeroEnd s (signLen s) = s.length then zeroStr else if signLen s = 1 then [45] ++ s.drop (zeroEnd s (signLen s)) else s.drop (zeroEnd s (signLen s)) := by unfold plain; simp only [List.take_length]
 rw [e1]
 generalize zeroEnd s (signLen s) = z at *
 have hdl : (s.drop z).length = s.length - z := by simp
 have hpos : ¬ s.drop z = dec 0 0 → 0 < s.length := fun h => by
  rcases Nat.lt_or_ge 0 s.length with h2 | h2
  ·exact h2
  ·exact absurd (List.drop_eq_nil_of_le (by omega)) h
 have hsg : signLen s = 1 ↔ (0 < s.length ∧ bt s 0 = 45) := by unfold signLen; split <;> simp [*]
 (refine Zq ?_;with_reducible repeat' first|intro _|apply aI)
 ·have : z = s.length := by
   have h : s.drop z = [] := ‹_›
   have := List.drop_eq_nil_iff.1 h; omega
  rw [if_pos this]
  exact sRet ⟨.ret _ _ (.s _ _ _ rfl rfl), .nil⟩
 ·have h0 : ¬ s.drop z = dec 0 0 := ‹_›
  have hp := hpos h0
  rw [if_neg (fun e => h0 (List.drop_eq_nil_of_le (by omega)))]
  (refine Zq ?_;with_reducible repeat' first|intro _|apply aI)
  ·rw [if_pos (hsg.2 ⟨hp, ‹_›⟩)]
   refine sfCat (x := [45]) (y := s.drop z) rfl rfl rfl ?_
   exact sRet ⟨.ret _ _ (.s _ _ _ (by simp; omega) rfl), .nil⟩
  ·rw [if_neg (fun e => ‹¬ _› (hsg.1 e).2)]
   exact sRet ⟨.ret _ _ (.s _ _ _ rfl rfl), .nil⟩
end
end Go.Proofs.YtffaodopiifbkaaGreatDoor
