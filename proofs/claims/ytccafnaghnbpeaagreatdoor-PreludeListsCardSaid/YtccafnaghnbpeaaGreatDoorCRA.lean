/- Trees of numbers and strings; how many nodes; parts. -/
import Derived.Test.YtccafnaghnbpeaaGreatDoorCR5e
import Derived.Test.YtccafnaghnbpeaaGreatDoorCLT
set_option linter.all false
namespace Go.Proofs.YtccafnaghnbpeaaGreatDoor
open Go.Abs LQ
set_option maxRecDepth 100000
set_option maxHeartbeats 4000000
noncomputable section
inductive Raw where
 | mk (k n : Int) (s : Str) (l : List Raw)
namespace Raw
def k : Raw → Int
 | mk k _ _ _ => k
def n : Raw → Int
 | mk _ n _ _ => n
def s : Raw → Str
 | mk _ _ s _ => s
def l : Raw → List Raw
 | mk _ _ _ l => l
mutual
def g : Raw → List G
 | mk k n s l => [.i .i64 k, .i .i64 n, .s s, .l (gs l)]
def gs : List Raw → List (List G)
 | [] => []
 | x :: xs => x.g :: gs xs
end
theorem gs_eq : ∀ l : List Raw, gs l = l.map g
 | [] => rfl
 | x :: xs => by rw [gs, gs_eq xs]; rfl
theorem g_eq (r : Raw) : r.g = [.i .i64 r.k, .i .i64 r.n, .s r.s, .l (r.l.map g)] := by
 cases r with | mk k n s l => rw [g, gs_eq]; rfl
theorem g_len (r : Raw) : r.g.length = 4 := by cases r; rfl
mutual
theorem g_inj : ∀ {a b : Raw}, a.g = b.g → a = b
 | mk k n s l, mk k' n' s' l', h => by
  simp only [g, List.cons.injEq, G.i.injEq, G.s.injEq, G.l.injEq] at h
  obtain ⟨⟨_, h1⟩, ⟨_, h2⟩, h3, h4, _⟩ := h
  rw [h1, h2, h3, gs_inj h4]
theorem gs_inj : ∀ {a b : List Raw}, gs a = gs b → a = b
 | [], [], _ => rfl
 | [], _ :: _, h => by simp [gs] at h
 | _ :: _, [], h => by simp [gs] at h
 | x :: xs, y :: ys, h => by
  simp only [gs, List.cons.injEq] at h
  rw [g_inj h.1, gs_inj h.2]
end
theorem map_inj {a b : List Raw} (h : a.map g = b.map g) : a = b := gs_inj (by rw [gs_eq, gs_eq]; exact h)
mutual
def nodes : Raw → Nat
 | mk _ _ _ l => 1 + nodesL l
def nodesL : List Raw → Nat
 | [] => 0
 | x :: xs => x.nodes + nodesL xs
end
theorem nodes_eq (r : Raw) : r.nodes = 1 + nodesL r.l := by cases r; rfl
theorem nodes_mem : ∀ {l : List Raw} {x : Raw}, x ∈ l → x.nodes ≤ nodesL l
 | y :: l, x, h => by
  cases h with
  | head => exact Nat.le_add_right _ _
  | tail _ h => exact Nat.le_trans (nodes_mem h) (Nat.le_add_left _ _)
mutual
def left : Raw → Int → Int
 | mk _ _ s l, m => if 12 < s.length ∨ 6 < l.length then -1 else leftL l (m - 1)
def leftL : List Raw → Int → Int
 | [], m => m
 | x :: xs, m => if 0 ≤ m then leftL xs (x.left m) else m
end
theorem left_eq (r : Raw) (m : Int) : r.left m = if 12 < r.s.length ∨ 6 < r.l.length then -1 else leftL r.l (m - 1) := by cases r; rfl
mutual
theorem left_le : ∀ (r : Raw) {m : Int}, 0 ≤ m → -1 ≤ r.left m ∧ r.left m ≤ m
 | mk _ _ s l, m, h => by
  rw [left]
  split
  ·omega
  ·have := leftL_le l (m := m - 1) (by omega)
   omega
theorem leftL_le : ∀ (l : List Raw) {m : Int}, -1 ≤ m → -1 ≤ leftL l m ∧ leftL l m ≤ m
 | [], m, h => by rw [leftL]; omega
 | x :: xs, m, h => by
  rw [leftL]
  split
  ·rename_i h0
   have h1 := left_le x h0
   have h2 := leftL_le xs (m := x.left m) h1.1
   omega
  ·omega
end
mutual
def okR : Raw → Prop
 | mk _ _ s l => s.length ≤ 12 ∧ l.length ≤ 6 ∧ okRL l
def okRL : List Raw → Prop
 | [] => True
 | x :: xs => x.okR ∧ okRL xs
end
theorem okR_eq (r : Raw) : r.okR ↔ r.s.length ≤ 12 ∧ r.l.length ≤ 6 ∧ okRL r.l := by cases r; exact Iff.rfl
theorem okR_mem : ∀ {l : List Raw} {x : Raw}, okRL l → x ∈ l → x.okR
 | y :: l, x, h, hx => by
  cases hx with
  | head => exact h.1
  | tail _ hx => exact okR_mem h.2 hx
mutual
theorem left_ok : ∀ (r : Raw) {m : Int}, 0 ≤ m → 0 ≤ r.left m → r.okR ∧ r.left m + r.nodes = m
 | mk _ _ s l, m, h, k => by
  rw [left] at k ⊢
  split at k
  ·omega
  ·rename_i hc
   rw [if_neg hc]
   have hm : 0 ≤ m - 1 := by have := leftL_le l (m := m - 1) (by omega); omega
   have := leftL_ok l hm k
   refine ⟨⟨by omega, by omega, this.1⟩, ?_⟩
   show _ + ((1 + nodesL l : Nat) : Int) = m
   omega
theorem leftL_ok : ∀ (l : List Raw) {m : Int}, 0 ≤ m → 0 ≤ leftL l m → okRL l ∧ leftL l m + nodesL l = m
 | [], m, h, k => by rw [leftL]; exact ⟨trivial, by show m + ((0 : Nat) : Int) = m; omega⟩
 | x :: xs, m, h, k => by
  rw [leftL, if_pos h] at k ⊢
  have h1 : 0 ≤ x.left m := by
   have := leftL_le xs (m := x.left m) (left_le x h).1
   omega
  have h2 := left_ok x h h1
  have h3 := leftL_ok xs h1 k
  refine ⟨⟨h2.1, h3.1⟩, ?_⟩
  show _ + ((x.nodes + nodesL xs : Nat) : Int) = m
  omega
end
def few (r : Raw) (m : Nat) : Bool := decide (0 ≤ r.left m)
theorem few_ok {r : Raw} {m : Nat} (h : r.few m = true) : r.okR ∧ r.nodes ≤ m := by
 have := left_ok r (m := m) (by omega) (of_decide_eq_true h)
 exact ⟨this.1, by have := of_decide_eq_true h; omega⟩
def zero : Raw := mk 0 0 [] []
def part (r : Raw) (i : Nat) : Raw := r.l.getD i zero
end Raw
def spMod : Sp where
 ι := { p : Int × Nat // 0 < p.2 ∧ p.2 < 1000000 }
 A p := [.c (.i .i64 p.1.1), .c (.i .i64 p.1.2)]
 B _ := []
 R p := .ret (.c (.i .i64 (p.1.1 % p.1.2)))
 B' _ := []
 inj i j vs bs h k _ _ := by
  obtain ⟨_, _, h1, k1, h, k⟩ := h.two k
  obtain ⟨_, _, h2, k2, h, k⟩ := h.two k
  have e1 := (G.i.inj (h1.c_inj k1)).2
  have e2 := (G.i.inj (h2.c_inj k2)).2
  rw [e1, e2]; exact ⟨rfl, rfl⟩
theorem kMod : Know 13 spMod := know (fun fn h => r13_ok h) [] .nil fun U fn hfn ⟨(n, m), h0, h1⟩ vs bs hv hb => by
 change RVs [.c (.i .i64 n), .c (.i .i64 m)] vs at hv
 change RBs [] bs at hb
 have h0 : 0 < m := h0
 have h1 : m < 1000000 := h1
 show Sat U _ fun v bs' => RRes (.ret (.c (.i .i64 (n % m)))) v ∧ RBs [] bs'
 have hlt := Int.tmod_lt_of_pos n (b := (m : Int)) (by omega)
 have hgt := Int.lt_tmod_of_pos n (b := (m : Int)) (by omega)
 have he : n % (m : Int) = if n.tmod m < 0 then n.tmod m + m else n.tmod m := by
  have k1 := Int.emod_emod_of_dvd n (Int.dvd_refl (m : Int))
  have k2 : n.tmod m % m = n % m := by
   rw [Int.tmod_def, Int.sub_mul_emod_self_left]
  split
  ·rw [← k2, ← Int.add_emod_right, Int.emod_eq_of_lt (by omega) (by omega)]
  ·rw [← k2, Int.emod_eq_of_lt (by omega) (by omega)]
 unfold r13
 (refine Zz ?_;with_reducible repeat' first|intro _|apply aI)
 refine sfRem ?_
 (refine Zz ?_;with_reducible repeat' first|intro _|apply aI)
 ·rw [he, if_pos (by assumption)]
  exact sRet ⟨.ret _ _ (.i _ _), .nil⟩
 ·rw [he, if_neg (by assumption)]
  exact sRet ⟨.ret _ _ (.i _ _), .nil⟩
def spLeft : Sp where
 ι := { p : Raw × Int // 0 ≤ p.2 ∧ p.2 ≤ 1000 }
 A p := [.a p.1.1.g, .c (.i .i64 p.1.2)]
 B _ := []
 R p := .ret (.c (.i .i64 (p.1.1.left p.1.2)))
 B' _ := []
 inj i j vs bs h k _ _ := by
  obtain ⟨_, _, h1, k1, h, k⟩ := h.two k
  obtain ⟨_, _, h2, k2, h, k⟩ := h.two k
  have e1 := Raw.g_inj (h1.a_inj k1)
  have e2 := (G.i.inj (h2.c_inj k2)).2
  rw [e1, e2]; exact ⟨rfl, rfl⟩
theorem kLeft : Know 21 spLeft := know_rec (fun p => p.1.1.nodes) fun z ih => know (fun fn h => r21_ok h) [(21, spLeft.lt (fun p => p.1.1.nodes) z)] (.cons ih .nil) fun U fn hfn ⟨⟨(r, m), h0, h1⟩, hz⟩ vs bs hv hb => by
 have hL := hfn 21 _ rfl
 change RVs [.a r.g, .c (.i .i64 m)] vs at hv
 change RBs [] bs at hb
 have h0 : 0 ≤ m := h0
 have h1 : m ≤ 1000 := h1
 have hz : r.nodes < z + 1 := hz
 show Sat U _ fun v bs' => RRes (.ret (.c (.i .i64 (r.left m)))) v ∧ RBs [] bs'
 rw [Raw.left_eq]
 rw [Raw.nodes_eq] at hz
 rw [Raw.g_eq] at hv
 generalize r.k = rk at *
 generalize r.n = rn at *
 generalize r.s = rs at *
 generalize r.l = rl at *
 unfold r21
 (refine Zz ?_;with_reducible repeat' first|intro _|apply aI)
 ·rw [if_pos (.inl (by omega))]
  exact sRet ⟨.ret _ _ (.i _ _), .nil⟩
 refine sCSlM (by assumption) (mapLen Raw.g_len) fun _ _ _ => ?_
 (refine Zz ?_;with_reducible repeat' first|intro _|apply aI)
 ·rw [if_pos (.inr (by omega))]
  exact sRet ⟨.ret _ _ (.i _ _), .nil⟩
 rw [if_neg (by omega)]
 refine sLp (fun (i : Nat) vs bs => ∃ (m' : Int) (q : Q), vs = [.int .i64 m', .ptr 0 0, .int .i64 i] ∧ bs = [.opa q 4] ∧ Cel [.i .i64 rk, .i .i64 rn, .s rs, .l (rl.map Raw.g)] q 0 ∧ i ≤ rl.length ∧ Raw.leftL (rl.drop i) m' = Raw.leftL rl (m - 1) ∧ -1 ≤ m' ∧ m' ≤ 1000) (fun i => rl.length - i) 0
  ⟨_, _, rfl, rfl, by assumption, by omega, rfl, by omega, by omega⟩ (by simp only [FUEL]; omega) ?_
 rintro self i _ _ ⟨m', q, rfl, rfl, hq, hi, he, hm1, hm2⟩ ih
 (refine Zz ?_;with_reducible repeat' first|intro _|apply aI)
 refine sCSlM (by assumption) (mapLen Raw.g_len) fun _ _ _ => ?_
 (refine Zz ?_;with_reducible repeat' first|intro _|apply aI)
 ·refine sCSlM (by assumption) (mapLen Raw.g_len) fun _ _ _ => ?_
  (refine Zz ?_;with_reducible repeat' first|intro _|apply aI)
  have hiw : i < rl.length := by omega
  have hnd := Raw.nodes_mem (List.getElem_mem hiw)
  have hlb := Raw.left_le rl[i] (m := m') (by assumption)
  rw [List.drop_eq_getElem_cons hiw, Raw.leftL, if_pos (by assumption)] at he
  refine sCall hL ⟨⟨(rl[i], m'), by assumption, hm2⟩, show rl[i].nodes < z by omega⟩ (r := .c (.i .i64 (rl[i].left m'))) rfl (.cons _ _ _ _ (.a _ _ _ (Raw.g_len _).symm (by assumption)) (.cons _ _ _ _ (.i _ _) .nil)) .nil fun _ _ _ _ => ?_
  (refine Zz ?_;with_reducible repeat' first|intro _|apply aI)
  exact ih (i + 1) _ _ ⟨_, _, rfl, rfl, hq, by omega, he, by omega, by omega⟩ (by omega)
 ·rw [List.drop_eq_getElem_cons (by omega : i < rl.length), Raw.leftL, if_neg (by assumption)] at he
  rw [← he]
  exact sRet ⟨.ret _ _ (.i _ _), .nil⟩
 ·rw [List.drop_of_length_le (by omega), Raw.leftL] at he
  rw [← he]
  exact sRet ⟨.ret _ _ (.i _ _), .nil⟩
def spFew (g : Raw → Nat → GV) : Sp where
 ι := { p : Raw × Nat // p.2 ≤ 1000 }
 A p := [.a p.1.1.g, .c (.i .i64 p.1.2)]
 B _ := []
 R p := .ret (g p.1.1 p.1.2)
 B' _ := []
 inj i j vs bs h k _ _ := by
  obtain ⟨_, _, h1, k1, h, k⟩ := h.two k
  obtain ⟨_, _, h2, k2, h, k⟩ := h.two k
  have e1 := Raw.g_inj (h1.a_inj k1)
  have e2 := (G.i.inj (h2.c_inj k2)).2
  have e2 : i.1.2 = j.1.2 := by omega
  rw [e1, e2]; exact ⟨rfl, rfl⟩
theorem kFew : Know 6 (spFew fun r m => .c (.b (r.few m))) := know (fun fn h => r6_ok h) [(21, _)] (.cons kLeft .nil) fun U fn hfn ⟨(r, m), h1⟩ vs bs hv hb => by
 have hL := hfn 21 _ rfl
 change RVs [.a r.g, .c (.i .i64 m)] vs at hv
 change RBs [] bs at hb
 have h1 : m ≤ 1000 := h1
 show Sat U _ fun v bs' => RRes (.ret (.c (.b (r.few m)))) v ∧ RBs [] bs'
 unfold r6
 (refine Zz ?_;with_reducible repeat' first|intro _|apply aI)
 refine sAR (by assumption) (Raw.g_len _) fun _ _ => ?_
 (refine Zz ?_;with_reducible repeat' first|intro _|apply aI)
 refine sCall hL ⟨(r, m), show (0 : Int) ≤ m by omega, show (m : Int) ≤ 1000 by omega⟩ (r := .c (.i .i64 (r.left m))) rfl (.cons _ _ _ _ (.a _ _ _ (Raw.g_len _).symm (by assumption)) (.cons _ _ _ _ (.i _ _) .nil)) .nil fun _ _ _ _ => ?_
 (refine Zz ?_;with_reducible repeat' first|intro _|apply aI)
 refine sRetU fun e => ?_
 subst e
 exact ⟨.ret _ _ (rvB (by rw [cuLe]; rfl)), .nil⟩
def fewAll (l : List Raw) (m : Nat) : Bool := decide (l.length ≤ 8) && l.all fun r => r.few m
def spFewAll : Sp where
 ι := { p : List Raw × Nat // p.2 ≤ 1000 }
 A p := [.sl 4 (p.1.1.map Raw.g), .c (.i .i64 p.1.2)]
 B _ := []
 R p := .ret (.c (.b (fewAll p.1.1 p.1.2)))
 B' _ := []
 inj i j vs bs h k _ _ := by
  obtain ⟨_, _, h1, k1, h, k⟩ := h.two k
  obtain ⟨_, _, h2, k2, h, k⟩ := h.two k
  have e1 := Raw.map_inj (h1.sl_inj k1)
  have e2 := (G.i.inj (h2.c_inj k2)).2
  have e2 : i.1.2 = j.1.2 := by omega
  rw [e1, e2]; exact ⟨rfl, rfl⟩
theorem kFewAll : Know 5 spFewAll := know (fun fn h => r5_ok h) [(6, _)] (.cons kFew .nil) fun U fn hfn ⟨(l, m), h1⟩ vs bs hv hb => by
 have hF := hfn 6 _ rfl
 change RVs [.sl 4 (l.map Raw.g), .c (.i .i64 m)] vs at hv
 change RBs [] bs at hb
 have h1 : m ≤ 1000 := h1
 show Sat U _ fun v bs' => RRes (.ret (.c (.b (fewAll l m)))) v ∧ RBs [] bs'
 unfold r5
 (refine Zz ?_;with_reducible repeat' first|intro _|apply aI)
 ·exact sRet ⟨.ret _ _ (rvK (by unfold fewAll; rw [decide_eq_false (by omega)]; rfl)), .nil⟩
 have e0 : fewAll l m = l.all fun r => r.few m := by unfold fewAll; rw [decide_eq_true (by omega)]; rfl
 rw [e0]
 refine sLp (fun (i : Nat) vs bs => ∃ (t : Tre Q) (off : Nat), vs = [.slice t 4 off l.length .no, .int .i64 m, .int .i64 i] ∧ bs = [] ∧ Rws 4 (l.map Raw.g) t off ∧ i ≤ l.length ∧ ((l.drop i).all fun r => r.few m) = (l.all fun r => r.few m)) (fun i => l.length - i) 0
  ⟨_, _, rfl, rfl, by assumption, by omega, rfl⟩ (by simp only [FUEL]; omega) ?_
 rintro self i _ _ ⟨t, off, rfl, rfl, ht, hi, he⟩ ih
 (refine Zz ?_;with_reducible repeat' first|intro _|apply aI)
 ·have hiw : i < l.length := by omega
  rw [List.drop_eq_getElem_cons hiw, List.all_cons] at he
  cases hb2 : l[i].few m with
  | true =>
   refine sCall hF ⟨(l[i], m), h1⟩ (r := .c (.b true)) (by show GRes.ret (.c (.b (l[i].few m))) = _; rw [hb2]) (.cons _ _ _ _ (.a _ _ _ (Raw.g_len _).symm (by assumption)) (.cons _ _ _ _ (.i _ _) .nil)) .nil fun _ _ _ _ => ?_
   (refine Zz ?_;with_reducible repeat' first|intro _|apply aI)
   rw [hb2, Bool.true_and] at he
   exact ih (i + 1) _ _ ⟨_, _, by simp, rfl, ht, by omega, he⟩ (by omega)
  | false =>
   refine sCall hF ⟨(l[i], m), h1⟩ (r := .c (.b false)) (by show GRes.ret (.c (.b (l[i].few m))) = _; rw [hb2]) (.cons _ _ _ _ (.a _ _ _ (Raw.g_len _).symm (by assumption)) (.cons _ _ _ _ (.i _ _) .nil)) .nil fun _ _ _ _ => ?_
   (refine Zz ?_;with_reducible repeat' first|intro _|apply aI)
   rw [hb2, Bool.false_and] at he
   rw [← he]
   exact sRet ⟨.ret _ _ (.kn _), .nil⟩
 ·rw [List.drop_of_length_le (by omega)] at he
  rw [← he]
  exact sRet ⟨.ret _ _ (.kn _), .nil⟩
theorem kPart : Know 28 (spFew fun r i => .a (r.part i).g) := know (fun fn h => r28_ok h) [] .nil fun U fn hfn ⟨(r, i), h1⟩ vs bs hv hb => by
 change RVs [.a r.g, .c (.i .i64 i)] vs at hv
 change RBs [] bs at hb
 have h1 : i ≤ 1000 := h1
 show Sat U _ fun v bs' => RRes (.ret (.a (r.part i).g)) v ∧ RBs [] bs'
 unfold r28
 unfold Raw.part
 rw [Raw.g_eq] at hv
 generalize r.k = rk at *
 generalize r.n = rn at *
 generalize r.s = rs at *
 generalize r.l = rl at *
 (refine Zz ?_;with_reducible repeat' first|intro _|apply aI)
 refine sCSlM (by assumption) (mapLen Raw.g_len) fun _ _ _ => ?_
 (refine Zz ?_;with_reducible repeat' first|intro _|apply aI)
 ·refine sCSlM (by assumption) (mapLen Raw.g_len) fun _ _ _ => ?_
  (refine Zz ?_;with_reducible repeat' first|intro _|apply aI)
  rw [show rl.getD i Raw.zero = rl[i]'(by omega) by simp [List.getD, List.getElem?_eq_getElem (by omega : i < rl.length)]]
  exact sRet ⟨.ret _ _ (.a _ _ _ (Raw.g_len _).symm (by assumption)), .nil⟩
 ·rw [show rl.getD i Raw.zero = Raw.zero by simp [List.getD, List.getElem?_eq_none (by omega : rl.length ≤ i)]]
  exact sRet ⟨.ret _ _ (.ag _ _ (by (exact Zru))), .nil⟩
def userS : Str := dec 4 1919251317
theorem kUser : Know 39 (spStr fun s => .a (sg (userS, s))) := know (fun fn h => r39_ok h) [] .nil fun U fn hfn s vs bs hv hb => by
 change RVs [.c (.s s)] vs at hv
 change RBs [] bs at hb
 show Sat U _ fun v bs' => RRes (.ret (.a (sg (userS, s)))) v ∧ RBs [] bs'
 unfold r39
 (refine Zz ?_;with_reducible repeat' first|intro _|apply aI)
 exact sRet ⟨.ret _ _ (.ag _ _ (by (exact Zru))), .nil⟩
end
end Go.Proofs.YtccafnaghnbpeaaGreatDoor
