/- The reference's numbers: sums, differences, quotients. -/
import Derived.Test.YtccafnaghnbpeaaGreatDoorCR4
import Derived.Test.YtccafnaghnbpeaaGreatDoorCL0
import Derived.Test.YtccafnaghnbpeaaGreatDoorCL1
set_option linter.all false
namespace Go.Proofs.YtccafnaghnbpeaaGreatDoor
open Go.Abs LQ
set_option maxRecDepth 100000
set_option maxHeartbeats 4000000
noncomputable section
theorem mapdg_snoc {acc : List Nat} {n : Int} {d : Nat} (h : n = d) : acc.map dg ++ [[.i .i64 n]] = (acc ++ [d]).map dg := by subst h; simp [dg]
theorem kMinus : Know 71 (spLL (fun a b => D9 a ∧ D9 b) fun a b => .ret (.sl 1 ((subL a b).map dg))) := know (fun fn h => r71_ok h) [(69, _)] (.cons kTrim .nil) fun U fn hfn ⟨(a, b), ha, hbl, h9a, h9b⟩ vs bs hv hb => by
 have hr := hfn 69 _ rfl
 have ha : a.length < 90000 := ha
 have hbl : b.length < 90000 := hbl
 have hv : RVs [.sl 1 (a.map dg), .sl 1 (b.map dg)] vs := hv
 have hb : RBs [] bs := hb
 show Sat U _ fun v bs' => RRes (.ret (.sl 1 ((subL a b).map dg))) v ∧ RBs [] bs'
 unfold r71
 (refine Zx ?_;with_reducible repeat' first|intro _|apply aI)
 refine sLp (fun (i : Nat) vs bs => ∃ (t : Tre Q) (off : Nat) (t' : Tre Q) (off' : Nat) (bor : Nat) (v : V) (acc : List Nat), vs = [.slice t 1 off a.length .no, .slice t' 1 off' b.length .no, .int .i64 bor, .int .i64 i, v] ∧ bs = [.tok acc.length 1] ∧ TokS 0 1 (acc.map dg) v ∧ acc.length = i ∧ bor ≤ 1 ∧
  Rws 1 (a.map dg) t off ∧ Rws 1 (b.map dg) t' off' ∧ i ≤ a.length ∧ subFrom a b i bor acc = subFrom a b 0 0 []) (fun i => a.length - i) 0 ⟨_, _, _, _, 0, _, [], rfl, rfl, .b rfl, rfl, by omega, by assumption, by assumption, by omega, rfl⟩ (by simp only [FUEL]; omega) ?_
 rintro self i _ _ ⟨t, off, t', off', bor, v, acc, rfl, rfl, hv', hac, hbor, ht, ht', hi, he⟩ ih
 (refine Zx ?_;with_reducible repeat' first|intro _|apply aI)
 ·have q1 : a[i] ≤ 9 := h9a _ (List.getElem_mem _)
  have e1 := getD_i (l := a) (i := i) (by omega)
  (refine Zx ?_;with_reducible repeat' first|intro _|apply aI)
  ·have q2 : b[i] ≤ 9 := h9b _ (List.getElem_mem _)
   have e2 := getD_i (l := b) (i := i) (by omega)
   have hsd : subDig a b i bor = (a[i] : Int) - bor - b[i] := by unfold subDig; rw [if_pos (by omega), ← e1, ← e2]
   (refine Zx ?_;with_reducible repeat' first|intro _|apply aI)
   all_goals
    refine sAT1 (by assumption) (fun _ => row1 (by first | exact .i _ _ | exact .s _ _ _ rfl rfl | assumption)) (by rfl) (by simp) (by simp only [List.length_map]; omega) fun _ _ => ?_
    (refine Zx ?_;with_reducible repeat' first|intro _|apply aI)
   ·refine ih (i + 1) _ _ ?_ (by omega)
    exact ⟨_, _, _, _, 1, _, acc ++ [(subDig a b i bor + 10).toNat], rfl, by simp, .a _ _ (by simp) (by have hq := ‹Rws 1 (acc.map dg ++ [_]) _ 0›; rw [mapdg_snoc (d := (subDig a b i bor + 10).toNat) (by omega)] at hq; exact hq), by simp; omega, by omega, by assumption, by assumption, by omega, by rw [← he]; conv => rhs; rw [subFrom, if_pos (by omega), if_pos (by omega)]⟩
   ·refine ih (i + 1) _ _ ?_ (by omega)
    exact ⟨_, _, _, _, 0, _, acc ++ [(subDig a b i bor).toNat], rfl, by simp, .a _ _ (by simp) (by have hq := ‹Rws 1 (acc.map dg ++ [_]) _ 0›; rw [mapdg_snoc (d := (subDig a b i bor).toNat) (by omega)] at hq; exact hq), by simp; omega, by omega, by assumption, by assumption, by omega, by rw [← he]; conv => rhs; rw [subFrom, if_pos (by omega), if_neg (by omega)]⟩
  ·have hsd : subDig a b i bor = (a[i] : Int) - bor := by unfold subDig; rw [if_neg (by omega), ← e1]; omega
   refine sAT1 (by assumption) (fun _ => row1 (by first | exact .i _ _ | exact .s _ _ _ rfl rfl | assumption)) (by rfl) (by simp) (by simp only [List.length_map]; omega) fun _ _ => ?_
   (refine Zx ?_;with_reducible repeat' first|intro _|apply aI)
   refine ih (i + 1) _ _ ?_ (by omega)
   exact ⟨_, _, _, _, 1, _, acc ++ [(subDig a b i bor + 10).toNat], rfl, by simp, .a _ _ (by simp) (by have hq := ‹Rws 1 (acc.map dg ++ [_]) _ 0›; rw [mapdg_snoc (d := (subDig a b i bor + 10).toNat) (by omega)] at hq; exact hq), by simp; omega, by omega, by assumption, by assumption, by omega, by rw [← he]; conv => rhs; rw [subFrom, if_pos (by omega), if_pos (by omega)]⟩
  ·have hsd : subDig a b i bor = (a[i] : Int) - bor := by unfold subDig; rw [if_neg (by omega), ← e1]; omega
   refine sAT1 (by assumption) (fun _ => row1 (by first | exact .i _ _ | exact .s _ _ _ rfl rfl | assumption)) (by rfl) (by simp) (by simp only [List.length_map]; omega) fun _ _ => ?_
   (refine Zx ?_;with_reducible repeat' first|intro _|apply aI)
   refine ih (i + 1) _ _ ?_ (by omega)
   exact ⟨_, _, _, _, 0, _, acc ++ [(subDig a b i bor).toNat], rfl, by simp, .a _ _ (by simp) (by have hq := ‹Rws 1 (acc.map dg ++ [_]) _ 0›; rw [mapdg_snoc (d := (subDig a b i bor).toNat) (by omega)] at hq; exact hq), by simp; omega, by omega, by assumption, by assumption, by omega, by rw [← he]; conv => rhs; rw [subFrom, if_pos (by omega), if_neg (by omega)]⟩
 ·have e : acc = subFrom a b 0 0 [] := by rw [← he, subFrom, if_neg (by omega)]
  refine sCall hr ⟨acc, by omega⟩ (r := .sl 1 ((trimL acc).map dg)) rfl (.cons _ _ _ _ (.sl _ _ _ _ _ (by simp) (by assumption)) .nil) .nil fun _ _ _ _ => ?_
  (refine Zx ?_;with_reducible repeat' first|intro _|apply aI)
  exact sRet ⟨.ret _ _ (by unfold subL; rw [← e]; exact .sl _ _ _ _ _ (by simp) (by assumption)), .nil⟩
def addC : List Nat → List Nat → Nat → List Nat
 | [], [], c => if c = 0 then [] else [c]
 | a :: xs, [], c => (c + a) % 10 :: addC xs [] ((c + a) / 10)
 | [], b :: ys, c => (c + b) % 10 :: addC [] ys ((c + b) / 10)
 | a :: xs, b :: ys, c => (c + a + b) % 10 :: addC xs ys ((c + a + b) / 10)
theorem addC_val : ∀ (a b : List Nat) (c : Nat), val (addC a b c) = val a + val b + c
 | [], [], c => by simp only [addC]; split <;> simp [val]; omega
 | a :: xs, [], c => by simp only [addC, val, addC_val xs [] _]; omega
 | [], b :: ys, c => by simp only [addC, val, addC_val [] ys _]; omega
 | a :: xs, b :: ys, c => by simp only [addC, val, addC_val xs ys _]; omega
theorem addC_le : ∀ (a b : List Nat) (c : Nat), c ≤ 1 → D9 a → D9 b → D9 (addC a b c)
 | [], [], c, hc, _, _ => by simp only [addC]; split <;> intro d hd <;> simp at hd; omega
 | a :: xs, [], c, hc, ha, hb => by
  have h1 := ha a List.mem_cons_self
  intro d hd
  simp only [addC, List.mem_cons] at hd
  rcases hd with rfl | hd
  ·omega
  ·exact addC_le xs [] _ (by omega) (fun x hx => ha x (List.mem_cons_of_mem _ hx)) hb d hd
 | [], b :: ys, c, hc, ha, hb => by
  have h1 := hb b List.mem_cons_self
  intro d hd
  simp only [addC, List.mem_cons] at hd
  rcases hd with rfl | hd
  ·omega
  ·exact addC_le [] ys _ (by omega) ha (fun x hx => hb x (List.mem_cons_of_mem _ hx)) d hd
 | a :: xs, b :: ys, c, hc, ha, hb => by
  have h1 := ha a List.mem_cons_self
  have h2 := hb b List.mem_cons_self
  intro d hd
  simp only [addC, List.mem_cons] at hd
  rcases hd with rfl | hd
  ·omega
  ·exact addC_le xs ys _ (by omega) (fun x hx => ha x (List.mem_cons_of_mem _ hx)) (fun x hx => hb x (List.mem_cons_of_mem _ hx)) d hd
theorem addC_len : ∀ (a b : List Nat) (c : Nat), (addC a b c).length ≤ a.length + b.length + 1
 | [], [], c => by simp only [addC]; split <;> simp
 | a :: xs, [], c => by have := addC_len xs [] ((c + a) / 10); simp only [addC, List.length_cons] at *; omega
 | [], b :: ys, c => by have := addC_len [] ys ((c + b) / 10); simp only [addC, List.length_cons] at *; omega
 | a :: xs, b :: ys, c => by have := addC_len xs ys ((c + a + b) / 10); simp only [addC, List.length_cons] at *; omega
theorem addC_ab {a b : List Nat} {i c : Nat} (h1 : i < a.length) (h2 : i < b.length) : addC (a.drop i) (b.drop i) c = (c + a[i] + b[i]) % 10 :: addC (a.drop (i + 1)) (b.drop (i + 1)) ((c + a[i] + b[i]) / 10) := by
 rw [List.drop_eq_getElem_cons h1, List.drop_eq_getElem_cons h2, addC]
theorem addC_a {a b : List Nat} {i c : Nat} (h1 : i < a.length) (h2 : ¬ i < b.length) : addC (a.drop i) (b.drop i) c = (c + a[i]) % 10 :: addC (a.drop (i + 1)) (b.drop (i + 1)) ((c + a[i]) / 10) := by
 rw [List.drop_eq_getElem_cons h1, List.drop_eq_nil_of_le (Nat.le_of_not_lt h2), List.drop_eq_nil_of_le (by omega : b.length ≤ i + 1), addC]
theorem addC_b {a b : List Nat} {i c : Nat} (h1 : ¬ i < a.length) (h2 : i < b.length) : addC (a.drop i) (b.drop i) c = (c + b[i]) % 10 :: addC (a.drop (i + 1)) (b.drop (i + 1)) ((c + b[i]) / 10) := by
 rw [List.drop_eq_getElem_cons h2, List.drop_eq_nil_of_le (Nat.le_of_not_lt h1), List.drop_eq_nil_of_le (by omega : a.length ≤ i + 1), addC]
theorem addC_c {a b : List Nat} {i c : Nat} (h1 : ¬ i < a.length) (h2 : ¬ i < b.length) : addC (a.drop i) (b.drop i) c = if c = 0 then [] else [c] := by
 rw [List.drop_eq_nil_of_le (Nat.le_of_not_lt h1), List.drop_eq_nil_of_le (Nat.le_of_not_lt h2), addC]
theorem kPlus : Know 186 (spLL (fun a b => D9 a ∧ D9 b) fun a b => .ret (.sl 1 ((addC a b 0).map dg))) := know (fun fn h => r186_ok h) [] .nil fun U fn hfn ⟨(a, b), ha, hbl, h9a, h9b⟩ vs bs hv hb => by
 have ha : a.length < 90000 := ha
 have hbl : b.length < 90000 := hbl
 have hv : RVs [.sl 1 (a.map dg), .sl 1 (b.map dg)] vs := hv
 have hb : RBs [] bs := hb
 show Sat U _ fun v bs' => RRes (.ret (.sl 1 ((addC a b 0).map dg))) v ∧ RBs [] bs'
 unfold r186
 (refine Zx ?_;with_reducible repeat' first|intro _|apply aI)
 refine sLp (fun (i : Nat) vs bs => ∃ (t : Tre Q) (off : Nat) (t' : Tre Q) (off' : Nat) (c : Nat) (v : V) (acc : List Nat), vs = [.slice t 1 off a.length .no, .slice t' 1 off' b.length .no, .int .i64 c, .int .i64 i, v] ∧ bs = [.tok acc.length 1] ∧ TokS 0 1 (acc.map dg) v ∧ acc.length = i ∧ c ≤ 1 ∧
  Rws 1 (a.map dg) t off ∧ Rws 1 (b.map dg) t' off' ∧ i + c ≤ max a.length b.length + 1 ∧ acc ++ addC (a.drop i) (b.drop i) c = addC a b 0) (fun i => max a.length b.length + 2 - i) 0 ⟨_, _, _, _, 0, _, [], rfl, rfl, .b rfl, rfl, by omega, by assumption, by assumption, by omega, rfl⟩ (by simp only [FUEL]; omega) ?_
 rintro self i _ _ ⟨t, off, t', off', c, v, acc, rfl, rfl, hv', hac, hc, ht, ht', hi, he⟩ ih
 have q1 : ∀ h : i < a.length, a[i] ≤ 9 := fun h => h9a _ (List.getElem_mem _)
 have q2 : ∀ h : i < b.length, b[i] ≤ 9 := fun h => h9b _ (List.getElem_mem _)
 (refine Zx ?_;with_reducible repeat' first|intro _|apply aI)
 all_goals try (exfalso; omega)
 all_goals (try have z1 := q1 (by omega)); (try have z2 := q2 (by omega)); (refine Zx ?_;with_reducible repeat' first|intro _|apply aI)
 all_goals try (exfalso; omega)
 ·have z2 := q2 (by omega)
  (refine Zx ?_;with_reducible repeat' first|intro _|apply aI)
  (refine sfRemN (n := c + a[i] + b[i]) (m := 10) (by omega) rfl ?_; (refine Zx ?_;with_reducible repeat' first|intro _|apply aI); refine sAT1 (by assumption) (fun _ => row1 (by first | exact .i _ _ | exact .s _ _ _ rfl rfl | assumption)) (by rfl) (by simp) (by simp only [List.length_map]; omega) fun _ _ => ?_; (refine Zx ?_;with_reducible repeat' first|intro _|apply aI); refine sfWrQN (n := c + a[i] + b[i]) (m := 10) (by omega) rfl (by omega) ?_; (refine Zx ?_;with_reducible repeat' first|intro _|apply aI); refine ih (i + 1) _ _ ?_ (by omega); exact ⟨_, _, _, _, (c + a[i] + b[i]) / 10, _, acc ++ [(c + a[i] + b[i]) % 10], rfl, by simp, .a _ _ (by simp) (by have hq := ‹Rws 1 (acc.map dg ++ [_]) _ 0›; rw [mapdg_snoc (d := (c + a[i] + b[i]) % 10) (by omega)] at hq; exact hq), by simp; omega, by omega, by assumption, by assumption, by omega, by rw [← he, addC_ab (i := i) (c := c) (by omega) (by omega)]; simp⟩)
 ·(refine sfRemN (n := c + a[i]) (m := 10) (by omega) rfl ?_; (refine Zx ?_;with_reducible repeat' first|intro _|apply aI); refine sAT1 (by assumption) (fun _ => row1 (by first | exact .i _ _ | exact .s _ _ _ rfl rfl | assumption)) (by rfl) (by simp) (by simp only [List.length_map]; omega) fun _ _ => ?_; (refine Zx ?_;with_reducible repeat' first|intro _|apply aI); refine sfWrQN (n := c + a[i]) (m := 10) (by omega) rfl (by omega) ?_; (refine Zx ?_;with_reducible repeat' first|intro _|apply aI); refine ih (i + 1) _ _ ?_ (by omega); exact ⟨_, _, _, _, (c + a[i]) / 10, _, acc ++ [(c + a[i]) % 10], rfl, by simp, .a _ _ (by simp) (by have hq := ‹Rws 1 (acc.map dg ++ [_]) _ 0›; rw [mapdg_snoc (d := (c + a[i]) % 10) (by omega)] at hq; exact hq), by simp; omega, by omega, by assumption, by assumption, by omega, by rw [← he, addC_a (i := i) (c := c) (by omega) (by omega)]; simp⟩)
 ·(refine sfRemN (n := c + b[i]) (m := 10) (by omega) rfl ?_; (refine Zx ?_;with_reducible repeat' first|intro _|apply aI); refine sAT1 (by assumption) (fun _ => row1 (by first | exact .i _ _ | exact .s _ _ _ rfl rfl | assumption)) (by rfl) (by simp) (by simp only [List.length_map]; omega) fun _ _ => ?_; (refine Zx ?_;with_reducible repeat' first|intro _|apply aI); refine sfWrQN (n := c + b[i]) (m := 10) (by omega) rfl (by omega) ?_; (refine Zx ?_;with_reducible repeat' first|intro _|apply aI); refine ih (i + 1) _ _ ?_ (by omega); exact ⟨_, _, _, _, (c + b[i]) / 10, _, acc ++ [(c + b[i]) % 10], rfl, by simp, .a _ _ (by simp) (by have hq := ‹Rws 1 (acc.map dg ++ [_]) _ 0›; rw [mapdg_snoc (d := (c + b[i]) % 10) (by omega)] at hq; exact hq), by simp; omega, by omega, by assumption, by assumption, by omega, by rw [← he, addC_b (i := i) (c := c) (by omega) (by omega)]; simp⟩)
 ·refine sfRemN (n := c) (m := 10) (by omega) rfl ?_
  (refine Zx ?_;with_reducible repeat' first|intro _|apply aI)
  refine sAT1 (by assumption) (fun _ => row1 (by first | exact .i _ _ | exact .s _ _ _ rfl rfl | assumption)) (by rfl) (by simp) (by simp only [List.length_map]; omega) fun _ _ => ?_
  (refine Zx ?_;with_reducible repeat' first|intro _|apply aI)
  refine sfWrQN (n := c) (m := 10) (by omega) rfl (by omega) ?_
  (refine Zx ?_;with_reducible repeat' first|intro _|apply aI)
  refine ih (i + 1) _ _ ?_ (by omega)
  exact ⟨_, _, _, _, c / 10, _, acc ++ [c % 10], rfl, by simp, .a _ _ (by simp) (by have hq := ‹Rws 1 (acc.map dg ++ [_]) _ 0›; rw [mapdg_snoc (d := c % 10) (by omega)] at hq; exact hq), by simp; omega, by omega, by assumption, by assumption, by omega, by rw [← he, addC_c (i := i + 1) (by omega) (by omega), addC_c (i := i) (by omega) (by omega), if_pos (by omega), if_neg (by omega), show c % 10 = c by omega]; simp⟩
 ·have e : acc = addC a b 0 := by rw [← he, addC_c (by omega) (by omega), if_pos (by omega)]; simp
  rw [← e]
  exact sRet ⟨.ret _ _ (.sl _ _ _ _ _ (by simp) (by assumption)), .nil⟩
end
end Go.Proofs.YtccafnaghnbpeaaGreatDoor
