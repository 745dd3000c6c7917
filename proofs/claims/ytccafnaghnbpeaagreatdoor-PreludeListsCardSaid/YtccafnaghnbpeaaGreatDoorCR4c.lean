/- The reference's numbers: texts, quotients. -/
import Derived.Test.YtccafnaghnbpeaaGreatDoorCR4b
set_option linter.all false
namespace Go.Proofs.YtccafnaghnbpeaaGreatDoor
open Go.Abs LQ
set_option maxRecDepth 100000
set_option maxHeartbeats 4000000
noncomputable section
theorem getD_i' {l : List Nat} {i : Nat} (h : i < l.length) : l.getD i 0 = l[i] := (getD_i h).symm
def db (d : Nat) : UInt8 := UInt8.ofNat (48 + d)
theorem db_nat {d : Nat} (h : d ≤ 9) : (db d).toNat = 48 + d := by unfold db; rw [UInt8.toNat_ofNat']; omega
theorem take_rev {l : List Nat} {m : Nat} (h : m < l.length) : (l.take (m + 1)).reverse.map db = db (l.getD m 0) :: (l.take m).reverse.map db := by
 rw [List.take_add_one, List.getElem?_eq_getElem h, getD_i' h]
 simp only [Option.toList_some, List.reverse_append, List.reverse_cons, List.reverse_nil, List.nil_append, List.map_cons, List.cons_append]
theorem showNat_db {n : Nat} (h : n ≠ 0) : showNat n = (digs n).reverse.map db := by unfold showNat; rw [if_neg h]; rfl
theorem mapbg_snoc {acc : Str} {n : Int} {d : UInt8} (h : n = d.toNat) : acc.map bg ++ [[.i .u8 n]] = (acc ++ [d]).map bg := by subst h; simp [bg]
def sgn (neg : Bool) (n : Nat) : Str := if n = 0 then zeroStr else if neg then [45] ++ showNat n else showNat n
def spText : Sp where
 ι := { p : Bool × List Nat // p.2.length < 90000 ∧ D9 p.2 }
 A p := [.c (.b p.1.1), .sl 1 (p.1.2.map dg)]
 B _ := []
 R p := .ret (.c (.s (sgn p.1.1 (val p.1.2))))
 B' _ := []
 inj i j vs bs h k _ _ := by
  obtain ⟨_, _, h1, k1, h, k⟩ := h.two k
  obtain ⟨_, _, h2, k2, h, k⟩ := h.two k
  rw [b_inj h1 k1, mapdg_inj (h2.sl_inj k2)]; exact ⟨rfl, rfl⟩
theorem kText : Know 56 spText := know (fun fn h => r56_ok h) [(69, _)] (.cons kTrim .nil) fun U fn hfn ⟨(neg, l), hl, h9⟩ vs bs hv hb => by
 have hr := hfn 69 _ rfl
 have hl : l.length < 90000 := hl
 have hv : RVs [.c (.b neg), .sl 1 (l.map dg)] vs := hv
 have hb : RBs [] bs := hb
 show Sat U _ fun v bs' => RRes (.ret (.c (.s (sgn neg (val l))))) v ∧ RBs [] bs'
 have et : trimL l = digs (val l) := trimL_digs l h9
 have htl : (digs (val l)).length < 90000 := by rw [← et]; unfold trimL; simp; omega
 have h9 := digs_le (val l)
 generalize val l = n at *
 generalize hd : digs n = d at *
 unfold r56
 (refine Zx ?_;with_reducible repeat' first|intro _|apply aI)
 refine sCall hr ⟨l, by omega⟩ (r := .sl 1 (d.map dg)) (by rw [← et]; rfl) Zrv .nil fun _ _ _ _ => ?_
 (refine Zx ?_;with_reducible repeat' first|intro _|apply aI)
 ·have e0 : d = [] := List.length_eq_zero_iff.1 (by omega)
  have en : n = 0 := by rw [← val_digs n, hd, e0]; rfl
  exact sRet ⟨.ret _ _ (.s _ _ _ (by rw [en]; rfl) (by rw [en]; rfl)), .nil⟩
 all_goals
  have en : n ≠ 0 := fun e => by rw [e, digs_zero] at hd; subst hd; simp at *
 ·have ht : neg = true := ‹_›
  have es : sgn neg n = [45] ++ d.reverse.map db := by unfold sgn; rw [if_neg en, if_pos ht, showNat_db en, hd]
  refine sAT1 (Rws.nil 1 .nil 0) (fun _ => row1 (.i _ _)) rfl rfl (by decide) fun _ _ => ?_
  (refine Zx ?_;with_reducible repeat' first|intro _|apply aI)
  (have hA : ([45] : Str).length ≤ 1 := (by simp); refine sLp (fun (m : Nat) vs bs => ∃ (t : Tre Q) (off : Nat) (v : V) (acc : Str) (i : Int), vs = [.slice t 1 off d.length .no, v, .int .i64 i] ∧ bs = [.tok acc.length 1] ∧ TokS 0 1 (acc.map bg) v ∧ i = m - 1 ∧ Rws 1 (d.map dg) t off ∧ m ≤ d.length ∧ acc.length + m = ([45] : Str).length + d.length ∧ acc ++ (d.take m).reverse.map db = ([45] : Str) ++ d.reverse.map db) (fun m => m) d.length ⟨_, _, _, [45], _, rfl, rfl, ?_, rfl, by assumption, by omega, rfl, by simp⟩ (by simp only [FUEL]; omega) ?_; rotate_left; (rintro self m _ _ ⟨t, off, v, acc, i, rfl, rfl, hv', rfl, ht, hm, ha, he⟩ ih; (refine Zx ?_;with_reducible repeat' first|intro _|apply aI); (refine sfTd (m - 1) (by assumption) (by omega) (by omega) fun _ _ => ?_; have q9 := D9.at h9 (m - 1); (refine Zx ?_;with_reducible repeat' first|intro _|apply aI); refine sfWr8 rfl (by omega) ?_; (refine Zx ?_;with_reducible repeat' first|intro _|apply aI); refine sAT1 (by assumption) (fun _ => row1 (by first | exact .i _ _ | exact .s _ _ _ rfl rfl | assumption)) (by rfl) (by simp) (by simp only [List.length_map]; omega) fun _ _ => ?_; (refine Zx ?_;with_reducible repeat' first|intro _|apply aI); refine ih (m - 1) _ _ ?_ (by omega); refine ⟨_, _, _, acc ++ [db (d.getD (m - 1) 0)], _, rfl, by simp, .a _ _ (by simp) ?_, by omega, by assumption, by omega, by simp at *; omega, ?_⟩; (have hq := ‹Rws 1 (acc.map bg ++ [_]) _ 0›; rw [mapbg_snoc (d := db (d.getD (m - 1) 0)) (by rw [db_nat q9]; omega)] at hq; exact hq); (obtain ⟨m, rfl⟩ : ∃ n, m = n + 1 := ⟨m - 1, by omega⟩; exact (by rw [← he, take_rev (m := m) (by omega)] <;> simp))); (have em : m = 0 := (by omega); subst em; simp only [List.take_zero, List.reverse_nil, List.map_nil, List.append_nil] at he; subst he; refine sBT (ys := _) (by assumption) (by simp) ?_; exact sRet ⟨.ret _ _ (.s _ _ _ (by rw [es] <;> rfl) (by rw [es] <;> rfl)), .nil⟩)))
  ·exact .a _ _ rfl (by assumption)
 ·have ht : neg = false := by simpa using ‹¬ neg = true›
  have es : sgn neg n = [] ++ d.reverse.map db := by unfold sgn; rw [if_neg en, if_neg (by simp [ht]), showNat_db en, hd]; rfl
  (have hA : ([] : Str).length ≤ 1 := (by simp); refine sLp (fun (m : Nat) vs bs => ∃ (t : Tre Q) (off : Nat) (v : V) (acc : Str) (i : Int), vs = [.slice t 1 off d.length .no, v, .int .i64 i] ∧ bs = [.tok acc.length 1] ∧ TokS 0 1 (acc.map bg) v ∧ i = m - 1 ∧ Rws 1 (d.map dg) t off ∧ m ≤ d.length ∧ acc.length + m = ([] : Str).length + d.length ∧ acc ++ (d.take m).reverse.map db = ([] : Str) ++ d.reverse.map db) (fun m => m) d.length ⟨_, _, _, [], _, rfl, rfl, ?_, rfl, by assumption, by omega, rfl, by simp⟩ (by simp only [FUEL]; omega) ?_; rotate_left; (rintro self m _ _ ⟨t, off, v, acc, i, rfl, rfl, hv', rfl, ht, hm, ha, he⟩ ih; (refine Zx ?_;with_reducible repeat' first|intro _|apply aI); (refine sfTd (m - 1) (by assumption) (by omega) (by omega) fun _ _ => ?_; have q9 := D9.at h9 (m - 1); (refine Zx ?_;with_reducible repeat' first|intro _|apply aI); refine sfWr8 rfl (by omega) ?_; (refine Zx ?_;with_reducible repeat' first|intro _|apply aI); refine sAT1 (by assumption) (fun _ => row1 (by first | exact .i _ _ | exact .s _ _ _ rfl rfl | assumption)) (by rfl) (by simp) (by simp only [List.length_map]; omega) fun _ _ => ?_; (refine Zx ?_;with_reducible repeat' first|intro _|apply aI); refine ih (m - 1) _ _ ?_ (by omega); refine ⟨_, _, _, acc ++ [db (d.getD (m - 1) 0)], _, rfl, by simp, .a _ _ (by simp) ?_, by omega, by assumption, by omega, by simp at *; omega, ?_⟩; (have hq := ‹Rws 1 (acc.map bg ++ [_]) _ 0›; rw [mapbg_snoc (d := db (d.getD (m - 1) 0)) (by rw [db_nat q9]; omega)] at hq; exact hq); (obtain ⟨m, rfl⟩ : ∃ n, m = n + 1 := ⟨m - 1, by omega⟩; exact (by rw [← he, take_rev (m := m) (by omega)] <;> simp))); (have em : m = 0 := (by omega); subst em; simp only [List.take_zero, List.reverse_nil, List.map_nil, List.append_nil] at he; subst he; refine sBT (ys := _) (by assumption) (by simp) ?_; exact sRet ⟨.ret _ _ (.s _ _ _ (by rw [es] <;> rfl) (by rw [es] <;> rfl)), .nil⟩)))
  ·exact .a _ _ rfl (.nil _ _ _)
theorem dgsFrom_len (s : Str) (e : Nat) : ∀ (k : Nat) (acc : List Nat), (dgsFrom s e k acc).length ≤ acc.length + k
 | 0, acc => by simp [dgsFrom]
 | k + 1, acc => by
  rw [dgsFrom]
  split
  ·have := dgsFrom_len s e k (acc ++ [(bt s k - 48).toNat]); simp at this; omega
  ·omega
theorem digs_len_le {a b : Nat} (h : a ≤ b) : (digs a).length ≤ (digs b).length := by
 by_cases ha : a = 0
 ·rw [ha, digs_zero]; simp
 ·have h1 := digs_ge a ha
  have h2 := val_lt (digs b) (digs_le b)
  rw [val_digs] at h2
  have h3 : 10 ^ ((digs a).length - 1) < 10 ^ (digs b).length := by omega
  have h4 := (Nat.pow_lt_pow_iff_right (by omega : 1 < 10)).1 h3
  omega
theorem digS_len (s : Str) : (digs (decVal s).natAbs).length ≤ s.length := by
 have h := digS_eq s
 have : (digS s).2 = digs (decVal s).natAbs := by rw [h]
 rw [← this]
 unfold digS
 split
 ·have := dgsFrom_len s (signLen s) s.length []; simpa using this
 ·simp
theorem rep0 (n j : Nat) : (List.replicate n 0).getD j 0 = 0 := by
 by_cases h : j < n
 ·rw [getD_i' (by simpa using h)]; simp
 ·simp [List.getD, List.getElem?_replicate, h]
theorem drop_set {l : List Nat} {k : Nat} (v : Nat) (h : k < l.length) : (l.set k v).drop k = v :: l.drop (k + 1) := by
 rw [List.drop_eq_getElem_cons (by simpa using h), List.getElem_set_self, List.drop_set_of_lt (by omega)]
theorem set_same {l : List Nat} {k v : Nat} (h : l.getD k 0 = v) : l.set k v = l := by
 by_cases hk : k < l.length
 ·rw [getD_i' hk] at h; subst h; exact List.set_getElem_self hk
 ·exact List.set_eq_of_length_le (by omega)
theorem D9_set {l : List Nat} (h : D9 l) (k : Nat) {v : Nat} (hv : v ≤ 9) : D9 (l.set k v) := fun d hd => by
 rcases List.mem_or_eq_of_mem_set hd with h1 | h1
 ·exact h d h1
 ·omega
theorem getD_set_ne {l : List Nat} {k j v : Nat} (h : j ≠ k) : (l.set k v).getD j 0 = l.getD j 0 := by
 simp only [List.getD, List.getElem?_set_ne (Ne.symm h)]
theorem mapdg_set (l : List Nat) (k v : Nat) {n : Int} (h : n = v) : (l.map dg).set k [.i .i64 n] = (l.set k v).map dg := by subst h; rw [List.map_set]; rfl
def spOver : Sp where
 ι := { p : Nat × Nat // (digs p.1).length < 80000 ∧ (digs p.2).length < 80000 ∧ 0 < p.2 }
 A p := [.sl 1 ((digs p.1.1).map dg), .sl 1 ((digs p.1.2).map dg)]
 B _ := []
 R p := .ret (.t [.sl 1 ((digs (p.1.1 / p.1.2)).map dg), .sl 1 ((digs (p.1.1 % p.1.2)).map dg)])
 B' _ := []
 inj i j vs bs h k _ _ := by
  obtain ⟨_, _, h1, k1, h, k⟩ := h.two k
  obtain ⟨_, _, h2, k2, h, k⟩ := h.two k
  have e1 := congrArg val (mapdg_inj (h1.sl_inj k1))
  have e2 := congrArg val (mapdg_inj (h2.sl_inj k2))
  rw [val_digs, val_digs] at e1 e2
  rw [e1, e2]; exact ⟨rfl, rfl⟩
theorem kOver : Know 55 spOver := know (fun fn h => r55_ok h) [(69, _), (70, _), (71, _)] (.cons kTrim (.cons kOrder (.cons kMinus .nil))) fun U fn hfn ⟨(x, y), hx, hy, hp⟩ vs bs hv hb => by
 have hr := hfn 69 _ rfl
 have ho := hfn 70 _ rfl
 have hmi := hfn 71 _ rfl
 have hx : (digs x).length < 80000 := hx
 have hy : (digs y).length < 80000 := hy
 have hp : 0 < y := hp
 have hv : RVs [.sl 1 ((digs x).map dg), .sl 1 ((digs y).map dg)] vs := hv
 have hb : RBs [] bs := hb
 show Sat U _ fun v bs' => RRes (.ret (.t [.sl 1 ((digs (x / y)).map dg), .sl 1 ((digs (x % y)).map dg)])) v ∧ RBs [] bs'
 unfold r55
 (refine Zx ?_;with_reducible repeat' first|intro _|apply aI)
 refine sZT (fun _ => row1 (.i _ _)) rfl (by simp; omega) fun t0 ht0 => ?_
 have ht0 : Rws 1 ((List.replicate (digs x).length 0).map dg) t0 0 := by have := ht0; simpa [dg] using this
 have h9x := digs_le x
 have h9y := digs_le y
 (refine Zx ?_;with_reducible repeat' first|intro _|apply aI)
 refine sLp (fun (m : Nat) vs bs => ∃ (t : Tre Q) (off : Nat) (t' : Tre Q) (off' : Nat) (v : V) (i : Int) (tq : Tre Q) (qs : List Nat), vs = [.slice t 1 off (digs x).length .no, .slice t' 1 off' (digs y).length .no, .bslice 0 (digs x).length, v, .int .i64 i] ∧ bs = [.row tq (digs x).length] ∧ i = m - 1 ∧ m ≤ (digs x).length ∧ Rws 1 ((digs x).map dg) t off ∧ Rws 1 ((digs y).map dg) t' off' ∧
  RV (.sl 1 ((digs (val ((digs x).drop m) % y)).map dg)) v ∧ Rws 1 (qs.map dg) tq 0 ∧ qs.length = (digs x).length ∧ D9 qs ∧ (∀ j, j < m → qs.getD j 0 = 0) ∧ val (qs.drop m) = val ((digs x).drop m) / y) (fun m => m) (digs x).length
  ⟨_, _, _, _, _, _, _, _, rfl, by simp, rfl, by omega, by assumption, by assumption, by rw [List.drop_length]; simp only [val, Nat.zero_mod, digs_zero]; exact .sl0 _ _ _, ht0, by simp, by intro d hd; simp at hd; omega, fun j _ => rep0 _ j, by simp [val]⟩ (by simp only [FUEL]; omega) ?_
 rintro self m _ _ ⟨t, off, t', off', v, i, tq, qs, rfl, rfl, rfl, hm, ht, ht', hv', hq, hql, hq9, hq0, hqv⟩ ih
 have hrl : (digs (val ((digs x).drop m) % y)).length ≤ (digs y).length := digs_len_le (Nat.le_of_lt (Nat.mod_lt _ hp))
 (refine Zx ?_;with_reducible repeat' first|intro _|apply aI)
 ·refine sfTd (m - 1) (by assumption) (by omega) (by omega) fun _ _ => ?_
  have hd9 := D9.at h9x (m - 1)
  have hdr := digs_drop x (m - 1) (by omega)
  rw [show m - 1 + 1 = m by omega] at hdr
  generalize hX : val ((digs x).drop m) = X at *
  generalize hdd : (digs x).getD (m - 1) 0 = d at *
  have hml := Nat.mod_lt X hp
  (refine Zx ?_;with_reducible repeat' first|intro _|apply aI)
  refine sAT (xs := [dg d]) (ys := (digs (X % y)).map dg) (n := 1) (.cons _ _ _ _ _ rfl (row1 (by assumption)).1 (row1 (by assumption)).2 (.nil _ _ _)) (by assumption) rfl (by simp) (by simp; omega) fun _ _ => ?_
  (refine Zx ?_;with_reducible repeat' first|intro _|apply aI)
  have htr := digs_cons_trim d (X % y) hd9
  refine sCall hr ⟨d :: digs (X % y), by simp; omega⟩ (r := .sl 1 ((digs (d + 10 * (X % y))).map dg)) (by rw [← htr]; rfl) (.cons _ _ _ _ (.sl _ _ _ _ _ (by simp; omega) (by assumption)) .nil) .nil fun _ _ _ _ => ?_
  generalize hR : d + 10 * (X % y) = R at *
  (refine Zx ?_;with_reducible repeat' first|intro _|apply aI)
  have hRl : (digs R).length < 90000 := by rw [← htr]; unfold trimL; simp; omega
  have hRy : R < 10 * y := by omega
  refine sLp (fun (c : Nat) vs bs => ∃ (t : Tre Q) (off : Nat) (t' : Tre Q) (off' : Nat) (v : V) (i : Int) (tq : Tre Q), vs = [.slice t 1 off (digs x).length .no, .slice t' 1 off' (digs y).length .no, .bslice 0 (digs x).length, v, .int .i64 i] ∧ bs = [.row tq (digs x).length] ∧ i = m - 1 ∧ Rws 1 ((digs x).map dg) t off ∧ Rws 1 ((digs y).map dg) t' off' ∧
   RV (.sl 1 ((digs (R - c * y)).map dg)) v ∧ Rws 1 ((qs.set (m - 1) c).map dg) tq 0 ∧ c * y ≤ R) (fun c => 10 - c) 0
   ⟨_, _, _, _, _, _, _, rfl, rfl, rfl, by assumption, by assumption, by rw [Nat.zero_mul, Nat.sub_zero]; exact .sl _ _ _ _ _ (by simp) (by assumption), by rw [show qs.set (m - 1) 0 = qs from set_same (hq0 _ (by omega))]; exact hq, by omega⟩ (by simp only [FUEL]; omega) ?_
  rintro self2 c _ _ ⟨t, off, t', off', v, i, tq, rfl, rfl, rfl, ht, ht', hv', hq, hc⟩ ih2
  have hc9 : c ≤ 9 := by
   have : c * y < 10 * y := by omega
   have := Nat.lt_of_mul_lt_mul_right this
   omega
  have hcl : (digs (R - c * y)).length < 90000 := by have := digs_len_le (Nat.sub_le R (c * y)); omega
  (refine Zx ?_;with_reducible repeat' first|intro _|apply aI)
  refine sCall ho ⟨(digs (R - c * y), digs y), hcl, show (digs y).length < 90000 by omega, trivial⟩ (r := .c (.i .i64 (ordL (digs (R - c * y)) (digs y)))) rfl Zrv .nil fun _ _ _ _ => ?_
  have hord := ordL_digs (R - c * y) y
  generalize ordL (digs (R - c * y)) (digs y) = o at *
  (refine Zx ?_;with_reducible repeat' first|intro _|apply aI)
  ·have hge : y ≤ R - c * y := by
    by_cases h : R - c * y < y
    ·rw [if_pos h] at hord; omega
    ·omega
   have hmul : (c + 1) * y = c * y + y := by rw [Nat.add_mul, Nat.one_mul]
   have hsub : subL (digs (R - c * y)) (digs y) = digs (R - (c + 1) * y) := by rw [subL_digs _ _ hge]; congr 1; omega
   refine sCall hmi ⟨(digs (R - c * y), digs y), hcl, show (digs y).length < 90000 by omega, digs_le _, digs_le _⟩ (r := .sl 1 ((digs (R - (c + 1) * y)).map dg)) (by rw [← hsub]; rfl) Zrv .nil fun _ _ _ _ => ?_
   (refine Zx ?_;with_reducible repeat' first|intro _|apply aI)
   have hk : ((m : Int) - 1).toNat * 1 = m - 1 := by omega
   rw [hk]
   refine sfTk (g := .i .i64 (c : Int)) hq (by rw [List.getElem?_map, List.getElem?_set_self (by omega)]; rfl) fun _ _ => ?_
   (refine Zx ?_;with_reducible repeat' first|intro _|apply aI)
   rw [hk]
   refine sST0 hq (fun _ => row1 (.i _ _)) rfl (by simp; omega) (by omega) fun _ hq2 => ?_
   rw [mapdg_set (n := (c : Int) + 1) _ _ (c + 1) (by omega), List.set_set] at hq2
   exact ih2 (c + 1) _ _ ⟨_, _, _, _, _, _, _, rfl, rfl, rfl, ht, ht', .sl _ _ _ _ _ (by simp) (by assumption), hq2, by omega⟩ (by omega)
  ·have hlt : R - c * y < y := by
    by_cases h : R - c * y < y
    ·exact h
    ·rw [if_neg h] at hord; split at hord <;> omega
   obtain ⟨o1, o2⟩ := over_inner R c y hp hc hlt
   obtain ⟨s1, s2⟩ := over_step X d y hp
   have hdv : val ((digs x).drop (m - 1)) = d + 10 * X := hdr
   refine ih (m - 1) _ _ ⟨_, _, _, _, _, _, _, _, rfl, rfl, by omega, by omega, ht, ht', ?_, hq, by simp; omega, D9_set hq9 _ hc9, fun j hj => by rw [getD_set_ne (by omega)]; exact hq0 j (by omega), ?_⟩ (by omega)
   ·rw [hdv, s2, hR, o2]; exact .sl _ _ _ _ _ (by simp) (by assumption)
   ·rw [drop_set c (by omega), val, show m - 1 + 1 = m by omega, hqv, hdv, s1, hR, o1]
 ·have em : m = 0 := by omega
  subst em
  rw [List.drop_zero, List.drop_zero, val_digs] at hqv
  refine sCall hr ⟨qs, by omega⟩ (r := .sl 1 ((digs (x / y)).map dg)) (by rw [← hqv, ← trimL_digs qs hq9]; rfl) (.cons _ _ _ _ (.sl _ _ _ _ _ (by simp; omega) hq) .nil) .nil fun _ _ _ _ => ?_
  rw [List.drop_zero, val_digs] at *
  (refine Zx ?_;with_reducible repeat' first|intro _|apply aI)
  exact sRet ⟨.ret _ _ (.t _ _ Zrv), .nil⟩
end
end Go.Proofs.YtccafnaghnbpeaaGreatDoor
