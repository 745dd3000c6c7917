/- Objects made of trees. -/
import Derived.Test.YtccafnaghnbpeaaGreatDoorCR9e
import Derived.Test.YtccafnaghnbpeaaGreatDoorCRA
set_option linter.all false
namespace Go.Proofs.YtccafnaghnbpeaaGreatDoor
open Go.Abs LQ
set_option maxRecDepth 100000
set_option maxHeartbeats 4000000
noncomputable section
def symNames : List Str := [dec 1 97, dec 1 98, dec 3 7303014, dec 8 7308604895909930095, dec 1 49, dec 3 7961720, dec 1 46, dec 4 858731053, dec 1 35]
def symR (n : Int) : Sy :=
 if n % 13 < 9 then (userS, symNames.getD (n % 13).toNat []) else
 if n % 13 = 9 then (lispS, dec 3 7104878) else
 if n % 13 = 10 then (lispS, dec 1 116) else
 if n % 13 = 11 then (lispS, dec 3 7496035) else (lispS, dec 5 435745158513)
def s1 (s : Str) : List G := [.s s]
def spInt (g : Int → GV) : Sp where
 ι := Int
 A n := [.c (.i .i64 n)]
 B _ := []
 R n := .ret (g n)
 B' _ := []
 inj i j vs bs h k _ _ := by
  obtain ⟨_, _, h1, k1, h, k⟩ := h.two k
  rw [(G.i.inj (h1.c_inj k1)).2]; exact ⟨rfl, rfl⟩
theorem kSym : Know 25 (spInt fun n => .a (sg (symR n))) := know (fun fn h => r25_ok h) [(13, _), (39, _), (17, _)] (.cons kMod (.cons kUser (.cons kLisp .nil))) fun U fn hfn (n : Int) vs bs hv hb => by
 have hM := hfn 13 _ rfl
 have hU := hfn 39 _ rfl
 have hL := hfn 17 _ rfl
 change RVs [.c (.i .i64 n)] vs at hv
 change RBs [] bs at hb
 show Sat U _ fun v bs' => RRes (.ret (.a (sg (symR n)))) v ∧ RBs [] bs'
 unfold r25
 (refine Zz ?_;with_reducible repeat' first|intro _|apply aI)
 refine sCall hM ⟨(n, 13), show 0 < 13 by decide, show 13 < 1000000 by decide⟩ (r := .c (.i .i64 (n % 13))) rfl (.cons _ _ _ _ (.i _ _) (.cons _ _ _ _ (rvI' (by show ((9 : Nat) : Int) + 4 = ((13 : Nat) : Int); decide)) .nil)) .nil fun _ _ _ _ => ?_
 have h1 : 0 ≤ n % 13 := Int.emod_nonneg _ (by decide)
 have h2 : n % 13 < 13 := Int.emod_lt_of_pos _ (by decide)
 unfold symR
 generalize n % 13 = z at *
 obtain ⟨k, rfl⟩ : ∃ k : Nat, z = k := ⟨z.toNat, by omega⟩
 (refine Zz ?_;with_reducible repeat' first|intro _|apply aI)
 ·rw [if_pos (by omega), Int.toNat_natCast]
  have hk : k < symNames.length := by show k < 9; omega
  refine sfT (xs := symNames.map s1) (r := s1 (symNames.getD k [])) (n := 1) (chkRows_ok (chkG_ok 2) (by rfl)) (by rw [Int.toNat_natCast, List.getElem?_map, List.getElem?_eq_getElem hk]; simp [List.getD, List.getElem?_eq_getElem hk]) fun _ _ => ?_
  unfold s1 at *
  (refine Zz ?_;with_reducible repeat' first|intro _|apply aI)
  refine sCall hU (symNames.getD k []) (r := .a (sg (userS, symNames.getD k []))) rfl (.cons _ _ _ _ (.q _ _ (by assumption)) .nil) .nil fun _ _ _ _ => ?_
  (refine Zz ?_;with_reducible repeat' first|intro _|apply aI)
  exact sRet ⟨.ret _ _ (.a _ _ _ rfl (by assumption)), .nil⟩
 ·rw [if_neg (by omega), if_pos (by omega)]
  refine sCall hL (dec 3 7104878) (r := .a (sg (lispS, dec 3 7104878))) rfl (.cons _ _ _ _ (.s _ _ _ rfl rfl) .nil) .nil fun _ _ _ _ => ?_
  (refine Zz ?_;with_reducible repeat' first|intro _|apply aI)
  exact sRet ⟨.ret _ _ (.a _ _ _ rfl (by assumption)), .nil⟩
 ·rw [if_neg (by omega), if_neg (by omega), if_pos (by omega)]
  refine sCall hL (dec 1 116) (r := .a (sg (lispS, dec 1 116))) rfl (.cons _ _ _ _ (.s _ _ _ rfl rfl) .nil) .nil fun _ _ _ _ => ?_
  (refine Zz ?_;with_reducible repeat' first|intro _|apply aI)
  exact sRet ⟨.ret _ _ (.a _ _ _ rfl (by assumption)), .nil⟩
 ·rw [if_neg (by omega), if_neg (by omega), if_neg (by omega), if_pos (by omega)]
  refine sCall hL (dec 3 7496035) (r := .a (sg (lispS, dec 3 7496035))) rfl (.cons _ _ _ _ (.s _ _ _ rfl rfl) .nil) .nil fun _ _ _ _ => ?_
  (refine Zz ?_;with_reducible repeat' first|intro _|apply aI)
  exact sRet ⟨.ret _ _ (.a _ _ _ rfl (by assumption)), .nil⟩
 ·rw [if_neg (by omega), if_neg (by omega), if_neg (by omega), if_neg (by omega)]
  refine sCall hL (dec 5 435745158513) (r := .a (sg (lispS, dec 5 435745158513))) rfl (.cons _ _ _ _ (.s _ _ _ rfl rfl) .nil) .nil fun _ _ _ _ => ?_
  (refine Zz ?_;with_reducible repeat' first|intro _|apply aI)
  exact sRet ⟨.ret _ _ (.a _ _ _ rfl (by assumption)), .nil⟩
def atR (r : Raw) : O :=
 if r.k % 8 = 0 ∨ r.k % 8 = 1 then .num (r.n % 2001 - 1000) 1 else
 if r.k % 8 = 2 then numO (qn (r.n % 41 - 20) (1 + r.s.length)) else
 if r.k % 8 = 3 then .sy (symR r.n) else .tx r.s
mutual
def objR : Raw → O
 | .mk k n s l => if k % 8 < 5 then atR (.mk k n s l) else
  if k % 8 = 5 then .co ((objRs l).getD 0 (.num (-1000) 1)) ((objRs l).getD 1 (.num (-1000) 1)) else listO (objRs l)
def objRs : List Raw → List O
 | [] => []
 | x :: xs => objR x :: objRs xs
end
theorem objRs_eq : ∀ l : List Raw, objRs l = l.map objR
 | [] => rfl
 | x :: xs => by rw [objRs, objRs_eq xs]; rfl
theorem objR_zero : objR Raw.zero = .num (-1000) 1 := by
 show objR (.mk 0 0 [] []) = _
 rw [objR, if_pos (by decide), atR, if_pos (.inl (by decide))]
 rfl
theorem objRs_getD (l : List Raw) (i : Nat) : (objRs l).getD i (.num (-1000) 1) = objR (l.getD i Raw.zero) := by
 rw [objRs_eq, ← objR_zero]
 simp only [List.getD, List.getElem?_map]
 cases l[i]? <;> rfl
theorem objR_eq (r : Raw) : objR r = if r.k % 8 < 5 then atR r else if r.k % 8 = 5 then .co (objR (r.part 0)) (objR (r.part 1)) else listO (r.l.map objR) := by
 cases r with
 | mk k n s l =>
  rw [objR, objRs_getD, objRs_getD, objRs_eq]
  rfl
def muR (r : Raw) : Nat := if r.k % 8 < 5 then 2 * r.nodes - 1 else 2 * r.nodes
theorem muR_le (r : Raw) : muR r ≤ 2 * r.nodes := by unfold muR; split <;> omega
theorem okR_zero : Raw.zero.okR := ⟨by decide, by decide, trivial⟩
theorem part_ok {r : Raw} (h : r.okR) (i : Nat) : (r.part i).okR := by
 unfold Raw.part
 have h := ((Raw.okR_eq r).1 h).2.2
 by_cases hi : i < r.l.length
 ·rw [show r.l.getD i Raw.zero = r.l[i] by simp [List.getD, List.getElem?_eq_getElem hi]]
  exact Raw.okR_mem h (List.getElem_mem hi)
 ·rw [show r.l.getD i Raw.zero = Raw.zero by simp [List.getD, List.getElem?_eq_none (by omega : r.l.length ≤ i)]]
  exact okR_zero
theorem part_mu {r : Raw} (h : ¬ r.k % 8 < 5) (i : Nat) : muR (r.part i) < muR r := by
 unfold Raw.part
 have e : muR r = 2 * r.nodes := if_neg h
 have hn := Raw.nodes_eq r
 by_cases hi : i < r.l.length
 ·rw [show r.l.getD i Raw.zero = r.l[i] by simp [List.getD, List.getElem?_eq_getElem hi]]
  have h1 := Raw.nodes_mem (List.getElem_mem hi)
  have h2 := muR_le r.l[i]
  omega
 ·rw [show r.l.getD i Raw.zero = Raw.zero by simp [List.getD, List.getElem?_eq_none (by omega : r.l.length ≤ i)]]
  have : muR Raw.zero = 1 := by decide
  omega
theorem mem_mu {r : Raw} (h : ¬ r.k % 8 < 5) {x : Raw} (hx : x ∈ r.l) : muR x < muR r := by
 have e : muR r = 2 * r.nodes := if_neg h
 have hn := Raw.nodes_eq r
 have h1 := Raw.nodes_mem hx
 have h2 := muR_le x
 omega
def spObj : Sp where
 ι := { r : Raw // r.okR }
 A r := [.a r.1.g]
 B _ := []
 R r := .ret (.a (objR r.1).g)
 B' _ := []
 inj i j vs bs h k _ _ := by
  obtain ⟨_, _, h1, k1, h, k⟩ := h.two k
  rw [Raw.g_inj (h1.a_inj k1)]; exact ⟨rfl, rfl⟩
theorem kObject (hItoa : Itoa) : Know 8 spObj := know_rec (fun r => muR r.1) fun z ih => know (fun fn h => r8_ok h) [(8, spObj.lt (fun r => muR r.1) z), (13, _), (25, _), (28, _), (23, _), (14, _), (22, _), (24, _), (26, _), (27, _), (11, _)] (.cons ih (.cons kMod (.cons kSym (.cons kPart (.cons (kFromInt hItoa) (.cons (kInt hItoa) (.cons kRational (.cons kSymbol (.cons kText2 (.cons kCons (.cons kList .nil))))))))))) fun U fn hfn ⟨⟨r, hr⟩, hz⟩ vs bs hv hb => by
 have hO := hfn 8 _ rfl
 have hM := hfn 13 _ rfl
 have hS := hfn 25 _ rfl
 have hP := hfn 28 _ rfl
 have hF := hfn 23 _ rfl
 have hI := hfn 14 _ rfl
 have hR := hfn 22 _ rfl
 have hY := hfn 24 _ rfl
 have hT := hfn 26 _ rfl
 have hC := hfn 27 _ rfl
 have hL := hfn 11 _ rfl
 change RVs [.a r.g] vs at hv
 change RBs [] bs at hb
 have hz : muR r < z + 1 := hz
 have hok := (Raw.okR_eq r).1 hr
 show Sat U _ fun v bs' => RRes (.ret (.a (objR r).g)) v ∧ RBs [] bs'
 rw [objR_eq]
 have h1 : 0 ≤ r.k % 8 := Int.emod_nonneg _ (by decide)
 have h2 : r.k % 8 < 8 := Int.emod_lt_of_pos _ (by decide)
 unfold r8
 (refine Zz ?_;with_reducible repeat' first|intro _|apply aI)
 refine sAR (by assumption) (Raw.g_len _) fun _ _ => ?_
 have hcel := (‹Cel r.g _ 0›)
 rw [Raw.g_eq] at hcel
 (refine Zz ?_;with_reducible repeat' first|intro _|apply aI)
 refine sCall hM ⟨(r.k, 8), show 0 < 8 by decide, show 8 < 1000000 by decide⟩ (r := .c (.i .i64 (r.k % 8))) rfl (.cons _ _ _ _ (.q _ _ (by assumption)) (.cons _ _ _ _ (rvI' rfl) .nil)) .nil fun _ _ _ _ => ?_
 (refine Zz ?_;with_reducible repeat' first|intro _|apply aI)
 ·refine sCall hM ⟨(r.n, 2001), show 0 < 2001 by decide, show 2001 < 1000000 by decide⟩ (r := .c (.i .i64 (r.n % 2001))) rfl (.cons _ _ _ _ (.q _ _ (by assumption)) (.cons _ _ _ _ (rvI' rfl) .nil)) .nil fun _ _ _ _ => ?_
  have b1 : 0 ≤ r.n % 2001 := Int.emod_nonneg _ (by decide)
  have b2 : r.n % 2001 < 2001 := Int.emod_lt_of_pos _ (by decide)
  (refine Zz ?_;with_reducible repeat' first|intro _|apply aI)
  refine sCall hI ⟨r.n % 2001 - 1000, by omega, by omega⟩ (r := .a (O.num (r.n % 2001 - 1000) 1).g) rfl (.cons _ _ _ _ (.i _ _) .nil) .nil fun _ _ _ _ => ?_
  (refine Zz ?_;with_reducible repeat' first|intro _|apply aI)
  rw [if_pos (by omega), atR, if_pos (by omega)]
  exact sRet ⟨.ret _ _ oV, .nil⟩
 ·refine sCall hM ⟨(r.n, 2001), show 0 < 2001 by decide, show 2001 < 1000000 by decide⟩ (r := .c (.i .i64 (r.n % 2001))) rfl (.cons _ _ _ _ (.q _ _ (by assumption)) (.cons _ _ _ _ (rvI' rfl) .nil)) .nil fun _ _ _ _ => ?_
  have b1 : 0 ≤ r.n % 2001 := Int.emod_nonneg _ (by decide)
  have b2 : r.n % 2001 < 2001 := Int.emod_lt_of_pos _ (by decide)
  (refine Zz ?_;with_reducible repeat' first|intro _|apply aI)
  refine sCall hI ⟨r.n % 2001 - 1000, by omega, by omega⟩ (r := .a (O.num (r.n % 2001 - 1000) 1).g) rfl (.cons _ _ _ _ (.i _ _) .nil) .nil fun _ _ _ _ => ?_
  (refine Zz ?_;with_reducible repeat' first|intro _|apply aI)
  rw [if_pos (by omega), atR, if_pos (by omega)]
  exact sRet ⟨.ret _ _ oV, .nil⟩
 ·refine sCall hM ⟨(r.n, 41), show 0 < 41 by decide, show 41 < 1000000 by decide⟩ (r := .c (.i .i64 (r.n % 41))) rfl (.cons _ _ _ _ (.q _ _ (by assumption)) (.cons _ _ _ _ (rvI' rfl) .nil)) .nil fun _ _ _ _ => ?_
  have b1 : 0 ≤ r.n % 41 := Int.emod_nonneg _ (by decide)
  have b2 : r.n % 41 < 41 := Int.emod_lt_of_pos _ (by decide)
  have b3 := hok.1
  have c1 : -1000000000 < r.n % 41 - 20 ∧ r.n % 41 - 20 < 1000000000 := ⟨by omega, by omega⟩
  have c2 : -1000000000 < 1 + (r.s.length : Int) ∧ 1 + (r.s.length : Int) < 1000000000 := ⟨by omega, by omega⟩
  have l1 := showInt_small c1
  have l2 := showInt_small c2
  (refine Zz ?_;with_reducible repeat' first|intro _|apply aI)
  refine sCall hF ⟨r.n % 41 - 20, c1⟩ (r := .c (.s (showInt (r.n % 41 - 20)))) rfl (.cons _ _ _ _ (.i _ _) .nil) .nil fun _ _ _ _ => ?_
  (refine Zz ?_;with_reducible repeat' first|intro _|apply aI)
  refine sCall hF ⟨1 + (r.s.length : Int), c2⟩ (r := .c (.s (showInt (1 + (r.s.length : Int))))) rfl (.cons _ _ _ _ (.i _ _) .nil) .nil fun _ _ _ _ => ?_
  (refine Zz ?_;with_reducible repeat' first|intro _|apply aI)
  refine sCall hR ⟨(showInt (r.n % 41 - 20), showInt (1 + (r.s.length : Int))), Nat.lt_of_le_of_lt l1 (by decide), Nat.lt_of_le_of_lt l2 (by decide)⟩ (r := .a (numO (qn (r.n % 41 - 20) (1 + (r.s.length : Int)))).g) (by show GRes.ret (.a (numO (qn (decVal (showInt (r.n % 41 - 20))) (decVal (showInt (1 + (r.s.length : Int)))))).g) = _; rw [decVal_showInt, decVal_showInt]) (.cons _ _ _ _ (.s _ _ _ rfl rfl) (.cons _ _ _ _ (.s _ _ _ rfl rfl) .nil)) .nil fun _ _ _ _ => ?_
  (refine Zz ?_;with_reducible repeat' first|intro _|apply aI)
  rw [if_pos (by omega), atR, if_neg (by omega), if_pos (by omega)]
  exact sRet ⟨.ret _ _ oV, .nil⟩
 ·refine sCall hS r.n (r := .a (sg (symR r.n))) rfl (.cons _ _ _ _ (.q _ _ (by assumption)) .nil) .nil fun _ _ _ _ => ?_
  (refine Zz ?_;with_reducible repeat' first|intro _|apply aI)
  refine sCall hY (symR r.n) (r := .a (O.sy (symR r.n)).g) rfl (.cons _ _ _ _ (.a _ _ _ rfl (by assumption)) .nil) .nil fun _ _ _ _ => ?_
  (refine Zz ?_;with_reducible repeat' first|intro _|apply aI)
  rw [if_pos (by omega), atR, if_neg (by omega), if_neg (by omega), if_pos (by omega)]
  exact sRet ⟨.ret _ _ oV, .nil⟩
 ·refine sCall hT r.s (r := .a (O.tx r.s).g) rfl (.cons _ _ _ _ (.q _ _ (by assumption)) .nil) .nil fun _ _ _ _ => ?_
  (refine Zz ?_;with_reducible repeat' first|intro _|apply aI)
  rw [if_pos (by omega), atR, if_neg (by omega), if_neg (by omega), if_neg (by omega)]
  exact sRet ⟨.ret _ _ oV, .nil⟩
 ·rw [if_neg (by omega), if_pos (by assumption)]
  have hm0 := part_mu (r := r) (by omega) 0
  have hm1 := part_mu (r := r) (by omega) 1
  refine sCall hP ⟨(r, 0), show 0 ≤ 1000 by decide⟩ (r := .a (r.part 0).g) rfl (.cons _ _ _ _ (.a _ _ _ (Raw.g_len _).symm (by rw [Raw.g_eq]; assumption)) (.cons _ _ _ _ (rvI' rfl) .nil)) .nil fun _ _ _ _ => ?_
  (refine Zz ?_;with_reducible repeat' first|intro _|apply aI)
  refine sAR (by assumption) (Raw.g_len _) fun _ _ => ?_
  (refine Zz ?_;with_reducible repeat' first|intro _|apply aI)
  refine sCall hO ⟨⟨r.part 0, part_ok hr 0⟩, show muR (r.part 0) < z by omega⟩ (r := .a (objR (r.part 0)).g) rfl (.cons _ _ _ _ (.a _ _ _ (Raw.g_len _).symm (by assumption)) .nil) .nil fun _ _ _ _ => ?_
  (refine Zz ?_;with_reducible repeat' first|intro _|apply aI)
  refine oR fun _ _ => ?_
  (refine Zz ?_;with_reducible repeat' first|intro _|apply aI)
  refine sCall hP ⟨(r, 1), show 1 ≤ 1000 by decide⟩ (r := .a (r.part 1).g) rfl (.cons _ _ _ _ (.a _ _ _ (Raw.g_len _).symm (by rw [Raw.g_eq]; assumption)) (.cons _ _ _ _ (rvI' rfl) .nil)) .nil fun _ _ _ _ => ?_
  (refine Zz ?_;with_reducible repeat' first|intro _|apply aI)
  refine sAR (by assumption) (Raw.g_len _) fun _ _ => ?_
  (refine Zz ?_;with_reducible repeat' first|intro _|apply aI)
  refine sCall hO ⟨⟨r.part 1, part_ok hr 1⟩, show muR (r.part 1) < z by omega⟩ (r := .a (objR (r.part 1)).g) rfl (.cons _ _ _ _ (.a _ _ _ (Raw.g_len _).symm (by assumption)) .nil) .nil fun _ _ _ _ => ?_
  (refine Zz ?_;with_reducible repeat' first|intro _|apply aI)
  refine oR fun _ _ => ?_
  (refine Zz ?_;with_reducible repeat' first|intro _|apply aI)
  refine sCall hC (objR (r.part 0), objR (r.part 1)) (r := .a (O.co (objR (r.part 0)) (objR (r.part 1))).g) rfl (.cons _ _ _ _ oV oA) .nil fun _ _ _ _ => ?_
  (refine Zz ?_;with_reducible repeat' first|intro _|apply aI)
  exact sRet ⟨.ret _ _ oV, .nil⟩
 ·rw [if_neg (by omega), if_neg (by assumption)]
  have hl6 := hok.2.1
  refine sLp (fun (i : Nat) vs bs => ∃ (q : Q) (v : V) (acc : List O), vs = [.ptr 0 0, .ptr 1 0, .int .i64 i, v] ∧ bs = [.opa q 4, .cells [.int .i64 0, .str 0 0, .str 0 0, .str 0 0, .str 0 0, .str 0 0, .slice .nil 0 0 0 .exact], .tok acc.length 7] ∧ TokS 2 7 (acc.map O.g) v ∧ Cel [.i .i64 r.k, .i .i64 r.n, .s r.s, .l (r.l.map Raw.g)] q 0 ∧ acc = (r.l.take i).map objR ∧ acc.length = i ∧ i ≤ r.l.length) (fun i => r.l.length - i) 0
   ⟨_, _, [], rfl, rfl, .b rfl, by assumption, rfl, rfl, by omega⟩ (by simp only [FUEL]; omega) ?_
  rintro self i _ _ ⟨q, v, acc, rfl, rfl, htk, hq, hacc, hlen, hi⟩ ih
  (refine Zz ?_;with_reducible repeat' first|intro _|apply aI)
  refine sCSlM (by assumption) (mapLen Raw.g_len) fun _ _ _ => ?_
  (refine Zz ?_;with_reducible repeat' first|intro _|apply aI)
  ·refine sCSlM (by assumption) (mapLen Raw.g_len) fun _ _ _ => ?_
   (refine Zz ?_;with_reducible repeat' first|intro _|apply aI)
   have hiw : i < r.l.length := by omega
   have hmm := mem_mu (r := r) (by omega) (List.getElem_mem hiw)
   refine sCall hO ⟨⟨r.l[i], Raw.okR_mem hok.2.2 (List.getElem_mem hiw)⟩, show muR r.l[i] < z by omega⟩ (r := .a (objR r.l[i]).g) rfl (.cons _ _ _ _ (.a _ _ _ (Raw.g_len _).symm (by assumption)) .nil) .nil fun _ _ _ _ => ?_
   (refine Zz ?_;with_reducible repeat' first|intro _|apply aI)
   refine oR fun _ _ => ?_
   (refine Zz ?_;with_reducible repeat' first|intro _|apply aI)
   refine sAT1 (by assumption) (r := (objR r.l[i]).g) (fun _ => rowN (by rw [O.g_len]; decide) (by assumption)) (O.g_len _) (by simp) (by simp only [List.length_map]; omega) fun _ _ => ?_
   (refine Zz ?_;with_reducible repeat' first|intro _|apply aI)
   exact ih (i + 1) _ _ ⟨_, _, acc ++ [objR r.l[i]], rfl, (by rw [List.length_append]; rfl), .a _ _ (by simp) (by rw [List.map_append]; assumption), hq, (by rw [hacc, List.take_add_one, List.getElem?_eq_getElem hiw, List.map_append]; rfl), by simp [hlen], by omega⟩ (by omega)
  ·have e9 : acc = r.l.map objR := by rw [hacc, List.take_of_length_le (by omega)]
   refine sCall hL ⟨acc, by omega⟩ (r := .a (listO acc).g) rfl (.cons _ _ _ _ (.sl _ _ _ _ _ (by simp) (by assumption)) .nil) .nil fun _ _ _ _ => ?_
   (refine Zz ?_;with_reducible repeat' first|intro _|apply aI)
   refine oR fun _ _ => ?_
   (refine Zz ?_;with_reducible repeat' first|intro _|apply aI)
   rw [← e9]
   exact sRet ⟨.ret _ _ oV, .nil⟩
def spObjs : Sp where
 ι := { l : List Raw // l.length ≤ 1000 ∧ ∀ r ∈ l, r.okR }
 A l := [.sl 4 (l.1.map Raw.g)]
 B _ := []
 R l := .ret (.sl 7 ((l.1.map objR).map O.g))
 B' _ := []
 inj i j vs bs h k _ _ := by
  obtain ⟨_, _, h1, k1, h, k⟩ := h.two k
  rw [Raw.map_inj (h1.sl_inj k1)]; exact ⟨rfl, rfl⟩
theorem kObjects (hItoa : Itoa) : Know 7 spObjs := know (fun fn h => r7_ok h) [(8, _)] (.cons (kObject hItoa) .nil) fun U fn hfn ⟨l, hl, hok⟩ vs bs hv hb => by
 have hO := hfn 8 _ rfl
 change RVs [.sl 4 (l.map Raw.g)] vs at hv
 change RBs [] bs at hb
 have hl : l.length ≤ 1000 := hl
 show Sat U _ fun v bs' => RRes (.ret (.sl 7 ((l.map objR).map O.g))) v ∧ RBs [] bs'
 unfold r7
 (refine Zz ?_;with_reducible repeat' first|intro _|apply aI)
 refine sLp (fun (i : Nat) vs bs => ∃ (t : Tre Q) (off : Nat) (v : V) (acc : List O), vs = [.slice t 4 off l.length .no, .int .i64 i, v] ∧ bs = [.tok acc.length 7] ∧ TokS 0 7 (acc.map O.g) v ∧ Rws 4 (l.map Raw.g) t off ∧ acc = (l.take i).map objR ∧ acc.length = i ∧ i ≤ l.length) (fun i => l.length - i) 0
  ⟨_, _, _, [], rfl, rfl, .b rfl, by assumption, rfl, rfl, by omega⟩ (by simp only [FUEL]; omega) ?_
 rintro self i _ _ ⟨t, off, v, acc, rfl, rfl, htk, ht, hacc, hlen, hi⟩ ih
 (refine Zz ?_;with_reducible repeat' first|intro _|apply aI)
 ·have hiw : i < l.length := by omega
  refine sCall hO ⟨l[i], hok _ (List.getElem_mem hiw)⟩ (r := .a (objR l[i]).g) rfl (.cons _ _ _ _ (.a _ _ _ (Raw.g_len _).symm (by assumption)) .nil) .nil fun _ _ _ _ => ?_
  (refine Zz ?_;with_reducible repeat' first|intro _|apply aI)
  refine oR fun _ _ => ?_
  (refine Zz ?_;with_reducible repeat' first|intro _|apply aI)
  refine sAT1 (by assumption) (r := (objR l[i]).g) (fun _ => rowN (by rw [O.g_len]; decide) (by assumption)) (O.g_len _) (by simp) (by simp only [List.length_map]; omega) fun _ _ => ?_
  (refine Zz ?_;with_reducible repeat' first|intro _|apply aI)
  exact ih (i + 1) _ _ ⟨_, _, _, acc ++ [objR l[i]], rfl, (by rw [List.length_append]; rfl), .a _ _ (by simp) (by rw [List.map_append]; assumption), ht, (by rw [hacc, List.take_add_one, List.getElem?_eq_getElem hiw, List.map_append]; rfl), by simp [hlen], by omega⟩ (by omega)
 ·have e9 : acc = l.map objR := by rw [hacc, List.take_of_length_le (by omega)]
  rw [← e9]
  exact sRet ⟨.ret _ _ (.sl _ _ _ _ _ (by simp) (by assumption)), .nil⟩
end
end Go.Proofs.YtccafnaghnbpeaaGreatDoor
