/- Objects that are often ordinals; PreludeOrdinals, of typed data. -/
import Derived.Test.YtonniadanikanaaGreatDoorCRC
import Derived.Test.YtonniadanikanaaGreatDoorCRD
set_option linter.all false
namespace Go.Proofs.YtonniadanikanaaGreatDoor
open Go.Abs LQ
set_option maxRecDepth 100000
set_option maxHeartbeats 4000000
noncomputable section
mutual
def ordR : Raw → O
 | .mk k n _ l => if k % 4 = 0 ∨ l.length = 0 then .num (n % 5) 1 else
  .co (.co ((ordRs l).getD 0 .no) (.num (1 + n % 3) 1)) (if 1 < l.length then (ordRs l).getD 1 .no else .num (n % 3) 1)
def ordRs : List Raw → List O
 | [] => []
 | x :: xs => ordR x :: ordRs xs
end
theorem ordRs_eq : ∀ l : List Raw, ordRs l = l.map ordR
 | [] => rfl
 | x :: xs => by rw [ordRs, ordRs_eq xs]; rfl
theorem ordRs_getD {l : List Raw} {i : Nat} (h : i < l.length) : (ordRs l).getD i .no = ordR l[i] := by
 rw [ordRs_eq]
 simp [List.getD, List.getElem?_map, List.getElem?_eq_getElem h]
theorem ordR_eq (r : Raw) : ordR r = if r.k % 4 = 0 ∨ r.l.length = 0 then .num (r.n % 5) 1 else .co (.co ((ordRs r.l).getD 0 .no) (.num (1 + r.n % 3) 1)) (if 1 < r.l.length then (ordRs r.l).getD 1 .no else .num (r.n % 3) 1) := by
 cases r; rw [ordR]; rfl
def spRaw (g : Raw → GV) : Sp where
 ι := Raw
 A r := [.a r.g]
 B _ := []
 R r := .ret (g r)
 B' _ := []
 inj i j vs bs h k _ _ := by
  obtain ⟨_, _, h1, k1, h, k⟩ := h.two k
  rw [Raw.g_inj (h1.a_inj k1)]; exact ⟨rfl, rfl⟩
theorem kOrdinal (hItoa : Itoa) : Know 9 (spRaw fun r => .a (ordR r).g) := know_rec (fun r => r.nodes) fun z ih => know (fun fn h => r9_ok h) [(9, (spRaw fun r => .a (ordR r).g).lt (fun r => r.nodes) z), (22, _), (20, _), (30, _)] (.cons ih (.cons kMod (.cons (kInt hItoa) (.cons kCons .nil)))) fun U fn hfn ⟨(r : Raw), hz⟩ vs bs hv hb => by
 have hO := hfn 9 _ rfl
 have hM := hfn 22 _ rfl
 have hI := hfn 20 _ rfl
 have hC := hfn 30 _ rfl
 change RVs [.a r.g] vs at hv
 change RBs [] bs at hb
 have hz : r.nodes < z + 1 := hz
 rw [Raw.nodes_eq] at hz
 show Sat U _ fun v bs' => RRes (.ret (.a (ordR r).g)) v ∧ RBs [] bs'
 rw [ordR_eq]
 have b1 : 0 ≤ r.n % 5 := Int.emod_nonneg _ (by decide)
 have b2 : r.n % 5 < 5 := Int.emod_lt_of_pos _ (by decide)
 have b3 : 0 ≤ r.n % 3 := Int.emod_nonneg _ (by decide)
 have b4 : r.n % 3 < 3 := Int.emod_lt_of_pos _ (by decide)
 unfold r9
 (refine Zz ?_;with_reducible repeat' first|intro _|apply aI)
 refine sAR (by assumption) (Raw.g_len _) fun _ _ => ?_
 have hcel := (‹Cel r.g _ 0›)
 rw [Raw.g_eq] at hcel
 (refine Zz ?_;with_reducible repeat' first|intro _|apply aI)
 refine sCall hM ⟨(r.k, 4), show 0 < 4 by decide, show 4 < 1000000 by decide⟩ (r := .c (.i .i64 (r.k % 4))) rfl (.cons _ _ _ _ (.q _ _ (by assumption)) (.cons _ _ _ _ (rvI' rfl) .nil)) .nil fun _ _ _ _ => ?_
 (refine Zz ?_;with_reducible repeat' first|intro _|apply aI)
 ·refine sCall hM ⟨(r.n, 5), show 0 < 5 by decide, show 5 < 1000000 by decide⟩ (r := .c (.i .i64 (r.n % 5))) rfl (.cons _ _ _ _ (.q _ _ (by assumption)) (.cons _ _ _ _ (rvI' rfl) .nil)) .nil fun _ _ _ _ => ?_
  (refine Zz ?_;with_reducible repeat' first|intro _|apply aI)
  refine sCall hI ⟨r.n % 5, by omega, by omega⟩ (r := .a (O.num (r.n % 5) 1).g) rfl (.cons _ _ _ _ (.i _ _) .nil) .nil fun _ _ _ _ => ?_
  (refine Zz ?_;with_reducible repeat' first|intro _|apply aI)
  rw [if_pos (by omega)]
  exact sRet ⟨.ret _ _ oV, .nil⟩
 refine sCSlM (by assumption) (mapLen Raw.g_len) fun _ _ _ => ?_
 (refine Zz ?_;with_reducible repeat' first|intro _|apply aI)
 ·refine sCall hM ⟨(r.n, 5), show 0 < 5 by decide, show 5 < 1000000 by decide⟩ (r := .c (.i .i64 (r.n % 5))) rfl (.cons _ _ _ _ (.q _ _ (by assumption)) (.cons _ _ _ _ (rvI' rfl) .nil)) .nil fun _ _ _ _ => ?_
  (refine Zz ?_;with_reducible repeat' first|intro _|apply aI)
  refine sCall hI ⟨r.n % 5, by omega, by omega⟩ (r := .a (O.num (r.n % 5) 1).g) rfl (.cons _ _ _ _ (.i _ _) .nil) .nil fun _ _ _ _ => ?_
  (refine Zz ?_;with_reducible repeat' first|intro _|apply aI)
  rw [if_pos (by omega)]
  exact sRet ⟨.ret _ _ oV, .nil⟩
 rw [if_neg (by omega)]
 refine sCSlM (by assumption) (mapLen Raw.g_len) fun _ _ _ => ?_
 (refine Zz ?_;with_reducible repeat' first|intro _|apply aI)
 have h0 : 0 < r.l.length := by omega
 have n0 := Raw.nodes_mem (List.getElem_mem h0)
 rw [ordRs_getD h0]
 refine sCall hO ⟨r.l[0], show r.l[0].nodes < z by omega⟩ (r := .a (ordR r.l[0]).g) rfl (.cons _ _ _ _ (.a _ _ _ (Raw.g_len _).symm (by assumption)) .nil) .nil fun _ _ _ _ => ?_
 (refine Zz ?_;with_reducible repeat' first|intro _|apply aI)
 refine oR fun _ _ => ?_
 (refine Zz ?_;with_reducible repeat' first|intro _|apply aI)
 refine sCall hM ⟨(r.n, 3), show 0 < 3 by decide, show 3 < 1000000 by decide⟩ (r := .c (.i .i64 (r.n % 3))) rfl (.cons _ _ _ _ (.q _ _ (by assumption)) (.cons _ _ _ _ (rvI' rfl) .nil)) .nil fun _ _ _ _ => ?_
 (refine Zz ?_;with_reducible repeat' first|intro _|apply aI)
 refine sCall hI ⟨r.n % 3, by omega, by omega⟩ (r := .a (O.num (r.n % 3) 1).g) rfl (.cons _ _ _ _ (.i _ _) .nil) .nil fun _ _ _ _ => ?_
 (refine Zz ?_;with_reducible repeat' first|intro _|apply aI)
 refine sCSlM (by assumption) (mapLen Raw.g_len) fun _ _ _ => ?_
 (refine Zz ?_;with_reducible repeat' first|intro _|apply aI)
 ·refine sCSlM (by assumption) (mapLen Raw.g_len) fun _ _ _ => ?_
  (refine Zz ?_;with_reducible repeat' first|intro _|apply aI)
  have h1 : 1 < r.l.length := by omega
  have n1 := Raw.nodes_mem (List.getElem_mem h1)
  rw [if_pos h1, ordRs_getD h1]
  refine sCall hO ⟨r.l[1], show r.l[1].nodes < z by omega⟩ (r := .a (ordR r.l[1]).g) rfl (.cons _ _ _ _ (.a _ _ _ (Raw.g_len _).symm (by assumption)) .nil) .nil fun _ _ _ _ => ?_
  (refine Zz ?_;with_reducible repeat' first|intro _|apply aI)
  refine oR fun _ _ => ?_
  (refine Zz ?_;with_reducible repeat' first|intro _|apply aI)
  refine sCall hM ⟨(r.n, 3), show 0 < 3 by decide, show 3 < 1000000 by decide⟩ (r := .c (.i .i64 (r.n % 3))) rfl (.cons _ _ _ _ (.q _ _ (by assumption)) (.cons _ _ _ _ (rvI' rfl) .nil)) .nil fun _ _ _ _ => ?_
  (refine Zz ?_;with_reducible repeat' first|intro _|apply aI)
  refine sCall hI ⟨1 + r.n % 3, by omega, by omega⟩ (r := .a (O.num (1 + r.n % 3) 1).g) rfl (.cons _ _ _ _ (.i _ _) .nil) .nil fun _ _ _ _ => ?_
  (refine Zz ?_;with_reducible repeat' first|intro _|apply aI)
  refine sCall hC (ordR r.l[0], .num (1 + r.n % 3) 1) (r := .a (O.co (ordR r.l[0]) (.num (1 + r.n % 3) 1)).g) rfl (.cons _ _ _ _ oV oA) .nil fun _ _ _ _ => ?_
  (refine Zz ?_;with_reducible repeat' first|intro _|apply aI)
  refine sCall hC (O.co (ordR r.l[0]) (.num (1 + r.n % 3) 1), ordR r.l[1]) (r := .a (O.co (O.co (ordR r.l[0]) (.num (1 + r.n % 3) 1)) (ordR r.l[1])).g) rfl (.cons _ _ _ _ oV oA) .nil fun _ _ _ _ => ?_
  (refine Zz ?_;with_reducible repeat' first|intro _|apply aI)
  exact sRet ⟨.ret _ _ oV, .nil⟩
 ·rw [if_neg (by omega)]
  refine sCall hM ⟨(r.n, 3), show 0 < 3 by decide, show 3 < 1000000 by decide⟩ (r := .c (.i .i64 (r.n % 3))) rfl (.cons _ _ _ _ (.q _ _ (by assumption)) (.cons _ _ _ _ (rvI' rfl) .nil)) .nil fun _ _ _ _ => ?_
  (refine Zz ?_;with_reducible repeat' first|intro _|apply aI)
  refine sCall hI ⟨1 + r.n % 3, by omega, by omega⟩ (r := .a (O.num (1 + r.n % 3) 1).g) rfl (.cons _ _ _ _ (.i _ _) .nil) .nil fun _ _ _ _ => ?_
  (refine Zz ?_;with_reducible repeat' first|intro _|apply aI)
  refine sCall hC (ordR r.l[0], .num (1 + r.n % 3) 1) (r := .a (O.co (ordR r.l[0]) (.num (1 + r.n % 3) 1)).g) rfl (.cons _ _ _ _ oV oA) .nil fun _ _ _ _ => ?_
  (refine Zz ?_;with_reducible repeat' first|intro _|apply aI)
  refine sCall hC (O.co (ordR r.l[0]) (.num (1 + r.n % 3) 1), .num (r.n % 3) 1) (r := .a (O.co (O.co (ordR r.l[0]) (.num (1 + r.n % 3) 1)) (.num (r.n % 3) 1)).g) rfl (.cons _ _ _ _ oV oA) .nil fun _ _ _ _ => ?_
  (refine Zz ?_;with_reducible repeat' first|intro _|apply aI)
  exact sRet ⟨.ret _ _ oV, .nil⟩
end
end Go.Proofs.YtonniadanikanaaGreatDoor
namespace Go.Proofs.YtonniadanikanaaGreatDoor
open Go.Abs LQ
set_option maxRecDepth 100000
set_option maxHeartbeats 4000000
noncomputable section
mutual
theorem ordR_sz : ∀ r : Raw, (ordR r).size ≤ 4 * r.nodes ∧ (ordR r).fm = true
 | .mk k n s l => by
  have hn : (Raw.mk k n s l).nodes = 1 + Raw.nodesL l := rfl
  have b1 : 0 ≤ n % 5 := Int.emod_nonneg _ (by decide)
  have b2 : n % 5 < 5 := Int.emod_lt_of_pos _ (by decide)
  have b3 : 0 ≤ n % 3 := Int.emod_nonneg _ (by decide)
  have b4 : n % 3 < 3 := Int.emod_lt_of_pos _ (by decide)
  rw [ordR]
  split
  ·exact ⟨by show 1 ≤ _; omega, (ok_num _ ⟨by omega, by omega⟩).2⟩
  ·rename_i hc
   have h0 : 0 < l.length := by omega
   have hs := ordRs_sz l
   have f1 : (O.num (1 + n % 3) 1).fm = true := (ok_num _ ⟨by omega, by omega⟩).2
   have f2 : (O.num (n % 3) 1).fm = true := (ok_num _ ⟨by omega, by omega⟩).2
   split
   ·rename_i h1
    have := hs.2 h1
    refine ⟨?_, ?_⟩
    ·show 1 + (1 + ((ordRs l).getD 0 .no).size + 1) + ((ordRs l).getD 1 .no).size ≤ _
     omega
    ·show ((((ordRs l).getD 0 .no).fm && _) && ((ordRs l).getD 1 .no).fm) = true
     rw [(hs.1 h0).2, this.2, f1]; rfl
   ·have := hs.1 h0
    refine ⟨?_, ?_⟩
    ·show 1 + (1 + ((ordRs l).getD 0 .no).size + 1) + 1 ≤ _
     omega
    ·show ((((ordRs l).getD 0 .no).fm && _) && _) = true
     rw [this.2, f1, f2]; rfl
theorem ordRs_sz : ∀ l : List Raw, (0 < l.length → ((ordRs l).getD 0 .no).size ≤ 4 * Raw.nodesL l ∧ ((ordRs l).getD 0 .no).fm = true) ∧ (1 < l.length → ((ordRs l).getD 0 .no).size + ((ordRs l).getD 1 .no).size ≤ 4 * Raw.nodesL l ∧ ((ordRs l).getD 1 .no).fm = true)
 | [] => ⟨fun h => absurd h (by decide), fun h => absurd h (by decide)⟩
 | [x] => by
  have h := ordR_sz x
  exact ⟨fun _ => ⟨by show (ordR x).size ≤ 4 * (x.nodes + 0); omega, h.2⟩, fun h => absurd h (by simp)⟩
 | x :: y :: l => by
  have h := ordR_sz x
  have k := ordR_sz y
  exact ⟨fun _ => ⟨by show (ordR x).size ≤ 4 * (x.nodes + (y.nodes + Raw.nodesL l)); omega, h.2⟩, fun _ => ⟨by show (ordR x).size + (ordR y).size ≤ 4 * (x.nodes + (y.nodes + Raw.nodesL l)); omega, k.2⟩⟩
end
theorem few_ord {r : Raw} (h : r.few 15 = true) : ok (ordR r) := by
 have h := Raw.few_ok h
 have := ordR_sz r
 exact ⟨by omega, this.2⟩
def spRR : Sp where
 ι := Raw × Raw
 A p := [.a p.1.g, .a p.2.g]
 B _ := []
 R _ := .ret (.c (.b true))
 B' _ := []
 inj _ _ _ _ _ _ _ _ := ⟨rfl, rfl⟩
end
end Go.Proofs.YtonniadanikanaaGreatDoor
namespace Go.Proofs.YtonniadanikanaaGreatDoor
open Go.Abs LQ
set_option maxRecDepth 100000
set_option maxHeartbeats 4000000
noncomputable section
theorem less_W {a b : O} (ha : normOrd a = true) (hb : normOrd b = true) (oa : ok a) (ob : ok b) : W PL True (.call (lispS, dec 2 15471) ([a, b].map T.c)) [] 3000 fun x _ => x = truthO (lessOrd a b) :=
 W_f18 (fun _ => trivial) fun _ => W_c (W_c (ols_b _ (Nat.lt_succ_self _) ha hb oa ob fun _ => rfl))
def vaO (a : O) : Bool := (decide (a.size ≤ 3000) && a.fm) && normOrd a
def spSm2 (g : O → O → GV) : Sp where
 ι := { p : O × O // p.1.sm ∧ p.2.sm }
 A p := [.a p.1.1.g, .a p.1.2.g]
 B _ := []
 R p := .ret (g p.1.1 p.1.2)
 B' _ := []
 inj i j vs bs h k _ _ := by
  obtain ⟨_, _, h1, k1, h, k⟩ := h.two k
  obtain ⟨_, _, h2, k2, h, k⟩ := h.two k
  rw [O.g_inj (h1.a_inj k1), O.g_inj (h2.a_inj k2)]; exact ⟨rfl, rfl⟩
theorem kLess3 (hItoa : Itoa) : Know 15 (spSm2 fun a b => .c (.b (vaO a && vaO b && lessOrd a b))) := know (fun fn h => r15_ok h) [(14, _), (41, _)] (.cons (kValid3 hItoa) (.cons (kLessO hItoa) .nil)) fun U fn hfn ⟨(a, b), sa, sb⟩ vs bs hv hb => by
 have hY := hfn 14 _ rfl
 have hL := hfn 41 _ rfl
 change RVs [.a a.g, .a b.g] vs at hv
 change RBs [] bs at hb
 show Sat U _ fun v bs' => RRes (.ret (.c (.b (vaO a && vaO b && lessOrd a b)))) v ∧ RBs [] bs'
 unfold r15
 (refine Zz ?_;with_reducible repeat' first|intro _|apply aI)
 refine oR fun _ _ => ?_
 (refine Zz ?_;with_reducible repeat' first|intro _|apply aI)
 refine oR fun _ _ => ?_
 (refine Zz ?_;with_reducible repeat' first|intro _|apply aI)
 cases h1 : vaO a with
 | false =>
  refine sCall hY ⟨a, sa⟩ (r := .c (.b false)) (by show GRes.ret (.c (.b (vaO a))) = _; rw [h1]) oA .nil fun _ _ _ _ => ?_
  (refine Zz ?_;with_reducible repeat' first|intro _|apply aI)
  exact sRet ⟨.ret _ _ (rvK rfl), .nil⟩
 | true =>
 refine sCall hY ⟨a, sa⟩ (r := .c (.b true)) (by show GRes.ret (.c (.b (vaO a))) = _; rw [h1]) oA .nil fun _ _ _ _ => ?_
 (refine Zz ?_;with_reducible repeat' first|intro _|apply aI)
 cases h2 : vaO b with
 | false =>
  refine sCall hY ⟨b, sb⟩ (r := .c (.b false)) (by show GRes.ret (.c (.b (vaO b))) = _; rw [h2]) oA .nil fun _ _ _ _ => ?_
  (refine Zz ?_;with_reducible repeat' first|intro _|apply aI)
  exact sRet ⟨.ret _ _ (rvK rfl), .nil⟩
 | true =>
 refine sCall hY ⟨b, sb⟩ (r := .c (.b true)) (by show GRes.ret (.c (.b (vaO b))) = _; rw [h2]) oA .nil fun _ _ _ _ => ?_
 (refine Zz ?_;with_reducible repeat' first|intro _|apply aI)
 have g1 : a.fm = true := by unfold vaO at h1; simp only [Bool.and_eq_true] at h1; exact h1.1.2
 have g2 : b.fm = true := by unfold vaO at h2; simp only [Bool.and_eq_true] at h2; exact h2.1.2
 refine sCall hL ⟨(a, b), g1, g2⟩ (r := .c (.b (lessOrd a b))) rfl (.cons _ _ _ _ oV oA) .nil fun _ _ _ _ => ?_
 (refine Zz ?_;with_reducible repeat' first|intro _|apply aI)
 exact sRet ⟨.ret _ _ Zrv, .nil⟩
theorem kLessLaw (hItoa : Itoa) (hF : First0) (hV : Know  11  spVal) : Know  4  spRR := know (fun fn h => r4_ok h) [(7, _), (11, _), (8, _), (9, _), (15, _), (14, _), (13, _), (12, _)] (.cons hF (.cons hV (.cons kFew (.cons (kOrdinal hItoa) (.cons (kLess3 hItoa) (.cons (kValid3 hItoa) (.cons kTruth (.cons kEqual .nil)))))))) fun U fn hfn ⟨r, s⟩ vs bs hv hb => by
 have hF := hfn  7  _ rfl
 have hV := hfn  11  _ rfl
 have hFew := hfn  8  _ rfl
 have hO := hfn  9  _ rfl
 have hB := hfn 15 _ rfl
 have hY := hfn  14  _ rfl
 have hT := hfn  13  _ rfl
 have hE := hfn  12  _ rfl
 change RVs [.a r.g, .a s.g] vs at hv
 change RBs [] bs at hb
 show Sat U _ fun v bs' => RRes (.ret (.c (.b true))) v ∧ RBs [] bs'
 unfold r4
 (refine Zz ?_;with_reducible repeat' first|intro _|apply aI)
 refine sAR (by assumption) (Raw.g_len _) fun _ _ => ?_
 (refine Zz ?_;with_reducible repeat' first|intro _|apply aI)
 refine sAR (by assumption) (Raw.g_len _) fun _ _ => ?_
 (refine Zz ?_;with_reducible repeat' first|intro _|apply aI)
 refine sCall hF () (r := .c (.b true)) rfl .nil .nil fun _ _ _ _ => ?_
 (refine Zz ?_;with_reducible repeat' first|intro _|apply aI)
 cases hr : r.few 15 with
 | false =>
  refine sCall hFew ⟨(r, 15), show 15 ≤ 1000 by decide⟩ (r := .c (.b false)) (by show GRes.ret (.c (.b (r.few 15))) = _; rw [hr]) (.cons _ _ _ _ (.a _ _ _ (Raw.g_len _).symm (by assumption)) (.cons _ _ _ _ (rvI' rfl) .nil)) .nil fun _ _ _ _ => ?_
  (refine Zz ?_;with_reducible repeat' first|intro _|apply aI)
  exact sRet ⟨.ret _ _ (.kn _), .nil⟩
 | true =>
 refine sCall hFew ⟨(r, 15), show 15 ≤ 1000 by decide⟩ (r := .c (.b true)) (by show GRes.ret (.c (.b (r.few 15))) = _; rw [hr]) (.cons _ _ _ _ (.a _ _ _ (Raw.g_len _).symm (by assumption)) (.cons _ _ _ _ (rvI' rfl) .nil)) .nil fun _ _ _ _ => ?_
 (refine Zz ?_;with_reducible repeat' first|intro _|apply aI)
 cases hs : s.few 15 with
 | false =>
  refine sCall hFew ⟨(s, 15), show 15 ≤ 1000 by decide⟩ (r := .c (.b false)) (by show GRes.ret (.c (.b (s.few 15))) = _; rw [hs]) (.cons _ _ _ _ (.a _ _ _ (Raw.g_len _).symm (by assumption)) (.cons _ _ _ _ (rvI' rfl) .nil)) .nil fun _ _ _ _ => ?_
  (refine Zz ?_;with_reducible repeat' first|intro _|apply aI)
  exact sRet ⟨.ret _ _ (.kn _), .nil⟩
 | true =>
 refine sCall hFew ⟨(s, 15), show 15 ≤ 1000 by decide⟩ (r := .c (.b true)) (by show GRes.ret (.c (.b (s.few 15))) = _; rw [hs]) (.cons _ _ _ _ (.a _ _ _ (Raw.g_len _).symm (by assumption)) (.cons _ _ _ _ (rvI' rfl) .nil)) .nil fun _ _ _ _ => ?_
 (refine Zz ?_;with_reducible repeat' first|intro _|apply aI)
 have oa := few_ord hr
 have ob := few_ord hs
 refine sCall hO r (r := .a (ordR r).g) rfl (.cons _ _ _ _ (.a _ _ _ (Raw.g_len _).symm (by assumption)) .nil) .nil fun _ _ _ _ => ?_
 (refine Zz ?_;with_reducible repeat' first|intro _|apply aI)
 refine oR fun _ _ => ?_
 (refine Zz ?_;with_reducible repeat' first|intro _|apply aI)
 refine sCall hO s (r := .a (ordR s).g) rfl (.cons _ _ _ _ (.a _ _ _ (Raw.g_len _).symm (by assumption)) .nil) .nil fun _ _ _ _ => ?_
 (refine Zz ?_;with_reducible repeat' first|intro _|apply aI)
 refine oR fun _ _ => ?_
 (refine Zz ?_;with_reducible repeat' first|intro _|apply aI)
 generalize ordR r = a at *
 generalize ordR s = b at *
 have va : vaO a = normOrd a := by unfold vaO; rw [decide_eq_true oa.1, oa.2]; rfl
 have vb : vaO b = normOrd b := by unfold vaO; rw [decide_eq_true ob.1, ob.2]; rfl
 cases na : normOrd a with
 | false =>
  refine sCall hY ⟨a, fm_sm oa.2⟩ (r := .c (.b false)) (by show GRes.ret (.c (.b (vaO a))) = _; rw [va, na]) oA .nil fun _ _ _ _ => ?_
  (refine Zz ?_;with_reducible repeat' first|intro _|apply aI)
  exact sRet ⟨.ret _ _ (.kn _), .nil⟩
 | true =>
 refine sCall hY ⟨a, fm_sm oa.2⟩ (r := .c (.b true)) (by show GRes.ret (.c (.b (vaO a))) = _; rw [va, na]) oA .nil fun _ _ _ _ => ?_
 (refine Zz ?_;with_reducible repeat' first|intro _|apply aI)
 cases nb : normOrd b with
 | false =>
  refine sCall hY ⟨b, fm_sm ob.2⟩ (r := .c (.b false)) (by show GRes.ret (.c (.b (vaO b))) = _; rw [vb, nb]) oA .nil fun _ _ _ _ => ?_
  (refine Zz ?_;with_reducible repeat' first|intro _|apply aI)
  exact sRet ⟨.ret _ _ (.kn _), .nil⟩
 | true =>
 refine sCall hY ⟨b, fm_sm ob.2⟩ (r := .c (.b true)) (by show GRes.ret (.c (.b (vaO b))) = _; rw [vb, nb]) oA .nil fun _ _ _ _ => ?_
 (refine Zz ?_;with_reducible repeat' first|intro _|apply aI)
 obtain ⟨⟨_, _, n1, r1, h1, ho1⟩, rfl, rfl, e1⟩ := val_of (os := [a, b]) (show 2 < 90000 by decide) (less_W na nb oa ob)
 rcases e1 with e1 | ⟨_, e1⟩
 ·refine sCall hV ⟨_, _, n1, r1, h1, ho1⟩ (r := .t [.a (truthO (lessOrd a b)).g, .c (.b true)]) (congrArg GRes.ret e1) (.cons _ _ _ _ (.s _ _ _ rfl rfl) (.cons _ _ _ _ (.sl _ _ _ _ _ rfl (.cons _ _ _ _ _ (O.g_len _) (rowN (by rw [O.g_len]; decide) (by assumption)).1 (rowN (by rw [O.g_len]; decide) (by assumption)).2 (.cons _ _ _ _ _ (O.g_len _) (rowN (by rw [O.g_len]; decide) (by assumption)).1 (rowN (by rw [O.g_len]; decide) (by assumption)).2 (.nil _ _ _)))) .nil)) .nil fun _ _ _ _ => ?_
  (refine Zz ?_;with_reducible repeat' first|intro _|apply aI)
  try refine oR fun _ _ => ?_
  (refine Zz ?_;with_reducible repeat' first|intro _|apply aI)
  refine sCall hB ⟨(a, b), fm_sm oa.2, fm_sm ob.2⟩ (r := .c (.b (lessOrd a b))) (by show GRes.ret (.c (.b (vaO a && vaO b && lessOrd a b))) = _; rw [va, vb, na, nb]; rfl) (.cons _ _ _ _ oV oA) .nil fun _ _ _ _ => ?_
  (refine Zz ?_;with_reducible repeat' first|intro _|apply aI)
  refine sCall hT (lessOrd a b) (r := .a (truthO (lessOrd a b)).g) rfl Zrv .nil fun _ _ _ _ => ?_
  (refine Zz ?_;with_reducible repeat' first|intro _|apply aI)
  refine oR fun _ _ => ?_
  (refine Zz ?_;with_reducible repeat' first|intro _|apply aI)
  refine sCall hE (truthO (lessOrd a b), truthO (lessOrd a b)) (r := .c (.b true)) (by show GRes.ret (.c (.b (O.eqb _ _))) = _; rw [O.eqb_t.2 rfl]) (.cons _ _ _ _ oV oA) .nil fun _ _ _ _ => ?_
  (refine Zz ?_;with_reducible repeat' first|intro _|apply aI)
  exact sRet ⟨.ret _ _ Zrv, .nil⟩
 ·refine sCall hV ⟨_, _, n1, r1, h1, ho1⟩ (r := .t [.a O.no.g, .c (.b false)]) (congrArg GRes.ret e1) (.cons _ _ _ _ (.s _ _ _ rfl rfl) (.cons _ _ _ _ (.sl _ _ _ _ _ rfl (.cons _ _ _ _ _ (O.g_len _) (rowN (by rw [O.g_len]; decide) (by assumption)).1 (rowN (by rw [O.g_len]; decide) (by assumption)).2 (.cons _ _ _ _ _ (O.g_len _) (rowN (by rw [O.g_len]; decide) (by assumption)).1 (rowN (by rw [O.g_len]; decide) (by assumption)).2 (.nil _ _ _)))) .nil)) .nil fun _ _ _ _ => ?_
  (refine Zz ?_;with_reducible repeat' first|intro _|apply aI)
  exact sRet ⟨.ret _ _ (.kn _), .nil⟩
end
end Go.Proofs.YtonniadanikanaaGreatDoor
