/- The program's parser: lists. -/
import Derived.Test.YtffaodopiifbkaaGreatDoorCEI
set_option linter.all false
namespace Go.Proofs.YtffaodopiifbkaaGreatDoor
open Go.Abs LQ
set_option maxRecDepth 100000
set_option maxHeartbeats 16000000
noncomputable section
theorem listE_drop {acc : List O} {x : O} {m : Nat} (hm : m - 1 < acc.length) (h0 : 0 < m) : listE (acc.drop (m - 1)) x = .co acc[m - 1] (listE (acc.drop m) x) := by
 rw [List.drop_eq_getElem_cons hm, show m - 1 + 1 = m by omega]; rfl
theorem parL (n : Nat) (ih1 : Know 88 (spPO.lt μO n)) : Know 131 (spPL.lt μL (n + 1)) := know (fun fn h => r131_ok h) [(86, _), (87, _), (88, spPO.lt μO n), (156, _), (157, _)] (.cons kPeek (.cons kWrong (.cons ih1 (.cons kNilP (.cons kConsP .nil))))) fun U fn hfn ⟨⟨((L, cur, T, i), d), ⟨hL, hT, hi⟩, hd⟩, hn⟩ vs bs hv hb => by
 have hp := hfn 86 _ rfl
 have hw := hfn 87 _ rfl
 have ho := hfn 88 _ rfl
 have hni := hfn 156 _ rfl
 have hco := hfn 157 _ rfl
 have hL : okPk L := hL
 have hT : OkTs T := hT
 have hi : i < T.length := hi
 have hd : d ≤ i := hd
 have hTl := hT.len
 have hn : 2 * (T.length - i) + 1 < n + 1 := hn
 have hv : RVs [.p 0 0, .c (.i .i64 (d : Int))] vs := hv
 have hb : RBs [[.l (L.map pg), .s cur, .l (T.map tkG), .i .i64 (i : Int)]] bs := hb
 show Sat U _ fun v bs' => RRes (objR0 (listF L cur T d i [])) v ∧ RBs [pzG L cur T (objB0 i (listF L cur T d i []))] bs'
 unfold r131
 have hlast : ∀ {k}, k < T.length → (T.getD k t0).kind ≠ 0 → k + 1 < T.length := fun {k} hk h => by
  rcases Nat.lt_or_ge (k + 1) T.length with h3 | h3
  ·exact h3
  ·exact absurd (hT.last k (by omega)) h
 (refine Zq ?_;with_reducible repeat' first|intro _|apply aI)
 refine sSlCM (by assumption) pg_len fun ta oa hta => ?_
 (refine Zq ?_;with_reducible repeat' first|intro _|apply aI)
 refine sSlCM (by assumption) tkG_len fun tb ob htb => ?_
 (refine Zq ?_;with_reducible repeat' first|intro _|apply aI)
 refine sCall hni () (r := .a nilO.g) rfl .nil .nil fun _ _ hv1 _ => ?_
 refine sAR hv1 (O.g_len _) fun _ hnil => ?_
 (refine Zy ?_;with_reducible repeat' first|intro _|apply aI)
 refine sJnP (fun vs bs => ∃ (k : Nat) (x : O) (acc : List O) (t : Tre Q) (b0 b2 : Bx), vs = [.ptr 0 0, .ptr 1 0, .ptr 2 0, .slice t 7 0 acc.length (.tok 3)] ∧ bs = [b0, zOb, b2, .tok acc.length 7] ∧ RB (pzG L cur T k) b0 ∧ RB x.g b2 ∧ Rws 7 (acc.map O.g) t 0 ∧ k < T.length ∧ acc.length ≤ k ∧ (T.getD k t0).kind = 2 ∧ listF L cur T d i [] = .ok (listE acc x, k + 1)) ?_ ?_
 ·rintro _ _ ⟨k, x, acc, t, b0, b2, rfl, rfl, hb0, hb2, ht, hk, ha, hkd, he⟩
  have hb0 : RB [.l (L.map pg), .s cur, .l (T.map tkG), .i .i64 (k : Int)] b0 := hb0
  (refine Zy ?_;with_reducible repeat' first|intro _|apply aI)
  refine sBoR hb2 (O.g_len _) fun _ _ => ?_
  (refine Zy ?_;with_reducible repeat' first|intro _|apply aI)
  refine fun e => sLp (fun (m : Nat) vs bs => ∃ (t : Tre Q) (i : Int) (b0 b2 : Bx), vs = [.ptr 1 0, .slice t 7 0 acc.length (.tok 2), .ptr 3 0, .int .i64 i] ∧ bs = [b0, zOb, .tok acc.length 7, b2] ∧ RB (pzG L cur T (k + 1)) b0 ∧ RB (listE (acc.drop m) x).g b2 ∧ Rws 7 (acc.map O.g) t 0 ∧ i = m - 1 ∧ m ≤ acc.length) (fun m => m) acc.length
   ⟨_, _, _, _, rfl, rfl, pzQ e (by assumption) (by omega), by rw [List.drop_length]; exact .opa _ _ _ (O.g_len _).symm (by assumption), ht, by omega, Nat.le_refl _⟩ (by simp only [FUEL]; omega) ?_ e
  rintro self m _ _ ⟨t, i', b0, b2, rfl, rfl, hb0, hb2, ht, rfl, hm⟩ ih
  have hb0 : RB [.l (L.map pg), .s cur, .l (T.map tkG), .i .i64 ((k + 1 : Nat) : Int)] b0 := hb0
  (refine Zy ?_;with_reducible repeat' first|intro _|apply aI)
  refine sBoR hb2 (O.g_len _) fun _ _ => ?_
  (refine Zy ?_;with_reducible repeat' first|intro _|apply aI)
  ·refine sfTm (y := acc[m - 1]) (by assumption) (by rw [show ((m : Int) - 1).toNat = m - 1 by omega]; exact List.getElem?_eq_getElem (by omega)) fun _ _ => ?_
   (refine Zy ?_;with_reducible repeat' first|intro _|apply aI)
   refine sCall hco (acc[m - 1], listE (acc.drop m) x) (r := .a (O.co acc[m - 1] (listE (acc.drop m) x)).g) rfl (.cons _ _ _ _ oV oA) .nil fun _ _ hv2 _ => ?_
   refine sAR hv2 (O.g_len _) fun _ _ => ?_
   (refine Zy ?_;with_reducible repeat' first|intro _|apply aI)
   refine ih (m - 1) _ _ ⟨_, _, _, _, rfl, rfl, .opa _ _ _ rfl (by assumption), ?_, ht, by omega, by omega⟩ (by omega)
   rw [listE_drop (by omega) (by omega)]
   exact .opa _ _ _ (O.g_len _).symm (by assumption)
  ·have em : m = 0 := by omega
   subst em
   rw [List.drop_zero] at *
   rw [he]
   exact sRet ⟨.ret _ _ oV, .cons _ _ _ _ (.opa _ _ _ rfl (by assumption)) .nil⟩
 ·intro c hc
  have bad : ∀ {k : Nat} {e e' : Int} {t : Tok} {vs : List V} {bs : List Bx} {K : V → List Bx → Om}, listF L cur T d i [] = .error (e', t.pos) → wrongK e t = e' → RVs [.c (.i .i64 e), .a (tkG t)] vs → RBs [] bs → Sat U (U.bind (fn 87 vs bs) K fun v => some (.pan (U.rn0 v), [.cells [.slice ta 2 oa L.length .no, .str cur.length (code cur), .slice tb 5 ob T.length .no, .int .i64 i]])) fun v bs' => RRes (objR0 (listF L cur T d i [])) v ∧ RBs [pzG L cur T (objB0 i (listF L cur T d i []))] bs' := fun {k e e' t vs bs K} he hk hv hb => by
   rw [he]
   exact sCallP hw (e, t) (r := .fl 122 e' t.pos) (by show failG (wrongK e t) t.pos = _; rw [hk]) hv hb fun _ hv => sPan hv (.cons _ _ _ _ (pzC hta htb rfl) .nil)
  refine sLp (fun (k : Nat) vs bs => ∃ (acc : List O) (v : V) (b0 b2 : Bx), vs = [.ptr 0 0, .int .i64 d, .ptr 1 0, .ptr 2 0, v] ∧ bs = [b0, zOb, b2, .tok acc.length 7] ∧ RB (pzG L cur T k) b0 ∧ RB nilO.g b2 ∧ TokS 3 7 (acc.map O.g) v ∧ i ≤ k ∧ k < T.length ∧ acc.length ≤ k ∧ listF L cur T d i [] = listF L cur T d k acc) (fun k => T.length - k) i
   ⟨[], _, _, _, rfl, rfl, pzC hta htb rfl, .opa _ _ _ (O.g_len _).symm (by assumption), .b rfl, Nat.le_refl _, hi, Nat.zero_le _, rfl⟩ (by simp only [FUEL]; omega) ?_
  rintro self k _ _ ⟨acc, v, b0, b2, rfl, rfl, hb0, hb2, htk, hik, hk, hak, he⟩ ih
  have hb0 : RB [.l (L.map pg), .s cur, .l (T.map tkG), .i .i64 (k : Int)] b0 := hb0
  have e0 := listF_eq (L := L) (cur := cur) (d := d) (acc := acc) hk
  rw [← he] at e0
  have hlk := hlast hk
  generalize htk0 : T.getD k t0 = t at *
  (refine Zy ?_;with_reducible repeat' first|intro _|apply aI)
  refine sCall hp ⟨(L, cur, T, k), hL, hT, hk⟩ (r := .a (tkG t)) (by show GRes.ret (.a (tkG (T.getD k t0))) = _; rw [htk0]) Zrv (RB.bx (by assumption) rfl) fun _ _ hv1 hb1 => ?_
  have hb1 : RBs [[.l (L.map pg), .s cur, .l (T.map tkG), .i .i64 (k : Int)]] _ := hb1
  have hv1 : RV (.a [.i .i64 t.kind, .i .i64 (t.pos : Int), .s t.pkg, .s t.text, .s t.den]) _ := hv1
  (refine Zy ?_;with_reducible repeat' first|intro _|apply aI)
  ·have k2 : t.kind = 2 := ‹_›
   rw [if_pos k2] at e0
   exact hc _ _ ⟨k, nilO, acc, _, _, _, rfl, rfl, .opa _ _ _ rfl (by assumption), .opa _ _ _ (O.g_len _).symm (by assumption), by assumption, hk, hak, by rw [htk0]; exact k2, e0⟩
  ·have k2 : ¬ t.kind = 2 := ‹_›
   rw [if_neg k2] at e0
   refine sJnP (fun vs bs => ∃ (z : Bool) (t' : Tre Q) (v : V) (b0 b2 : Bx), vs = [.ptr 0 0, .int .i64 d, .ptr 1 0, .slice t' 7 0 acc.length (.tok 2), .ptr 3 0, v] ∧ RV (.c (.b z)) v ∧ bs = [b0, zOb, .tok acc.length 7, b2] ∧ RB (pzG L cur T k) b0 ∧ RB nilO.g b2 ∧ Rws 7 (acc.map O.g) t' 0 ∧ (z = true ↔ t.kind = 3 ∧ acc ≠ [])) ?_ ?_
   ·rintro _ _ ⟨z, t', v, b0, b2, rfl, hvz, rfl, hb0, hb2, ht', hz⟩
    have hb0 : RB [.l (L.map pg), .s cur, .l (T.map tkG), .i .i64 (k : Int)] b0 := hb0
    (refine Zy ?_;with_reducible repeat' first|intro _|apply aI)
    ·have hz1 := hz.1 ‹_›
     rw [if_pos hz1] at e0
     have hk1 := hlk (by omega)
     cases hx : objF L cur T d (k + 1) with
     | error er =>
      obtain ⟨er, p⟩ := er
      rw [hx] at e0
      rw [e0]
      exact fun e => sCallP ho ⟨⟨((L, cur, T, k + 1), d), ⟨hL, hT, hk1⟩, by show d ≤ k + 1; omega⟩, by show 2 * (T.length - (k + 1)) < n; omega⟩ (r := .fl 122 er p) (by show objR0 (objF L cur T d (k + 1)) = _; rw [hx]; rfl) (.cons _ _ _ _ (.p _ _) (.cons _ _ _ _ (.i _ _) .nil)) (.cons _ _ _ _ (pzQ (j := k + 1) e (by assumption) (by omega)) .nil) (fun _ hv => sPan hv (.cons _ _ _ _ (pzC hta htb rfl) .nil)) e
     | ok oj =>
      obtain ⟨o, j⟩ := oj
      rw [hx] at e0
      simp only [] at e0
      have hj := objF_lt hT hx
      refine fun e => sCall ho ⟨⟨((L, cur, T, k + 1), d), ⟨hL, hT, hk1⟩, by show d ≤ k + 1; omega⟩, by show 2 * (T.length - (k + 1)) < n; omega⟩ (r := .a o.g) (by show objR0 (objF L cur T d (k + 1)) = _; rw [hx]; rfl) (.cons _ _ _ _ (.p _ _) (.cons _ _ _ _ (.i _ _) .nil)) (.cons _ _ _ _ (pzQ (j := k + 1) e (by assumption) (by omega)) .nil) (fun _ _ hv3 hb3 => ?_) e
      have hb3 : RBs [pzG L cur T (objB0 (k + 1) (objF L cur T d (k + 1)))] _ := hb3
      rw [hx] at hb3
      have hb3 : RBs [[.l (L.map pg), .s cur, .l (T.map tkG), .i .i64 (j : Int)]] _ := hb3
      refine sAR hv3 (O.g_len _) fun _ _ => ?_
      (refine Zy ?_;with_reducible repeat' first|intro _|apply aI)
      refine sQR (by assumption) fun _ _ => ?_
      (refine Zy ?_;with_reducible repeat' first|intro _|apply aI)
      refine sQR (by assumption) fun _ _ => ?_
      (refine Zy ?_;with_reducible repeat' first|intro _|apply aI)
      refine sQR (by assumption) fun _ _ => ?_
      (refine Zy ?_;with_reducible repeat' first|intro _|apply aI)
      generalize htj : T.getD j t0 = u at *
      refine sCall hp ⟨(L, cur, T, j), hL, hT, hj.2⟩ (r := .a (tkG u)) (by show GRes.ret (.a (tkG (T.getD j t0))) = _; rw [htj]) Zrv (.cons _ _ _ _ (pzQ3 (by assumption) (by assumption) (by assumption) rfl) .nil) fun _ _ hv1 hb1 => ?_
      have hb1 : RBs [[.l (L.map pg), .s cur, .l (T.map tkG), .i .i64 (j : Int)]] _ := hb1
      have hv1 : RV (.a [.i .i64 u.kind, .i .i64 (u.pos : Int), .s u.pkg, .s u.text, .s u.den]) _ := hv1
      (refine Zy ?_;with_reducible repeat' first|intro _|apply aI)
      refine sQR (by assumption) fun _ _ => ?_
      (refine Zy ?_;with_reducible repeat' first|intro _|apply aI)
      refine sQR (by assumption) fun _ _ => ?_
      (refine Zy ?_;with_reducible repeat' first|intro _|apply aI)
      refine sQR (by assumption) fun _ _ => ?_
      (refine Zy ?_;with_reducible repeat' first|intro _|apply aI)
      ·have u2 : u.kind = 2 := ‹_›
       rw [if_pos u2] at e0
       exact hc _ _ ⟨j, o, acc, _, _, _, rfl, rfl, pzQ3 (by assumption) (by assumption) (by assumption) rfl, .opa _ _ _ (O.g_len _).symm (by assumption), by assumption, hj.2, by omega, by rw [htj]; exact u2, e0⟩
      ·have u2 : ¬ u.kind = 2 := ‹_›
       rw [if_neg u2] at e0
       refine sCall hp ⟨(L, cur, T, j), hL, hT, hj.2⟩ (r := .a (tkG u)) (by show GRes.ret (.a (tkG (T.getD j t0))) = _; rw [htj]) Zrv (.cons _ _ _ _ (pzQ3 (by assumption) (by assumption) (by assumption) rfl) .nil) fun _ _ hv1 hb1 => ?_
       have hb1 : RBs [[.l (L.map pg), .s cur, .l (T.map tkG), .i .i64 (j : Int)]] _ := hb1
       have hv1 : RV (.a [.i .i64 u.kind, .i .i64 (u.pos : Int), .s u.pkg, .s u.text, .s u.den]) _ := hv1
       (refine Zy ?_;with_reducible repeat' first|intro _|apply aI)
       refine sQR (by assumption) fun _ _ => ?_
       (refine Zy ?_;with_reducible repeat' first|intro _|apply aI)
       refine sQR (by assumption) fun _ _ => ?_
       (refine Zy ?_;with_reducible repeat' first|intro _|apply aI)
       refine sQR (by assumption) fun _ _ => ?_
       (refine Zy ?_;with_reducible repeat' first|intro _|apply aI)
       by_cases u0 : u.kind = 0
       ·rw [if_pos u0] at e0
        exact bad (k := 0) e0 (if_pos u0) (.cons _ _ _ _ (.i _ _) (.cons _ _ _ _ (.a _ _ _ rfl (by assumption)) .nil)) .nil
       ·rw [if_neg u0] at e0
        exact bad (k := 0) e0 (if_neg u0) (.cons _ _ _ _ (.i _ _) (.cons _ _ _ _ (.a _ _ _ rfl (by assumption)) .nil)) .nil
    ·have hz0 : ¬ (t.kind = 3 ∧ acc ≠ []) := fun h => ‹¬ z = true› (hz.2 h)
     rw [if_neg hz0] at e0
     cases hx : objF L cur T d k with
     | error er =>
      obtain ⟨er, p⟩ := er
      rw [hx] at e0
      rw [e0]
      exact sCallP ho ⟨⟨((L, cur, T, k), d), ⟨hL, hT, hk⟩, by show d ≤ k; omega⟩, by show 2 * (T.length - k) < n; omega⟩ (r := .fl 122 er p) (by show objR0 (objF L cur T d k) = _; rw [hx]; rfl) (.cons _ _ _ _ (.p _ _) (.cons _ _ _ _ (.i _ _) .nil)) (RB.bx (by assumption) rfl) fun _ hv => sPan hv (.cons _ _ _ _ (pzC hta htb rfl) .nil)
     | ok oj =>
      obtain ⟨o, j⟩ := oj
      rw [hx] at e0
      simp only [] at e0
      have hj := objF_lt hT hx
      refine sCall ho ⟨⟨((L, cur, T, k), d), ⟨hL, hT, hk⟩, by show d ≤ k; omega⟩, by show 2 * (T.length - k) < n; omega⟩ (r := .a o.g) (by show objR0 (objF L cur T d k) = _; rw [hx]; rfl) (.cons _ _ _ _ (.p _ _) (.cons _ _ _ _ (.i _ _) .nil)) (RB.bx (by assumption) rfl) fun _ _ hv3 hb3 => ?_
      have hb3 : RBs [pzG L cur T (objB0 k (objF L cur T d k))] _ := hb3
      rw [hx] at hb3
      have hb3 : RBs [[.l (L.map pg), .s cur, .l (T.map tkG), .i .i64 (j : Int)]] _ := hb3
      refine sAR hv3 (O.g_len _) fun _ _ => ?_
      (refine Zy ?_;with_reducible repeat' first|intro _|apply aI)
      refine sAT1 (xs := acc.map O.g) (r := o.g) (n := 7) (off := 0) (by assumption) (fun _ => rowN (by rw [O.g_len]; decide) (by assumption)) (O.g_len _) (by simp) (by simp; omega) fun _ ht2 => ?_
      rw [show acc.map O.g ++ [o.g] = (acc ++ [o]).map O.g by simp] at ht2
      (refine Zy ?_;with_reducible repeat' first|intro _|apply aI)
      exact ih j _ _ ⟨acc ++ [o], _, _, _, rfl, by rw [List.length_append]; rfl, .opa _ _ _ rfl (by assumption), .opa _ _ _ (O.g_len _).symm (by assumption), .a _ _ (by simp) ht2, by omega, hj.2, by simp; omega, e0⟩ (by omega)
   ·intro c2 hc2
    refine sCall hp ⟨(L, cur, T, k), hL, hT, hk⟩ (r := .a (tkG t)) (by show GRes.ret (.a (tkG (T.getD k t0))) = _; rw [htk0]) Zrv (RB.bx (by assumption) rfl) fun _ _ hv1 hb1 => ?_
    have hb1 : RBs [[.l (L.map pg), .s cur, .l (T.map tkG), .i .i64 (k : Int)]] _ := hb1
    have hv1 : RV (.a [.i .i64 t.kind, .i .i64 (t.pos : Int), .s t.pkg, .s t.text, .s t.den]) _ := hv1
    (refine Zy ?_;with_reducible repeat' first|intro _|apply aI)
    ·have k3 : t.kind = 3 := ‹_›
     exact fun e => hc2 _ _ ⟨decide (acc ≠ []), _, _, _, _, rfl, rvB (by subst e; rw [cuLt, decide_eq_decide]; cases acc <;> simp <;> omega), rfl, .opa _ _ _ rfl (by assumption), .opa _ _ _ (O.g_len _).symm (by assumption), by assumption, by simp [k3]⟩ e
    ·have k3 : ¬ t.kind = 3 := ‹_›
     exact hc2 _ _ ⟨false, _, _, _, _, rfl, .kn _, rfl, .opa _ _ _ rfl (by assumption), .opa _ _ _ (O.g_len _).symm (by assumption), by assumption, by simp [k3]⟩
theorem kPar (hst : Know 203 spIs) : ∀ n, Know 88 (spPO.lt μO n) ∧ Know 131 (spPL.lt μL n)
 | 0 => ⟨fun i => absurd i.2 (Nat.not_lt_zero _), fun i => absurd i.2 (Nat.not_lt_zero _)⟩
 | n + 1 => ⟨parO hst n (kPar hst n).1 (kPar hst n).2, parL n (kPar hst n).1⟩
theorem kObjP (hst : Know 203 spIs) : Know 88 spPO := fun i => (kPar hst (μO i + 1)).1 ⟨i, Nat.lt_succ_self _⟩
end
end Go.Proofs.YtffaodopiifbkaaGreatDoor
namespace Go.Proofs.YtffaodopiifbkaaGreatDoor
open Go.Abs LQ
set_option maxRecDepth 100000
set_option maxHeartbeats 16000000
noncomputable section
theorem Know.via {g : FuncId} {sp sp' : Sp} (h : Know g sp) (f : sp'.ι → sp.ι) (e : ∀ i, sp'.A i = sp.A (f i) ∧ sp'.B i = sp.B (f i) ∧ sp'.R i = sp.R (f i) ∧ sp'.B' i = sp.B' (f i)) : Know g sp' := fun i vs bs hv hb => by
 obtain ⟨e1, e2, e3, e4⟩ := e i
 rw [e1] at hv
 rw [e2] at hb
 rw [e3, e4]
 exact h (f i) vs bs hv hb
def obO : O → Ob
 | .num n d => ⟨1, showInt n, showNat d, ([], []), [], .nil⟩
 | .sy s => ⟨2, [], [], s, [], .nil⟩
 | .tx t => ⟨3, [], [], ([], []), t, .nil⟩
 | .co a d => ⟨4, [], [], ([], []), [], .node (obO a).k (obO a).nu (obO a).de (obO a).s (obO a).t (obO a).ps (.node (obO d).k (obO d).nu (obO d).de (obO d).s (obO d).t (obO d).ps .nil)⟩
 | .no => ⟨0, [], [], ([], []), [], .nil⟩
theorem obO_obs (a d : O) : (obO (.co a d)).ps.obs = [obO a, obO d] := rfl
theorem obO_g : ∀ o : O, (obO o).g = o.g
 | .num _ _ => rfl
 | .sy _ => rfl
 | .tx _ => rfl
 | .no => rfl
 | .co a d => by
  rw [Ob.g_eq, obO_obs, List.map_cons, List.map_cons, obO_g a, obO_g d]; rfl
theorem obO_nd : ∀ o : O, (obO o).nd = o.size
 | .num _ _ => rfl
 | .sy _ => rfl
 | .tx _ => rfl
 | .no => rfl
 | .co a d => by rw [Ob.nd_eq, obO_obs]; simp only []; rw [obO_nd a, obO_nd d]; rfl
theorem kNodesO : Know 89 (spO fun o => .c (.i .i64 (min o.size 3001 : Nat))) := kNodesB.via (fun o => ⟨obO o, trivial⟩) fun (o : O) => ⟨(congrArg (fun x => [GV.a x]) (obO_g o)).symm, rfl, (congrArg (fun x : Nat => GRes.ret (.c (.i .i64 (min x 3001 : Nat)))) (obO_nd o)).symm, rfl⟩
def posG (p : O × Nat) : List G := [.i .i64 (p.2 : Int)]
def objG (p : O × Nat) : List G := p.1.g
theorem objG_len (p : O × Nat) : (objG p).length = 7 := O.g_len _
def rdR : Except (Int × Nat) (List (O × Nat)) → GRes
 | .ok l => .ret (.t [.sl 7 (l.map objG), .sl 1 (l.map posG)])
 | .error (e, p) => failG e p
def spRd (R : List Pk → Str → Str → GRes) : Sp where
 ι := { p : List Pk × Str × Str // okPk p.1 ∧ p.2.2.length < 8000 }
 A p := [.sl 2 (p.1.1.map pg), .c (.s p.1.2.1), .c (.s p.1.2.2)]
 B _ := []
 R p := R p.1.1 p.1.2.1 p.1.2.2
 B' _ := []
 inj i j vs bs h k _ _ := by
  obtain ⟨_, _, h1, k1, h, k⟩ := h.two k
  obtain ⟨_, _, h2, k2, h, k⟩ := h.two k
  obtain ⟨_, _, h3, k3, h, k⟩ := h.two k
  rw [pgs_inj (h1.sl_inj k1), s_inj h2 k2, s_inj h3 k3]; exact ⟨rfl, rfl⟩
theorem sAT1a {U : CombU} {P : VRes → List Bx → Prop} {α : Type} {f : α → List G} {n : Nat} {xs : List α} {x : α} {q : Q} {t : Tre Q} {K : Tre Q → Om} (ht : Rws n (xs.map f) t 0) (hr : U = CU → Row (f x) q) (hn : (f x).length = n) (hb : xs.length + 2 ≤ 281474976710656)
  (h : ∀ t', Rws n ((xs ++ [x]).map f) t' 0 → Sat U (K t') P) : Sat U (U.aT (.node q .nil .nil) 1 t (U.nAdd 0 xs.length) 0 K) P :=
 sAT1 ht hr hn (by simp) (by simp; omega) fun t' k => h t' (by rw [List.map_append]; exact k)
theorem kRead (hst : Know 203 spIs) (hdl : Know 136 spDel) (hcr : Know 158 spCR) : Know 50 (spRd fun L cur s => rdR (readP L cur s)) := know (fun fn h => r50_ok h) [(55, _), (86, _), (87, _), (88, _), (89, _)] (.cons (kScan hst hdl hcr) (.cons kPeek (.cons kWrong (.cons (kObjP hst) (.cons kNodesO .nil))))) fun U fn hfn ⟨(L, cur, s), hL, hs⟩ vs bs hv hb => by
 have hsc := hfn 55 _ rfl
 have hp := hfn 86 _ rfl
 have hw := hfn 87 _ rfl
 have ho := hfn 88 _ rfl
 have hno := hfn 89 _ rfl
 have hL : okPk L := hL
 have hs : s.length < 8000 := hs
 have hv : RVs [.sl 2 (L.map pg), .c (.s cur), .c (.s s)] vs := hv
 have hb : RBs [] bs := hb
 show Sat U _ fun v bs' => RRes (rdR (readP L cur s)) v ∧ RBs [] bs'
 unfold r50
 (refine Zq ?_;with_reducible repeat' first|intro _|apply aI)
 cases htk : tokens s with
 | error er =>
  obtain ⟨er, p⟩ := er
  have e1 : readP L cur s = .error (er, p) := by unfold readP; rw [htk]
  rw [e1]
  exact sCallP hsc ⟨s, hs⟩ (r := .fl 122 er p) (by show toksR (tokens s) = _; rw [htk]; rfl) Zrv .nil fun _ hv => sPan hv .nil
 | ok T =>
  have hT := toks_okTs htk
  have hTl := hT.len
  have e1 : readP L cur s = readFrom L cur T (T.length + 1) 0 [] := by unfold readP; rw [htk]
  refine sCall hsc ⟨s, hs⟩ (r := .sl 5 (T.map tkG)) (by show toksR (tokens s) = _; rw [htk]; rfl) Zrv .nil fun _ _ _ _ => ?_
  (refine Zq ?_;with_reducible repeat' first|intro _|apply aI)
  refine sLp (fun (i : Nat) vs bs => ∃ (m : Nat) (acc : List (O × Nat)) (v1 v2 : V) (b0 : Bx), vs = [.ptr 0 0, v1, v2] ∧ bs = [b0, .tok acc.length 7, .tok acc.length 1] ∧ RB (pzG L cur T i) b0 ∧ TokS 1 7 (acc.map objG) v1 ∧ TokS 2 1 (acc.map posG) v2 ∧ i < T.length ∧ T.length + 1 ≤ m + i ∧ acc.length ≤ 100 ∧ readP L cur s = readFrom L cur T m i acc) (fun i => T.length - i) 0
   ⟨_, [], _, _, _, rfl, rfl, pzC (by assumption) (by assumption) rfl, .b rfl, .b rfl, hT.pos, Nat.le_refl _, by decide, e1⟩ (by simp only [FUEL]; omega) ?_
  rintro self i _ _ ⟨m, acc, v1, v2, b0, rfl, rfl, hb0, ht1, ht2, hi, hm, ha, he⟩ ih
  have hb0 : RB [.l (L.map pg), .s cur, .l (T.map tkG), .i .i64 (i : Int)] b0 := hb0
  obtain ⟨m, rfl⟩ : ∃ m', m = m' + 1 := ⟨m - 1, by omega⟩
  rw [readFrom] at he
  have hof : objS L cur T (2 * T.length + 2) 0 i = objF L cur T 0 i := rfl
  rw [hof] at he
  have e9 := objF_eq (L := L) (cur := cur) (d := 0) hi
  generalize htk0 : T.getD i t0 = t at *
  (refine Zy ?_;with_reducible repeat' first|intro _|apply aI)
  refine sCall hp ⟨(L, cur, T, i), hL, hT, hi⟩ (r := .a (tkG t)) (by show GRes.ret (.a (tkG (T.getD i t0))) = _; rw [htk0]) Zrv (RB.bx (by assumption) rfl) fun _ _ hv1 hb1 => ?_
  have hb1 : RBs [[.l (L.map pg), .s cur, .l (T.map tkG), .i .i64 (i : Int)]] _ := hb1
  have hv1 : RV (.a [.i .i64 t.kind, .i .i64 (t.pos : Int), .s t.pkg, .s t.text, .s t.den]) _ := hv1
  (refine Zy ?_;with_reducible repeat' first|intro _|apply aI)
  ·rw [if_pos ‹t.kind = 0›] at he
   rw [he]
   exact sRet ⟨.ret _ _ (.t _ _ (.cons _ _ _ _ (.sl _ _ _ _ _ (by simp) (by assumption)) (.cons _ _ _ _ (.sl _ _ _ _ _ (by simp) (by assumption)) .nil))), .nil⟩
  ·have k0 : ¬ t.kind = 0 := ‹_›
   rw [if_neg k0] at he
   refine sCall hp ⟨(L, cur, T, i), hL, hT, hi⟩ (r := .a (tkG t)) (by show GRes.ret (.a (tkG (T.getD i t0))) = _; rw [htk0]) Zrv (RB.bx (by assumption) rfl) fun _ _ hv1 hb1 => ?_
   have hb1 : RBs [[.l (L.map pg), .s cur, .l (T.map tkG), .i .i64 (i : Int)]] _ := hb1
   have hv1 : RV (.a [.i .i64 t.kind, .i .i64 (t.pos : Int), .s t.pkg, .s t.text, .s t.den]) _ := hv1
   have bad : ∀ {e e' : Int} {vs : List V} {bs : List Bx} {K : V → List Bx → Om}, readP L cur s = .error (e', t.pos) → wrongK e t = e' → RVs [.c (.i .i64 e), .a (tkG t)] vs → RBs [] bs → Sat U (U.bind (fn 87 vs bs) K fun v => some (.pan (U.rn0 v), [])) fun v bs' => RRes (rdR (readP L cur s)) v ∧ RBs [] bs' := fun {e e' vs bs K} he hk hv hb => by
    rw [he]
    exact sCallP hw (e, t) (r := .fl 122 e' t.pos) (by show failG (wrongK e t) t.pos = _; rw [hk]) hv hb fun _ hv => sPan hv .nil
   (refine Zy ?_;with_reducible repeat' first|intro _|apply aI)
   refine sJnP (fun vs bs => ∃ (x y : Tre Q) (b0 b3 : Bx), vs = [.ptr 0 0, .slice x 7 0 acc.length (.tok 1), .slice y 1 0 acc.length (.tok 2), .ptr 3 0] ∧ bs = [b0, .tok acc.length 7, .tok acc.length 1, b3] ∧ RB (pzG L cur T i) b0 ∧ RB (tkG t) b3 ∧ Rws 7 (acc.map objG) x 0 ∧ Rws 1 (acc.map posG) y 0 ∧ ¬ (100 ≤ acc.length ∧ t.kind ≠ 2 ∧ t.kind ≠ 3)) ?_ ?_
   ·rintro _ _ ⟨x, y, b0, b3, rfl, rfl, hb0, hb3, hx, hy, hlim⟩
    have hb0 : RB [.l (L.map pg), .s cur, .l (T.map tkG), .i .i64 (i : Int)] b0 := hb0
    have hb3 : RB [.i .i64 t.kind, .i .i64 (t.pos : Int), .s t.pkg, .s t.text, .s t.den] b3 := hb3
    rw [if_neg hlim] at he
    (refine Zy ?_;with_reducible repeat' first|intro _|apply aI)
    cases hob : objF L cur T 0 i with
    | error er =>
     obtain ⟨er, p⟩ := er
     rw [hob] at he
     rw [he]
     exact sCallP ho ⟨((L, cur, T, i), 0), ⟨hL, hT, hi⟩, Nat.zero_le _⟩ (r := .fl 122 er p) (by show objR0 (objF L cur T 0 i) = _; rw [hob]; rfl) Zrv (RB.bx (by assumption) rfl) fun _ hv => sPan hv .nil
    | ok oj =>
     obtain ⟨o, j⟩ := oj
     have hj := objF_lt hT hob
     rw [hob] at he e9
     simp only [] at he
     have k23 : ¬ (t.kind = 2 ∨ t.kind = 3) := fun h => by rw [if_neg k0, if_pos h] at e9; cases e9
     refine sCall ho ⟨((L, cur, T, i), 0), ⟨hL, hT, hi⟩, Nat.zero_le _⟩ (r := .a o.g) (by show objR0 (objF L cur T 0 i) = _; rw [hob]; rfl) Zrv (RB.bx (by assumption) rfl) fun _ _ hv3 hb3' => ?_
     have hb3' : RBs [pzG L cur T (objB0 i (objF L cur T 0 i))] _ := hb3'
     rw [hob] at hb3'
     have hb3' : RBs [[.l (L.map pg), .s cur, .l (T.map tkG), .i .i64 (j : Int)]] _ := hb3'
     refine sAR hv3 (O.g_len _) fun _ _ => ?_
     (refine Zy ?_;with_reducible repeat' first|intro _|apply aI)
     refine sJnP (fun vs bs => ∃ (x y : Tre Q) (b0 b3 b4 : Bx), vs = [.ptr 0 0, .slice x 7 0 acc.length (.tok 1), .slice y 1 0 acc.length (.tok 2), .ptr 3 0, .ptr 4 0] ∧ bs = [b0, .tok acc.length 7, .tok acc.length 1, b3, b4] ∧ RB (pzG L cur T j) b0 ∧ RB (tkG t) b3 ∧ RB o.g b4 ∧ Rws 7 (acc.map objG) x 0 ∧ Rws 1 (acc.map posG) y 0 ∧ ¬ 3000 < o.size) ?_ ?_
     ·rintro _ _ ⟨x, y, b0, b3, b4, rfl, rfl, hb0, hb3, hb4, hx, hy, hsz⟩
      have hb0 : RB [.l (L.map pg), .s cur, .l (T.map tkG), .i .i64 (j : Int)] b0 := hb0
      have hb3 : RB [.i .i64 t.kind, .i .i64 (t.pos : Int), .s t.pkg, .s t.text, .s t.den] b3 := hb3
      rw [if_neg hsz] at he
      (refine Zy ?_;with_reducible repeat' first|intro _|apply aI)
      refine sBoR hb4 (O.g_len _) fun _ _ => ?_
      (refine Zy ?_;with_reducible repeat' first|intro _|apply aI)
      refine sAT1a (f := objG) (x := (o, t.pos)) (by assumption) (fun _ => rowN (by rw [objG_len]; decide) (by assumption)) (objG_len _) (by omega) fun _ _ => ?_
      (refine Zy ?_;with_reducible repeat' first|intro _|apply aI)
      refine sAT1a (f := posG) (x := (o, t.pos)) (by assumption) (fun _ => row1 (by assumption)) rfl (by omega) fun _ _ => ?_
      (refine Zy ?_;with_reducible repeat' first|intro _|apply aI)
      exact ih j _ _ ⟨m, acc ++ [(o, t.pos)], _, _, _, rfl, by rw [List.length_append]; rfl, .opa _ _ _ rfl (by assumption), .a _ _ (by simp) (by assumption), .a _ _ (by simp) (by assumption), hj.2, by omega, by simp; omega, he⟩ (by omega)
     ·intro c3 hc3
      refine sfSub0 (gs := o.g) (by assumption) fun _ _ => ?_
      refine sCall hno o (r := .c (.i .i64 (min o.size 3001 : Nat))) rfl oA .nil fun _ _ _ _ => ?_
      (refine Zy ?_;with_reducible repeat' first|intro _|apply aI)
      ·have hsz : 3000 < o.size := by have := ‹(3000 : Int) < ((min o.size 3001 : Nat) : Int)›; omega
       rw [if_pos hsz] at he
       exact bad he (if_neg k0) (.cons _ _ _ _ (.i _ _) (.cons _ _ _ _ (.a _ _ _ rfl (by assumption)) .nil)) .nil
      ·have hsz : ¬ 3000 < o.size := by have := ‹¬ (3000 : Int) < ((min o.size 3001 : Nat) : Int)›; omega
       exact hc3 _ _ ⟨_, _, _, _, _, rfl, rfl, .opa _ _ _ rfl (by assumption), .opa _ _ _ rfl (by assumption), .opa _ _ _ (O.g_len _).symm (by assumption), by assumption, by assumption, hsz⟩
   ·intro c hc
    refine sJnP (fun vs bs => ∃ (z : Bool) (x y : Tre Q) (v : V) (b0 b3 : Bx), vs = [.ptr 0 0, .slice x 7 0 acc.length (.tok 1), .slice y 1 0 acc.length (.tok 2), .ptr 3 0, v] ∧ RV (.c (.b z)) v ∧ bs = [b0, .tok acc.length 7, .tok acc.length 1, b3] ∧ RB (pzG L cur T i) b0 ∧ RB (tkG t) b3 ∧ Rws 7 (acc.map objG) x 0 ∧ Rws 1 (acc.map posG) y 0 ∧ (z = true ↔ 100 ≤ acc.length ∧ t.kind ≠ 2 ∧ t.kind ≠ 3)) ?_ ?_
    ·rintro _ _ ⟨z, x, y, v, b0, b3, rfl, hvz, rfl, hb0, hb3, hx, hy, hz⟩
     have hb0 : RB [.l (L.map pg), .s cur, .l (T.map tkG), .i .i64 (i : Int)] b0 := hb0
     have hb3 : RB [.i .i64 t.kind, .i .i64 (t.pos : Int), .s t.pkg, .s t.text, .s t.den] b3 := hb3
     (refine Zy ?_;with_reducible repeat' first|intro _|apply aI)
     ·rw [if_pos (hz.1 ‹_›)] at he
      exact bad he (if_neg k0) (.cons _ _ _ _ (.i _ _) (.cons _ _ _ _ (.a _ _ _ rfl (by assumption)) .nil)) .nil
     ·exact hc _ _ ⟨_, _, _, _, rfl, rfl, .opa _ _ _ rfl (by assumption), .opa _ _ _ rfl (by assumption), by assumption, by assumption, fun h => ‹¬ z = true› (hz.2 h)⟩
    ·intro c2 hc2
     (refine Zy ?_;with_reducible repeat' first|intro _|apply aI)
     ·exact hc2 _ _ ⟨false, _, _, _, _, _, rfl, .kn _, rfl, .opa _ _ _ rfl (by assumption), .opa _ _ _ rfl (by assumption), by assumption, by assumption, by simp; omega⟩
     ·exact fun e => hc2 _ _ ⟨decide (t.kind ≠ 3), _, _, _, _, _, rfl, rvB (by subst e; rw [cuNot, cuEq]; simp), rfl, .opa _ _ _ rfl (by assumption), .opa _ _ _ rfl (by assumption), by assumption, by assumption, by rw [decide_eq_true_iff]; omega⟩ e
     ·exact hc2 _ _ ⟨false, _, _, _, _, _, rfl, .kn _, rfl, .opa _ _ _ rfl (by assumption), .opa _ _ _ rfl (by assumption), by assumption, by assumption, by simp; omega⟩
end
end Go.Proofs.YtffaodopiifbkaaGreatDoor
