/- The reference's evaluator: what it computes, and that it does. -/
import Derived.Test.YtccafnaghnbpeaaGreatDoorCR7c
set_option linter.all false
namespace Go.Proofs.YtccafnaghnbpeaaGreatDoor
open Go.Abs LQ
set_option maxRecDepth 100000
set_option maxHeartbeats 8000000
noncomputable section
abbrev Ro := O × Int × Nat
abbrev Bds := List (Sy × O)
def evA (rec : T → Nat → Option Ro) : List T → Nat → List O → Option ((Int × Nat) ⊕ (List O × Nat))
 | [], l, acc => some (.inr (acc, l))
 | t :: ts, l, acc => match rec t l with
  | none => none
  | some r => if r.2.1 = 0 then evA rec ts r.2.2 (acc ++ [r.1]) else some (.inl (r.2.1, r.2.2))
def evI (rec : T → Nat → Option Ro) : List T → Nat → Option Ro
 | [a, b, c], l => match rec a l with
  | none => none
  | some r => if r.2.1 = 0 then (if O.eqb r.1 nilO then rec c r.2.2 else rec b r.2.2) else some r
 | _, _ => none
def clOf (L : List (List F)) (s : Sy) : Int := match fnd L s with
 | some f => f.cl
 | none => 0
def arOf (L : List (List F)) (s : Sy) : Option Int := match primOf s with
 | some n => some n
 | none => (fnd L s).map fun f => (f.ps.length : Int)
abbrev Ap := Sy → List O → Option (O × Int)
def evC (ap : Ap) (L : List (List F)) (rec : T → Bds → Nat → Option Ro) (f : Sy) (xs : List T) (env : Bds) (l : Nat) : Option Ro :=
 match evA (fun t l => rec t env l) xs l [] with
 | none => none
 | some (.inl p) => some (.no, p.1, p.2)
 | some (.inr p) => match primOf f with
  | some _ => (ap f p.1).map fun q => (q.1, q.2, p.2)
  | none => match fnd L f with
   | some fn => rec fn.bo (List.zip fn.ps p.1) p.2
   | none => none
def evS (ap : Ap) (L : List (List F)) (rec : T → Bds → Nat → Option Ro) : T → Bds → Nat → Option Ro
 | .v s, env, l => if 90000 ≤ env.length then none else match valOf env s with
  | some o => some (o, 0, l)
  | none => some (.no, 6, l)
 | .c o, _, l => some (o, 0, l)
 | .call f xs, env, l =>
  if 90000 ≤ xs.length then none else
  if l < 1 then some (.no, 9, l) else match arOf L f with
  | none => some (.no, 7, l - 1)
  | some n => if n = xs.length then
    (if (primOf f).isNone ∧ clOf L f ≠ 1 then some (.no, 8, l - 1) else
     if isC (.call f xs) (dec 2 26217) 3 then evI (fun t l => rec t env l) xs (l - 1) else evC ap L rec f xs env (l - 1))
   else some (.no, 5, l - 1)
def evT (ap : Ap) (L : List (List F)) : Nat → T → Bds → Nat → Option Ro
 | 0 => fun _ _ _ => none
 | n + 1 => evS ap L (evT ap L n)
theorem evA_mono {rec rec' : T → Nat → Option Ro} (h : ∀ t l r, rec t l = some r → rec' t l = some r) : ∀ {ts l acc r}, evA rec ts l acc = some r → evA rec' ts l acc = some r
 | [], l, acc, r, e => e
 | t :: ts, l, acc, r, e => by
  rw [evA] at e ⊢
  cases k : rec t l with
  | none => rw [k] at e; cases e
  | some q =>
   rw [k] at e
   rw [h _ _ _ k]
   simp only at e ⊢
   split at e
   ·rw [if_pos (by assumption)]; exact evA_mono h e
   ·rw [if_neg (by assumption)]; exact e
theorem evI_mono {rec rec' : T → Nat → Option Ro} (h : ∀ t l r, rec t l = some r → rec' t l = some r) : ∀ {ts l r}, evI rec ts l = some r → evI rec' ts l = some r
 | [], _, _, e => by cases e
 | [_], _, _, e => by cases e
 | [_, _], _, _, e => by cases e
 | _ :: _ :: _ :: _ :: _, _, _, e => by cases e
 | [a, b, c], l, r, e => by
  rw [evI] at e ⊢
  cases k : rec a l with
  | none => rw [k] at e; cases e
  | some q =>
   rw [k] at e
   rw [h _ _ _ k]
   simp only at e ⊢
   split at e
   ·rename_i c1
    rw [if_pos c1]
    split at e
    ·rename_i c2; rw [if_pos c2]; exact h _ _ _ e
    ·rename_i c2; rw [if_neg c2]; exact h _ _ _ e
   ·rename_i c1; rw [if_neg c1]; exact e
theorem evC_mono {ap : Ap} {L : List (List F)} {rec rec' : T → Bds → Nat → Option Ro} (h : ∀ t env l r, rec t env l = some r → rec' t env l = some r) {f xs env l r} (e : evC ap L rec f xs env l = some r) : evC ap L rec' f xs env l = some r := by
 unfold evC at e ⊢
 cases k : evA (fun t l => rec t env l) xs l [] with
 | none => rw [k] at e; cases e
 | some q =>
  rw [k] at e
  rw [evA_mono (fun t l r => h t env l r) k]
  cases q with
  | inl p => exact e
  | inr p =>
   simp only at e ⊢
   split at e
   ·exact e
   ·split at e
    ·exact h _ _ _ _ e
    ·cases e
theorem evS_mono {ap : Ap} {L : List (List F)} {rec rec' : T → Bds → Nat → Option Ro} (h : ∀ t env l r, rec t env l = some r → rec' t env l = some r) : ∀ {t env l r}, evS ap L rec t env l = some r → evS ap L rec' t env l = some r
 | .v s, env, l, r, e => e
 | .c o, env, l, r, e => e
 | .call f xs, env, l, r, e => by
  rw [evS] at e ⊢
  split at e
  ·cases e
  ·rename_i c0
   rw [if_neg c0]
   split at e
   ·rename_i c1; rw [if_pos c1]; exact e
   ·rename_i c1
    rw [if_neg c1]
    split at e
    ·exact e
    ·split at e
     ·rename_i c2
      rw [if_pos c2]
      split at e
      ·rename_i c3; rw [if_pos c3]; exact e
      ·rename_i c3
       rw [if_neg c3]
       split at e
       ·rename_i c4; rw [if_pos c4]; exact evI_mono (fun t l r => h t env l r) e
       ·rename_i c4; rw [if_neg c4]; exact evC_mono h e
     ·rename_i c2; rw [if_neg c2]; exact e
theorem evT_succ {ap : Ap} {L : List (List F)} : ∀ {n : Nat} {t env l r}, evT ap L n t env l = some r → evT ap L (n + 1) t env l = some r
 | 0, t, env, l, r, e => by cases e
 | n + 1, t, env, l, r, e => evS_mono (fun _ _ _ _ k => evT_succ k) e
theorem evT_le {ap : Ap} {L : List (List F)} {n m : Nat} (h : n ≤ m) {t env l r} (e : evT ap L n t env l = some r) : evT ap L m t env l = some r := by
 induction h with
 | refl => exact e
 | step _ ih => exact evT_succ ih
theorem evT_det {ap : Ap} {L : List (List F)} {n m : Nat} {t env l r r'} (h : evT ap L n t env l = some r) (k : evT ap L m t env l = some r') : r = r' := by
 rcases Nat.le_total n m with a | a
 ·have := evT_le a h; rw [this] at k; injection k
 ·have := evT_le a k; rw [h] at this; injection this
theorem evA_left {rec : T → Nat → Option Ro} (h : ∀ t l r, rec t l = some r → r.2.2 ≤ l) : ∀ {ts l acc q}, evA rec ts l acc = some q → (match q with | .inl p => p.2 | .inr p => p.2) ≤ l
 | [], l, acc, q, e => by rw [evA] at e; injection e with e; subst e; exact Nat.le_refl _
 | t :: ts, l, acc, q, e => by
  rw [evA] at e
  cases k : rec t l with
  | none => rw [k] at e; cases e
  | some r =>
   rw [k] at e
   have h1 := h _ _ _ k
   simp only at e
   split at e
   ·exact Nat.le_trans (evA_left h e) h1
   ·injection e with e; subst e; exact h1
theorem evI_left {rec : T → Nat → Option Ro} (h : ∀ t l r, rec t l = some r → r.2.2 ≤ l) : ∀ {ts l r}, evI rec ts l = some r → r.2.2 ≤ l
 | [], _, _, e => by cases e
 | [_], _, _, e => by cases e
 | [_, _], _, _, e => by cases e
 | _ :: _ :: _ :: _ :: _, _, _, e => by cases e
 | [a, b, c], l, r, e => by
  rw [evI] at e
  cases k : rec a l with
  | none => rw [k] at e; cases e
  | some q =>
   rw [k] at e
   have h1 := h _ _ _ k
   simp only at e
   split at e
   ·split at e
    ·exact Nat.le_trans (h _ _ _ e) h1
    ·exact Nat.le_trans (h _ _ _ e) h1
   ·injection e with e; subst e; exact h1
theorem evC_left {ap : Ap} {L : List (List F)} {rec : T → Bds → Nat → Option Ro} (h : ∀ t env l r, rec t env l = some r → r.2.2 ≤ l) {f xs env l r} (e : evC ap L rec f xs env l = some r) : r.2.2 ≤ l := by
 unfold evC at e
 cases k : evA (fun t l => rec t env l) xs l [] with
 | none => rw [k] at e; cases e
 | some q =>
  rw [k] at e
  have h1 := evA_left (fun t l r => h t env l r) k
  cases q with
  | inl p => injection e with e; subst e; exact h1
  | inr p =>
   simp only at e h1
   split at e
   ·cases k2 : ap f p.1 with
    | none => rw [k2] at e; cases e
    | some q => rw [k2] at e; injection e with e; subst e; exact h1
   ·split at e
    ·exact Nat.le_trans (h _ _ _ _ e) h1
    ·cases e
theorem evT_left {ap : Ap} {L : List (List F)} : ∀ {n : Nat} {t env l r}, evT ap L n t env l = some r → r.2.2 ≤ l
 | 0, _, _, _, _, e => by cases e
 | n + 1, .v s, env, l, r, e => by
  change evS ap L _ _ _ _ = _ at e
  rw [evS] at e
  split at e
  ·cases e
  ·split at e <;> (injection e with e; subst e; exact Nat.le_refl _)
 | n + 1, .c o, env, l, r, e => by
  change evS ap L _ _ _ _ = _ at e
  rw [evS] at e
  injection e with e; subst e; exact Nat.le_refl _
 | n + 1, .call f xs, env, l, r, e => by
  change evS ap L _ _ _ _ = _ at e
  rw [evS] at e
  split at e
  ·cases e
  ·split at e
   ·injection e with e; subst e; exact Nat.le_refl _
   ·split at e
    ·injection e with e; subst e; exact Nat.sub_le _ _
    ·split at e
     ·split at e
      ·injection e with e; subst e; exact Nat.sub_le _ _
      ·split at e
       ·exact Nat.le_trans (evI_left (fun t l r k => evT_left k) e) (Nat.sub_le _ _)
       ·exact Nat.le_trans (evC_left (fun t env l r k => evT_left k) e) (Nat.sub_le _ _)
     ·injection e with e; subst e; exact Nat.sub_le _ _
theorem rvCl {n : Nat} {xs : List (List G)} {v : V} (hv : RV (.c (.l xs)) v) (hne : xs ≠ []) (hn : ∀ r ∈ xs, r.length = n) : RV (.sl n xs) v := by
 cases hv with
 | cl _ t n' off len h1 h2 =>
  cases xs with
  | nil => exact absurd rfl hne
  | cons r rs =>
   have h3 := hn r List.mem_cons_self
   have h4 := h2.len r List.mem_cons_self
   have : n' = n := h4.symm.trans h3
   subst this
   exact .sl _ _ _ _ _ h1 h2
 | q _ x hx => exact .slq _ _ _ hx hn
theorem rvPre {gs gs' : List G} {q : Q} {k : Nat} (h : Cel gs q 0) (e : gs.take k = gs') (hk : k = gs'.length) : RV (.a gs') (.a q k) := .a _ _ _ hk (e ▸ h.take k)
theorem rbW {w : List Et} {l : Nat} {t : Tre Q} {off : Nat} {n : Int} (h : Rws 32 (w.map Et.g) t off) (hn : (l : Int) = n) : RBs [[.l (w.map Et.g), .i .i64 l]] [.cells [.slice t 32 off w.length .no, .int .i64 n]] :=
 .cons _ _ _ _ (.cells _ _ (.cons _ _ _ _ (.cl _ _ _ _ _ (by simp) h) (.cons _ _ _ _ (rvI hn) .nil))) .nil
theorem rbC {w : List Et} {l : Nat} {t : Tre Q} {off : Nat} {n : Int} (h : Rws 32 (w.map Et.g) t off) (hn : (l : Int) = n) : RB [.l (w.map Et.g), .i .i64 l] (.cells [.slice t 32 off w.length .no, .int .i64 n]) :=
 .cells _ _ (.cons _ _ _ _ (.cl _ _ _ _ _ (by simp) h) (.cons _ _ _ _ (rvI hn) .nil))
theorem rbWo {w : List Et} {l : Nat} {x : Q} (h : Cel [.l (w.map Et.g), .i .i64 l] x 0) : RBs [[.l (w.map Et.g), .i .i64 l]] [.opa x 2] := .cons _ _ _ _ (.opa _ _ _ rfl h) .nil
theorem rrNo (e : Int) : RRes (.ret (.t [.a O.no.g, .c (.i .i64 e)])) (.ret (.tuple [.agg [.int .i64 0, .str 0 0, .str 0 0, .str 0 0, .str 0 0, .str 0 0, .slice .nil 0 0 0 .no], .int .i64 e])) :=
 .ret _ _ (.t _ _ (.cons _ _ _ _ (.ag _ _ (by (exact Zru))) (.cons _ _ _ _ (.i _ _) .nil)))
theorem rrA {o : O} {x : Q} (h : Cel o.g x 0) (e : Int) : RRes (.ret (.t [.a o.g, .c (.i .i64 e)])) (.ret (.tuple [.a x 7, .int .i64 e])) :=
 .ret _ _ (.t _ _ (.cons _ _ _ _ (.a _ _ _ (O.g_len _).symm h) (.cons _ _ _ _ (.i _ _) .nil)))
theorem F.body {f : F} {x : Q} (h : Cel (List.drop 15 f.g) x 0) : Cel f.bo.g x 0 := by
 have e : List.take 11 (List.drop 15 f.g) = f.bo.g := by
  have e1 : List.drop 15 f.g = f.bo.g ++ f.mg := by
   show List.drop 11 (f.gd.g ++ (f.bo.g ++ f.mg)) = _
   rw [List.drop_append_of_le_length (by rw [T.g_len]; omega), List.drop_of_length_le (by rw [T.g_len]; omega), List.nil_append]
  rw [e1, List.take_append_of_le_length (by rw [T.g_len]; omega), List.take_of_length_le (by rw [T.g_len]; omega)]
 exact e ▸ h.take 11
structure Tx (ap : Ap) where
 w : Wd
 t : T
 env : Bds
 l : Nat
 n : Nat
 r : Ro
 h : evT ap w.L n t env l = some r
 hw : w.1 ≠ []
 hl : l < 1000000000
def spTm (ap : Ap) : Sp where
 ι := Tx ap
 A x := [.p 0 0, .a x.t.g, .sl 9 (x.env.map bd)]
 B x := [[.l (x.w.1.map Et.g), .i .i64 x.l]]
 R x := .ret (.t [.a x.r.1.g, .c (.i .i64 x.r.2.1)])
 B' x := [[.l (x.w.1.map Et.g), .i .i64 x.r.2.2]]
 inj i j vs bs h k hb kb := by
  obtain ⟨_, _, h1, k1, h, k⟩ := h.two k
  obtain ⟨_, _, h2, k2, h, k⟩ := h.two k
  obtain ⟨_, _, h3, k3, h, k⟩ := h.two k
  cases hb with
  | cons _ _ b bs h4 _ =>
   cases kb with
   | cons _ _ _ _ k4 _ =>
    have e4 := h4.inj k4
    simp only [List.cons.injEq, G.l.injEq, G.i.injEq] at e4
    have e1 := T.g_inj (h2.a_inj k2)
    have e2 := mapbd_inj (h3.sl_inj k3)
    have e5 : i.w.L = j.w.L := mapEt_key e4.1
    have e6 : i.l = j.l := by omega
    have hr : i.r = j.r := evT_det (n := i.n) (m := j.n) i.h (by rw [e5, e1, e2, e6]; exact j.h)
    rw [hr, e4.1]; exact ⟨rfl, rfl⟩
def spAp (ap : Ap) : Sp where
 ι := { p : (Sy × List O) × (O × Int) // ap p.1.1 p.1.2 = some p.2 }
 A p := [.a (sg p.1.1.1), .sl 7 (p.1.1.2.map O.g)]
 B _ := []
 R p := .ret (.t [.a p.1.2.1.g, .c (.i .i64 p.1.2.2)])
 B' _ := []
 inj i j vs bs h k _ _ := by
  obtain ⟨_, _, h1, k1, h, k⟩ := h.two k
  obtain ⟨_, _, h2, k2, h, k⟩ := h.two k
  have e1 := sg_inj (h1.a_inj k1)
  have e2 := mapg_inj (h2.sl_inj k2)
  have e3 : some i.1.2 = some j.1.2 := by rw [← i.2, ← j.2, e1, e2]
  injection e3 with e3
  rw [e3]; exact ⟨rfl, rfl⟩
theorem kTerm {ap : Ap} (hap : Know 77 (spAp ap)) : Know 58 (spTm ap) := know_rec (fun x => x.n) fun n ih => know (fun fn h => r58_ok h) [(58, (spTm ap).lt (fun x => x.n) n), (77, _), (78, _), (76, _), (18, _), (16, _), (75, _), (74, _), (73, _)]
  (.cons ih (.cons hap (.cons kBind (.cons kIsNil11 (.cons kIs (.cons kFunction (.cons kArity7 (.cons kArity10 (.cons kValue .nil))))))))) fun U fn hfn ⟨⟨w, t, env, l, m, r, hr, hw, hlim⟩, hm⟩ vs bs hv hb => by
 have hT := hfn 58 _ rfl
 have hA := hfn 77 _ rfl
 have hB := hfn 78 _ rfl
 have hN := hfn 76 _ rfl
 have hI := hfn 18 _ rfl
 have hF := hfn 16 _ rfl
 have hY := hfn 75 _ rfl
 have hZ := hfn 74 _ rfl
 have hV := hfn 73 _ rfl
 have hm : m < n + 1 := hm
 change RVs [.p 0 0, .a t.g, .sl 9 (env.map bd)] vs at hv
 change RBs [[.l (w.1.map Et.g), .i .i64 l]] bs at hb
 have hwm : w.1.map Et.g ≠ [] := by simpa using hw
 have hwn : ∀ r ∈ w.1.map Et.g, r.length = 32 := mapLen Et.g_len
 show Sat U _ fun v bs' => RRes (.ret (.t [.a r.1.g, .c (.i .i64 r.2.1)])) v ∧ RBs [[.l (w.1.map Et.g), .i .i64 r.2.2]] bs'
 obtain ⟨m, rfl⟩ : ∃ k, m = k + 1 := by
  cases m with
  | zero => cases hr
  | succ k => exact ⟨k, rfl⟩
 have hr : evS ap w.L (evT ap w.L m) t env l = some r := hr
 unfold r58
 cases t with
 | v s =>
  simp only [T.g] at hv
  rw [evS] at hr
  split at hr
  ·cases hr
  ·rename_i henv
   (refine Zz ?_;with_reducible repeat' first|intro _|apply aI)
   refine sSlM (rvCl (by assumption) hwm hwn) fun _ _ _ => ?_
   (refine Zz ?_;with_reducible repeat' first|intro _|apply aI)
   cases e : valOf env s with
   | none =>
    rw [e] at hr
    injection hr with hr
    subst hr
    refine sCall hV ⟨(env, s), by show env.length < 90000; omega⟩ (r := .t [.a O.no.g, .c (.b false)]) (by show GRes.ret (match valOf env s with | some o => GV.t [.a o.g, .c (.b true)] | none => .t [.a O.no.g, .c (.b false)]) = _; rw [e]) (.cons _ _ _ _ Zrv (.cons _ _ _ _ (rvPre (gs := List.drop 1 _) (by assumption) (by rfl) rfl) .nil)) .nil fun _ _ _ _ => ?_
    (refine Zz ?_;with_reducible repeat' first|intro _|apply aI)
    exact sRet ⟨rrNo _, rbW (by assumption) rfl⟩
   | some o =>
    rw [e] at hr
    injection hr with hr
    subst hr
    refine sCall hV ⟨(env, s), by show env.length < 90000; omega⟩ (r := .t [.a o.g, .c (.b true)]) (by show GRes.ret (match valOf env s with | some o => GV.t [.a o.g, .c (.b true)] | none => .t [.a O.no.g, .c (.b false)]) = _; rw [e]) (.cons _ _ _ _ Zrv (.cons _ _ _ _ (rvPre (gs := List.drop 1 _) (by assumption) (by rfl) rfl) .nil)) .nil fun _ _ _ _ => ?_
    (refine Zz ?_;with_reducible repeat' first|intro _|apply aI)
    refine oR fun _ _ => ?_
    (refine Zz ?_;with_reducible repeat' first|intro _|apply aI)
    exact sRet ⟨rrA (by assumption) _, rbW (by assumption) rfl⟩
 | c o =>
  simp only [T.g] at hv
  rw [evS] at hr
  injection hr with hr
  subst hr
  (refine Zz ?_;with_reducible repeat' first|intro _|apply aI)
  refine sSlM (rvCl (by assumption) hwm hwn) fun _ _ _ => ?_
  (refine Zz ?_;with_reducible repeat' first|intro _|apply aI)
  refine sRet ⟨rrA (Eq.mp ?_ (Cel.take 7 (by assumption : Cel (List.drop 3 _) _ 0))) _, rbW (by assumption) rfl⟩
  rw [O.g_eq]; rfl
 | call f xs =>
  simp only [T.g, T.gs_eq] at hv
  rw [evS] at hr
  split at hr
  ·cases hr
  rename_i hxs
  have hTg : (T.call f xs).g = [.i .i64 3, .s f.1, .s f.2, .i .i64 0, .s [], .s [], .s [], .s [], .s [], .l [], .l (xs.map T.g)] := by simp only [T.g, T.gs_eq]
  (refine Zz ?_;with_reducible repeat' first|intro _|apply aI)
  refine sSlM (rvCl (by assumption) hwm hwn) fun _ _ _ => ?_
  (refine Zz ?_;with_reducible repeat' first|intro _|apply aI)
  ·rw [if_pos (by omega)] at hr
   injection hr with hr
   subst hr
   exact sRet ⟨rrNo _, rbW (by assumption) rfl⟩
  rw [if_neg (by omega)] at hr
  have hl1 : ((l - 1 : Nat) : Int) = (l : Int) - 1 := by omega
  cases e : arOf w.L f with
  | none =>
   rw [e] at hr
   injection hr with hr
   subst hr
   refine sCall hZ (w, f) (r := .t [.c (.i .i64 0), .c (.b false)]) (by show GRes.ret (okI (arOf w.L f)) = _; rw [e]; rfl) (.cons _ _ _ _ Zrv (.cons _ _ _ _ (rvPre (gs := List.drop 1 _) (by assumption) (by rfl) rfl) .nil)) .nil fun _ _ _ _ => ?_
   (refine Zz ?_;with_reducible repeat' first|intro _|apply aI)
   exact sRet ⟨rrNo _, rbW (by assumption) hl1⟩
  | some k =>
   rw [e] at hr
   refine sCall hZ (w, f) (r := .t [.c (.i .i64 k), .c (.b true)]) (by show GRes.ret (okI (arOf w.L f)) = _; rw [e]; rfl) (.cons _ _ _ _ Zrv (.cons _ _ _ _ (rvPre (gs := List.drop 1 _) (by assumption) (by rfl) rfl) .nil)) .nil fun _ _ _ _ => ?_
   (refine Zz ?_;with_reducible repeat' first|intro _|apply aI)
   refine sCSlM (by assumption) (mapLen T.g_len) fun _ _ _ => ?_
   (refine Zz ?_;with_reducible repeat' first|intro _|apply aI)
   case some.right =>
    rename_i hk
    simp only at hr
    rw [if_neg hk] at hr
    injection hr with hr
    subst hr
    exact sRet ⟨rrNo _, rbW (by assumption) hl1⟩
   rename_i hk _ _
   simp only at hr
   rw [if_pos hk] at hr
   cases ep : primOf f with
   | none =>
    have ef : (fnd w.L f).map (fun g => (g.ps.length : Int)) = some k := by rw [arOf, ep] at e; exact e
    cases eg : fnd w.L f with
    | none => rw [eg] at ef; cases ef
    | some g =>
     rw [eg] at ef
     have ec : clOf w.L f = g.cl := by rw [clOf, eg]
     rw [ep, ec] at hr
     simp only [Option.isNone_none, true_and] at hr
     refine sCall hY f (r := .t [.c (.i .i64 0), .c (.b false)]) (by show GRes.ret (okI (primOf f)) = _; rw [ep]; rfl) (.cons _ _ _ _ (rvPre (gs := List.drop 1 _) (by assumption) (by rfl) rfl) .nil) .nil fun _ _ _ _ => ?_
     (refine Zz ?_;with_reducible repeat' first|intro _|apply aI)
     refine sCall hF (w, f) (r := .t [.a g.g, .c (.b true)]) (by show GRes.ret (okF (fnd w.L f)) = _; rw [eg]; rfl) (.cons _ _ _ _ Zrv (.cons _ _ _ _ (rvPre (gs := List.drop 1 _) (by assumption) (by rfl) rfl) .nil)) .nil fun _ _ _ _ => ?_
     (refine Zz ?_;with_reducible repeat' first|intro _|apply aI)
     refine sAR (by assumption) (by first | exact (F.g_len _).symm | exact F.g_len _) fun _ _ => ?_
     (refine Zz ?_;with_reducible repeat' first|intro _|apply aI)
     refine sBoR (rbC (by assumption) hl1) rfl fun q hq => ?_
     (refine Zz ?_;with_reducible repeat' first|intro _|apply aI)
     case some.right =>
      rename_i hc
      rw [if_pos hc] at hr
      injection hr with hr
      subst hr
      exact sRet ⟨rrNo _, rbWo hq⟩
     rename_i hc _ _
     rw [if_neg (fun h => h hc)] at hr
     have hIf : isC (.call f xs) (dec 2 26217) 3 = false := by
      rw [isC, decide_eq_false]
      ·rfl
      ·intro h
       rw [h] at ep
       cases ep
     rw [hIf] at hr
     simp only [Bool.false_eq_true, if_false] at hr
     refine sCall hI (.call f xs, dec 2 26217, 3) (r := .c (.b false)) (by show GRes.ret (.c (.b (isC (.call f xs) (dec 2 26217) 3))) = _; rw [hIf]) (by show RVs [.a (T.call f xs).g, .c (.s (dec 2 26217)), .c (.i .i64 3)] _; rw [hTg]; (exact Zrv)) .nil fun _ _ _ _ => ?_
     (refine Zz ?_;with_reducible repeat' first|intro _|apply aI)
     unfold evC at hr
     rw [ep, eg] at hr
     generalize hl2 : l - 1 = l2 at *
     cases eA : evA (fun t l => evT ap w.L m t env l) xs l2 [] with
     | none => rw [eA] at hr; cases hr
     | some R =>
     rw [eA] at hr
     refine sLp (fun (i : Nat) vs bs => ∃ (t : Tre Q) (off : Nat) (v : V) (l3 : Nat) (acc : List O) (q q2 q3 : Q), vs = [.ptr 0 0, .slice t 9 off env.length .no, .ptr 1 0, .ptr 2 0, .bool false, .ptr 3 0, .int .i64 i, v] ∧ bs = [.opa q 2, .opa q2 11, .cells [.int .i64 0, .str 0 0, .str 0 0, .str 0 0, .str 0 0, .str 0 0, .slice .nil 0 0 0 .exact], .opa q3 37, .tok acc.length 7] ∧ TokS 4 7 (acc.map O.g) v ∧ Rws 9 (env.map bd) t off ∧ Cel [.l (w.1.map Et.g), .i .i64 l3] q 0 ∧ Cel [.i .i64 3, .s f.1, .s f.2, .i .i64 0, .s [], .s [], .s [], .s [], .s [], .l [], .l (xs.map T.g)] q2 0 ∧ Cel g.g q3 0 ∧ i ≤ xs.length ∧ acc.length = i ∧ l3 ≤ l2 ∧ evA (fun t l => evT ap w.L m t env l) (xs.drop i) l3 acc = some R) (fun i => xs.length - i) 0
      ⟨_, _, _, _, [], _, _, _, rfl, rfl, .b rfl, by assumption, hq, by assumption, by assumption, by omega, rfl, by omega, eA⟩ (by simp only [FUEL]; omega) ?_
     rintro self i _ _ ⟨t, off, v, l3, acc, q, q2, q3, rfl, rfl, htk, ht, hq, hq2, hq3, hi, hac, hl3, he⟩ ihL
     (refine Zz ?_;with_reducible repeat' first|intro _|apply aI)
     refine sCSlM (by assumption) (mapLen T.g_len) fun _ _ _ => ?_
     (refine Zz ?_;with_reducible repeat' first|intro _|apply aI)
     ·refine sCSlM (by assumption) (mapLen T.g_len) fun _ _ _ => ?_
      (refine Zz ?_;with_reducible repeat' first|intro _|apply aI)
      have hix : i < xs.length := by omega
      rw [List.drop_eq_getElem_cons hix, evA] at he
      change (match evT ap w.L m xs[i] env l3 with | none => none | some r => if r.2.1 = 0 then evA (fun t l => evT ap w.L m t env l) (xs.drop (i + 1)) r.2.2 (acc ++ [r.1]) else some (.inl (r.2.1, r.2.2))) = some R at he
      cases er : evT ap w.L m xs[i] env l3 with
      | none => rw [er] at he; cases he
      | some r1 =>
      rw [er] at he
      obtain ⟨o1, e1, l4⟩ := r1
      have hl4 : l4 ≤ l3 := evT_left er
      simp only at he
      refine sCall hT ⟨⟨w, xs[i], env, l3, m, (o1, e1, l4), er, hw, by omega⟩, by show m < n; omega⟩ (r := .t [.a o1.g, .c (.i .i64 e1)]) rfl (.cons _ _ _ _ (.p _ _) (.cons _ _ _ _ (.a _ _ _ (T.g_len _).symm (by assumption)) (.cons _ _ _ _ (.sl _ _ _ _ _ (by simp) ht) .nil))) (rbWo hq) fun _ _ _ hb2 => ?_
      change RBs [[.l (w.1.map Et.g), .i .i64 l4]] _ at hb2
      (refine Zz ?_;with_reducible repeat' first|intro _|apply aI)
      refine oR fun _ _ => ?_
      (refine Zz ?_;with_reducible repeat' first|intro _|apply aI)
      case some.right =>
       rename_i he1
       rw [if_neg he1] at he
       injection he with he
       subst he
       simp only at hr
       injection hr with hr
       subst hr
       exact sRet ⟨rrNo _, rbWo (by assumption)⟩
      rename_i he1 _ _
      rw [if_pos he1] at he
      refine sAT1 (by assumption) (r := o1.g) (fun _ => rowN (by rw [O.g_len]; decide) (by assumption)) (O.g_len _) (by simp) (by simp only [List.length_map]; omega) fun _ _ => ?_
      (refine Zz ?_;with_reducible repeat' first|intro _|apply aI)
      exact ihL (i + 1) _ _ ⟨_, _, _, l4, acc ++ [o1], _, _, _, rfl, (by rw [List.length_append]; rfl), .a _ _ (by simp) (by rw [List.map_append]; assumption), ht, (by assumption), hq2, hq3, by omega, by simp [hac], by omega, he⟩ (by omega)
     ·have ei : i = xs.length := by omega
      rw [ei, List.drop_length, evA] at he
      injection he with he
      subst he
      simp only at hr
      have ef : (g.ps.length : Int) = k := by injection ef
      refine sCall hB ⟨(g.ps, acc), by show g.ps.length < 90000; omega⟩ (r := .sl 9 ((List.zip g.ps acc).map bd)) rfl (.cons _ _ _ _ (.slq _ _ _ (by assumption) (mapLen sg_len)) (.cons _ _ _ _ Zrv .nil)) .nil fun _ _ _ _ => ?_
      (refine Zz ?_;with_reducible repeat' first|intro _|apply aI)
      refine sCall hT ⟨⟨w, g.bo, List.zip g.ps acc, l3, m, r, hr, hw, by omega⟩, by show m < n; omega⟩ (r := .t [.a r.1.g, .c (.i .i64 r.2.1)]) rfl (.cons _ _ _ _ (.p _ _) (.cons _ _ _ _ (.a _ _ _ (T.g_len _).symm (F.body (by assumption))) (.cons _ _ _ _ (.sl _ _ _ _ _ (by simp) (by assumption)) .nil))) (rbWo hq) fun _ _ _ hb2 => ?_
      change RBs [[.l (w.1.map Et.g), .i .i64 r.2.2]] _ at hb2
      (refine Zz ?_;with_reducible repeat' first|intro _|apply aI)
      refine oR fun _ _ => ?_
      (refine Zz ?_;with_reducible repeat' first|intro _|apply aI)
      all_goals exact sRet ⟨rrA (by assumption) _, rbWo (by assumption)⟩
   | some n' =>
    have hns : (primOf f).isNone = false := by rw [ep]; rfl
    rw [hns] at hr
    simp only [Bool.false_eq_true, false_and, if_false] at hr
    obtain ⟨gs, b, hgs, hgl⟩ : ∃ gs b, okF (fnd w.L f) = .t [.a gs, .c (.b b)] ∧ gs.length = 37 := by
     cases fnd w.L f with
     | none => exact ⟨zF, false, rfl, rfl⟩
     | some g => exact ⟨g.g, true, rfl, F.g_len g⟩
    refine sCall hY f (r := .t [.c (.i .i64 n'), .c (.b true)]) (by show GRes.ret (okI (primOf f)) = _; rw [ep]; rfl) (.cons _ _ _ _ (rvPre (gs := List.drop 1 _) (by assumption) (by rfl) rfl) .nil) .nil fun _ _ _ _ => ?_
    (refine Zz ?_;with_reducible repeat' first|intro _|apply aI)
    refine sCall hF (w, f) (r := .t [.a gs, .c (.b b)]) (by show GRes.ret (okF (fnd w.L f)) = _; rw [hgs]) (.cons _ _ _ _ Zrv (.cons _ _ _ _ (rvPre (gs := List.drop 1 _) (by assumption) (by rfl) rfl) .nil)) .nil fun _ _ _ _ => ?_
    (refine Zz ?_;with_reducible repeat' first|intro _|apply aI)
    refine sAR (by assumption) (by first | exact hgl | exact hgl.symm) fun _ _ => ?_
    (refine Zz ?_;with_reducible repeat' first|intro _|apply aI)
    refine sBoR (rbC (by assumption) hl1) rfl fun q hq => ?_
    (refine Zz ?_;with_reducible repeat' first|intro _|apply aI)
    cases hIf : isC (.call f xs) (dec 2 26217) 3 with
    | true =>
     rw [hIf] at hr
     simp only [if_true] at hr
     refine sCall hI (.call f xs, dec 2 26217, 3) (r := .c (.b true)) (by show GRes.ret (.c (.b (isC (.call f xs) (dec 2 26217) 3))) = _; rw [hIf]) (by show RVs [.a (T.call f xs).g, .c (.s (dec 2 26217)), .c (.i .i64 3)] _; rw [hTg]; (exact Zrv)) .nil fun _ _ _ _ => ?_
     have hx3 : xs.length = 3 := by
      rw [isC, Bool.and_eq_true] at hIf
      have := of_decide_eq_true hIf.2
      omega
     obtain ⟨a, b', c, rfl⟩ : ∃ a b c, xs = [a, b, c] := by
      match xs, hx3 with
      | [a, b, c], _ => exact ⟨a, b, c, rfl⟩
     (refine Zz ?_;with_reducible repeat' first|intro _|apply aI)
     refine sCSlM (by assumption) (mapLen T.g_len) fun _ _ _ => ?_
     (refine Zz ?_;with_reducible repeat' first|intro _|apply aI)
     rw [evI] at hr
     change (match evT ap w.L m a env (l - 1) with | none => none | some r => if r.2.1 = 0 then (if O.eqb r.1 nilO then evT ap w.L m c env r.2.2 else evT ap w.L m b' env r.2.2) else some r) = some r at hr
     generalize hl2 : l - 1 = l2 at *
     cases er : evT ap w.L m a env l2 with
     | none => rw [er] at hr; cases hr
     | some r1 =>
     rw [er] at hr
     obtain ⟨o1, e1, l4⟩ := r1
     have hl4 : l4 ≤ l2 := evT_left er
     simp only at hr
     refine sCall hT ⟨⟨w, a, env, l2, m, (o1, e1, l4), er, hw, by omega⟩, by show m < n; omega⟩ (r := .t [.a o1.g, .c (.i .i64 e1)]) rfl (.cons _ _ _ _ (.p _ _) (.cons _ _ _ _ (.a _ _ _ (T.g_len _).symm (by assumption)) (.cons _ _ _ _ (.sl _ _ _ _ _ (by simp) (by assumption)) .nil))) (rbWo (by assumption)) fun _ _ _ hb2 => ?_
     change RBs [[.l (w.1.map Et.g), .i .i64 l4]] _ at hb2
     (refine Zz ?_;with_reducible repeat' first|intro _|apply aI)
     refine oR fun _ _ => ?_
     (refine Zz ?_;with_reducible repeat' first|intro _|apply aI)
     case some.right =>
      rw [if_neg (by assumption : ¬ e1 = 0)] at hr
      injection hr with hr
      subst hr
      exact sRet ⟨rrA (by assumption) _, rbWo (by assumption)⟩
     rw [if_pos (by assumption : e1 = 0)] at hr
     cases en : O.eqb o1 nilO with
     | true =>
      rw [en] at hr
      simp only [if_true] at hr
      refine sCall hN o1 (r := .c (.b true)) (by show GRes.ret (.c (.b (O.eqb o1 nilO))) = _; rw [en]) oA .nil fun _ _ _ _ => ?_
      (refine Zz ?_;with_reducible repeat' first|intro _|apply aI)
      refine sCSlM (by assumption) (mapLen T.g_len) fun _ _ _ => ?_
      (refine Zz ?_;with_reducible repeat' first|intro _|apply aI)
      refine sCall hT ⟨⟨w, c, env, l4, m, r, hr, hw, by omega⟩, by show m < n; omega⟩ (r := .t [.a (r).1.g, .c (.i .i64 (r).2.1)]) rfl (.cons _ _ _ _ (.p _ _) (.cons _ _ _ _ (.a _ _ _ (T.g_len _).symm (by assumption)) (.cons _ _ _ _ (.sl _ _ _ _ _ (by simp) (by assumption)) .nil))) (rbWo (by assumption)) fun _ _ _ hb2 => ?_
      change RBs [[.l (w.1.map Et.g), .i .i64 r.2.2]] _ at hb2
      (refine Zz ?_;with_reducible repeat' first|intro _|apply aI)
      refine oR fun _ _ => ?_
      (refine Zz ?_;with_reducible repeat' first|intro _|apply aI)
      exact sRet ⟨rrA (by assumption) _, rbWo (by assumption)⟩
     | false =>
      rw [en] at hr
      simp only [Bool.false_eq_true, if_false] at hr
      refine sCall hN o1 (r := .c (.b false)) (by show GRes.ret (.c (.b (O.eqb o1 nilO))) = _; rw [en]) oA .nil fun _ _ _ _ => ?_
      (refine Zz ?_;with_reducible repeat' first|intro _|apply aI)
      refine sCSlM (by assumption) (mapLen T.g_len) fun _ _ _ => ?_
      (refine Zz ?_;with_reducible repeat' first|intro _|apply aI)
      refine sCall hT ⟨⟨w, b', env, l4, m, r, hr, hw, by omega⟩, by show m < n; omega⟩ (r := .t [.a (r).1.g, .c (.i .i64 (r).2.1)]) rfl (.cons _ _ _ _ (.p _ _) (.cons _ _ _ _ (.a _ _ _ (T.g_len _).symm (by assumption)) (.cons _ _ _ _ (.sl _ _ _ _ _ (by simp) (by assumption)) .nil))) (rbWo (by assumption)) fun _ _ _ hb2 => ?_
      change RBs [[.l (w.1.map Et.g), .i .i64 r.2.2]] _ at hb2
      (refine Zz ?_;with_reducible repeat' first|intro _|apply aI)
      refine oR fun _ _ => ?_
      (refine Zz ?_;with_reducible repeat' first|intro _|apply aI)
      exact sRet ⟨rrA (by assumption) _, rbWo (by assumption)⟩
    | false =>
     rw [hIf] at hr
     simp only [Bool.false_eq_true, if_false] at hr
     refine sCall hI (.call f xs, dec 2 26217, 3) (r := .c (.b false)) (by show GRes.ret (.c (.b (isC (.call f xs) (dec 2 26217) 3))) = _; rw [hIf]) (by show RVs [.a (T.call f xs).g, .c (.s (dec 2 26217)), .c (.i .i64 3)] _; rw [hTg]; (exact Zrv)) .nil fun _ _ _ _ => ?_
     (refine Zz ?_;with_reducible repeat' first|intro _|apply aI)
     unfold evC at hr
     rw [ep] at hr
     generalize hl2 : l - 1 = l2 at *
     cases eA : evA (fun t l => evT ap w.L m t env l) xs l2 [] with
     | none => rw [eA] at hr; cases hr
     | some R =>
     rw [eA] at hr
     refine sLp (fun (i : Nat) vs bs => ∃ (t : Tre Q) (off : Nat) (v : V) (l3 : Nat) (acc : List O) (q q2 q3 : Q), vs = [.ptr 0 0, .slice t 9 off env.length .no, .ptr 1 0, .ptr 2 0, .bool true, .ptr 3 0, .int .i64 i, v] ∧ bs = [.opa q 2, .opa q2 11, .cells [.int .i64 0, .str 0 0, .str 0 0, .str 0 0, .str 0 0, .str 0 0, .slice .nil 0 0 0 .exact], .opa q3 37, .tok acc.length 7] ∧ TokS 4 7 (acc.map O.g) v ∧ Rws 9 (env.map bd) t off ∧ Cel [.l (w.1.map Et.g), .i .i64 l3] q 0 ∧ Cel [.i .i64 3, .s f.1, .s f.2, .i .i64 0, .s [], .s [], .s [], .s [], .s [], .l [], .l (xs.map T.g)] q2 0 ∧ Cel gs q3 0 ∧ i ≤ xs.length ∧ acc.length = i ∧ l3 ≤ l2 ∧ evA (fun t l => evT ap w.L m t env l) (xs.drop i) l3 acc = some R) (fun i => xs.length - i) 0
      ⟨_, _, _, _, [], _, _, _, rfl, rfl, .b rfl, by assumption, hq, by assumption, by assumption, by omega, rfl, by omega, eA⟩ (by simp only [FUEL]; omega) ?_
     rintro self i _ _ ⟨t, off, v, l3, acc, q, q2, q3, rfl, rfl, htk, ht, hq, hq2, hq3, hi, hac, hl3, he⟩ ihL
     (refine Zz ?_;with_reducible repeat' first|intro _|apply aI)
     refine sCSlM (by assumption) (mapLen T.g_len) fun _ _ _ => ?_
     (refine Zz ?_;with_reducible repeat' first|intro _|apply aI)
     ·refine sCSlM (by assumption) (mapLen T.g_len) fun _ _ _ => ?_
      (refine Zz ?_;with_reducible repeat' first|intro _|apply aI)
      have hix : i < xs.length := by omega
      rw [List.drop_eq_getElem_cons hix, evA] at he
      change (match evT ap w.L m xs[i] env l3 with | none => none | some r => if r.2.1 = 0 then evA (fun t l => evT ap w.L m t env l) (xs.drop (i + 1)) r.2.2 (acc ++ [r.1]) else some (.inl (r.2.1, r.2.2))) = some R at he
      cases er : evT ap w.L m xs[i] env l3 with
      | none => rw [er] at he; cases he
      | some r1 =>
      rw [er] at he
      obtain ⟨o1, e1, l4⟩ := r1
      have hl4 : l4 ≤ l3 := evT_left er
      simp only at he
      refine sCall hT ⟨⟨w, xs[i], env, l3, m, (o1, e1, l4), er, hw, by omega⟩, by show m < n; omega⟩ (r := .t [.a o1.g, .c (.i .i64 e1)]) rfl (.cons _ _ _ _ (.p _ _) (.cons _ _ _ _ (.a _ _ _ (T.g_len _).symm (by assumption)) (.cons _ _ _ _ (.sl _ _ _ _ _ (by simp) ht) .nil))) (rbWo hq) fun _ _ _ hb2 => ?_
      change RBs [[.l (w.1.map Et.g), .i .i64 l4]] _ at hb2
      (refine Zz ?_;with_reducible repeat' first|intro _|apply aI)
      refine oR fun _ _ => ?_
      (refine Zz ?_;with_reducible repeat' first|intro _|apply aI)
      case some.right =>
       rename_i he1
       rw [if_neg he1] at he
       injection he with he
       subst he
       simp only at hr
       injection hr with hr
       subst hr
       exact sRet ⟨rrNo _, rbWo (by assumption)⟩
      rename_i he1 _ _
      rw [if_pos he1] at he
      refine sAT1 (by assumption) (r := o1.g) (fun _ => rowN (by rw [O.g_len]; decide) (by assumption)) (O.g_len _) (by simp) (by simp only [List.length_map]; omega) fun _ _ => ?_
      (refine Zz ?_;with_reducible repeat' first|intro _|apply aI)
      exact ihL (i + 1) _ _ ⟨_, _, _, l4, acc ++ [o1], _, _, _, rfl, (by rw [List.length_append]; rfl), .a _ _ (by simp) (by rw [List.map_append]; assumption), ht, (by assumption), hq2, hq3, by omega, by simp [hac], by omega, he⟩ (by omega)
     ·have ei : i = xs.length := by omega
      rw [ei, List.drop_length, evA] at he
      injection he with he
      subst he
      simp only at hr
      cases eP : ap f acc with
      | none => rw [eP] at hr; cases hr
      | some pr =>
      rw [eP] at hr
      injection hr with hr
      subst hr
      refine sCall hA ⟨((f, acc), pr), eP⟩ (r := .t [.a pr.1.g, .c (.i .i64 pr.2)]) rfl (.cons _ _ _ _ (rvPre (gs := List.drop 1 _) (by assumption) (by rfl) rfl) (.cons _ _ _ _ Zrv .nil)) .nil fun _ _ _ _ => ?_
      (refine Zz ?_;with_reducible repeat' first|intro _|apply aI)
      refine oR fun _ _ => ?_
      (refine Zz ?_;with_reducible repeat' first|intro _|apply aI)
      all_goals exact sRet ⟨rrA (by assumption) _, rbWo (by assumption)⟩
end
end Go.Proofs.YtccafnaghnbpeaaGreatDoor
