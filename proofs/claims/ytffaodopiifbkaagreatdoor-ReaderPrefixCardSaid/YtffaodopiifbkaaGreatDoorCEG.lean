/- Packages and symbols: the program's and the reference's. -/
import Derived.Test.YtffaodopiifbkaaGreatDoorCEF
set_option linter.all false
namespace Go.Proofs.YtffaodopiifbkaaGreatDoor
open Go.Abs LQ
set_option maxRecDepth 100000
set_option maxHeartbeats 4000000
noncomputable section
theorem sg_list_inj : ∀ {l m : List Sy}, l.map sg = m.map sg → l = m
 | [], [], _ => rfl
 | [], _ :: _, h => by simp at h
 | _ :: _, [], h => by simp at h
 | a :: l, b :: m, h => by simp only [List.map_cons, List.cons.injEq] at h; rw [sg_inj h.1, sg_list_inj h.2]
theorem pg_inj {a b : Pk} (h : pg a = pg b) : a = b := by
 simp only [pg, List.cons.injEq, G.s.injEq, G.l.injEq, and_true] at h
 exact Prod.ext h.1 (sg_list_inj h.2)
theorem pgs_inj : ∀ {l m : List Pk}, l.map pg = m.map pg → l = m
 | [], [], _ => rfl
 | [], _ :: _, h => by simp at h
 | _ :: _, [], h => by simp at h
 | a :: l, b :: m, h => by simp only [List.map_cons, List.cons.injEq] at h; rw [pg_inj h.1, pgs_inj h.2]
def okPk (L : List Pk) : Prop := L.length < 90000 ∧ ∀ p ∈ L, p.2.length < 90000
def spLS (g : List Pk → Str → GV) : Sp where
 ι := { p : List Pk × Str // okPk p.1 }
 A p := [.sl 2 (p.1.1.map pg), .c (.s p.1.2)]
 B _ := []
 R p := .ret (g p.1.1 p.1.2)
 B' _ := []
 inj i j vs bs h k _ _ := by
  obtain ⟨_, _, h1, k1, h, k⟩ := h.two k
  obtain ⟨_, _, h2, k2, h, k⟩ := h.two k
  rw [pgs_inj (h1.sl_inj k1), s_inj h2 k2]; exact ⟨rfl, rfl⟩
def spLSS (g : List Pk → Str → Str → GV) : Sp where
 ι := { p : List Pk × Str × Str // okPk p.1 }
 A p := [.sl 2 (p.1.1.map pg), .c (.s p.1.2.1), .c (.s p.1.2.2)]
 B _ := []
 R p := .ret (g p.1.1 p.1.2.1 p.1.2.2)
 B' _ := []
 inj i j vs bs h k _ _ := by
  obtain ⟨_, _, h1, k1, h, k⟩ := h.two k
  obtain ⟨_, _, h2, k2, h, k⟩ := h.two k
  obtain ⟨_, _, h3, k3, h, k⟩ := h.two k
  rw [pgs_inj (h1.sl_inj k1), s_inj h2 k2, s_inj h3 k3]; exact ⟨rfl, rfl⟩
def findG (L : List Pk) (n : Str) : GV := match findP L n with
 | some p => .t [.a (pg p), .c (.b true)]
 | none => .t [.a [.s [], .l []], .c (.b false)]
theorem find_yes {L : List Pk} {n : Str} {i : Nat} (h : i < L.length) (hn : L[i].1 = n) : findP (L.drop i) n = some L[i] := by
 rw [List.drop_eq_getElem_cons h, findP, if_pos hn]
theorem find_no {L : List Pk} {n : Str} {i : Nat} (h : i < L.length) (hn : ¬ L[i].1 = n) : findP (L.drop i) n = findP (L.drop (i + 1)) n := by
 rw [List.drop_eq_getElem_cons h, findP, if_neg hn]
theorem find_end {L : List Pk} {n : Str} {i : Nat} (h : ¬ i < L.length) : findP (L.drop i) n = none := by
 rw [List.drop_eq_nil_of_le (by omega)]; rfl
theorem kFindP : Know 60 (spLS findG) := know (fun fn h => r60_ok h) [] .nil fun U fn hfn ⟨(L, nm), hL⟩ vs bs hv hb => by
 have hL : okPk L := hL
 have hl : L.length < 90000 := hL.1
 have hv : RVs [.sl 2 (L.map pg), .c (.s nm)] vs := hv
 have hb : RBs [] bs := hb
 show Sat U _ fun v bs' => RRes (.ret (findG L nm)) v ∧ RBs [] bs'
 unfold r60
 (refine Zq ?_;with_reducible repeat' first|intro _|apply aI)
 refine sLp (fun (i : Nat) vs bs => ∃ (t : Tre Q) (off : Nat), vs = [.str nm.length (code nm), .ptr 0 0, .slice t 2 off L.length .no, .int .i64 L.length, .int .i64 i] ∧ bs = [.cells [.str 0 0, .slice .nil 0 0 0 .exact]] ∧ Rws 2 (L.map pg) t off ∧ i ≤ L.length ∧ findP (L.drop i) nm = findP L nm) (fun i => L.length - i) 0 ⟨_, _, rfl, rfl, by assumption, Nat.zero_le _, rfl⟩ (by simp only [FUEL]; omega) ?_
 rintro self i _ _ ⟨t, off, rfl, rfl, ht, hi, he⟩ ih
 (refine Zq ?_;with_reducible repeat' first|intro _|apply aI)
 ·have hi2 : i < L.length := by omega
  have e : L[i].1 = nm := ‹_›
  unfold findG
  rw [← he, find_yes hi2 e]
  exact sRet ⟨.ret _ _ (.t _ _ (.cons _ _ _ _ (.a _ _ _ rfl (by assumption)) (.cons _ _ _ _ (.kn _) .nil))), .nil⟩
 ·have hi2 : i < L.length := by omega
  have e : ¬ L[i].1 = nm := ‹_›
  exact ih (i + 1) _ _ ⟨_, _, rfl, rfl, ht, by omega, by rw [← he, find_no hi2 e]⟩ (by omega)
 ·unfold findG
  rw [← he, find_end (by omega)]
  exact sRet ⟨.ret _ _ (.t _ _ (.cons _ _ _ _ (.ag _ _ Zrv) (.cons _ _ _ _ (.kn _) .nil))), .nil⟩
def internG (L : List Pk) (c n : Str) : GV := .t [.a (sg (internS L c n).1), .c (.i .i64 (internS L c n).2)]
theorem imp_yes {l : List Sy} {n : Str} {i : Nat} (h : i < l.length) (hn : l[i].2 = n) : impS (l.drop i) n = some l[i] := by
 rw [List.drop_eq_getElem_cons h, impS, if_pos hn]
theorem imp_no {l : List Sy} {n : Str} {i : Nat} (h : i < l.length) (hn : ¬ l[i].2 = n) : impS (l.drop i) n = impS (l.drop (i + 1)) n := by
 rw [List.drop_eq_getElem_cons h, impS, if_neg hn]
theorem imp_end {l : List Sy} {n : Str} {i : Nat} (h : ¬ i < l.length) : impS (l.drop i) n = none := by
 rw [List.drop_eq_nil_of_le (by omega)]; rfl
theorem findP_mem {L : List Pk} {n : Str} {p : Pk} (h : findP L n = some p) : p ∈ L ∧ p.1 = n := by
 induction L with
 | nil => cases h
 | cons q L ih =>
  rw [findP] at h
  split at h
  ·rename_i e; injection h with h; subst h; exact ⟨by simp, e⟩
  ·have := ih h; exact ⟨by simp [this.1], this.2⟩
theorem sg_len (s : Sy) : (sg s).length = 2 := rfl
theorem intern_none {L : List Pk} {c n : Str} (h : findP L c = none) : internS L c n = (([], []), 13) := by unfold internS; rw [h]
theorem intern_bad {L : List Pk} {c n : Str} {p : Pk} (h : findP L c = some p) (hn : n.length < 1 ∨ 40 < n.length) : internS L c n = (([], []), 3) := by unfold internS; rw [h]; simp only []; rw [if_pos hn]
theorem intern_imp {L : List Pk} {c n : Str} {p : Pk} {s : Sy} (h : findP L c = some p) (hn : ¬ (n.length < 1 ∨ 40 < n.length)) (hi : impS p.2 n = some s) : internS L c n = (s, 0) := by unfold internS; rw [h]; simp only []; rw [if_neg hn, hi]
theorem intern_own {L : List Pk} {c n : Str} {p : Pk} (h : findP L c = some p) (hn : ¬ (n.length < 1 ∨ 40 < n.length)) (hi : impS p.2 n = none) : internS L c n = ((c, n), 0) := by unfold internS; rw [h]; simp only []; rw [if_neg hn, hi]
theorem internG_of {L : List Pk} {c n : Str} {r : Sy × Int} (h : internS L c n = r) : internG L c n = .t [.a (sg r.1), .c (.i .i64 r.2)] := by unfold internG; rw [h]
theorem kInternP : Know 106 (spLSS internG) := know (fun fn h => r106_ok h) [(60, _)] (.cons kFindP .nil) fun U fn hfn ⟨(L, cur, nm), hL⟩ vs bs hv hb => by
 have hf := hfn 60 _ rfl
 have hL : okPk L := hL
 have hv : RVs [.sl 2 (L.map pg), .c (.s cur), .c (.s nm)] vs := hv
 have hb : RBs [] bs := hb
 show Sat U _ fun v bs' => RRes (.ret (internG L cur nm)) v ∧ RBs [] bs'
 unfold r106
 (refine Zq ?_;with_reducible repeat' first|intro _|apply aI)
 cases hp : findP L cur with
 | none =>
  refine sCall hf ⟨(L, cur), hL⟩ (r := .t [.a [.s [], .l []], .c (.b false)]) (by show GRes.ret (findG L cur) = _; unfold findG; rw [hp]) (.cons _ _ _ _ (.sl _ _ _ _ _ (by simp) (by assumption)) Zrv) .nil fun _ _ _ _ => ?_
  (refine Zq ?_;with_reducible repeat' first|intro _|apply aI)
  rw [internG_of (intern_none hp)]
  exact sRet ⟨.ret _ _ (.t _ _ (.cons _ _ _ _ (.ag _ _ Zrv) (.cons _ _ _ _ (.i _ _) .nil))), .nil⟩
 | some p =>
  refine sCall hf ⟨(L, cur), hL⟩ (r := .t [.a (pg p), .c (.b true)]) (by show GRes.ret (findG L cur) = _; unfold findG; rw [hp]) (.cons _ _ _ _ (.sl _ _ _ _ _ (by simp) (by assumption)) Zrv) .nil fun _ _ hv9 _ => ?_
  have hv9 : RV (.t [.a [.s p.1, .l (p.2.map sg)], .c (.b true)]) _ := hv9
  have hpl := hL.2 p (findP_mem hp).1
  (refine Zq ?_;with_reducible repeat' first|intro _|apply aI)
  all_goals
   refine sBoR (gs := [.s [], .s []]) (.cells _ _ Zrv) rfl fun _ _ => ?_
   (refine Zq ?_;with_reducible repeat' first|intro _|apply aI)
  ·rw [internG_of (intern_bad hp (.inl (by omega)))]
   exact sRet ⟨.ret _ _ (.t _ _ (.cons _ _ _ _ (.ag _ _ Zrv) (.cons _ _ _ _ (.i _ _) .nil))), .nil⟩
  ·rw [internG_of (intern_bad hp (.inr (by omega)))]
   exact sRet ⟨.ret _ _ (.t _ _ (.cons _ _ _ _ (.ag _ _ Zrv) (.cons _ _ _ _ (.i _ _) .nil))), .nil⟩
  (refine sCSlM (f := sg) (by assumption) (mapLen sg_len) fun _ _ _ => ?_)
  (refine Zq ?_;with_reducible repeat' first|intro _|apply aI)
  have hnm : ¬ (nm.length < 1 ∨ 40 < nm.length) := by omega
  refine sLp (fun (i : Nat) vs bs => ∃ (x q : Q), vs = [.str cur.length (code cur), .str nm.length (code nm), .ptr 0 0, .q x, .int .i64 p.2.length, .int .i64 i] ∧ bs = [.opa q 2] ∧ RG (.l (p.2.map sg)) x ∧ Cel [.s [], .s []] q 0 ∧ i ≤ p.2.length ∧ impS (p.2.drop i) nm = impS p.2 nm) (fun i => p.2.length - i) 0 ⟨_, _, rfl, rfl, by assumption, by assumption, Nat.zero_le _, rfl⟩ (by simp only [FUEL]; omega) ?_
  rintro self i _ _ ⟨x, q, rfl, rfl, hx, hq, hi, he⟩ ih
  (refine Zq ?_;with_reducible repeat' first|intro _|apply aI)
  refine sQV ?_
  (refine Zq ?_;with_reducible repeat' first|intro _|apply aI)
  ·(refine sCSlM (f := sg) (by assumption) (mapLen sg_len) fun _ _ _ => ?_)
   (refine Zq ?_;with_reducible repeat' first|intro _|apply aI)
   ·have hi2 : i < p.2.length := by omega
    have e : p.2[i].2 = nm := ‹_›
    rw [internG_of (intern_imp hp hnm (by rw [← he, imp_yes hi2 e]))]
    exact sRet ⟨.ret _ _ (.t _ _ (.cons _ _ _ _ (.a _ _ _ rfl (by assumption)) (.cons _ _ _ _ (.i _ _) .nil))), .nil⟩
   ·have hi2 : i < p.2.length := by omega
    have e : ¬ p.2[i].2 = nm := ‹_›
    exact ih (i + 1) _ _ ⟨_, _, rfl, rfl, hx, by assumption, by omega, by rw [← he, imp_no hi2 e]⟩ (by omega)
  ·rw [internG_of (intern_own hp hnm (by rw [← he, imp_end (by omega)]))]
   exact sRet ⟨.ret _ _ (.t _ _ (.cons _ _ _ _ (.ag _ _ Zrv) (.cons _ _ _ _ (.i _ _) .nil))), .nil⟩
end
end Go.Proofs.YtffaodopiifbkaaGreatDoor
namespace Go.Proofs.YtffaodopiifbkaaGreatDoor
open Go.Abs LQ
set_option maxRecDepth 100000
set_option maxHeartbeats 4000000
noncomputable section
def tkG (t : Tok) : List G := [.i .i64 t.kind, .i .i64 (t.pos : Int), .s t.pkg, .s t.text, .s t.den]
theorem tkG_len (t : Tok) : (tkG t).length = 5 := rfl
theorem tkG_inj {a b : Tok} (h : tkG a = tkG b) : a = b := by
 obtain ⟨k, p, g, t, d⟩ := a
 obtain ⟨k', p', g', t', d'⟩ := b
 simp only [tkG, List.cons.injEq, G.i.injEq, G.s.injEq, true_and, and_true] at h
 obtain ⟨h1, h2, h3, h4, h5⟩ := h
 have : p = p' := by omega
 rw [h1, this, h3, h4, h5]
theorem tks_inj : ∀ {l m : List Tok}, l.map tkG = m.map tkG → l = m
 | [], [], _ => rfl
 | [], _ :: _, h => by simp at h
 | _ :: _, [], h => by simp at h
 | a :: l, b :: m, h => by simp only [List.map_cons, List.cons.injEq] at h; rw [tkG_inj h.1, tks_inj h.2]
def namedR (t : Tok) : GRes := if namedErr t.text t.pkg true = 0 then .ret (.t []) else failG (namedErr t.text t.pkg true) t.pos
theorem kNamedT (hst : Know 203 spIs) : Know 137 { ι := { t : Tok // t.pkg.length < 90000 }, A := fun t => [.a (tkG t.1)], B := fun _ => [], R := fun t => namedR t.1, B' := fun _ => [], inj := fun i j vs bs h k _ _ => (by
  obtain ⟨_, _, h1, k1, h, k⟩ := h.two k
  rw [tkG_inj (h1.a_inj k1)]; exact ⟨rfl, rfl⟩) } := know (fun fn h => r137_ok h) [(51, _), (163, _)] (.cons kFail (.cons (kValidPackageP hst) .nil)) fun U fn hfn ⟨t, ht⟩ vs bs hv hb => by
 have hf := hfn 51 _ rfl
 have hvp := hfn 163 _ rfl
 have hv : RVs [.a [.i .i64 t.kind, .i .i64 (t.pos : Int), .s t.pkg, .s t.text, .s t.den]] vs := hv
 have hb : RBs [] bs := hb
 show Sat U _ fun v bs' => RRes (namedR t) v ∧ RBs [] bs'
 unfold r137
 have bad : ∀ {e : Int} {vs : List V} {bs : List Bx} {K : V → List Bx → Om} , e ≠ 0 → namedErr t.text t.pkg true = e → RVs [.c (.i .i64 e), .c (.i .i64 (t.pos : Int))] vs → RBs [] bs → Sat U (U.bind (fn 51 vs bs) K fun v => some (.pan (U.rn0 v), [])) fun v bs' => RRes (namedR t) v ∧ RBs [] bs' := fun {e vs bs K} h0 he hv hb => by
  have e1 : namedR t = failG e t.pos := by unfold namedR; rw [he, if_neg h0]
  rw [e1]
  exact sCallP hf (e, (t.pos : Int)) (r := .fl 122 e t.pos) rfl hv hb fun _ hv => sPan hv .nil
 have ok : ∀ {bs : List Bx}, namedErr t.text t.pkg true = 0 → RBs [] bs → Sat U (some (.ret (.tuple []), bs)) fun v bs' => RRes (namedR t) v ∧ RBs [] bs' := fun {bs} he hb => by
  have e1 : namedR t = .ret (.t []) := by unfold namedR; rw [if_pos he]
  rw [e1]
  exact sRet ⟨.ret _ _ (.t _ _ .nil), hb⟩
 (refine Zy ?_;with_reducible repeat' first|intro _|apply aI)
 ·exact bad (by decide) (by unfold namedErr; rw [if_pos (by omega)]) (.cons _ _ _ _ (.i _ _) (.cons _ _ _ _ (.q _ _ (by assumption)) .nil)) .nil
 ·have hl : ¬ 40 < t.text.length := by omega
  refine sJnP (fun vs bs => ∃ b : Bool, RVs [.p 0 0, .c (.b b)] vs ∧ RBs [[.i .i64 t.kind, .i .i64 (t.pos : Int), .s t.pkg, .s t.text, .s t.den]] bs ∧ (b = true ↔ (t.text.length = 0 ∨ (t.pkg.length ≠ 0 ∧ validPkg t.pkg = false)))) ?_ ?_
  ·rintro vs' bs' ⟨b, hv', hb', hbe⟩
   (refine Zq ?_;with_reducible repeat' first|intro _|apply aI)
   ·exact bad (by decide) (by
     unfold namedErr
     rw [if_neg hl, if_pos]
     have := hbe.1 ‹_›
     simpa using this) (.cons _ _ _ _ (.i _ _) (.cons _ _ _ _ (.q _ _ (by assumption)) .nil)) .nil
   ·exact ok (by
     unfold namedErr
     rw [if_neg hl, if_neg]
     intro h
     exact ‹¬ b = true› (hbe.2 (by simpa using h))) .nil
  ·intro c hc
   (refine Zq ?_;with_reducible repeat' first|intro _|apply aI)
   ·have e : t.text = [] := ‹_›
    exact hc _ _ ⟨true, by (exact Zrv), RB.bx (by assumption) rfl, by simp [e]⟩
   ·have e : ¬ t.text = [] := ‹_›
    have e2 : t.pkg = [] := ‹_›
    exact hc _ _ ⟨false, by (exact Zrv), RB.bx (by assumption) rfl, by simp [e, e2]⟩
   ·have e : ¬ t.text = [] := ‹_›
    have e2 : ¬ t.pkg = [] := ‹_›
    refine sCall hvp ⟨t.pkg, ht⟩ (r := .c (.b (validPkg t.pkg))) rfl (.cons _ _ _ _ (.q _ _ (by assumption)) .nil) .nil fun _ _ _ _ => ?_
    (refine Zq ?_;with_reducible repeat' first|intro _|apply aI)
    refine fun e9 => ?_
    subst e9
    exact hc _ _ ⟨!validPkg t.pkg, .cons _ _ _ _ (.p _ _) (.cons _ _ _ _ (rvB (cuNot _).symm) .nil), RB.bx (by assumption) rfl, by simp [e, e2]⟩ rfl
def tokR : Except (Int × Nat) (Tok × Nat) → GRes
 | .ok (t, _) => .ret (.a (tkG t))
 | .error (e, p) => failG e p
def tokB (k : Nat) : Except (Int × Nat) (Tok × Nat) → Nat
 | .ok (_, j) => j
 | .error _ => k
def wdS (s : Str) (i : Nat) (w : Str) (k : Nat) : Except (Int × Nat) (Tok × Nat) := if has s k 58 58 then qualTok s i w k else wordTok i w k
def delS (s : Str) (i : Nat) (by_ : Int) : Except (Int × Nat) (List Int × Nat) := encl s by_ (i + 1) []
def delR : Except (Int × Nat) (List Int × Nat) → GRes
 | .ok (l, _) => .ret (.c (.s (nums l)))
 | .error (e, p) => failG e p
def delB (i : Nat) : Except (Int × Nat) (List Int × Nat) → Nat
 | .ok (_, j) => j
 | .error _ => i
def spDel : Sp where
 ι := { p : ScI × Int // (p.2 = 34 ∨ p.2 = 124) ∧ p.1.1.2 < p.1.1.1.length ∧ p.1.1.1.length < 8000 }
 A p := [.p 0 0, .c (.i .u8 p.1.2)]
 B p := [scG p.1.1.1.1 p.1.1.1.2]
 R p := delR (delS p.1.1.1.1 p.1.1.1.2 p.1.2)
 B' p := [scG p.1.1.1.1 (delB p.1.1.1.2 (delS p.1.1.1.1 p.1.1.1.2 p.1.2))]
 inj i j vs bs hv kv h k := by
  have := scG_inj (RBs.one_inj h k)
  obtain ⟨_, _, _, _, hv, kv⟩ := hv.two kv
  obtain ⟨_, _, h2, k2, _, _⟩ := hv.two kv
  rw [this.1, this.2, i_inj h2 k2]; exact ⟨rfl, rfl⟩
theorem scB {s : Str} {k : Nat} {n : Int} (hn : n = (k : Int)) : RB (scG s k) (.cells [.str s.length (code s), .int .i64 n]) := by
 subst hn
 exact .cells _ _ (.cons _ _ _ _ (.s _ _ _ rfl rfl) (.cons _ _ _ _ (.i _ _) .nil))
def z5 : List G := [.i .i64 0, .i .i64 0, .s [], .s [], .s []]
theorem z5B : RB z5 (.cells [.int .i64 0, .int .i64 0, .str 0 0, .str 0 0, .str 0 0]) := .cells _ _ Zrv
theorem digitsS_dlen (s : Str) : digitsS s = dlen s := by
 unfold digitsS dlen
 by_cases h : (decVal s).natAbs = 0
 ·rw [h, digs_zero]; rfl
 ·rw [showNat_size _ h, digs_pos h]; simp
theorem zero_one (l : Str) : Lib.trimS l [48] = [] ↔ ∀ j, j < l.length → bt l j = 48 := by
 rw [trim_all]
 constructor
 ·intro h j hj
  have := h l[j] (List.getElem_mem hj)
  simp only [List.contains_cons, List.contains_nil, Bool.or_false, beq_iff_eq] at this
  unfold bt; simp [List.getD, List.getElem?_eq_getElem hj, this]
 ·intro h b hb
  obtain ⟨j, hj, rfl⟩ := List.getElem_of_mem hb
  have := h j hj
  unfold bt at this
  simp only [List.getD, List.getElem?_eq_getElem hj, Option.getD_some] at this
  simp only [List.contains_cons, List.contains_nil, Bool.or_false, beq_iff_eq]
  exact UInt8.toNat_inj.1 (by show _ = 48; omega)
theorem zeroEnd_all {s : Str} {a : Nat} (ha : a ≤ s.length) : zeroEnd s a = s.length ↔ ∀ j, a ≤ j → j < s.length → bt s j = 48 := by
 fun_induction zeroEnd s a with
 | case1 a h1 h2 ih =>
  rw [ih (by omega)]
  constructor
  ·intro h j h3 h4
   by_cases hj : j = a
   ·subst hj; exact h2
   ·exact h j (by omega) h4
  ·intro h j h3 h4; exact h j (by omega) h4
 | case2 a h1 h2 => exact ⟨fun h => by omega, fun h => absurd (h a (Nat.le_refl _) h1) h2⟩
 | case3 a h1 => exact ⟨fun _ j h3 h4 => by omega, fun _ => by omega⟩
theorem plain_zero {l : Str} (h : cipherS l = true) : Lib.trimS l [48] = [] ↔ plain l = zeroStr := by
 unfold cipherS at h
 obtain ⟨h0, h1⟩ := of_decide_eq_true h
 rw [digEnd_iff (Nat.zero_le _)] at h1
 have hl := List.length_pos_iff.2 h0
 have hs : signLen l = 0 := by
  unfold signLen; rw [if_neg]; rintro ⟨_, h2⟩; have := h1 0 (Nat.le_refl _) hl; omega
 have hz := zeroEnd_le l 0 (Nat.zero_le _)
 rw [zero_one]
 unfold plain
 simp only [hs, List.take_length]
 rw [show (∀ j, j < l.length → bt l j = 48) ↔ zeroEnd l 0 = l.length by rw [zeroEnd_all (Nat.zero_le _)]; exact ⟨fun h j _ => h j, fun h j => h j (Nat.zero_le _)⟩]
 by_cases he : zeroEnd l 0 = l.length
 ·rw [if_pos he]; exact ⟨fun _ => rfl, fun _ => he⟩
 ·rw [if_neg he, if_neg (by decide)]
  refine ⟨fun h => absurd h he, fun h => ?_⟩
  exfalso
  have hst : ∀ a, zeroEnd l a < l.length → bt l (zeroEnd l a) ≠ 48 := by
   intro a
   fun_induction zeroEnd l a with
   | case1 a h1 h2 ih => exact ih
   | case2 a h1 h2 => intro _ h; exact h2 h
   | case3 a h1 => intro h; exact absurd h h1
  have h2 := hst 0 (by omega)
  have h3 : bt (l.drop (zeroEnd l 0)) 0 = bt zeroStr 0 := by rw [h]
  rw [bt_drop] at h3
  exact h2 h3
theorem numeral_cipher {w : Str} (h : (numeral w).2.2 = true) : (numeral w).1 = (numP w).1 ∧ (numeral w).2.1 = (numP w).2 ∧ cipherS (numP w).2 = true := by
 obtain ⟨h1, h2⟩ := numeral_is w
 obtain ⟨a, b⟩ := h2 h
 rw [h] at h1
 simp only [Bool.and_eq_true] at h1
 exact ⟨a, b, h1.2⟩
end
end Go.Proofs.YtffaodopiifbkaaGreatDoor
