/- Terms as typed data; the reference's terms and bindings. -/
import Derived.Test.YtccafnaghnbpeaaGreatDoorCR5e
set_option linter.all false
namespace Go.Proofs.YtccafnaghnbpeaaGreatDoor
open Go.Abs LQ
set_option maxRecDepth 100000
set_option maxHeartbeats 4000000
noncomputable section
inductive T where
 | v (s : Sy)
 | c (o : O)
 | call (f : Sy) (args : List T)
mutual
def T.g : T → List G
 | .v s => [.i .i64 1, .s s.1, .s s.2, .i .i64 0, .s [], .s [], .s [], .s [], .s [], .l [], .l []]
 | .c o => [.i .i64 2, .s [], .s [], .i .i64 o.k, .s o.nu, .s o.de, .s o.sym.1, .s o.sym.2, .s o.txt, .l (o.ps.map O.g), .l []]
 | .call f args => [.i .i64 3, .s f.1, .s f.2, .i .i64 0, .s [], .s [], .s [], .s [], .s [], .l [], .l (T.gs args)]
def T.gs : List T → List (List G)
 | [] => []
 | t :: ts => t.g :: T.gs ts
end
theorem T.gs_eq : ∀ l : List T, T.gs l = l.map T.g
 | [] => rfl
 | t :: ts => by rw [T.gs, T.gs_eq ts]; rfl
theorem T.g_len (t : T) : t.g.length = 11 := by cases t <;> rfl
mutual
theorem T.g_inj : ∀ {a b : T}, a.g = b.g → a = b
 | .v s, b, h => by
  cases b with
  | v r =>
   simp only [T.g, List.cons.injEq, G.s.injEq] at h
   exact congrArg T.v (Prod.ext h.2.1 h.2.2.1)
  | c o => simp only [T.g, List.cons.injEq, G.i.injEq] at h; exact absurd h.1.2 (by decide)
  | call f l => simp only [T.g, List.cons.injEq, G.i.injEq] at h; exact absurd h.1.2 (by decide)
 | .c o, b, h => by
  cases b with
  | v r => simp only [T.g, List.cons.injEq, G.i.injEq] at h; exact absurd h.1.2 (by decide)
  | c p =>
   refine congrArg T.c (O.g_inj ?_)
   rw [o.g_eq, p.g_eq]
   simp only [T.g, List.cons.injEq] at h ⊢
   obtain ⟨_, _, _, h1, h2, h3, h4, h5, h6, h7, _⟩ := h
   exact ⟨h1, h2, h3, h4, h5, h6, h7, trivial⟩
  | call f l => simp only [T.g, List.cons.injEq, G.i.injEq] at h; exact absurd h.1.2 (by decide)
 | .call f l, b, h => by
  cases b with
  | v r => simp only [T.g, List.cons.injEq, G.i.injEq] at h; exact absurd h.1.2 (by decide)
  | c p => simp only [T.g, List.cons.injEq, G.i.injEq] at h; exact absurd h.1.2 (by decide)
  | call f' l' =>
   simp only [T.g, List.cons.injEq, G.s.injEq, G.l.injEq] at h
   obtain ⟨_, h1, h2, _, _, _, _, _, _, _, h3, _⟩ := h
   rw [T.gs_inj h3, show f = f' from Prod.ext h1 h2]
theorem T.gs_inj : ∀ {a b : List T}, T.gs a = T.gs b → a = b
 | [], b, h => by
  cases b with
  | nil => rfl
  | cons x y => simp [T.gs] at h
 | t :: ts, b, h => by
  cases b with
  | nil => simp [T.gs] at h
  | cons x y =>
   simp only [T.gs, List.cons.injEq] at h
   rw [T.g_inj h.1, T.gs_inj h.2]
end
theorem kConst : Know 40 (spO fun a => .a (T.c a).g) := know (fun fn h => r40_ok h) [] .nil fun U fn hfn a vs bs hv hb => by
 have hv : RVs [.a a.g] vs := hv
 have hb : RBs [] bs := hb
 show Sat U _ fun v bs' => RRes (.ret (.a (T.c a).g)) v ∧ RBs [] bs'
 unfold r40
 rw [a.g_eq] at hv
 (refine Zz ?_;with_reducible repeat' first|intro _|apply aI)
 exact sRetU fun e => by subst e; exact ⟨.ret _ _ (by (exact Zru)), .nil⟩
def spApp : Sp where
 ι := Sy × List T
 A p := [.a (sg p.1), .sl 11 (p.2.map T.g)]
 B _ := []
 R p := .ret (.a (T.call p.1 p.2).g)
 B' _ := []
 inj i j vs bs h k _ _ := by
  obtain ⟨_, _, h1, k1, h, k⟩ := h.two k
  obtain ⟨_, _, h2, k2, h, k⟩ := h.two k
  have e1 := sg_inj (h1.a_inj k1)
  have e2 := h2.sl_inj k2
  rw [← T.gs_eq, ← T.gs_eq] at e2
  have e3 := T.gs_inj e2
  rw [e1, e3]; exact ⟨rfl, rfl⟩
theorem kApp : Know 42 spApp := know (fun fn h => r42_ok h) [] .nil fun U fn hfn ⟨f, l⟩ vs bs hv hb => by
 have hv : RVs [.a [.s f.1, .s f.2], .sl 11 (l.map T.g)] vs := hv
 have hb : RBs [] bs := hb
 show Sat U _ fun v bs' => RRes (.ret (.a (T.call f l).g)) v ∧ RBs [] bs'
 unfold r42
 (refine Zz ?_;with_reducible repeat' first|intro _|apply aI)
 refine sRetU fun e => ?_
 subst e
 refine ⟨.ret _ _ (.ag _ _ ?_), .nil⟩
 simp only [T.g, T.gs_eq, List.map_cons, List.map_nil]
 refine .cons _ _ _ _ (.i _ _) (.cons _ _ _ _ (.q _ _ (Cel.at (by assumption) rfl)) (.cons _ _ _ _ (.q _ _ (Cel.at (by assumption) rfl)) (.cons _ _ _ _ (.i _ _) (.cons _ _ _ _ (.s _ _ _ rfl rfl) (.cons _ _ _ _ (.s _ _ _ rfl rfl) (.cons _ _ _ _ (.s _ _ _ rfl rfl) (.cons _ _ _ _ (.s _ _ _ rfl rfl) (.cons _ _ _ _ (.s _ _ _ rfl rfl) (.cons _ _ _ _ (.cl _ _ _ _ _ rfl (Rws.nil _ _ _)) (.cons _ _ _ _ (.cl _ _ _ _ _ (by simp) (by assumption)) .nil))))))))))
theorem kIsNil11 : Know 76 (spO fun a => .c (.b (O.eqb a nilO))) := know (fun fn h => r76_ok h) [] .nil fun U fn hfn a vs bs hv hb => by
 have hv : RVs [.a a.g] vs := hv
 have hb : RBs [] bs := hb
 show Sat U _ fun v bs' => RRes (.ret (.c (.b (O.eqb a nilO)))) v ∧ RBs [] bs'
 unfold r76
 rw [a.g_eq] at hv
 cases a with
 | sy s =>
  simp only [O.k, O.nu, O.de, O.sym, O.txt, O.ps] at hv
  (refine Zz ?_;with_reducible repeat' first|intro _|apply aI)
  ·refine sRetU fun e => ?_
   subst e
   refine ⟨.ret _ _ (rvB ?_), .nil⟩
   rw [cuSL]
   have h1 : s.1 = lispS := ‹s.1 = dec 4 1886611820›
   have e2 : dec 3 7104878 = [110, 105, 108] := rfl
   rw [e2]
   by_cases h : s.2 = [110, 105, 108]
   ·rw [decide_eq_true h]; exact O.eqb_t.2 (congrArg O.sy (Prod.ext h1 h))
   ·rw [decide_eq_false h]; exact O.eqb_f.2 fun k => h (by injection k with k; rw [k])
  ·exact sRet ⟨.ret _ _ (rvK (O.eqb_f.2 fun k => by injection k with k; exact absurd (congrArg Prod.fst k) ‹¬ s.1 = dec 4 1886611820›)), .nil⟩
 | _ =>
  simp only [O.k, O.nu, O.de, O.sym, O.txt, O.ps] at hv
  (refine Zz ?_;with_reducible repeat' first|intro _|apply aI)
  all_goals exact sRet ⟨.ret _ _ (rvK (O.eqb_f.2 fun k => by cases k)), .nil⟩
def bd (b : Sy × O) : List G := [.s b.1.1, .s b.1.2, .i .i64 b.2.k, .s b.2.nu, .s b.2.de, .s b.2.sym.1, .s b.2.sym.2, .s b.2.txt, .l (b.2.ps.map O.g)]
theorem bd_inj {a b : Sy × O} (h : bd a = bd b) : a = b := by
 simp only [bd, List.cons.injEq, G.s.injEq] at h
 obtain ⟨h1, h2, h3⟩ := h
 refine Prod.ext (Prod.ext h1 h2) (O.g_inj ?_)
 rw [a.2.g_eq, b.2.g_eq]
 simp only [List.cons.injEq, G.s.injEq]
 exact h3
theorem mapbd_inj : ∀ {l m : List (Sy × O)}, l.map bd = m.map bd → l = m
 | [], [], _ => rfl
 | [], _ :: _, h => by simp at h
 | _ :: _, [], h => by simp at h
 | a :: l, b :: m, h => by simp only [List.map_cons, List.cons.injEq] at h; exact congr (congrArg List.cons (bd_inj h.1)) (mapbd_inj h.2)
def valOf : List (Sy × O) → Sy → Option O
 | [], _ => none
 | b :: l, s => if b.1 = s then some b.2 else valOf l s
def spValue : Sp where
 ι := { p : List (Sy × O) × Sy // p.1.length < 90000 }
 A p := [.sl 9 (p.1.1.map bd), .a (sg p.1.2)]
 B _ := []
 R p := .ret (match valOf p.1.1 p.1.2 with
  | some o => .t [.a o.g, .c (.b true)]
  | none => .t [.a O.no.g, .c (.b false)])
 B' _ := []
 inj i j vs bs h k _ _ := by
  obtain ⟨_, _, h1, k1, h, k⟩ := h.two k
  obtain ⟨_, _, h2, k2, h, k⟩ := h.two k
  rw [mapbd_inj (h1.sl_inj k1), sg_inj (h2.a_inj k2)]; exact ⟨rfl, rfl⟩
theorem kValue : Know 73 spValue := know (fun fn h => r73_ok h) [] .nil fun U fn hfn ⟨(l, s), hl⟩ vs bs hv hb => by
 have hl : l.length < 90000 := hl
 have hv : RVs [.sl 9 (l.map bd), .a [.s s.1, .s s.2]] vs := hv
 have hb : RBs [] bs := hb
 show Sat U _ fun v bs' => RRes (.ret (match valOf l s with
  | some o => .t [.a o.g, .c (.b true)]
  | none => .t [.a O.no.g, .c (.b false)])) v ∧ RBs [] bs'
 unfold r73
 (refine Zz ?_;with_reducible repeat' first|intro _|apply aI)
 refine sLp (fun (i : Nat) vs bs => ∃ (t : Tre Q) (off : Nat) (q : Q), vs = [.slice t 9 off l.length .no, .ptr 0 0, .ptr 1 0, .int .i64 i] ∧ bs = [.opa q 2, .cells [.int .i64 0, .str 0 0, .str 0 0, .str 0 0, .str 0 0, .str 0 0, .slice .nil 0 0 0 .exact]] ∧ Cel [.s s.1, .s s.2] q 0 ∧ Rws 9 (l.map bd) t off ∧ i ≤ l.length ∧ valOf (l.drop i) s = valOf l s) (fun i => l.length - i) 0
  ⟨_, _, _, rfl, rfl, by assumption, by assumption, by omega, rfl⟩ (by simp only [FUEL]; omega) ?_
 rintro self i _ _ ⟨t, off, q, rfl, rfl, hq, ht, hi, he⟩ ih
 (refine Zz ?_;with_reducible repeat' first|intro _|apply aI)
 ·rw [List.drop_eq_getElem_cons (by omega : i < l.length), valOf, if_pos (Prod.ext (‹_ ∧ _ ∧ True›).1 (‹_ ∧ _ ∧ True›).2.1)] at he
  rw [← he]
  exact sRet ⟨.ret _ _ (.t _ _ (.cons _ _ _ _ (.a _ _ _ (O.g_len _).symm (by rw [O.g_eq]; exact (by assumption : Cel (List.drop 2 (bd l[i])) _ 0))) (.cons _ _ _ _ (.kn _) .nil))), .nil⟩
 ·rw [List.drop_eq_getElem_cons (by omega : i < l.length), valOf, if_neg (fun h => ‹¬ (_ ∧ _ ∧ True)› ⟨congrArg Prod.fst h, congrArg Prod.snd h, trivial⟩)] at he
  exact ih (i + 1) _ _ ⟨_, _, _, by simp, rfl, hq, ht, by omega, he⟩ (by omega)
 ·have ei : i = l.length := by omega
  rw [ei, List.drop_length] at he
  rw [← he]
  exact sRet ⟨.ret _ _ (.t _ _ (.cons _ _ _ _ (.ag _ _ (by (exact Zru))) (.cons _ _ _ _ (.kn _) .nil))), .nil⟩
end
end Go.Proofs.YtccafnaghnbpeaaGreatDoor
