/- Worlds as typed data: the functions of a world. -/
import Derived.Test.YtccafnaghnbpeaaGreatDoorCR7
set_option linter.all false
namespace Go.Proofs.YtccafnaghnbpeaaGreatDoor
open Go.Abs LQ
set_option maxRecDepth 100000
set_option maxHeartbeats 4000000
noncomputable section
structure F where
 nm : Sy
 ps : List Sy
 cl : Int
 gd : T
 bo : T
 me : Fin 11 → G
def F.mg (f : F) : List G := [f.me 0, f.me 1, f.me 2, f.me 3, f.me 4, f.me 5, f.me 6, f.me 7, f.me 8, f.me 9, f.me 10]
def F.g (f : F) : List G := .s f.nm.1 :: .s f.nm.2 :: .l (f.ps.map sg) :: .i .i64 f.cl :: (f.gd.g ++ (f.bo.g ++ f.mg))
theorem F.g_len (f : F) : f.g.length = 37 := by simp [F.g, F.mg, T.g_len]
theorem F.g_inj {a b : F} (h : a.g = b.g) : a = b := by
 simp only [F.g, List.cons.injEq, G.s.injEq, G.l.injEq, G.i.injEq] at h
 obtain ⟨h1, h2, h3, ⟨_, h4⟩, h5⟩ := h
 have k1 := List.append_inj h5 (by rw [T.g_len, T.g_len])
 have k2 := List.append_inj k1.2 (by rw [T.g_len, T.g_len])
 have e1 : a.nm = b.nm := Prod.ext h1 h2
 have e2 := mapsg_inj h3
 have e3 := T.g_inj k1.1
 have e4 := T.g_inj k2.1
 have e5 : a.me = b.me := by
  have h := k2.2
  simp only [F.mg, List.cons.injEq, and_true] at h
  obtain ⟨h0, h1, h2, h3, h4, h5, h6, h7, h8, h9, h10⟩ := h
  funext ⟨i, hi⟩
  match i, hi with
  | 0, _ => exact h0
  | 1, _ => exact h1
  | 2, _ => exact h2
  | 3, _ => exact h3
  | 4, _ => exact h4
  | 5, _ => exact h5
  | 6, _ => exact h6
  | 7, _ => exact h7
  | 8, _ => exact h8
  | 9, _ => exact h9
  | 10, _ => exact h10
 cases a; cases b
 simp only at e1 e2 e3 e4 e5 h4
 subst e1 e2 e3 e4 e5 h4
 rfl
theorem mapF_inj : ∀ {l m : List F}, l.map F.g = m.map F.g → l = m
 | [], [], _ => rfl
 | [], _ :: _, h => by simp at h
 | _ :: _, [], h => by simp at h
 | a :: l, b :: m, h => by simp only [List.map_cons, List.cons.injEq] at h; exact congr (congrArg List.cons (F.g_inj h.1)) (mapF_inj h.2)
structure Et where
 kd : Int
 nm : Sy
 pre : Fin 17 → G
 fns : List F
 post : Fin 11 → G
def Et.g (e : Et) : List G := [.i .i64 e.kd, .s e.nm.1, .s e.nm.2, e.pre 0, e.pre 1, e.pre 2, e.pre 3, e.pre 4, e.pre 5, e.pre 6, e.pre 7, e.pre 8, e.pre 9, e.pre 10, e.pre 11, e.pre 12, e.pre 13, e.pre 14, e.pre 15, e.pre 16, .l (e.fns.map F.g), e.post 0, e.post 1, e.post 2, e.post 3, e.post 4, e.post 5, e.post 6, e.post 7, e.post 8, e.post 9, e.post 10]
theorem Et.g_len (e : Et) : e.g.length = 32 := rfl
theorem Et.g_key {a b : Et} (h : a.g = b.g) : a.kd = b.kd ∧ a.fns = b.fns := by
 have h0 : (a.g)[0]? = (b.g)[0]? := by rw [h]
 have h1 : (a.g)[20]? = (b.g)[20]? := by rw [h]
 have k0 : some (G.i .i64 a.kd) = some (G.i .i64 b.kd) := h0
 have k1 : some (G.l (a.fns.map F.g)) = some (G.l (b.fns.map F.g)) := h1
 injection k0 with k0
 injection k0 with _ k0
 injection k1 with k1
 injection k1 with k1
 exact ⟨k0, mapF_inj k1⟩
def Et.has (e : Et) : Bool := decide (e.kd = 3) || decide (e.kd = 5) || decide (e.kd = 6) || decide (e.kd = 7)
def Et.fl (e : Et) : List F := if e.has then e.fns else []
theorem Et.fl_key {a b : Et} (h : a.g = b.g) : a.fl = b.fl := by
 have k := Et.g_key h
 unfold Et.fl Et.has
 rw [k.1, k.2]
def spEt (g : List F → GV) : Sp where
 ι := Et
 A e := [.a e.g]
 B _ := []
 R e := .ret (g e.fl)
 B' _ := []
 inj i j vs bs h k _ _ := by
  obtain ⟨_, _, h1, k1, h, k⟩ := h.two k
  rw [Et.fl_key (h1.a_inj k1)]; exact ⟨rfl, rfl⟩
theorem kFunctions : Know 34 (spEt fun l => .sl 37 (l.map F.g)) := know (fun fn h => r34_ok h) [] .nil fun U fn hfn (e : Et) vs bs hv hb => by
 have hv : RVs [.a e.g] vs := hv
 have hb : RBs [] bs := hb
 show Sat U _ fun v bs' => RRes (.ret (.sl 37 (e.fl.map F.g))) v ∧ RBs [] bs'
 unfold r34
 unfold Et.g at hv
 (refine Zz ?_;with_reducible repeat' first|intro _|apply aI)
 ·have e1 : e.fl = e.fns := if_pos (by simp [Et.has, *])
  rw [e1]
  exact sRet ⟨.ret _ _ (.slq _ _ _ (by assumption) (mapLen F.g_len)), .nil⟩
 ·have e1 : e.fl = e.fns := if_pos (by simp [Et.has, *])
  rw [e1]
  exact sRet ⟨.ret _ _ (.slq _ _ _ (by assumption) (mapLen F.g_len)), .nil⟩
 ·have e1 : e.fl = e.fns := if_pos (by simp [Et.has, *])
  rw [e1]
  exact sRet ⟨.ret _ _ (.slq _ _ _ (by assumption) (mapLen F.g_len)), .nil⟩
 ·have e1 : e.fl = e.fns := if_pos (by simp [Et.has, *])
  rw [e1]
  exact sRet ⟨.ret _ _ (.slq _ _ _ (by assumption) (mapLen F.g_len)), .nil⟩
 ·have e1 : e.fl = [] := if_neg (by simp [Et.has, *])
  rw [e1]
  exact sRet ⟨.ret _ _ (.sl0 _ _ _), .nil⟩
def plF : List F → Sy → Option Nat
 | [], _ => none
 | f :: l, s => if f.nm = s then some 0 else (plF l s).map (· + 1)
def plE : List (List F) → Sy → Option (Nat × Nat)
 | [], _ => none
 | l :: w, s => match plF l s with
  | some k => some (0, k)
  | none => (plE w s).map fun p => (p.1 + 1, p.2)
theorem plF_lt : ∀ {l : List F} {s : Sy} {k : Nat}, plF l s = some k → k < l.length
 | [], _, _, h => by cases h
 | f :: l, s, k, h => by
  rw [plF] at h
  split at h
  ·injection h with h; subst h; simp
  ·cases e : plF l s with
   | none => rw [e] at h; cases h
   | some j =>
    rw [e] at h
    simp only [Option.map_some, Option.some.injEq] at h
    have := plF_lt e
    simp; omega
theorem plE_lt : ∀ {w : List (List F)} {s : Sy} {i k : Nat}, plE w s = some (i, k) → ∃ h : i < w.length, k < w[i].length
 | [], _, _, _, h => by cases h
 | l :: w, s, i, k, h => by
  rw [plE] at h
  split at h
  ·rename_i j e
   injection h with h
   injection h with h1 h2
   subst h1 h2
   exact ⟨by simp, plF_lt e⟩
  ·cases e : plE w s with
   | none => rw [e] at h; cases h
   | some p =>
    rw [e] at h
    injection h with h
    injection h with h1 h2
    obtain ⟨k1, k2⟩ := plE_lt (i := p.1) (k := p.2) e
    subst h1 h2
    exact ⟨by simp; omega, k2⟩
def okP (o : Option (Nat × Nat)) : GV := match o with
 | some p => .t [.c (.i .i64 p.1), .c (.i .i64 p.2), .c (.b true)]
 | none => .t [.c (.i .i64 0), .c (.i .i64 0), .c (.b false)]
abbrev Wd := { w : List Et // w.length < 90000 ∧ ∀ e ∈ w, e.fl.length < 90000 }
def Wd.L (w : Wd) : List (List F) := w.1.map Et.fl
theorem mapEt_key : ∀ {l m : List Et}, l.map Et.g = m.map Et.g → l.map Et.fl = m.map Et.fl
 | [], [], _ => rfl
 | [], _ :: _, h => by simp at h
 | _ :: _, [], h => by simp at h
 | a :: l, b :: m, h => by
  simp only [List.map_cons, List.cons.injEq] at h
  rw [List.map_cons, List.map_cons, Et.fl_key h.1, mapEt_key h.2]
def spWS (g : List (List F) → Sy → GV) : Sp where
 ι := Wd × Sy
 A p := [.sl 32 (p.1.1.map Et.g), .a (sg p.2)]
 B _ := []
 R p := .ret (g p.1.L p.2)
 B' _ := []
 inj i j vs bs h k _ _ := by
  obtain ⟨_, _, h1, k1, h, k⟩ := h.two k
  obtain ⟨_, _, h2, k2, h, k⟩ := h.two k
  rw [Wd.L, Wd.L, mapEt_key (h1.sl_inj k1), sg_inj (h2.a_inj k2)]; exact ⟨rfl, rfl⟩
theorem kPlace : Know 33 (spWS fun L s => okP (plE L s)) := know (fun fn h => r33_ok h) [(34, _)] (.cons kFunctions .nil) fun U fn hfn ⟨⟨w, hw, hwl⟩, s⟩ vs bs hv hb => by
 have hf := hfn 34 _ rfl
 have hv : RVs [.sl 32 (w.map Et.g), .a [.s s.1, .s s.2]] vs := hv
 have hb : RBs [] bs := hb
 show Sat U _ fun v bs' => RRes (.ret (okP (plE (w.map Et.fl) s))) v ∧ RBs [] bs'
 unfold r33
 (refine Zz ?_;with_reducible repeat' first|intro _|apply aI)
 refine sLp (fun (i : Nat) vs bs => ∃ (t : Tre Q) (off : Nat) (q : Q), vs = [.slice t 32 off w.length .no, .ptr 0 0, .int .i64 i] ∧ bs = [.opa q 2] ∧ Cel [.s s.1, .s s.2] q 0 ∧ Rws 32 (w.map Et.g) t off ∧ i ≤ w.length ∧ plE (w.map Et.fl) s = (plE ((w.drop i).map Et.fl) s).map fun p => (p.1 + i, p.2)) (fun i => w.length - i) 0
  ⟨_, _, _, rfl, rfl, by assumption, by assumption, by omega, by simp⟩ (by simp only [FUEL]; omega) ?_
 rintro self i _ _ ⟨t, off, q, rfl, rfl, hq, ht, hi, he⟩ ih
 (refine Zz ?_;with_reducible repeat' first|intro _|apply aI)
 ·refine sCall hf w[i] (r := .sl 37 (w[i].fl.map F.g)) rfl Zrv .nil fun _ _ _ _ => ?_
  have hl : w[i].fl.length < 90000 := hwl _ (List.getElem_mem _)
  have hiw : i < w.length := by omega
  have hd := List.drop_eq_getElem_cons hiw
  generalize w[i] = e at *
  (refine Zz ?_;with_reducible repeat' first|intro _|apply aI)
  refine sLp (fun (k : Nat) vs bs => ∃ (t : Tre Q) (off : Nat) (t2 : Tre Q) (off2 : Nat) (q : Q), vs = [.slice t 32 off w.length .no, .ptr 0 0, .int .i64 i, .slice t2 37 off2 e.fl.length .no, .int .i64 k] ∧ bs = [.opa q 2] ∧ Cel [.s s.1, .s s.2] q 0 ∧ Rws 32 (w.map Et.g) t off ∧ Rws 37 (e.fl.map F.g) t2 off2 ∧ k ≤ e.fl.length ∧ plF e.fl s = (plF (e.fl.drop k) s).map (· + k)) (fun k => e.fl.length - k) 0
   ⟨_, _, _, _, _, rfl, rfl, by assumption, by assumption, by assumption, by omega, by simp⟩ (by simp only [FUEL]; omega) ?_
  rintro self2 k _ _ ⟨t, off, t2, off2, q, rfl, rfl, hq, ht, ht2, hk, hke⟩ ih2
  (refine Zz ?_;with_reducible repeat' first|intro _|apply aI)
  ·rw [List.drop_eq_getElem_cons (by omega : k < e.fl.length), plF, if_pos (Prod.ext (‹_ ∧ _ ∧ True›).1 (‹_ ∧ _ ∧ True›).2.1)] at hke
   have hk2 : plF e.fl s = some k := by rw [hke]; simp
   have he2 : plE (w.map Et.fl) s = some (i, k) := by rw [he, hd, List.map_cons, plE, hk2]; simp
   rw [he2]
   exact sRet ⟨.ret _ _ (.t _ _ (.cons _ _ _ _ (.i _ _) (.cons _ _ _ _ (.i _ _) (.cons _ _ _ _ (.kn _) .nil)))), .nil⟩
  ·rw [List.drop_eq_getElem_cons (by omega : k < e.fl.length), plF, if_neg (fun h => ‹¬ (_ ∧ _ ∧ True)› ⟨congrArg Prod.fst h, congrArg Prod.snd h, trivial⟩), Option.map_map] at hke
   exact ih2 (k + 1) _ _ ⟨_, _, _, _, _, by simp, rfl, hq, ht, ht2, by omega, by rw [hke]; exact congrArg (fun f => Option.map f _) (funext fun x => by simp only [Function.comp]; omega)⟩ (by omega)
  ·have ek : k = e.fl.length := by omega
   rw [ek, List.drop_length] at hke
   have hk2 : plF e.fl s = none := by rw [hke]; rfl
   refine ih (i + 1) _ _ ⟨_, _, _, by simp, rfl, hq, ht, by omega, ?_⟩ (by omega)
   rw [he, hd, List.map_cons, plE, hk2]
   simp only [Option.map_map]
   congr
   funext x
   simp; omega
 ·have ei : i = w.length := by omega
  rw [ei, List.drop_length] at he
  have he2 : plE (w.map Et.fl) s = none := by rw [he]; rfl
  rw [he2]
  exact sRet ⟨.ret _ _ (.t _ _ (.cons _ _ _ _ (.i _ _) (.cons _ _ _ _ (.i _ _) (.cons _ _ _ _ (.kn _) .nil)))), .nil⟩
def fnd (L : List (List F)) (s : Sy) : Option F := match plE L s with
 | some p => (L[p.1]?).bind fun l => l[p.2]?
 | none => none
def zF : List G := [.s [], .s [], .l [], .i .i64 0, .i .i64 0, .s [], .s [], .i .i64 0, .s [], .s [], .s [], .s [], .s [], .l [], .l [], .i .i64 0, .s [], .s [], .i .i64 0, .s [], .s [], .s [], .s [], .s [], .l [], .l [], .i .i64 0, .s [], .s [], .i .i64 0, .s [], .s [], .s [], .s [], .s [], .l [], .l []]
def okF (o : Option F) : GV := match o with
 | some f => .t [.a f.g, .c (.b true)]
 | none => .t [.a zF, .c (.b false)]
theorem kFunction : Know 16 (spWS fun L s => okF (fnd L s)) := know (fun fn h => r16_ok h) [(34, _), (33, _)] (.cons kFunctions (.cons kPlace .nil)) fun U fn hfn ⟨⟨w, hw, hwl⟩, s⟩ vs bs hv hb => by
 have hf := hfn 34 _ rfl
 have hp := hfn 33 _ rfl
 have hv : RVs [.sl 32 (w.map Et.g), .a [.s s.1, .s s.2]] vs := hv
 have hb : RBs [] bs := hb
 show Sat U _ fun v bs' => RRes (.ret (okF (fnd (w.map Et.fl) s))) v ∧ RBs [] bs'
 unfold r16
 (refine Zz ?_;with_reducible repeat' first|intro _|apply aI)
 cases e : plE (w.map Et.fl) s with
 | none =>
  rw [(by rw [fnd, e] : fnd (w.map Et.fl) s = none)]
  refine sCall hp (⟨w, hw, hwl⟩, s) (r := .t [.c (.i .i64 0), .c (.i .i64 0), .c (.b false)]) (by show GRes.ret (okP (plE (w.map Et.fl) s)) = _; rw [e]; rfl) Zrv .nil fun _ _ _ _ => ?_
  (refine Zz ?_;with_reducible repeat' first|intro _|apply aI)
  exact sRet ⟨.ret _ _ (.t _ _ (.cons _ _ _ _ (.ag _ _ (by (exact Zru))) (.cons _ _ _ _ (.kn _) .nil))), .nil⟩
 | some p =>
  obtain ⟨i, k⟩ := p
  obtain ⟨k1, k2⟩ := plE_lt e
  simp only [List.getElem_map] at k2
  rw [List.length_map] at k1
  rw [(by rw [fnd, e]; simp [k1, k2] : fnd (w.map Et.fl) s = some (w[i].fl)[k])]
  refine sCall hp (⟨w, hw, hwl⟩, s) (r := .t [.c (.i .i64 i), .c (.i .i64 k), .c (.b true)]) (by show GRes.ret (okP (plE (w.map Et.fl) s)) = _; rw [e]; rfl) Zrv .nil fun _ _ _ _ => ?_
  (refine Zz ?_;with_reducible repeat' first|intro _|apply aI)
  refine sCall hf w[i] (r := .sl 37 (w[i].fl.map F.g)) rfl Zrv .nil fun _ _ _ _ => ?_
  generalize w[i] = e at *
  (refine Zz ?_;with_reducible repeat' first|intro _|apply aI)
  exact sRet ⟨.ret _ _ (.t _ _ (.cons _ _ _ _ (.a _ _ _ (F.g_len _).symm (by assumption)) (.cons _ _ _ _ (.kn _) .nil))), .nil⟩
def okA (L : List (List F)) (s : Sy) : GV := okI (match primOf s with
 | some n => some n
 | none => (fnd L s).map fun f => (f.ps.length : Int))
theorem kArity10 : Know 74 (spWS okA) := know (fun fn h => r74_ok h) [(75, _), (16, _)] (.cons kArity7 (.cons kFunction .nil)) fun U fn hfn ⟨⟨w, hw, hwl⟩, s⟩ vs bs hv hb => by
 have ha := hfn 75 _ rfl
 have hf := hfn 16 _ rfl
 have hv : RVs [.sl 32 (w.map Et.g), .a [.s s.1, .s s.2]] vs := hv
 have hb : RBs [] bs := hb
 show Sat U _ fun v bs' => RRes (.ret (okA (w.map Et.fl) s)) v ∧ RBs [] bs'
 unfold r74
 (refine Zz ?_;with_reducible repeat' first|intro _|apply aI)
 cases e : primOf s with
 | some n =>
  rw [(by rw [okA, e]; rfl : okA (w.map Et.fl) s = .t [.c (.i .i64 n), .c (.b true)])]
  refine sCall ha s (r := .t [.c (.i .i64 n), .c (.b true)]) (by show GRes.ret (okI (primOf s)) = _; rw [e]; rfl) Zrv .nil fun _ _ _ _ => ?_
  (refine Zz ?_;with_reducible repeat' first|intro _|apply aI)
  exact sRet ⟨.ret _ _ (.t _ _ (.cons _ _ _ _ (.i _ _) (.cons _ _ _ _ (.kn _) .nil))), .nil⟩
 | none =>
  refine sCall ha s (r := .t [.c (.i .i64 0), .c (.b false)]) (by show GRes.ret (okI (primOf s)) = _; rw [e]; rfl) Zrv .nil fun _ _ _ _ => ?_
  (refine Zz ?_;with_reducible repeat' first|intro _|apply aI)
  cases e2 : fnd (w.map Et.fl) s with
  | none =>
   rw [(by rw [okA, e]; show okI ((fnd (w.map Et.fl) s).map _) = _; rw [e2]; rfl : okA (w.map Et.fl) s = .t [.c (.i .i64 0), .c (.b false)])]
   refine sCall hf (⟨w, hw, hwl⟩, s) (r := .t [.a zF, .c (.b false)]) (by show GRes.ret (okF (fnd (w.map Et.fl) s)) = _; rw [e2]; rfl) Zrv .nil fun _ _ _ _ => ?_
   (refine Zz ?_;with_reducible repeat' first|intro _|apply aI)
   exact sRet ⟨.ret _ _ (.t _ _ (.cons _ _ _ _ (.i _ _) (.cons _ _ _ _ (.kn _) .nil))), .nil⟩
  | some f =>
   rw [(by rw [okA, e]; show okI ((fnd (w.map Et.fl) s).map _) = _; rw [e2]; rfl : okA (w.map Et.fl) s = .t [.c (.i .i64 f.ps.length), .c (.b true)])]
   refine sCall hf (⟨w, hw, hwl⟩, s) (r := .t [.a f.g, .c (.b true)]) (by show GRes.ret (okF (fnd (w.map Et.fl) s)) = _; rw [e2]; rfl) Zrv .nil fun _ _ _ _ => ?_
   (refine Zz ?_;with_reducible repeat' first|intro _|apply aI)
   refine sAR (by assumption) (by first | exact (F.g_len _).symm | exact F.g_len _) fun _ _ => ?_
   (refine Zz ?_;with_reducible repeat' first|intro _|apply aI)
   refine sCSlM (by assumption) (mapLen sg_len) fun _ _ _ => ?_
   (refine Zz ?_;with_reducible repeat' first|intro _|apply aI)
   exact sRet ⟨.ret _ _ (.t _ _ (.cons _ _ _ _ (.i _ _) (.cons _ _ _ _ (.kn _) .nil))), .nil⟩
end
end Go.Proofs.YtccafnaghnbpeaaGreatDoor
