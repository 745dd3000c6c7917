/- The program's objects: formed, Valid; valid symbols. -/
import Derived.Test.YtffaodopiifbkaaGreatDoorCEE
import Derived.Test.YtffaodopiifbkaaGreatDoorCV
set_option linter.all false
namespace Go.Proofs.YtffaodopiifbkaaGreatDoor
open Go.Abs LQ
set_option maxRecDepth 100000
set_option maxHeartbeats 4000000
noncomputable section
def fmB (k : Int) (nu de : Str) (s : Sy) (t : Str) (ps : RT) (l : List Bool) : Bool :=
 if k = 4 then (match l with
  | [a, b] => bareB ⟨k, nu, de, s, t, ps⟩ false false false && a && b
  | _ => false)
 else if k = 1 then bareB ⟨k, nu, de, s, t, ps⟩ true false false && decide (ps.obs.length = 0) && lowestB nu de
 else if k = 2 then bareB ⟨k, nu, de, s, t, ps⟩ false true false && decide (ps.obs.length = 0) && named s
 else if k = 3 then bareB ⟨k, nu, de, s, t, ps⟩ false false true && decide (ps.obs.length = 0) && decide (t.length ≤ 200)
 else false
def RT.fm : RT → List Bool
 | .nil => []
 | .node k nu de s t ps r => fmB k nu de s t ps ps.fm :: r.fm
def Ob.fm (o : Ob) : Bool := fmB o.k o.nu o.de o.s o.t o.ps o.ps.fm
theorem RT.fm_eq : ∀ p : RT, p.fm = p.obs.map Ob.fm
 | .nil => rfl
 | .node _ _ _ _ _ _ r => by simp only [RT.fm, RT.obs, List.map_cons, r.fm_eq]; rfl
theorem fm_two {o x y : Ob} (h : o.ps.obs = [x, y]) (hk : o.k = 4) : o.fm = (bareB o false false false && x.fm && y.fm) := by
 unfold Ob.fm fmB
 rw [if_pos hk, o.ps.fm_eq, h]; rfl
theorem fm_no {o : Ob} (h : ∀ x y, o.ps.obs ≠ [x, y]) (hk : o.k = 4) : o.fm = false := by
 unfold Ob.fm fmB
 rw [if_pos hk, o.ps.fm_eq]
 rcases e : o.ps.obs with _ | ⟨x, _ | ⟨y, _ | ⟨z, r⟩⟩⟩
 ·rfl
 ·rfl
 ·exact absurd e (h x y)
 ·rfl
theorem fm_1 {o : Ob} (hk : o.k = 1) : o.fm = (bareB o true false false && decide (o.ps.obs.length = 0) && lowestB o.nu o.de) := by
 unfold Ob.fm fmB; rw [if_neg (by omega), if_pos hk]
theorem fm_2 {o : Ob} (hk : o.k = 2) : o.fm = (bareB o false true false && decide (o.ps.obs.length = 0) && named o.s) := by
 unfold Ob.fm fmB; rw [if_neg (by omega), if_neg (by omega), if_pos hk]
theorem fm_3 {o : Ob} (hk : o.k = 3) : o.fm = (bareB o false false true && decide (o.ps.obs.length = 0) && decide (o.t.length ≤ 200)) := by
 unfold Ob.fm fmB; rw [if_neg (by omega), if_neg (by omega), if_neg (by omega), if_pos hk]
theorem fm_0 {o : Ob} (h1 : ¬ o.k = 4) (h2 : ¬ o.k = 1) (h3 : ¬ o.k = 2) (h4 : ¬ o.k = 3) : o.fm = false := by
 unfold Ob.fm fmB; rw [if_neg h1, if_neg h2, if_neg h3, if_neg h4]
theorem nd_two {o x y : Ob} (h : o.ps.obs = [x, y]) : o.nd = 1 + x.nd + y.nd := by rw [o.nd_eq, h]
theorem sm_two {o x y : Ob} (h : o.ps.obs = [x, y]) (hs : o.sm) : x.sm ∧ y.sm := ⟨RT.obs_sm hs.2 (by rw [h]; simp), RT.obs_sm hs.2 (by rw [h]; simp)⟩
def okF (o : Ob) : Prop := o.sm ∧ o.nd ≤ 3000
theorem kFormedB (hst : Know 203 spIs) : Know 141 (spOb okF fun o => .c (.b o.fm)) := know_rec (fun p => p.1.nd) fun n ih => know (fun fn h => r141_ok h) [(141, (spOb okF fun o => .c (.b o.fm)).lt _ n), (168, _), (169, _), (170, _)] (.cons ih (.cons kBare (.cons (kLowest hst) (.cons kSymB .nil)))) fun U fn hfn ⟨⟨o, hs, hnd⟩, hn⟩ vs bs hv hb => by
 have hf := hfn 141 _ rfl
 have hba := hfn 168 _ rfl
 have hlo := hfn 169 _ rfl
 have hsy := hfn 170 _ rfl
 have hv : RVs [.a o.g] vs := hv
 have hb : RBs [] bs := hb
 have hn : o.nd < n + 1 := hn
 show Sat U _ fun v bs' => RRes (.ret (.c (.b o.fm))) v ∧ RBs [] bs'
 unfold r141
 (refine Zq ?_;with_reducible repeat' first|intro _|apply aI)
 refine sLp (fun (x : Ob) vs bs => vs = [.ptr 0 0] ∧ RBs [x.g] bs ∧ x.fm = o.fm ∧ x.sm ∧ x.nd ≤ o.nd) (fun x => x.nd) o ⟨rfl, RB.bx (by assumption) rfl, rfl, hs, Nat.le_refl _⟩ (show o.nd < FUEL by simp only [FUEL]; omega) ?_
 rintro self x _ _ ⟨rfl, hb, he, hxs, hxn⟩ ih2
 rw [← he]
 rw [x.g_eq] at hb
 have gq : ∀ q, Cel [G.i .i64 x.k, .s x.nu, .s x.de, .s x.s.1, .s x.s.2, .s x.t, .l (x.ps.obs.map Ob.g)] q 0 → Cel x.g q 0 := fun q h => by rw [x.g_eq]; exact h
 have fin : ∀ (b : Bool), x.fm = b → Sat U (some (.ret (.known b), [])) fun v bs' => RRes (.ret (.c (.b x.fm))) v ∧ RBs [] bs' := fun b h => sRet ⟨.ret _ _ (rvK h), .nil⟩
 rcases obs_two x.ps with ⟨a, b, e⟩ | ⟨hne, hno⟩
 ·have hab := sm_two e hxs
  have hnd2 := nd_two e
  have hp1 := a.nd_pos
  have hp2 := b.nd_pos
  rw [e] at hb gq
  have hlen : decide (x.ps.obs.length = 0) = false := by rw [e]; rfl
  (refine Zq ?_;with_reducible repeat' first|intro _|apply aI)
  ·(refine sCSlM (f := Ob.g) (by assumption) (mapLen Ob.g_len) fun _ _ _ => ?_)
   (refine Zq ?_;with_reducible repeat' first|intro _|apply aI)
   ·refine sCall hba (x, false, false, false) (r := .c (.b (bareB x false false false))) rfl (.cons _ _ _ _ (.a _ _ _ rfl (gq _ (by assumption))) Zrv) .nil fun _ _ _ _ => ?_
    (refine Zq ?_;with_reducible repeat' first|intro _|apply aI)
    ·(refine sCSlM (f := Ob.g) (by assumption) (mapLen Ob.g_len) fun _ _ _ => ?_)
     (refine Zq ?_;with_reducible repeat' first|intro _|apply aI)
     refine sCall hf ⟨⟨a, hab.1, by omega⟩, show a.nd < n by omega⟩ (r := .c (.b a.fm)) rfl Zrv .nil fun _ _ _ _ => ?_
     (refine Zq ?_;with_reducible repeat' first|intro _|apply aI)
     ·(refine sCSlM (f := Ob.g) (by assumption) (mapLen Ob.g_len) fun _ _ _ => ?_)
      (refine Zq ?_;with_reducible repeat' first|intro _|apply aI)
      rw [he]
      exact ih2 b _ _ ⟨rfl, RB.bx (by assumption) rfl, by rw [← he, fm_two e ‹x.k = 4›]; simp [*], hab.2, by omega⟩ (by omega)
     ·exact fin false ((fm_two e ‹x.k = 4›).trans (by simp [*]))
    ·exact fin false ((fm_two e ‹x.k = 4›).trans (by simp [*]))
   ·exact absurd rfl ‹¬ _›
  ·refine sCall hba (x, true, false, false) (r := .c (.b (bareB x true false false))) rfl (.cons _ _ _ _ (.a _ _ _ rfl (gq _ (by assumption))) Zrv) .nil fun _ _ _ _ => ?_
   (refine Zq ?_;with_reducible repeat' first|intro _|apply aI)
   ·(refine sCSlM (f := Ob.g) (by assumption) (mapLen Ob.g_len) fun _ _ _ => ?_)
    (refine Zq ?_;with_reducible repeat' first|intro _|apply aI)
    ·exact absurd ‹((([a, b] : List Ob).length : Nat) : Int) = 0› (by simp)
    ·exact fin false ((fm_1 ‹x.k = 1›).trans (by rw [hlen, Bool.and_false]; rfl))
   ·exact fin false ((fm_1 ‹x.k = 1›).trans (by simp [*]))
  ·refine sCall hba (x, false, true, false) (r := .c (.b (bareB x false true false))) rfl (.cons _ _ _ _ (.a _ _ _ rfl (gq _ (by assumption))) Zrv) .nil fun _ _ _ _ => ?_
   (refine Zq ?_;with_reducible repeat' first|intro _|apply aI)
   ·(refine sCSlM (f := Ob.g) (by assumption) (mapLen Ob.g_len) fun _ _ _ => ?_)
    (refine Zq ?_;with_reducible repeat' first|intro _|apply aI)
    ·exact absurd ‹((([a, b] : List Ob).length : Nat) : Int) = 0› (by simp)
    ·exact fin false ((fm_2 ‹x.k = 2›).trans (by rw [hlen, Bool.and_false]; rfl))
   ·exact fin false ((fm_2 ‹x.k = 2›).trans (by simp [*]))
  ·refine sCall hba (x, false, false, true) (r := .c (.b (bareB x false false true))) rfl (.cons _ _ _ _ (.a _ _ _ rfl (gq _ (by assumption))) Zrv) .nil fun _ _ _ _ => ?_
   (refine Zq ?_;with_reducible repeat' first|intro _|apply aI)
   ·(refine sCSlM (f := Ob.g) (by assumption) (mapLen Ob.g_len) fun _ _ _ => ?_)
    (refine Zq ?_;with_reducible repeat' first|intro _|apply aI)
    ·exact absurd ‹((([a, b] : List Ob).length : Nat) : Int) = 0› (by simp)
    ·exact fin false ((fm_3 ‹x.k = 3›).trans (by rw [hlen, Bool.and_false]; rfl))
   ·exact fin false ((fm_3 ‹x.k = 3›).trans (by simp [*]))
  ·exact fin false (fm_0 (o := x) (by assumption) (by assumption) (by assumption) (by assumption))
 ·(refine Zq ?_;with_reducible repeat' first|intro _|apply aI)
  ·(refine sCSlM (f := Ob.g) (by assumption) (mapLen Ob.g_len) fun _ _ _ => ?_)
   (refine Zq ?_;with_reducible repeat' first|intro _|apply aI)
   ·exact absurd ‹_› hne
   ·exact fin false (fm_no hno ‹x.k = 4›)
  ·refine sCall hba (x, true, false, false) (r := .c (.b (bareB x true false false))) rfl (.cons _ _ _ _ (.a _ _ _ rfl (gq _ (by assumption))) Zrv) .nil fun _ _ _ _ => ?_
   (refine Zq ?_;with_reducible repeat' first|intro _|apply aI)
   ·(refine sCSlM (f := Ob.g) (by assumption) (mapLen Ob.g_len) fun _ _ _ => ?_)
    (refine Zq ?_;with_reducible repeat' first|intro _|apply aI)
    ·have hl0 : decide (x.ps.obs.length = 0) = true := decide_eq_true (by omega)
     refine sCall hlo ⟨(x.nu, x.de), hxs.1.1, hxs.1.2.1⟩ (r := .c (.b (lowestB x.nu x.de))) rfl Zrv .nil fun _ _ _ _ => ?_
     (refine Zq ?_;with_reducible repeat' first|intro _|apply aI)
     rw [fm_1 ‹x.k = 1›, hl0, ‹bareB x true false false = true›, Bool.true_and, Bool.true_and]
     exact sRet ⟨.ret _ _ (.b _), .nil⟩
    ·exact fin false ((fm_1 ‹x.k = 1›).trans (by rw [show decide (x.ps.obs.length = 0) = false from decide_eq_false (by omega), Bool.and_false]; rfl))
   ·exact fin false ((fm_1 ‹x.k = 1›).trans (by simp [*]))
  ·refine sCall hba (x, false, true, false) (r := .c (.b (bareB x false true false))) rfl (.cons _ _ _ _ (.a _ _ _ rfl (gq _ (by assumption))) Zrv) .nil fun _ _ _ _ => ?_
   (refine Zq ?_;with_reducible repeat' first|intro _|apply aI)
   ·(refine sCSlM (f := Ob.g) (by assumption) (mapLen Ob.g_len) fun _ _ _ => ?_)
    (refine Zq ?_;with_reducible repeat' first|intro _|apply aI)
    ·have hl0 : decide (x.ps.obs.length = 0) = true := decide_eq_true (by omega)
     refine sCall hsy ⟨x.s, hxs.1.2.2.1, hxs.1.2.2.2⟩ (r := .c (.b (named x.s))) rfl (.cons _ _ _ _ (.a _ _ _ rfl (show Cel (List.take 2 [G.s x.s.1, .s x.s.2, .s x.t, .l (x.ps.obs.map Ob.g)]) _ 0 from Cel.take 2 (by assumption))) .nil) .nil fun _ _ _ _ => ?_
     (refine Zq ?_;with_reducible repeat' first|intro _|apply aI)
     rw [fm_2 ‹x.k = 2›, hl0, ‹bareB x false true false = true›, Bool.true_and, Bool.true_and]
     exact sRet ⟨.ret _ _ (.b _), .nil⟩
    ·exact fin false ((fm_2 ‹x.k = 2›).trans (by rw [show decide (x.ps.obs.length = 0) = false from decide_eq_false (by omega), Bool.and_false]; rfl))
   ·exact fin false ((fm_2 ‹x.k = 2›).trans (by simp [*]))
  ·refine sCall hba (x, false, false, true) (r := .c (.b (bareB x false false true))) rfl (.cons _ _ _ _ (.a _ _ _ rfl (gq _ (by assumption))) Zrv) .nil fun _ _ _ _ => ?_
   (refine Zq ?_;with_reducible repeat' first|intro _|apply aI)
   ·(refine sCSlM (f := Ob.g) (by assumption) (mapLen Ob.g_len) fun _ _ _ => ?_)
    (refine Zq ?_;with_reducible repeat' first|intro _|apply aI)
    ·have hl0 : decide (x.ps.obs.length = 0) = true := decide_eq_true (by omega)
     rw [fm_3 ‹x.k = 3›, hl0, ‹bareB x false false true = true›, Bool.true_and, Bool.true_and]
     exact sRetU fun e => ⟨.ret _ _ (rvB (by subst e; rw [cuLe, Bool.eq_iff_iff, decide_eq_true_iff, decide_eq_true_iff]; omega)), .nil⟩
    ·exact fin false ((fm_3 ‹x.k = 3›).trans (by rw [show decide (x.ps.obs.length = 0) = false from decide_eq_false (by omega), Bool.and_false]; rfl))
   ·exact fin false ((fm_3 ‹x.k = 3›).trans (by simp [*]))
  ·exact fin false (fm_0 (o := x) (by assumption) (by assumption) (by assumption) (by assumption))
def Ob.vd (o : Ob) : Bool := decide (o.nd ≤ 3000) && o.fm
theorem kValidB (hst : Know 203 spIs) : Know 104 (spOb Ob.sm fun o => .c (.b o.vd)) := know (fun fn h => r104_ok h) [(89, _), (141, _)] (.cons kNodesB (.cons (kFormedB hst) .nil)) fun U fn hfn ⟨o, hs⟩ vs bs hv hb => by
 have hn := hfn 89 _ rfl
 have hf := hfn 141 _ rfl
 have hv : RVs [.a o.g] vs := hv
 have hb : RBs [] bs := hb
 show Sat U _ fun v bs' => RRes (.ret (.c (.b o.vd))) v ∧ RBs [] bs'
 unfold r104
 (refine Zq ?_;with_reducible repeat' first|intro _|apply aI)
 refine sCall hn ⟨o, trivial⟩ (r := .c (.i .i64 (min o.nd 3001 : Nat))) rfl Zrv .nil fun _ _ _ _ => ?_
 (refine Zq ?_;with_reducible repeat' first|intro _|apply aI)
 ·have h : o.nd ≤ 3000 := by omega
  refine sCall hf ⟨o, hs, h⟩ (r := .c (.b o.fm)) rfl Zrv .nil fun _ _ _ _ => ?_
  (refine Zq ?_;with_reducible repeat' first|intro _|apply aI)
  unfold Ob.vd
  rw [decide_eq_true h, Bool.true_and]
  exact sRet ⟨.ret _ _ (.b _), .nil⟩
 ·exact sRet ⟨.ret _ _ (rvK (by unfold Ob.vd; rw [decide_eq_false (by omega)]; rfl)), .nil⟩
theorem kSymbolP : Know 105 (spSy fun s => .a (O.sy s).g) := know (fun fn h => r105_ok h) [] .nil fun U fn hfn s vs bs hv hb => by
 have hv : RVs [.a [.s s.1, .s s.2]] vs := hv
 have hb : RBs [] bs := hb
 show Sat U _ fun v bs' => RRes (.ret (.a (O.sy s).g)) v ∧ RBs [] bs'
 unfold r105
 (refine Zq ?_;with_reducible repeat' first|intro _|apply aI)
 exact sRetU fun e => by
  subst e
  exact ⟨.ret _ _ (.ag _ _ (by (exact Zru))), .nil⟩
def syB (s : Sy) : Ob := ⟨2, [], [], s, [], .nil⟩
theorem syB_vd (s : Sy) : (syB s).vd = named s := by
 have h1 : (syB s).nd = 1 := rfl
 unfold Ob.vd
 rw [h1, fm_2 rfl]
 simp [bareB, syB, RT.obs]
theorem kValidS (hst : Know 203 spIs) : Know 59 (spSy' fun s => .c (.b (named s))) := know (fun fn h => r59_ok h) [(105, _), (104, _)] (.cons kSymbolP (.cons (kValidB hst) .nil)) fun U fn hfn ⟨s, h1, h2⟩ vs bs hv hb => by
 have hs := hfn 105 _ rfl
 have ho := hfn 104 _ rfl
 have hv : RVs [.a (sg s)] vs := hv
 have hb : RBs [] bs := hb
 show Sat U _ fun v bs' => RRes (.ret (.c (.b (named s)))) v ∧ RBs [] bs'
 unfold r59
 (refine Zq ?_;with_reducible repeat' first|intro _|apply aI)
 refine sCall hs s (r := .a (syB s).g) rfl Zrv .nil fun _ _ _ _ => ?_
 (refine Zq ?_;with_reducible repeat' first|intro _|apply aI)
 refine sCall ho ⟨syB s, ⟨⟨by show 0 < 8000; omega, by show 0 < 8000; omega, h1, h2⟩, trivial⟩⟩ (r := .c (.b (named s))) (by show GRes.ret (.c (.b (syB s).vd)) = _; rw [syB_vd]) (.cons _ _ _ _ (.a _ _ _ rfl (by assumption)) .nil) .nil fun _ _ _ _ => ?_
 (refine Zq ?_;with_reducible repeat' first|intro _|apply aI)
 exact sRet ⟨.ret _ _ (.b _), .nil⟩
theorem kValidPackageP (hst : Know 203 spIs) : Know 163 (sp1 fun s => .ret (.c (.b (validPkg s)))) := know (fun fn h => r163_ok h) [(59, _)] (.cons (kValidS hst) .nil) fun U fn hfn ⟨s, hs⟩ vs bs hv hb => by
 have hvd := hfn 59 _ rfl
 have hv : RVs [.c (.s s)] vs := hv
 have hb : RBs [] bs := hb
 show Sat U _ fun v bs' => RRes (.ret (.c (.b (validPkg s)))) v ∧ RBs [] bs'
 unfold r163
 have e : named (s, dec 1 120) = validPkg s := by
  unfold named
  rw [show decide (1 ≤ (s, dec 1 120).2.length ∧ (s, dec 1 120).2.length ≤ 40) = true from (by decide : decide (1 ≤ (dec 1 120).length ∧ (dec 1 120).length ≤ 40) = true), Bool.and_true]
 (refine Zq ?_;with_reducible repeat' first|intro _|apply aI)
 refine sCall hvd ⟨(s, dec 1 120), hs, by show (dec 1 120).length < 90000; decide⟩ (r := .c (.b (validPkg s))) (by show GRes.ret (.c (.b (named (s, dec 1 120)))) = _; rw [e]) (.cons _ _ _ _ (.ag _ _ Zrv) .nil) .nil fun _ _ _ _ => ?_
 (refine Zq ?_;with_reducible repeat' first|intro _|apply aI)
 exact sRet ⟨.ret _ _ (.b _), .nil⟩
end
end Go.Proofs.YtffaodopiifbkaaGreatDoor
namespace Go.Proofs.YtffaodopiifbkaaGreatDoor
open Go.Abs LQ
set_option maxRecDepth 100000
set_option maxHeartbeats 4000000
noncomputable section
theorem kNilP : Know 156 (sp0 (.a nilO.g)) := know (fun fn h => r156_ok h) [(105, _)] (.cons kSymbolP .nil) fun U fn hfn _ vs bs hv hb => by
 have hs := hfn 105 _ rfl
 have hv : RVs [] vs := hv
 have hb : RBs [] bs := hb
 show Sat U _ fun v bs' => RRes (.ret (.a nilO.g)) v ∧ RBs [] bs'
 unfold r156
 (refine Zq ?_;with_reducible repeat' first|intro _|apply aI)
 refine sCall hs (dec 4 1886611820, dec 3 7104878) (r := .a nilO.g) rfl (.cons _ _ _ _ (.ag _ _ Zrv) .nil) .nil fun _ _ _ _ => ?_
 refine oR fun _ _ => ?_
 (refine Zq ?_;with_reducible repeat' first|intro _|apply aI)
 exact sRet ⟨.ret _ _ (.a _ _ _ rfl (by assumption)), .nil⟩
theorem kTextP : Know 129 (spStr fun s => .a (O.tx s).g) := know (fun fn h => r129_ok h) [] .nil fun U fn hfn s vs bs hv hb => by
 have hv : RVs [.c (.s s)] vs := hv
 have hb : RBs [] bs := hb
 show Sat U _ fun v bs' => RRes (.ret (.a (O.tx s).g)) v ∧ RBs [] bs'
 unfold r129
 (refine Zq ?_;with_reducible repeat' first|intro _|apply aI)
 exact sRet ⟨.ret _ _ (.ag _ _ Zrv), .nil⟩
theorem kConsP : Know 157 (spOO fun a d => .a (O.co a d).g) := know (fun fn h => r157_ok h) [] .nil fun U fn hfn ⟨a, d⟩ vs bs hv hb => by
 have hv : RVs [.a a.g, .a d.g] vs := hv
 have hb : RBs [] bs := hb
 show Sat U _ fun v bs' => RRes (.ret (.a (O.co a d).g)) v ∧ RBs [] bs'
 unfold r157
 refine sConsR hv fun v l hv1 hv2 => ?_
 refine sAR hv1 a.g_len fun qa ha => ?_
 refine sConsR hv2 fun v l hv3 hv4 => ?_
 refine sAR hv3 d.g_len fun qd hd => ?_
 refine sNilR hv4 (sNilBR hb ?_)
 refine sfSub0 ha fun xa ha => ?_
 refine sfSub0 hd fun xd hd => ?_
 refine sRet ⟨.ret _ _ (.ag _ _ ?_), .nil⟩
 refine .cons _ _ _ _ (.i _ _) (.cons _ _ _ _ (.s _ _ _ rfl rfl) (.cons _ _ _ _ (.s _ _ _ rfl rfl) (.cons _ _ _ _ (.s _ _ _ rfl rfl) (.cons _ _ _ _ (.s _ _ _ rfl rfl) (.cons _ _ _ _ (.s _ _ _ rfl rfl) (.cons _ _ _ _ (.cl _ _ _ _ _ rfl ?_) .nil))))))
 have r1 := rowN (by rw [O.g_len]; decide) ha
 have r2 := rowN (by rw [O.g_len]; decide) hd
 exact .cons _ _ _ _ _ a.g_len r1.1 r1.2 (.cons _ _ _ _ _ d.g_len r2.1 r2.2 (.nil _ _ _))
theorem kListP : Know 130 (spOs fun l => .a (listO l).g) := know (fun fn h => r130_ok h) [(156, _), (157, _)] (.cons kNilP (.cons kConsP .nil)) fun U fn hfn ⟨l, hl⟩ vs bs hv hb => by
 have hn := hfn 156 _ rfl
 have hc := hfn 157 _ rfl
 have hl : l.length < 90000 := hl
 have hv : RVs [.sl 7 (l.map O.g)] vs := hv
 have hb : RBs [] bs := hb
 show Sat U _ fun v bs' => RRes (.ret (.a (listO l).g)) v ∧ RBs [] bs'
 unfold r130
 (refine Zz ?_;with_reducible repeat' first|intro _|apply aI)
 refine sCall hn () (r := .a nilO.g) rfl .nil .nil fun _ _ _ _ => ?_
 (refine Zz ?_;with_reducible repeat' first|intro _|apply aI)
 refine sLp (fun (m : Nat) vs bs => ∃ (t : Tre Q) (off : Nat) (i : Int) (q : Q), vs = [.slice t 7 off l.length .no, .ptr 0 0, .ptr 1 0, .int .i64 i] ∧ bs = [.cells [.int .i64 0, .str 0 0, .str 0 0, .str 0 0, .str 0 0, .str 0 0, .slice .nil 0 0 0 .exact], .opa q 7] ∧ i = m - 1 ∧ m ≤ l.length ∧ Rws 7 (l.map O.g) t off ∧ Cel (listO (l.drop m)).g q 0) (fun m => m) l.length
  ⟨_, _, _, _, rfl, rfl, rfl, by omega, by assumption, by rw [List.drop_length]; assumption⟩ (by simp only [FUEL]; omega) ?_
 rintro self m _ _ ⟨t, off, i, q, rfl, rfl, rfl, hm, ht, hq⟩ ih
 (refine Zz ?_;with_reducible repeat' first|intro _|apply aI)
 ·refine sfTm (y := l[m - 1]) (by assumption) (by rw [show ((m : Int) - 1).toNat = m - 1 by omega]; exact List.getElem?_eq_getElem (by omega)) fun _ _ => ?_
  (refine Zz ?_;with_reducible repeat' first|intro _|apply aI)
  refine sCall hc (l[m - 1], listO (l.drop m)) (r := .a (O.co l[m - 1] (listO (l.drop m))).g) rfl Zrv .nil fun _ _ _ _ => ?_
  (refine Zz ?_;with_reducible repeat' first|intro _|apply aI)
  refine ih (m - 1) _ _ ⟨_, _, _, _, rfl, rfl, by omega, by omega, ht, ?_⟩ (by omega)
  rw [List.drop_eq_getElem_cons (by omega : m - 1 < l.length), show m - 1 + 1 = m by omega]
  assumption
 ·have em : m = 0 := by omega
  subst em
  rw [List.drop_zero] at *
  exact sRet ⟨.ret _ _ Zrv, .nil⟩
theorem kRationalP (hst : Know 203 spIs) : Know 128 (sp2b fun a b => .ret (.a (numO (qn (decVal a) (decVal b))).g)) := know (fun fn h => r128_ok h) [(155, _)] (.cons (kReduceN hst) .nil) fun U fn hfn ⟨(a, b), ha, hbl⟩ vs bs hv hb => by
 have hr := hfn 155 _ rfl
 have hv : RVs [.c (.s a), .c (.s b)] vs := hv
 have hb : RBs [] bs := hb
 show Sat U _ fun v bs' => RRes (.ret (.a (numO (qn (decVal a) (decVal b))).g)) v ∧ RBs [] bs'
 unfold r128
 (refine Zq ?_;with_reducible repeat' first|intro _|apply aI)
 refine sCall hr ⟨(a, b), ha, hbl⟩ (r := .t [.c (.s (showInt (qn (decVal a) (decVal b)).1)), .c (.s (showNat (qn (decVal a) (decVal b)).2))]) (by show GRes.ret (.t [.c (.s (reduceS a b).1), .c (.s (reduceS a b).2)]) = _; rw [reduceS_qn]) Zrv .nil fun _ _ _ _ => ?_
 (refine Zq ?_;with_reducible repeat' first|intro _|apply aI)
 exact sRet ⟨.ret _ _ (.ag _ _ Zrv), .nil⟩
end
end Go.Proofs.YtffaodopiifbkaaGreatDoor
