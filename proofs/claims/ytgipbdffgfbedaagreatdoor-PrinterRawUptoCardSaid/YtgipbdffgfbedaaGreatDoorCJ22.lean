/- printer.quoted: what is known. -/
import Derived.Test.YtgipbdffgfbedaaGreatDoorCJ21
import Derived.Test.YtgipbdffgfbedaaGreatDoorCJ20
set_option linter.all false
namespace Go.Proofs.YtgipbdffgfbedaaGreatDoor
open Go.Abs LQ Go.RowKit Go.Shelf
set_option maxRecDepth 100000
noncomputable section
theorem e2t:j4 28 c9o:=fun ⟨(s,c),hs,hc⟩ vs bs hv hb=>by
 change j6 [.c (.s s),.c (.i .i32 (c.toNat:Int))] vs at hv
 change s.length < 21600000 at hs
 change c=34∨c=124 at hc
 cases hb
 refine ⟨.ret (.str (D3 c s).length (j9 (D3 c s))),[],fun hok=>?_,.ret _ _ (.s _ _ _ rfl rfl),.nil⟩
 rw [hv.map_toD]
 show CM X0.P X0.G _ _ [] (.ret (.str (n5 (D3 c s).length (j9 (D3 c s))))) []
 rw [z7]
 refine K7 (d:=.str (D3 c s)) Tryz.call28 fun w S M us hg hwi hr=>?_
 simp only [List.map_cons,List.map_nil,dV,dG] at hr
 cases hr with
 | cons _ _ _ _ r1 r2 =>
 cases r2 with
 | cons _ _ _ _ r2 r3 =>
 cases r3
 cases r2
 have e1:=X5 r1
 subst e1
 obtain ⟨m,hm⟩:=hg.2
 have key:=c41 m s c.toNat (by rcases hc with rfl | rfl;exact .inl rfl;exact .inr rfl) w hm hs
 have ec:c.toNat.toUInt8=c:=by rcases hc with rfl | rfl <;> rfl
 rw [ec] at key
 refine key.mono ?_
 rintro e w' ⟨rfl,hb⟩
 exact ⟨hb,_,S,rfl,⟨fun _ _ h=>h,fun _ _ h=>.inl h⟩,S3 hwi hb,.str _ _ rfl,Q0 (fun _ _ _ h=>by cases h) (fun _ h=>by cases h)⟩
theorem e2m:j4 29 c9m:=e2l e2t
section
variable {S:k8} {w:World}
theorem c6v {o:O} {v:Value} (h:Rd S s9 w v (dV (.a o.g))):∃ c6,v=.agg (ob7 o c6)∧Rd S s9 w c6 (dG (.l (o.ps.map O.g))):=by
 simp only [dV] at h
 cases h with
 | agg vs _ r =>
 obtain ⟨c6,e,hc⟩:=b29 r
 have:vs=ob7 o c6:=by rw [← Array.toList_inj,e]
 exact ⟨c6,by rw [this],hc⟩
theorem c5h {o:O} {c6:Value} (h:Rd S s9 w c6 (dG (.l (o.ps.map O.g)))):Rd S s9 w (.agg (ob7 o c6)) (dV (.a o.g)):=by
 simp only [dV]
 exact .agg _ _ (d6k h)
theorem c37 (s:f6) (c:UInt8) (hs:s.length < 21600000) (hc:c=34∨c=124) (n:Int) (hn:n=c.toNat) (hg:GG.pred w) :
  Calls Tryz.prog 28 #[.string ⟨s.toArray⟩,.int .i32 n] w fun e w'=>e=.returned (.string ⟨(D3 c s).toArray⟩)∧Below w.heap.size w w':=by
 subst hn
 refine (a7x e2t ⟨(s,c),hs,hc⟩ rfl rfl (vs:=[.str s.length (j9 s),.int .i32 (c.toNat:Int)]) (.k (.s _ _ _ rfl rfl) (.k (.i _ _) .nil)) (S:=fun _ _=>False) (us:=[.string ⟨s.toArray⟩,.int .i32 (c.toNat:Int)]) hg (fun _ _ h=>h.elim) (.k (.str _ _ rfl) (.k (.int _ _) .nil))).mono ?_
 rintro e w' ⟨v,S',rfl,hb,_,_,hr⟩
 have:=X5 hr
 subst this
 exact ⟨rfl,hb⟩
theorem b3z {o:O} {c6:Value} (hq:a1s o) (hg:GG.pred w) (hwi:S.within w) (hc:Rd S s9 w c6 (dG (.l (o.ps.map O.g)))) :
  Calls Tryz.prog 32 #[.agg (ob7 o c6)] w fun e w'=>e=.returned (.bool (O.eqb o A7))∧Below w.heap.size w w':=by
 obtain ⟨v,hv⟩:=hq.rv
 refine (a7x c59 o rfl rfl (vs:=[v]) (.k hv .nil) (us:=[.agg (ob7 o c6)]) hg hwi (.k (c5h hc) .nil)).mono ?_
 rintro e w' ⟨v,S',rfl,hb,_,_,hr⟩
 have hr:Rd S' s9 w' v (.bool (O.eqb o A7)):=hr
 generalize O.eqb o A7=z at hr ⊢
 cases hr
 exact ⟨rfl,hb⟩
theorem c99 {L:List Pk} {cur:f6} {s:Sy} {lv:Value} {vL:V} (hL:H8 L) (h1:s.1.length < 21600000) (h2:s.2.length < 21600000) (hvL:RV (.sl 2 (L.map pg)) vL) (hg:GG.pred w) (hwi:S.within w) (hlv:Rd S s9 w lv (dV (.sl 2 (L.map pg)))) :
  Calls Tryz.prog 29 #[lv,.string ⟨cur.toArray⟩,.agg #[.string ⟨s.1.toArray⟩,.string ⟨s.2.toArray⟩]] w fun e w'=>e=.returned (.tuple #[.string ⟨(H3 L cur s).1.toArray⟩,.int .i64 (H3 L cur s).2])∧Below w.heap.size w w':=by
 refine (a7x e2m ⟨(L,cur,s),hL,h1,h2⟩ rfl rfl (vs:=[vL,.str cur.length (j9 cur),.agg [.str s.1.length (j9 s.1),.str s.2.length (j9 s.2)]])
  (.k hvL (.k (.s _ _ _ rfl rfl) (.k (.ag _ _ (.k (.s _ _ _ rfl rfl) (.k (.s _ _ _ rfl rfl) .nil))) .nil)))
  (us:=[lv,.string ⟨cur.toArray⟩,.agg #[.string ⟨s.1.toArray⟩,.string ⟨s.2.toArray⟩]]) hg hwi (.k hlv (.k (.str _ _ rfl) (.k ?_ .nil)))).mono ?_
 ·simp only [dV,sg,List.map_cons,List.map_nil,dG]
  exact .agg _ _ (.k (.str _ _ rfl) (.k (.str _ _ rfl) .nil))
 rintro e w' ⟨v,S',rfl,hb,_,_,hr⟩
 have hr:Rd S' s9 w' v (dV (a8h (H3 L cur s))):=hr
 generalize H3 L cur s=r at hr ⊢
 simp only [a8h,dV,dVs,dG] at hr
 cases hr with
 | tuple vs _ r =>
 obtain ⟨vs⟩:=vs
 cases r with
 | cons _ _ _ _ r1 r2 =>
 cases r2 with
 | cons _ _ _ _ r2 r3 =>
 cases r3
 cases r2
 have:=X5 r1
 subst this
 exact ⟨rfl,hb⟩
theorem c38 {f:FuncId} (hk:j4 f (c3j O2)) {o:O} {c6:Value} (hz:o.size < 21600000) (hq:a1s o) (hg:GG.pred w) (hwi:S.within w) (hc:Rd S s9 w c6 (dG (.l (o.ps.map O.g)))) :
  Calls Tryz.prog f #[.agg (ob7 o c6)] w fun e w'=>Below w.heap.size w w'∧∃ S',S.grown S' w∧S'.within w'∧∃ x6,match J6 o with
   | some x=>e=.returned (.tuple #[.agg (ob7 x x6),.bool true])∧Rd S' s9 w' x6 (dG (.l (x.ps.map O.g)))
   | none=>e=.returned (.tuple #[.agg (ob7 .no x6),.bool false])∧Rd S' s9 w' x6 (dG (.l (O.no.ps.map O.g))):=by
 obtain ⟨v,hv⟩:=hq.rv
 refine (a7x hk ⟨o,hz⟩ rfl rfl (vs:=[v]) (.k hv .nil) (us:=[.agg (ob7 o c6)]) hg hwi (.k (c5h hc) .nil)).mono ?_
 rintro e w' ⟨v,S',rfl,hb,h1,h2,hr⟩
 refine ⟨hb,S',h1,h2,?_⟩
 have hr:Rd S' s9 w' v (dV (O2 o)):=hr
 have key:∀ (x:O) (z:Bool),Rd S' s9 w' v (dV (.t [.a x.g,.c (.b z)]))→∃ x6,v=.tuple #[.agg (ob7 x x6),.bool z]∧Rd S' s9 w' x6 (dG (.l (x.ps.map O.g))):=by
  intro x z hr
  rw [dV,dVs,dVs,dVs] at hr
  cases hr with
  | tuple vs _ r =>
  obtain ⟨vs⟩:=vs
  cases r with
  | cons _ _ _ _ r1 r2 =>
  cases r2 with
  | cons _ _ _ _ r2 r3 =>
  cases r3
  obtain ⟨x6,e1,hx⟩:=c6v r1
  have r2:Rd S' s9 w' _ (.bool z):=r2
  cases r2
  subst e1
  exact ⟨x6,rfl,hx⟩
 unfold O2 at hr
 cases hs:J6 o with
 | none =>
  rw [hs] at hr
  obtain ⟨x6,e,h⟩:=key _ _ hr
  exact ⟨x6,by rw [e],h⟩
 | some x =>
  rw [hs] at hr
  obtain ⟨x6,e,h⟩:=key _ _ hr
  exact ⟨x6,by rw [e],h⟩
end
end
end Go.Proofs.YtgipbdffgfbedaaGreatDoor
