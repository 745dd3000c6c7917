/- Valid objects: what the program's and the reference's checks say of them. -/
import Derived.Test.YtffaodopiifbkaaGreatDoorCJ4
set_option linter.all false
namespace Go.Proofs.YtffaodopiifbkaaGreatDoor
open Go.Abs LQ
set_option maxRecDepth 100000
set_option maxHeartbeats 4000000
noncomputable section
theorem c9u (n:Int) (d:Nat):a2c (j4 n) (i7 d)=(O.num n d).fm:=by
 unfold a2c
 rw [c3v,a5d,← a3a,← a3a,Bool.true_and,Bool.true_and,Bool.eq_iff_iff]
 simp only [O.fm,Bool.and_eq_true,decide_eq_true_iff]
 constructor
 ·rintro ⟨⟨h1,h2⟩,h3⟩;exact ⟨h3,h1,h2⟩
 ·rintro ⟨h3,h1,h2⟩;exact ⟨⟨h1,h2⟩,h3⟩
theorem c5a:∀ o:O,(R1 o).fm=o.fm
 | .num n d=>by
  rw [b94 (o:=R1 (.num n d)) rfl,← c9u]
  simp [G5,R1,RT.obs]
 | .sy s=>by
  rw [b5y (o:=R1 (.sy s)) rfl]
  simp [G5,R1,RT.obs,O.fm]
 | .tx t=>by
  rw [c1c (o:=R1 (.tx t)) rfl,Bool.eq_iff_iff]
  simp [G5,R1,RT.obs,O.fm]
  exact decide_eq_true_iff
 | .co a d=>by
  rw [b7x (c0a a d) rfl,c5a a,c5a d]
  simp [G5,R1,O.fm]
 | .no=>by
  rw [e13 (o:=R1 .no) dE dE dE dE];rfl
theorem d70 {gs gs':List G} {q:Q} {k:Nat} (h:A8 gs q 0) (e:gs.take k=gs') (hk:k=gs'.length):RV (.a gs') (.a q k):=.a _ _ _ hk (e ▸ h.take k)
structure okV (o:O):Prop where
 fm:o.fm=true
 size:o.size≤3000
theorem d5r {n:Int} {k:Nat} (h:(i7 n.natAbs).length≤k):(j4 n).length≤k+1:=by
 rw [I8,List.length_append]
 have:(LQ.sgn n).length≤1:=by unfold LQ.sgn;split <;> simp
 omega
theorem f2h {n:Int} {d:Nat} (h:(O.num n d).fm=true):(j4 n).length≤101∧(i7 d).length≤100:=by
 have h:t7 (j4 n) (i7 d)=(j4 n,i7 d)∧E6 (j4 n)≤100∧E6 (i7 d)≤100:=by simpa [O.fm] using h
 have h2:=h.2.1
 have h3:=h.2.2
 rw [a1j] at h2
 rw [Y2] at h3
 exact ⟨d5r h2,h3⟩
theorem lt8:(0:Nat) < 8000:=dE
theorem lt9:(0:Nat) < 90000:=dE
theorem d3w:∀ {o:O},o.fm=true→o.sm∧(R1 o).sm
 | .num n d,h=>by
  have h:=f2h h
  exact ⟨⟨oM,oM⟩,⟨by show (j4 n).length < 8000;omega,by show (i7 d).length < 8000;omega,lt9,lt9⟩,trivial⟩
 | .sy s,h=>by
  have h1:=a1y (s:=s) h
  have h2:=b62 (s:=s) h
  exact ⟨⟨oM,oM⟩,⟨lt8,lt8,by show s.1.length < 90000;omega,by show s.2.length < 90000;omega⟩,trivial⟩
 | .tx t,h=>by
  have h:t.length≤200:=by simpa [O.fm] using h
  exact ⟨by show t.length < 9000;omega,⟨lt8,lt8,lt9,lt9⟩,trivial⟩
 | .co a d,h=>by
  have h:a.fm=true∧d.fm=true:=by simpa [O.fm] using h
  obtain ⟨a1,a2⟩:=d3w h.1
  obtain ⟨d1,d2⟩:=d3w h.2
  exact ⟨⟨a1,d1⟩,⟨lt8,lt8,lt9,lt9⟩,a2.1,a2.2,d2.1,d2.2,trivial⟩
 | .no,h=>by cases h
def g2a (r:GV):Sp where
 ι:={ o:O // okV o }
 A o:=[.a o.1.g]
 B _:=[]
 R _:=.ret r
 B' _:=[]
 inj i j vs bs h k _ _:=⟨rfl,rfl⟩
theorem e9i:l5 104 (g2a (.c (.b true))):=(d03 kIS).via (fun o=>⟨R1 o.1,(d3w o.2.fm).2⟩) fun o=>⟨by show [GV.a o.1.g]=[GV.a (R1 o.1).g];rw [c4h],rfl,by
 show _=s8.ret (.c (.b (R1 o.1).vd))
 unfold Ob.vd
 rw [b7c,c5a,o.2.fm,decide_eq_true o.2.size];rfl,rfl⟩
def G7 (L:List Pk) (cur:i6) (o:O):i6 × Int:=if C8 L cur=none∨C7 L o=false then ([],13) else (C1 L cur o,0)
theorem e6i {L:List Pk} {o:O} (h:okV o) (k:C7 L o=true):okA L o:=c59 h.fm k
end
end Go.Proofs.YtffaodopiifbkaaGreatDoor
namespace Go.Proofs.YtffaodopiifbkaaGreatDoor
open Go.Abs LQ Go.RowKit Go.Shelf
set_option maxRecDepth 100000
noncomputable section
theorem f3b:l5 107 d5f:=fun ⟨(s,c),hs,hc⟩ vs bs hv hb=>by
 change l8 [.c (.s s),.c (.i .i32 (c.toNat:Int))] vs at hv
 change s.length < 90000 at hs
 change c=34∨c=124 at hc
 cases hb
 refine ⟨.ret (.str (G9 c s).length (p9 (G9 c s))),[],fun hok=>?_,.ret _ _ (.s _ _ _ rfl rfl),.nil⟩
 rw [hv.map_toD]
 show CM X0.P X0.G _ _ [] (.ret (.str (n5 (G9 c s).length (p9 (G9 c s))))) []
 rw [C0]
 refine L1 (d:=.str (G9 c s)) Tryz.call107 fun w S M us hg hwi hr=>?_
 simp only [List.map_cons,List.map_nil,dV,dG] at hr
 cases hr with
 | cons _ _ _ _ r1 r2 =>
 cases r2 with
 | cons _ _ _ _ r2 r3 =>
 cases r3
 cases r2
 have e1:=a00 r1
 subst e1
 obtain ⟨m,hm⟩:=hg.2
 have key:=c94 m s c.toNat (by rcases hc with rfl | rfl;exact .inl rfl;exact .inr rfl) w hm hs
 have ec:c.toNat.toUInt8=c:=by rcases hc with rfl | rfl <;> rfl
 rw [ec] at key
 refine key.mono ?_
 rintro e w' ⟨rfl,hb⟩
 exact ⟨hb,_,S,rfl,⟨fun _ _ h=>h,fun _ _ h=>.inl h⟩,R0 hwi hb,.str _ _ rfl,R3 (fun _ _ _ h=>by cases h) (fun _ h=>by cases h)⟩
theorem d6v:l5 32 e47:=f1g f3b
end
end Go.Proofs.YtffaodopiifbkaaGreatDoor
namespace Go.Proofs.YtffaodopiifbkaaGreatDoor
open Go.Abs LQ
set_option maxRecDepth 100000
set_option maxHeartbeats 8000000
noncomputable section
def f66 (ok:O→Prop) (g:List Pk→O→GV):Sp where
 ι:={ p:List Pk × O // K0 p.1∧ok p.2 }
 A p:=[.sl 2 (p.1.1.map pg),.a p.1.2.g]
 B _:=[]
 R p:=.ret (g p.1.1 p.1.2)
 B' _:=[]
 inj i j vs bs h k _ _:=by
  obtain ⟨_,_,h1,k1,h,k⟩:=h.two k
  obtain ⟨_,_,h2,k2,h,k⟩:=h.two k
  rw [Y8 (h1.sl_inj k1),O.g_inj (h2.a_inj k2)];exact ⟨rfl,rfl⟩
def okZ (o:O):Prop:=o.size < 90000
def hmG (L:List Pk) (o:O):GV:=.c (.b (C7 L o))
theorem f54:l5 112 (f66 okZ hmG):=a32 (fun p=>p.1.2.size) fun n ih=>n6 (fun fn h=>e71 h) [(112,(f66 okZ hmG).lt _ n),(61,_)] (.cons ih (.cons d73 .nil)) fun U fn hfn ⟨⟨(L,o),hL,hz⟩,hn⟩ vs bs hv hb=>by
 have hr:=hfn 112 _ rfl
 have hh:=hfn 61 _ rfl
 have hL:K0 L:=hL
 have hz:o.size < 90000:=hz
 have hn:o.size < n+1:=hn
 have hv:l8 [.sl 2 (L.map pg),.a o.g] vs:=hv
 have hb:j5 [] bs:=hb
 show j6 U _ fun v bs'=>l9 (.ret (.c (.b (C7 L o)))) v∧j5 [] bs'
 unfold e3l
 (refine Zy ?_;intros)
 refine L0 aS o.g_len fun q0 hq0=>?_
 (refine Zy ?_;intros)
 refine H0 (fun (x:O) vs bs=>∃ (t:j9 Q) (k m:Nat) (q:Q),vs=[.slice t 2 k m .no,.ptr 0 0]∧bs=[.opa q 7]∧m=L.length∧r7 2 (L.map pg) t k∧A8 x.g q 0∧C7 L o=C7 L x∧x.size≤o.size) (fun x=>x.size) o ⟨_,_,_,_,rfl,rfl,by simp,aS,aS,rfl,Nat.le_refl _⟩ (by simp only [C2];omega) ?_
 rintro self x _ _ ⟨t,k,m,q,rfl,rfl,rfl,ht,hq,he,hsz⟩ ih
 cases hco:x.isCo with
 | true =>
  cases x with
  | co a d =>
   have hs:(O.co a d).size=1+a.size+d.size:=rfl
   rw [hs] at hsz
   have hq:A8 [.i .i64 4,.s [],.s [],.s [],.s [],.s [],.l ([a,d].map O.g)] q 0:=hq
   have hl2:([a,d]:List O).length=2:=rfl
   have hpd:=d.size_pos
   have e1:C7 L (.co a d)=(C7 L a && C7 L d):=rfl
   rw [e1] at he
   rw [he]
   (refine Zz ?_;intros)
   refine j3 hr ⟨⟨(L,a),hL,by show a.size < 90000;omega⟩,by show a.size < n;omega⟩ (r:=.c (.b (C7 L a))) rfl (.k (.sl _ _ _ _ _ (by simp) aS) (.k (oV aS) .nil)) .nil fun _ _ _ _=>?_
   (refine Zq ?_;with_reducible repeat' first|intro _|apply aI)
   ·rw [‹C7 L a=true›,Bool.true_and]
    rw [‹C7 L a=true›,Bool.true_and] at he
    rw [← he]
    exact ih d _ _ ⟨_,_,_,_,rfl,rfl,rfl,aS,aS,he,oM⟩ (by rw [hs];omega)
   ·rw [show C7 L a=false by simpa using ‹¬C7 L a=true›,Bool.false_and]
    exact k9 ⟨.ret _ _ (.kn _),.nil⟩
  | _=>cases hco
 | false =>
  have hk:¬x.k=4:=fun e=>by cases x <;> first | (cases hco;done) | (simp [O.k] at e;done)
  rw [x.g_eq] at hq
  rw [he]
  (refine Zq ?_;with_reducible repeat' first|intro _|apply aI)
  ·exact absurd ‹x.k=4› hk
  ·have h2:=‹x.k=2›
   cases x with
   | sy s =>
    refine j3 hh ⟨(L,s),hL⟩ (r:=.c (.b (H7 L s))) rfl (.k (.sl _ _ _ _ _ (by simp) aS) (.k (d70 (gs:=List.drop 3 _) aS (by rfl) rfl) .nil)) .nil fun _ _ _ _=>?_
    (refine Zq ?_;intros)
    exact k9 ⟨.ret _ _ (.b _),.nil⟩
   | _=>simp [O.k] at h2
  ·have h2:=‹¬x.k=2›
   have:C7 L x=true:=by
    cases x with
    | sy s=>exact absurd rfl h2
    | co=>cases hco
    | _=>rfl
   rw [this]
   exact k9 ⟨.ret _ _ (.kn _),.nil⟩
def e1n (ok:O→Prop) (g:List Pk→i6→O→GV):Sp where
 ι:={ p:List Pk × i6 × O // K0 p.1∧ok p.2.2 }
 A p:=[.sl 2 (p.1.1.map pg),.c (.s p.1.2.1),.a p.1.2.2.g]
 B _:=[]
 R p:=.ret (g p.1.1 p.1.2.1 p.1.2.2)
 B' _:=[]
 inj i j vs bs h k _ _:=by
  obtain ⟨_,_,h1,k1,h,k⟩:=h.two k
  obtain ⟨_,_,h2,k2,h,k⟩:=h.two k
  obtain ⟨_,_,h3,k3,h,k⟩:=h.two k
  rw [Y8 (h1.sl_inj k1),I7 h2 k2,O.g_inj (h3.a_inj k3)];exact ⟨rfl,rfl⟩
def ckG (L:List Pk) (cur:i6) (o:O):GV:=.c (.i .i64 (G7 L cur o).2)
theorem f7f:l5 75 (e1n okV ckG):=n6 (fun fn h=>f6i h) [(104,_),(60,_),(112,_)] (.cons e9i (.cons c7t (.cons f54 .nil))) fun U fn hfn ⟨(L,cur,o),hL,ho⟩ vs bs hv hb=>by
 have hva:=hfn 104 _ rfl
 have hfi:=hfn 60 _ rfl
 have hho:=hfn 112 _ rfl
 have hL:K0 L:=hL
 have ho:okV o:=ho
 have hv:l8 [.sl 2 (L.map pg),.c (.s cur),.a o.g] vs:=hv
 have hb:j5 [] bs:=hb
 show j6 U _ fun v bs'=>l9 (.ret (.c (.i .i64 (G7 L cur o).2))) v∧j5 [] bs'
 unfold r75
 (refine Zy ?_;intros)
 refine L0 aS o.g_len fun q0 hq0=>?_
 (refine Zy ?_;intros)
 refine j3 hva ⟨o,ho⟩ (r:=.c (.b true)) rfl (.k (oV aS) .nil) .nil fun _ _ _ _=>?_
 (refine Zz ?_;with_reducible repeat' first|intro _|apply aI)
 cases hf:C8 L cur with
 | none =>
  have e:(G7 L cur o).2=13:=by unfold G7;rw [if_pos (.inl hf)]
  rw [e]
  refine j3 hfi ⟨(L,cur),hL⟩ (r:=.t [.a [.s [],.l []],.c (.b false)]) (by show s8.ret (J5 L cur)=_;rw [c27 hf]) (.k (.sl _ _ _ _ _ (by simp) aS) l6) .nil fun _ _ _ _=>?_
  (refine Zq ?_;intros)
  exact k9 ⟨.ret _ _ (.i _ _),.nil⟩
 | some p =>
  refine j3 hfi ⟨(L,cur),hL⟩ (r:=.t [.a (pg p),.c (.b true)]) (by show s8.ret (J5 L cur)=_;rw [c2u hf]) (.k (.sl _ _ _ _ _ (by simp) aS) l6) .nil fun _ _ hv9 _=>?_
  have hv9:RV (.t [.a [.s p.1,.l (p.2.map sg)],.c (.b true)]) _:=hv9
  (refine Zq ?_;intros)
  refine j3 hho ⟨(L,o),hL,by show o.size < 90000;have:=ho.size;omega⟩ (r:=.c (.b (C7 L o))) rfl (.k (.sl _ _ _ _ _ (by simp) aS) (.k (oV aS) .nil)) .nil fun _ _ _ _=>?_
  (refine Zq ?_;with_reducible repeat' first|intro _|apply aI)
  ·have e:(G7 L cur o).2=0:=by unfold G7;rw [if_neg (by rw [hf,‹C7 L o=true›];simp)]
   rw [e]
   exact k9 ⟨.ret _ _ (.i _ _),.nil⟩
  ·have e:(G7 L cur o).2=13:=by unfold G7;rw [if_pos (.inr (by simpa using ‹¬C7 L o=true›))]
   rw [e]
   exact k9 ⟨.ret _ _ (.i _ _),.nil⟩
def a7s (o:O):GV:=match M7 o with
 | some x=>.t [.a x.g,.c (.b true)]
 | none=>.t [.a O.no.g,.c (.b false)]
open Classical in
theorem d8i {o:O} {l:List O} (h:E4 o=some l) (hl:l.length=2):M7 o=if O.eqb (l[0]'oM) z8=true then some (l[1]'oM) else none:=by
 match l,hl with
 | [a,b],_ =>
  unfold M7
  rw [h]
  show (if a=z8 then some b else none)=if O.eqb a z8=true then some b else none
  by_cases e:a=z8
  ·rw [if_pos e,if_pos (O.eqb_t.2 e)]
  ·rw [if_neg e,if_neg fun h=>e (O.eqb_t.1 h)]
theorem d8e {o:O} {l:List O} (h:E4 o=some l) (hl:¬l.length=2):M7 o=none:=by
 unfold M7
 rw [h]
 match l,hl with
 | [],_=>rfl
 | [_],_=>rfl
 | _ :: _ :: _ :: _,_=>rfl
theorem e0t {o:O} (h:E4 o=none):M7 o=none:=by unfold M7;rw [h]
abbrev zV0:V:=.agg [.int .i64 0,.str 0 0,.str 0 0,.str 0 0,.str 0 0,.str 0 0,.slice .nil 0 0 0 .no]
theorem f6d:RV (.a O.no.g) zV0:=.ag _ _ (.k (.i _ _) (.k (.s _ _ _ rfl rfl) (.k (.s _ _ _ rfl rfl) (.k (.s _ _ _ rfl rfl) (.k (.s _ _ _ rfl rfl) (.k (.s _ _ _ rfl rfl) (.k (.cl _ _ _ _ _ rfl (.nil _ _ _)) .nil)))))))
theorem b3g {U:x5} {o:O} (h:M7 o=none):j6 U (some (.ret (.tuple [zV0,.known false]),[])) fun v bs'=>l9 (.ret (a7s o)) v∧j5 [] bs':=by
 unfold a7s
 rw [h]
 exact k9 ⟨.ret _ _ (.t _ _ (.k f6d (.k (.kn _) .nil))),.nil⟩
theorem f4s:l5 113 (f5t a7s):=n6 (fun fn h=>e7e h) [(121,_),(105,_),(144,_)] (.cons f6w (.cons a63 (.cons g1v .nil))) fun U fn hfn ⟨o,hz⟩ vs bs hv hb=>by
 have hit:=hfn 121 _ rfl
 have hsy:=hfn 105 _ rfl
 have heq:=hfn 144 _ rfl
 have hz:o.size < 90000:=hz
 have hv:l8 [.a o.g] vs:=hv
 have hb:j5 [] bs:=hb
 show j6 U _ fun v bs'=>l9 (.ret (a7s o)) v∧j5 [] bs'
 unfold e2m
 (refine Zy ?_;intros)
 refine L0 aS o.g_len fun q0 hq0=>?_
 (refine Zy ?_;with_reducible repeat' first|intro _|apply aI)
 cases hi:E4 o with
 | none =>
  refine j3 hit ⟨o,hz⟩ (r:=.t [.sl 7 [],.c (.b false)]) (by show s8.ret (a4x o)=_;unfold a4x;rw [hi]) (.k (oV aS) .nil) .nil fun _ _ _ _=>?_
  (refine Zq ?_;intros)
  exact b3g (e0t hi)
 | some l =>
  refine j3 hit ⟨o,hz⟩ (r:=.t [.sl 7 (l.map O.g),.c (.b true)]) (by show s8.ret (a4x o)=_;unfold a4x;rw [hi]) (.k (oV aS) .nil) .nil fun _ _ _ _=>?_
  (refine Zq ?_;with_reducible repeat' first|intro _|apply aI)
  ·have hl:l.length=2:=oM
   have h2:=d8i hi hl
   refine j3 hsy (u1,[113,117,111,116,101]) (r:=.a z8.g) rfl (.k (.ag _ _ l6) .nil) .nil fun _ _ _ _=>?_
   (refine Zq ?_;intros)
   refine j3 heq (l[0]'oM) (r:=.c (.b (O.eqb (l[0]'oM) z8))) rfl (.k (oV aS) (.k (oV aS) .nil)) .nil fun _ _ _ _=>?_
   (refine Zq ?_;with_reducible repeat' first|intro _|apply aI)
   ·rw [if_pos ‹O.eqb _ z8=true›] at h2
    unfold a7s
    rw [h2]
    exact k9 ⟨.ret _ _ (.t _ _ (.k (oV aS) (.k (.kn _) .nil))),.nil⟩
   ·rw [if_neg ‹¬O.eqb _ z8=true›] at h2
    exact b3g h2
  ·exact b3g (d8e hi oM)
end
end Go.Proofs.YtffaodopiifbkaaGreatDoor
namespace Go.Proofs.YtffaodopiifbkaaGreatDoor
open Go.Abs LQ Go.RowKit Go.Shelf
set_option maxRecDepth 100000
noncomputable section
section
variable {S:m9} {w:World}
theorem d2e {o:O} {v:Value} (h:Rd S u6 w v (dV (.a o.g))):∃ c6,v=.agg (ob7 o c6)∧Rd S u6 w c6 (dG (.l (o.ps.map O.g))):=by
 simp only [dV] at h
 cases h with
 | agg vs _ r =>
 obtain ⟨c6,e,hc⟩:=b54 r
 have:vs=ob7 o c6:=by rw [← Array.toList_inj,e]
 exact ⟨c6,by rw [this],hc⟩
theorem d2d {o:O} {c6:Value} (h:Rd S u6 w c6 (dG (.l (o.ps.map O.g)))):Rd S u6 w (.agg (ob7 o c6)) (dV (.a o.g)):=by
 simp only [dV]
 exact .agg _ _ (e0i h)
theorem c9q (s:i6) (c:UInt8) (hs:s.length < 90000) (hc:c=34∨c=124) (n:Int) (hn:n=c.toNat) (hg:GG.pred w) :
  Calls Tryz.prog 107 #[.string ⟨s.toArray⟩,.int .i32 n] w fun e w'=>e=.returned (.string ⟨(G9 c s).toArray⟩)∧Below w.heap.size w w':=by
 subst hn
 refine (b1n f3b ⟨(s,c),hs,hc⟩ rfl rfl (vs:=[.str s.length (p9 s),.int .i32 (c.toNat:Int)]) (.k (.s _ _ _ rfl rfl) (.k (.i _ _) .nil)) (S:=fun _ _=>False) (us:=[.string ⟨s.toArray⟩,.int .i32 (c.toNat:Int)]) hg (fun _ _ h=>h.elim) (.k (.str _ _ rfl) (.k (.int _ _) .nil))).mono ?_
 rintro e w' ⟨v,S',rfl,hb,_,_,hr⟩
 have:=a00 hr
 subst this
 exact ⟨rfl,hb⟩
theorem b86 {o:O} {c6:Value} (hq:a3x o) (hg:GG.pred w) (hwi:S.within w) (hc:Rd S u6 w c6 (dG (.l (o.ps.map O.g)))) :
  Calls Tryz.prog 115 #[.agg (ob7 o c6)] w fun e w'=>e=.returned (.bool (O.eqb o x8))∧Below w.heap.size w w':=by
 obtain ⟨v,hv⟩:=hq.rv
 refine (b1n d1c o rfl rfl (vs:=[v]) (.k hv .nil) (us:=[.agg (ob7 o c6)]) hg hwi (.k (d2d hc) .nil)).mono ?_
 rintro e w' ⟨v,S',rfl,hb,_,_,hr⟩
 have hr:Rd S' u6 w' v (.bool (O.eqb o x8)):=hr
 generalize O.eqb o x8=z at hr ⊢
 cases hr
 exact ⟨rfl,hb⟩
theorem d9g {L:List Pk} {cur:i6} {s:Sy} {lv:Value} {vL:V} (hL:K0 L) (h1:s.1.length < 90000) (h2:s.2.length < 90000) (hvL:RV (.sl 2 (L.map pg)) vL) (hg:GG.pred w) (hwi:S.within w) (hlv:Rd S u6 w lv (dV (.sl 2 (L.map pg)))) :
  Calls Tryz.prog 32 #[lv,.string ⟨cur.toArray⟩,.agg #[.string ⟨s.1.toArray⟩,.string ⟨s.2.toArray⟩]] w fun e w'=>e=.returned (.tuple #[.string ⟨(G2 L cur s).1.toArray⟩,.int .i64 (G2 L cur s).2])∧Below w.heap.size w w':=by
 refine (b1n d6v ⟨(L,cur,s),hL,h1,h2⟩ rfl rfl (vs:=[vL,.str cur.length (p9 cur),.agg [.str s.1.length (p9 s.1),.str s.2.length (p9 s.2)]])
  (.k hvL (.k (.s _ _ _ rfl rfl) (.k (.ag _ _ (.k (.s _ _ _ rfl rfl) (.k (.s _ _ _ rfl rfl) .nil))) .nil)))
  (us:=[lv,.string ⟨cur.toArray⟩,.agg #[.string ⟨s.1.toArray⟩,.string ⟨s.2.toArray⟩]]) hg hwi (.k hlv (.k (.str _ _ rfl) (.k ?_ .nil)))).mono ?_
 ·simp only [dV,sg,List.map_cons,List.map_nil,dG]
  exact .agg _ _ (.k (.str _ _ rfl) (.k (.str _ _ rfl) .nil))
 rintro e w' ⟨v,S',rfl,hb,_,_,hr⟩
 have hr:Rd S' u6 w' v (dV (b1k (G2 L cur s))):=hr
 generalize G2 L cur s=r at hr ⊢
 simp only [b1k,dV,dVs,dG] at hr
 cases hr with
 | tuple vs _ r =>
 obtain ⟨vs⟩:=vs
 cases r with
 | cons _ _ _ _ r1 r2 =>
 cases r2 with
 | cons _ _ _ _ r2 r3 =>
 cases r3
 cases r2
 have:=a00 r1
 subst this
 exact ⟨rfl,hb⟩
theorem d5x {o:O} {c6:Value} (hz:o.size < 90000) (hq:a3x o) (hg:GG.pred w) (hwi:S.within w) (hc:Rd S u6 w c6 (dG (.l (o.ps.map O.g)))) :
  Calls Tryz.prog 113 #[.agg (ob7 o c6)] w fun e w'=>Below w.heap.size w w'∧∃ S',S.grown S' w∧S'.within w'∧∃ x6,match M7 o with
   | some x=>e=.returned (.tuple #[.agg (ob7 x x6),.bool true])∧Rd S' u6 w' x6 (dG (.l (x.ps.map O.g)))
   | none=>e=.returned (.tuple #[.agg (ob7 .no x6),.bool false])∧Rd S' u6 w' x6 (dG (.l (O.no.ps.map O.g))):=by
 obtain ⟨v,hv⟩:=hq.rv
 refine (b1n f4s ⟨o,hz⟩ rfl rfl (vs:=[v]) (.k hv .nil) (us:=[.agg (ob7 o c6)]) hg hwi (.k (d2d hc) .nil)).mono ?_
 rintro e w' ⟨v,S',rfl,hb,h1,h2,hr⟩
 refine ⟨hb,S',h1,h2,?_⟩
 have hr:Rd S' u6 w' v (dV (a7s o)):=hr
 have key:∀ (x:O) (z:Bool),Rd S' u6 w' v (dV (.t [.a x.g,.c (.b z)]))→∃ x6,v=.tuple #[.agg (ob7 x x6),.bool z]∧Rd S' u6 w' x6 (dG (.l (x.ps.map O.g))):=by
  intro x z hr
  rw [dV,dVs,dVs,dVs] at hr
  cases hr with
  | tuple vs _ r =>
  obtain ⟨vs⟩:=vs
  cases r with
  | cons _ _ _ _ r1 r2 =>
  cases r2 with
  | cons _ _ _ _ r2 r3 =>
  cases r3
  obtain ⟨x6,e1,hx⟩:=d2e r1
  have r2:Rd S' u6 w' _ (.bool z):=r2
  cases r2
  subst e1
  exact ⟨x6,rfl,hx⟩
 unfold a7s at hr
 cases hs:M7 o with
 | none =>
  rw [hs] at hr
  obtain ⟨x6,e,h⟩:=key _ _ hr
  exact ⟨x6,by rw [e],h⟩
 | some x =>
  rw [hs] at hr
  obtain ⟨x6,e,h⟩:=key _ _ hr
  exact ⟨x6,by rw [e],h⟩
end
end
end Go.Proofs.YtffaodopiifbkaaGreatDoor
