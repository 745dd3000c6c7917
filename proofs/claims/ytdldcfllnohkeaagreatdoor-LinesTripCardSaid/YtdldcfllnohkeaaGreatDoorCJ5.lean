/- Valid objects: what the program's and the reference's checks say of them. -/
import Derived.Test.YtdldcfllnohkeaaGreatDoorCJ4
set_option linter.all false
namespace Go.Proofs.YtdldcfllnohkeaaGreatDoor
open Go.Abs LQ
set_option maxRecDepth 100000
set_option maxHeartbeats 4000000
noncomputable section
theorem c9o (n:Int) (d:Nat):a2h (j3 n) (i7 d)=(O.num n d).fm:=by
 unfold a2h
 rw [c3w,a5e,← a2s,← a2s,Bool.true_and,Bool.true_and,Bool.eq_iff_iff]
 simp only [O.fm,Bool.and_eq_true,decide_eq_true_iff]
 constructor
 ·rintro ⟨⟨h1,h2⟩,h3⟩;exact ⟨h3,h1,h2⟩
 ·rintro ⟨h3,h1,h2⟩;exact ⟨⟨h1,h2⟩,h3⟩
theorem c67:∀ o:O,(R8 o).fm=o.fm
 | .num n d=>by
  rw [b99 (o:=R8 (.num n d)) rfl,← c9o]
  simp [H9,R8,RT.obs]
 | .sy s=>by
  rw [b56 (o:=R8 (.sy s)) rfl]
  simp [H9,R8,RT.obs,O.fm]
 | .tx t=>by
  rw [c0a (o:=R8 (.tx t)) rfl,Bool.eq_iff_iff]
  simp [H9,R8,RT.obs,O.fm]
  exact decide_eq_true_iff
 | .co a d=>by
  rw [b7q (c0u a d) rfl,c67 a,c67 d]
  simp [H9,R8,O.fm]
 | .no=>by
  rw [d94 (o:=R8 .no) dE dE dE dE];rfl
theorem f59 {gs gs':List G} {q:Q} {k:Nat} (h:A6 gs q 0) (e:gs.take k=gs') (hk:k=gs'.length):RV (.a gs') (.a q k):=.a _ _ _ hk (e ▸ h.take k)
structure okV (o:O):Prop where
 fm:o.fm=true
 size:o.size≤3000
theorem d43 {n:Int} {k:Nat} (h:(i7 n.natAbs).length≤k):(j3 n).length≤k+1:=by
 rw [I8,List.length_append]
 have:(LQ.sgn n).length≤1:=by unfold LQ.sgn;split <;> simp
 omega
theorem f0s {n:Int} {d:Nat} (h:(O.num n d).fm=true):(j3 n).length≤101∧(i7 d).length≤100:=by
 have h:u4 (j3 n) (i7 d)=(j3 n,i7 d)∧G8 (j3 n)≤100∧G8 (i7 d)≤100:=by simpa [O.fm] using h
 have h2:=h.2.1
 have h3:=h.2.2
 rw [a4e] at h2
 rw [a1j] at h3
 exact ⟨d43 h2,h3⟩
theorem lt8:(0:Nat) < 8000:=dE
theorem lt9:(0:Nat) < 90000:=dE
theorem d3n:∀ {o:O},o.fm=true→o.sm∧(R8 o).sm
 | .num n d,h=>by
  have h:=f0s h
  exact ⟨⟨oM,oM⟩,⟨by show (j3 n).length < 8000;omega,by show (i7 d).length < 8000;omega,lt9,lt9⟩,trivial⟩
 | .sy s,h=>by
  have h1:=a12 (s:=s) h
  have h2:=b6e (s:=s) h
  exact ⟨⟨oM,oM⟩,⟨lt8,lt8,by show s.1.length < 90000;omega,by show s.2.length < 90000;omega⟩,trivial⟩
 | .tx t,h=>by
  have h:t.length≤200:=by simpa [O.fm] using h
  exact ⟨by show t.length < 9000;omega,⟨lt8,lt8,lt9,lt9⟩,trivial⟩
 | .co a d,h=>by
  have h:a.fm=true∧d.fm=true:=by simpa [O.fm] using h
  obtain ⟨a1,a2⟩:=d3n h.1
  obtain ⟨d1,d2⟩:=d3n h.2
  exact ⟨⟨a1,d1⟩,⟨lt8,lt8,lt9,lt9⟩,a2.1,a2.2,d2.1,d2.2,trivial⟩
 | .no,h=>by cases h
def g2e (r:GV):Sp where
 ι:={ o:O // okV o }
 A o:=[.a o.1.g]
 B _:=[]
 R _:=.ret r
 B' _:=[]
 inj i j vs bs h k _ _:=⟨rfl,rfl⟩
theorem e6z:k9 49 (g2e (.c (.b true))):=(d1j kIS).via (fun o=>⟨R8 o.1,(d3n o.2.fm).2⟩) fun o=>⟨by show [GV.a o.1.g]=[GV.a (R8 o.1).g];rw [c4j],rfl,by
 show _=r7.ret (.c (.b (R8 o.1).vd))
 unfold Ob.vd
 rw [b8b,c67,o.2.fm,decide_eq_true o.2.size];rfl,rfl⟩
def D0 (L:List Pk) (cur:i6) (o:O):i6 × Int:=if D2 L cur=none∨C9 L o=false then ([],13) else (A4 L cur o,0)
theorem c4k {L:List Pk} {o:O} (h:okV o) (k:C9 L o=true):okA L o:=c50 h.fm k
end
end Go.Proofs.YtdldcfllnohkeaaGreatDoor
namespace Go.Proofs.YtdldcfllnohkeaaGreatDoor
open Go.Abs LQ Go.RowKit Go.Shelf
set_option maxRecDepth 100000
noncomputable section
theorem f07:k9 52 d48:=fun ⟨(s,c),hs,hc⟩ vs bs hv hb=>by
 change l7 [.c (.s s),.c (.i .i32 (c.toNat:Int))] vs at hv
 change s.length < 90000 at hs
 change c=34∨c=124 at hc
 cases hb
 refine ⟨.ret (.str (H4 c s).length (n7 (H4 c s))),[],fun hok=>?_,.ret _ _ (.s _ _ _ rfl rfl),.nil⟩
 rw [hv.map_toD]
 show CM X0.P X0.G _ _ [] (.ret (.str (m8 (H4 c s).length (n7 (H4 c s))))) []
 rw [C2]
 refine L5 (d:=.str (H4 c s)) Tryz.call52 fun w S M us hg hwi hr=>?_
 simp only [List.map_cons,List.map_nil,dV,dG] at hr
 cases hr with
 | cons _ _ _ _ r1 r2 =>
 cases r2 with
 | cons _ _ _ _ r2 r3 =>
 cases r3
 cases r2
 have e1:=Z5 r1
 subst e1
 obtain ⟨m,hm⟩:=hg.2
 have key:=c92 m s c.toNat (by rcases hc with rfl | rfl;exact .inl rfl;exact .inr rfl) w hm hs
 have ec:c.toNat.toUInt8=c:=by rcases hc with rfl | rfl <;> rfl
 rw [ec] at key
 refine key.mono ?_
 rintro e w' ⟨rfl,hb⟩
 exact ⟨hb,_,S,rfl,⟨fun _ _ h=>h,fun _ _ h=>.inl h⟩,S8 hwi hb,.str _ _ rfl,P6 (fun _ _ _ h=>by cases h) (fun _ h=>by cases h)⟩
theorem f02:k9 53 e5n:=f01 f07
end
end Go.Proofs.YtdldcfllnohkeaaGreatDoor
namespace Go.Proofs.YtdldcfllnohkeaaGreatDoor
open Go.Abs LQ
set_option maxRecDepth 100000
set_option maxHeartbeats 8000000
noncomputable section
def f6w (ok:O→Prop) (g:List Pk→O→GV):Sp where
 ι:={ p:List Pk × O // H7 p.1∧ok p.2 }
 A p:=[.sl 2 (p.1.1.map pg),.a p.1.2.g]
 B _:=[]
 R p:=.ret (g p.1.1 p.1.2)
 B' _:=[]
 inj i j vs bs h k _ _:=by
  obtain ⟨_,_,h1,k1,h,k⟩:=h.two k
  obtain ⟨_,_,h2,k2,h,k⟩:=h.two k
  rw [W7 (h1.sl_inj k1),O.g_inj (h2.a_inj k2)];exact ⟨rfl,rfl⟩
def okZ (o:O):Prop:=o.size < 90000
def hmG (L:List Pk) (o:O):GV:=.c (.b (C9 L o))
theorem f04:k9 51 (f6w okZ hmG):=a3x (fun p=>p.1.2.size) fun n ih=>n9 (fun fn h=>f4i h) [(51,(f6w okZ hmG).lt _ n),(82,_)] (.cons ih (.cons d6x .nil)) fun U fn hfn ⟨⟨(L,o),hL,hz⟩,hn⟩ vs bs hv hb=>by
 have hr:=hfn 51 _ rfl
 have hh:=hfn 82 _ rfl
 have hL:H7 L:=hL
 have hz:o.size < 90000:=hz
 have hn:o.size < n+1:=hn
 have hv:l7 [.sl 2 (L.map pg),.a o.g] vs:=hv
 have hb:RBs [] bs:=hb
 show j5 U _ fun v bs'=>l8 (.ret (.c (.b (C9 L o)))) v∧RBs [] bs'
 unfold r51
 (refine Zy ?_;intros)
 refine M5 aS o.g_len fun q0 hq0=>?_
 (refine Zy ?_;intros)
 refine H2 (fun (x:O) vs bs=>∃ (t:j8 Q) (k m:Nat) (q:Q),vs=[.slice t 2 k m .no,.ptr 0 0]∧bs=[.opa q 7]∧m=L.length∧p9 2 (L.map pg) t k∧A6 x.g q 0∧C9 L o=C9 L x∧x.size≤o.size) (fun x=>x.size) o ⟨_,_,_,_,rfl,rfl,by simp,aS,aS,rfl,Nat.le_refl _⟩ (by simp only [C4];omega) ?_
 rintro self x _ _ ⟨t,k,m,q,rfl,rfl,rfl,ht,hq,he,hsz⟩ ih
 cases hco:x.isCo with
 | true =>
  cases x with
  | co a d =>
   have hs:(O.co a d).size=1+a.size+d.size:=rfl
   rw [hs] at hsz
   have hq:A6 [.i .i64 4,.s [],.s [],.s [],.s [],.s [],.l ([a,d].map O.g)] q 0:=hq
   have hl2:([a,d]:List O).length=2:=rfl
   have hpd:=d.size_pos
   have e1:C9 L (.co a d)=(C9 L a && C9 L d):=rfl
   rw [e1] at he
   rw [he]
   (refine Zz ?_;intros)
   refine j4 hr ⟨⟨(L,a),hL,by show a.size < 90000;omega⟩,by show a.size < n;omega⟩ (r:=.c (.b (C9 L a))) rfl (.k (.sl _ _ _ _ _ (by simp) aS) (.k (oV aS) .nil)) .nil fun _ _ _ _=>?_
   (refine Zq ?_;with_reducible repeat' first|intro _|apply aI)
   ·rw [‹C9 L a=true›,Bool.true_and]
    rw [‹C9 L a=true›,Bool.true_and] at he
    rw [← he]
    exact ih d _ _ ⟨_,_,_,_,rfl,rfl,rfl,aS,aS,he,oM⟩ (by rw [hs];omega)
   ·rw [show C9 L a=false by simpa using ‹¬C9 L a=true›,Bool.false_and]
    exact j9 ⟨.ret _ _ (.kn _),.nil⟩
  | _=>cases hco
 | false =>
  have hk:¬x.k=4:=fun e=>by cases x <;> first | (cases hco;done) | (simp [O.k] at e;done)
  rw [x.g_eq] at hq
  rw [he]
  (refine Zq ?_;with_reducible repeat' first|intro _|apply aI)
  ·exact absurd ‹x.k=4› hk
  ·have h2:=‹x.k=2›
   cases x with
   | sy s =>
    refine j4 hh ⟨(L,s),hL⟩ (r:=.c (.b (O5 L s))) rfl (.k (.sl _ _ _ _ _ (by simp) aS) (.k (f59 (gs:=List.drop 3 _) aS (by rfl) rfl) .nil)) .nil fun _ _ _ _=>?_
    (refine Zq ?_;intros)
    exact j9 ⟨.ret _ _ (.b _),.nil⟩
   | _=>simp [O.k] at h2
  ·have h2:=‹¬x.k=2›
   have:C9 L x=true:=by
    cases x with
    | sy s=>exact absurd rfl h2
    | co=>cases hco
    | _=>rfl
   rw [this]
   exact j9 ⟨.ret _ _ (.kn _),.nil⟩
def e3e (ok:O→Prop) (g:List Pk→i6→O→GV):Sp where
 ι:={ p:List Pk × i6 × O // H7 p.1∧ok p.2.2 }
 A p:=[.sl 2 (p.1.1.map pg),.c (.s p.1.2.1),.a p.1.2.2.g]
 B _:=[]
 R p:=.ret (g p.1.1 p.1.2.1 p.1.2.2)
 B' _:=[]
 inj i j vs bs h k _ _:=by
  obtain ⟨_,_,h1,k1,h,k⟩:=h.two k
  obtain ⟨_,_,h2,k2,h,k⟩:=h.two k
  obtain ⟨_,_,h3,k3,h,k⟩:=h.two k
  rw [W7 (h1.sl_inj k1),H3 h2 k2,O.g_inj (h3.a_inj k3)];exact ⟨rfl,rfl⟩
def ckG (L:List Pk) (cur:i6) (o:O):GV:=.c (.i .i64 (D0 L cur o).2)
theorem d6u:k9 25 (e3e okV ckG):=n9 (fun fn h=>f2w h) [(49,_),(50,_),(51,_)] (.cons e6z (.cons c58 (.cons f04 .nil))) fun U fn hfn ⟨(L,cur,o),hL,ho⟩ vs bs hv hb=>by
 have hva:=hfn 49 _ rfl
 have hfi:=hfn 50 _ rfl
 have hho:=hfn 51 _ rfl
 have hL:H7 L:=hL
 have ho:okV o:=ho
 have hv:l7 [.sl 2 (L.map pg),.c (.s cur),.a o.g] vs:=hv
 have hb:RBs [] bs:=hb
 show j5 U _ fun v bs'=>l8 (.ret (.c (.i .i64 (D0 L cur o).2))) v∧RBs [] bs'
 unfold r25
 (refine Zy ?_;intros)
 refine M5 aS o.g_len fun q0 hq0=>?_
 (refine Zy ?_;intros)
 refine j4 hva ⟨o,ho⟩ (r:=.c (.b true)) rfl (.k (oV aS) .nil) .nil fun _ _ _ _=>?_
 (refine Zz ?_;with_reducible repeat' first|intro _|apply aI)
 cases hf:D2 L cur with
 | none =>
  have e:(D0 L cur o).2=13:=by unfold D0;rw [if_pos (.inl hf)]
  rw [e]
  refine j4 hfi ⟨(L,cur),hL⟩ (r:=.t [.a [.s [],.l []],.c (.b false)]) (by show r7.ret (J2 L cur)=_;rw [c19 hf]) (.k (.sl _ _ _ _ _ (by simp) aS) l5) .nil fun _ _ _ _=>?_
  (refine Zq ?_;intros)
  exact j9 ⟨.ret _ _ (.i _ _),.nil⟩
 | some p =>
  refine j4 hfi ⟨(L,cur),hL⟩ (r:=.t [.a (pg p),.c (.b true)]) (by show r7.ret (J2 L cur)=_;rw [c2a hf]) (.k (.sl _ _ _ _ _ (by simp) aS) l5) .nil fun _ _ hv9 _=>?_
  have hv9:RV (.t [.a [.s p.1,.l (p.2.map sg)],.c (.b true)]) _:=hv9
  (refine Zq ?_;intros)
  refine j4 hho ⟨(L,o),hL,by show o.size < 90000;have:=ho.size;omega⟩ (r:=.c (.b (C9 L o))) rfl (.k (.sl _ _ _ _ _ (by simp) aS) (.k (oV aS) .nil)) .nil fun _ _ _ _=>?_
  (refine Zq ?_;with_reducible repeat' first|intro _|apply aI)
  ·have e:(D0 L cur o).2=0:=by unfold D0;rw [if_neg (by rw [hf,‹C9 L o=true›];simp)]
   rw [e]
   exact j9 ⟨.ret _ _ (.i _ _),.nil⟩
  ·have e:(D0 L cur o).2=13:=by unfold D0;rw [if_pos (.inr (by simpa using ‹¬C9 L o=true›))]
   rw [e]
   exact j9 ⟨.ret _ _ (.i _ _),.nil⟩
def a45 (o:O):GV:=match D7 o with
 | some x=>.t [.a x.g,.c (.b true)]
 | none=>.t [.a O.no.g,.c (.b false)]
open Classical in
theorem d8i {o:O} {l:List O} (h:w9 o=some l) (hl:l.length=2):D7 o=if O.eqb (l[0]'oM) B0=true then some (l[1]'oM) else none:=by
 match l,hl with
 | [a,b],_ =>
  unfold D7
  rw [h]
  show (if a=B0 then some b else none)=if O.eqb a B0=true then some b else none
  by_cases e:a=B0
  ·rw [if_pos e,if_pos (O.eqb_t.2 e)]
  ·rw [if_neg e,if_neg fun h=>e (O.eqb_t.1 h)]
theorem d8h {o:O} {l:List O} (h:w9 o=some l) (hl:¬l.length=2):D7 o=none:=by
 unfold D7
 rw [h]
 match l,hl with
 | [],_=>rfl
 | [_],_=>rfl
 | _ :: _ :: _ :: _,_=>rfl
theorem e28 {o:O} (h:w9 o=none):D7 o=none:=by unfold D7;rw [h]
abbrev zV0:V:=.agg [.int .i64 0,.str 0 0,.str 0 0,.str 0 0,.str 0 0,.str 0 0,.slice .nil 0 0 0 .no]
theorem f6b:RV (.a O.no.g) zV0:=.ag _ _ (.k (.i _ _) (.k (.s _ _ _ rfl rfl) (.k (.s _ _ _ rfl rfl) (.k (.s _ _ _ rfl rfl) (.k (.s _ _ _ rfl rfl) (.k (.s _ _ _ rfl rfl) (.k (.cl _ _ _ _ _ rfl (.nil _ _ _)) .nil)))))))
theorem b3i {U:v8} {o:O} (h:D7 o=none):j5 U (some (.ret (.tuple [zV0,.known false]),[])) fun v bs'=>l8 (.ret (a45 o)) v∧RBs [] bs':=by
 unfold a45
 rw [h]
 exact j9 ⟨.ret _ _ (.t _ _ (.k f6b (.k (.kn _) .nil))),.nil⟩
theorem d62:k9 54 (d46 a45):=n9 (fun fn h=>f4m h) [(69,_),(88,_),(87,_)] (.cons d6y (.cons b0r (.cons g1l .nil))) fun U fn hfn ⟨o,hz⟩ vs bs hv hb=>by
 have hit:=hfn 69 _ rfl
 have hsy:=hfn 88 _ rfl
 have heq:=hfn 87 _ rfl
 have hz:o.size < 90000:=hz
 have hv:l7 [.a o.g] vs:=hv
 have hb:RBs [] bs:=hb
 show j5 U _ fun v bs'=>l8 (.ret (a45 o)) v∧RBs [] bs'
 unfold r54
 (refine Zy ?_;intros)
 refine M5 aS o.g_len fun q0 hq0=>?_
 (refine Zy ?_;with_reducible repeat' first|intro _|apply aI)
 cases hi:w9 o with
 | none =>
  refine j4 hit ⟨o,hz⟩ (r:=.t [.sl 7 [],.c (.b false)]) (by show r7.ret (a0q o)=_;unfold a0q;rw [hi]) (.k (oV aS) .nil) .nil fun _ _ _ _=>?_
  (refine Zq ?_;intros)
  exact b3i (e28 hi)
 | some l =>
  refine j4 hit ⟨o,hz⟩ (r:=.t [.sl 7 (l.map O.g),.c (.b true)]) (by show r7.ret (a0q o)=_;unfold a0q;rw [hi]) (.k (oV aS) .nil) .nil fun _ _ _ _=>?_
  (refine Zq ?_;with_reducible repeat' first|intro _|apply aI)
  ·have hl:l.length=2:=oM
   have h2:=d8i hi hl
   refine j4 hsy (x7,[113,117,111,116,101]) (r:=.a B0.g) rfl (.k (.ag _ _ l5) .nil) .nil fun _ _ _ _=>?_
   (refine Zq ?_;intros)
   refine j4 heq (l[0]'oM) (r:=.c (.b (O.eqb (l[0]'oM) B0))) rfl (.k (oV aS) (.k (oV aS) .nil)) .nil fun _ _ _ _=>?_
   (refine Zq ?_;with_reducible repeat' first|intro _|apply aI)
   ·rw [if_pos ‹O.eqb _ B0=true›] at h2
    unfold a45
    rw [h2]
    exact j9 ⟨.ret _ _ (.t _ _ (.k (oV aS) (.k (.kn _) .nil))),.nil⟩
   ·rw [if_neg ‹¬O.eqb _ B0=true›] at h2
    exact b3i h2
  ·exact b3i (d8h hi oM)
end
end Go.Proofs.YtdldcfllnohkeaaGreatDoor
namespace Go.Proofs.YtdldcfllnohkeaaGreatDoor
open Go.Abs LQ Go.RowKit Go.Shelf
set_option maxRecDepth 100000
noncomputable section
section
variable {S:l9} {w:World}
theorem c01 {o:O} {v:Value} (h:Rd S o8 w v (dV (.a o.g))):∃ c6,v=.agg (K9 o c6)∧Rd S o8 w c6 (dG (.l (o.ps.map O.g))):=by
 simp only [dV] at h
 cases h with
 | agg vs _ r =>
 obtain ⟨c6,e,hc⟩:=b0x r
 have:vs=K9 o c6:=by rw [← Array.toList_inj,e]
 exact ⟨c6,by rw [this],hc⟩
theorem b9w {o:O} {c6:Value} (h:Rd S o8 w c6 (dG (.l (o.ps.map O.g)))):Rd S o8 w (.agg (K9 o c6)) (dV (.a o.g)):=by
 simp only [dV]
 exact .agg _ _ (e35 h)
theorem c85 (s:i6) (c:UInt8) (hs:s.length < 90000) (hc:c=34∨c=124) (n:Int) (hn:n=c.toNat) (hg:GG.pred w) :
  Calls Tryz.prog 52 #[.string ⟨s.toArray⟩,.int .i32 n] w fun e w'=>e=.returned (.string ⟨(H4 c s).toArray⟩)∧Below w.heap.size w w':=by
 subst hn
 refine (a6y f07 ⟨(s,c),hs,hc⟩ rfl rfl (vs:=[.str s.length (n7 s),.int .i32 (c.toNat:Int)]) (.k (.s _ _ _ rfl rfl) (.k (.i _ _) .nil)) (S:=fun _ _=>False) (us:=[.string ⟨s.toArray⟩,.int .i32 (c.toNat:Int)]) hg (fun _ _ h=>h.elim) (.k (.str _ _ rfl) (.k (.int _ _) .nil))).mono ?_
 rintro e w' ⟨v,S',rfl,hb,_,_,hr⟩
 have:=Z5 hr
 subst this
 exact ⟨rfl,hb⟩
theorem b69 {o:O} {c6:Value} (hq:a0d o) (hg:GG.pred w) (hwi:S.within w) (hc:Rd S o8 w c6 (dG (.l (o.ps.map O.g)))) :
  Calls Tryz.prog 56 #[.agg (K9 o c6)] w fun e w'=>e=.returned (.bool (O.eqb o B3))∧Below w.heap.size w w':=by
 obtain ⟨v,hv⟩:=hq.rv
 refine (a6y d1f o rfl rfl (vs:=[v]) (.k hv .nil) (us:=[.agg (K9 o c6)]) hg hwi (.k (b9w hc) .nil)).mono ?_
 rintro e w' ⟨v,S',rfl,hb,_,_,hr⟩
 have hr:Rd S' o8 w' v (.bool (O.eqb o B3)):=hr
 generalize O.eqb o B3=z at hr ⊢
 cases hr
 exact ⟨rfl,hb⟩
theorem d5w {L:List Pk} {cur:i6} {s:Sy} {lv:Value} {vL:V} (hL:H7 L) (h1:s.1.length < 90000) (h2:s.2.length < 90000) (hvL:RV (.sl 2 (L.map pg)) vL) (hg:GG.pred w) (hwi:S.within w) (hlv:Rd S o8 w lv (dV (.sl 2 (L.map pg)))) :
  Calls Tryz.prog 53 #[lv,.string ⟨cur.toArray⟩,.agg #[.string ⟨s.1.toArray⟩,.string ⟨s.2.toArray⟩]] w fun e w'=>e=.returned (.tuple #[.string ⟨(O7 L cur s).1.toArray⟩,.int .i64 (O7 L cur s).2])∧Below w.heap.size w w':=by
 refine (a6y f02 ⟨(L,cur,s),hL,h1,h2⟩ rfl rfl (vs:=[vL,.str cur.length (n7 cur),.agg [.str s.1.length (n7 s.1),.str s.2.length (n7 s.2)]])
  (.k hvL (.k (.s _ _ _ rfl rfl) (.k (.ag _ _ (.k (.s _ _ _ rfl rfl) (.k (.s _ _ _ rfl rfl) .nil))) .nil)))
  (us:=[lv,.string ⟨cur.toArray⟩,.agg #[.string ⟨s.1.toArray⟩,.string ⟨s.2.toArray⟩]]) hg hwi (.k hlv (.k (.str _ _ rfl) (.k ?_ .nil)))).mono ?_
 ·simp only [dV,sg,List.map_cons,List.map_nil,dG]
  exact .agg _ _ (.k (.str _ _ rfl) (.k (.str _ _ rfl) .nil))
 rintro e w' ⟨v,S',rfl,hb,_,_,hr⟩
 have hr:Rd S' o8 w' v (dV (b78 (O7 L cur s))):=hr
 generalize O7 L cur s=r at hr ⊢
 simp only [b78,dV,dVs,dG] at hr
 cases hr with
 | tuple vs _ r =>
 obtain ⟨vs⟩:=vs
 cases r with
 | cons _ _ _ _ r1 r2 =>
 cases r2 with
 | cons _ _ _ _ r2 r3 =>
 cases r3
 cases r2
 have:=Z5 r1
 subst this
 exact ⟨rfl,hb⟩
theorem b4s {f:FuncId} (hk:k9 f (d46 a45)) {o:O} {c6:Value} (hz:o.size < 90000) (hq:a0d o) (hg:GG.pred w) (hwi:S.within w) (hc:Rd S o8 w c6 (dG (.l (o.ps.map O.g)))) :
  Calls Tryz.prog f #[.agg (K9 o c6)] w fun e w'=>Below w.heap.size w w'∧∃ S',S.grown S' w∧S'.within w'∧∃ x6,match D7 o with
   | some x=>e=.returned (.tuple #[.agg (K9 x x6),.bool true])∧Rd S' o8 w' x6 (dG (.l (x.ps.map O.g)))
   | none=>e=.returned (.tuple #[.agg (K9 .no x6),.bool false])∧Rd S' o8 w' x6 (dG (.l (O.no.ps.map O.g))):=by
 obtain ⟨v,hv⟩:=hq.rv
 refine (a6y hk ⟨o,hz⟩ rfl rfl (vs:=[v]) (.k hv .nil) (us:=[.agg (K9 o c6)]) hg hwi (.k (b9w hc) .nil)).mono ?_
 rintro e w' ⟨v,S',rfl,hb,h1,h2,hr⟩
 refine ⟨hb,S',h1,h2,?_⟩
 have hr:Rd S' o8 w' v (dV (a45 o)):=hr
 have key:∀ (x:O) (z:Bool),Rd S' o8 w' v (dV (.t [.a x.g,.c (.b z)]))→∃ x6,v=.tuple #[.agg (K9 x x6),.bool z]∧Rd S' o8 w' x6 (dG (.l (x.ps.map O.g))):=by
  intro x z hr
  rw [dV,dVs,dVs,dVs] at hr
  cases hr with
  | tuple vs _ r =>
  obtain ⟨vs⟩:=vs
  cases r with
  | cons _ _ _ _ r1 r2 =>
  cases r2 with
  | cons _ _ _ _ r2 r3 =>
  cases r3
  obtain ⟨x6,e1,hx⟩:=c01 r1
  have r2:Rd S' o8 w' _ (.bool z):=r2
  cases r2
  subst e1
  exact ⟨x6,rfl,hx⟩
 unfold a45 at hr
 cases hs:D7 o with
 | none =>
  rw [hs] at hr
  obtain ⟨x6,e,h⟩:=key _ _ hr
  exact ⟨x6,by rw [e],h⟩
 | some x =>
  rw [hs] at hr
  obtain ⟨x6,e,h⟩:=key _ _ hr
  exact ⟨x6,by rw [e],h⟩
end
end
end Go.Proofs.YtdldcfllnohkeaaGreatDoor
