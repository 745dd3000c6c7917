/- Valid objects: what the program's and the reference's checks say of them. -/
import Derived.Test.YtffaodopiifbkaaGreatDoorKJ5
set_option linter.all false
namespace Go.Proofs.YtffaodopiifbkaaGreatDoor
open Go.Abs LQ
set_option maxRecDepth 100000
set_option maxHeartbeats 4000000
noncomputable section
theorem c5o (n:Int) (d:Nat):a0q (f8 n) (f7 d)=(O.num n d).fm:=by
 unfold a0q
 rw [c0l,a26,← a09,← a09,Bool.true_and,Bool.true_and,Bool.eq_iff_iff]
 simp only [O.fm,Bool.and_eq_true,decide_eq_true_iff]
 constructor
 ·rintro ⟨⟨h1,h2⟩,h3⟩;exact ⟨h3,h1,h2⟩
 ·rintro ⟨h3,h1,h2⟩;exact ⟨⟨h1,h2⟩,h3⟩
theorem c3x:∀ o:O,(O5 o).fm=o.fm
 | .num n d=>by
  rw [b7w (o:=O5 (.num n d)) rfl,← c5o]
  simp [F5,O5,RT.obs]
 | .sy s=>by
  rw [b3x (o:=O5 (.sy s)) rfl]
  simp [F5,O5,RT.obs,O.fm]
 | .tx t=>by
  rw [b63 (o:=O5 (.tx t)) rfl,Bool.eq_iff_iff]
  simp [F5,O5,RT.obs,O.fm]
  exact decide_eq_true_iff
 | .co a d=>by
  rw [b6q (b76 a d) rfl,c3x a,c3x d]
  simp [F5,O5,O.fm]
 | .no=>by
  rw [d51 (o:=O5 .no) dE dE dE dE];rfl
theorem c2m {gs gs':List G} {q:Q} {k:Nat} (h:u1 gs q 0) (e:gs.take k=gs') (hk:k=gs'.length):RV (.a gs') (.a q k):=.a _ _ _ hk (e ▸ h.take k)
structure okV (o:O):Prop where
 fm:o.fm=true
 size:o.size≤3000
theorem c8u {n:Int} {k:Nat} (h:(f7 n.natAbs).length≤k):(f8 n).length≤k+1:=by
 rw [a1l,List.length_append]
 have:(LQ.sgn n).length≤1:=by unfold LQ.sgn;split <;> simp
 omega
theorem e6r {n:Int} {d:Nat} (h:(O.num n d).fm=true):(f8 n).length≤101∧(f7 d).length≤100:=by
 have h:n9 (f8 n) (f7 d)=(f8 n,f7 d)∧A5 (f8 n)≤100∧A5 (f7 d)≤100:=by simpa [O.fm] using h
 have h2:=h.2.1
 have h3:=h.2.2
 rw [a6r] at h2
 rw [a2m] at h3
 exact ⟨c8u h2,h3⟩
theorem lt8:(0:Nat) < 8000:=dE
theorem lt9:(0:Nat) < 90000:=dE
theorem c0m:∀ {o:O},o.fm=true→o.sm∧(O5 o).sm
 | .num n d,h=>by
  have h:=e6r h
  exact ⟨⟨oM,oM⟩,⟨by show (f8 n).length < 8000;omega,by show (f7 d).length < 8000;omega,lt9,lt9⟩,trivial⟩
 | .sy s,h=>by
  have h1:=V8 (s:=s) h
  have h2:=a4u (s:=s) h
  exact ⟨⟨oM,oM⟩,⟨lt8,lt8,by show s.1.length < 90000;omega,by show s.2.length < 90000;omega⟩,trivial⟩
 | .tx t,h=>by
  have h:t.length≤200:=by simpa [O.fm] using h
  exact ⟨by show t.length < 9000;omega,⟨lt8,lt8,lt9,lt9⟩,trivial⟩
 | .co a d,h=>by
  have h:a.fm=true∧d.fm=true:=by simpa [O.fm] using h
  obtain ⟨a1,a2⟩:=c0m h.1
  obtain ⟨d1,d2⟩:=c0m h.2
  exact ⟨⟨a1,d1⟩,⟨lt8,lt8,lt9,lt9⟩,a2.1,a2.2,d2.1,d2.2,trivial⟩
 | .no,h=>by cases h
def e8b (r:GV):Sp where
 ι:={ o:O // okV o }
 A o:=[.a o.1.g]
 B _:=[]
 R _:=.ret r
 B' _:=[]
 inj i j vs bs h k _ _:=⟨rfl,rfl⟩
theorem e18:j5 104 (e8b (.c (.b true))):=(c8c kIS).via (fun o=>⟨O5 o.1,(c0m o.2.fm).2⟩) fun o=>⟨by show [GV.a o.1.g]=[GV.a (O5 o.1).g];rw [c80],rfl,by
 show _=n5.ret (.c (.b (O5 o.1).vd))
 unfold Ob.vd
 rw [c4i,c3x,o.2.fm,decide_eq_true o.2.size];rfl,rfl⟩
theorem e2y:j5 77 (e8b (.c (.b true))):=e14.via (fun o=>⟨o.1,(c0m o.2.fm).1⟩) fun o=>⟨rfl,rfl,by
 show _=n5.ret (.c (.b (decide (o.1.size≤3000) && o.1.fm)))
 rw [o.2.fm,decide_eq_true o.2.size];rfl,rfl⟩
def D2 (L:List Pk) (cur:f4) (o:O):f4 × Int:=if C1 L cur=none∨u7 L o=false then ([],13) else (x8 L cur o,0)
theorem e1n {L:List Pk} {o:O} (h:okV o) (k:u7 L o=true):okA L o:=c3m h.fm k
end
end Go.Proofs.YtffaodopiifbkaaGreatDoor
namespace Go.Proofs.YtffaodopiifbkaaGreatDoor
open Go.Abs LQ Go.RowKit Go.Shelf
set_option maxRecDepth 100000
noncomputable section
theorem f1o:j5 107 c8t:=fun ⟨(s,c),hs,hc⟩ vs bs hv hb=>by
 change j6 [.c (.s s),.c (.i .i32 (c.toNat:Int))] vs at hv
 change s.length < 90000 at hs
 change c=34∨c=124 at hc
 cases hb
 refine ⟨.ret (.str (D1 c s).length (j9 (D1 c s))),[],fun hok=>?_,.ret _ _ (.s _ _ _ rfl rfl),.nil⟩
 rw [hv.map_toD]
 show CM X0.P X0.G _ _ [] (.ret (.str (k7 (D1 c s).length (j9 (D1 c s))))) []
 rw [x5]
 refine H0 (d:=.str (D1 c s)) Tryz.call107 fun w S M us hg hwi hr=>?_
 simp only [List.map_cons,List.map_nil,dV,dG] at hr
 cases hr with
 | cons _ _ _ _ r1 r2 =>
 cases r2 with
 | cons _ _ _ _ r2 r3 =>
 cases r3
 cases r2
 have e1:=X6 r1
 subst e1
 obtain ⟨m,hm⟩:=hg.2
 have key:=c49 m s c.toNat (by rcases hc with rfl | rfl;exact .inl rfl;exact .inr rfl) w hm hs
 have ec:c.toNat.toUInt8=c:=by rcases hc with rfl | rfl <;> rfl
 rw [ec] at key
 refine key.mono ?_
 rintro e w' ⟨rfl,hb⟩
 exact ⟨hb,_,S,rfl,⟨fun _ _ h=>h,fun _ _ h=>.inl h⟩,N7 hwi hb,.str _ _ rfl,N5 (fun _ _ _ h=>by cases h) (fun _ h=>by cases h)⟩
theorem d2p:j5 32 c90:=e79 f1o
end
end Go.Proofs.YtffaodopiifbkaaGreatDoor
namespace Go.Proofs.YtffaodopiifbkaaGreatDoor
open Go.Abs LQ
set_option maxRecDepth 100000
set_option maxHeartbeats 8000000
noncomputable section
def c9q (ok:O→Prop) (g:List Pk→O→GV):Sp where
 ι:={ p:List Pk × O // H7 p.1∧ok p.2 }
 A p:=[.sl 2 (p.1.1.map pg),.a p.1.2.g]
 B _:=[]
 R p:=.ret (g p.1.1 p.1.2)
 B' _:=[]
 inj i j vs bs h k _ _:=by
  obtain ⟨_,_,h1,k1,h,k⟩:=h.two k
  obtain ⟨_,_,h2,k2,h,k⟩:=h.two k
  rw [a0r (h1.sl_inj k1),O.g_inj (h2.a_inj k2)];exact ⟨rfl,rfl⟩
def okZ (o:O):Prop:=o.size < 90000
def hmG (L:List Pk) (o:O):GV:=.c (.b (u7 L o))
theorem e9a:j5 112 (c9q okZ hmG):=Q0 (fun p=>p.1.2.size) fun n ih=>k8 (fun fn h=>e5l h) [(112,(c9q okZ hmG).lt _ n),(61,_)] (.cons ih (.cons d2r .nil)) fun U fn hfn ⟨⟨(L,o),hL,hz⟩,hn⟩ vs bs hv hb=>by
 have hr:=hfn 112 _ rfl
 have hh:=hfn 61 _ rfl
 have hL:H7 L:=hL
 have hz:o.size < 90000:=hz
 have hn:o.size < n+1:=hn
 have hv:j6 [.sl 2 (L.map pg),.a o.g] vs:=hv
 have hb:g9 [] bs:=hb
 show g8 U _ fun v bs'=>j7 (.ret (.c (.b (u7 L o)))) v∧g9 [] bs'
 unfold d4w
 (refine Zy ?_;intros)
 refine N2 aS o.g_len fun q0 hq0=>?_
 (refine Zy ?_;intros)
 refine D3 (fun (x:O) vs bs=>∃ (t:j0 Q) (k m:Nat) (q:Q),vs=[.slice t 2 k m .no,.ptr 0 0]∧bs=[.opa q 7]∧m=L.length∧m8 2 (L.map pg) t k∧u1 x.g q 0∧u7 L o=u7 L x∧x.size≤o.size) (fun x=>x.size) o ⟨_,_,_,_,rfl,rfl,by simp,aS,aS,rfl,Nat.le_refl _⟩ (by simp only [v8];omega) ?_
 rintro self x _ _ ⟨t,k,m,q,rfl,rfl,rfl,ht,hq,he,hsz⟩ ih
 cases hco:x.isCo with
 | true =>
  cases x with
  | co a d =>
   have hs:(O.co a d).size=1+a.size+d.size:=rfl
   rw [hs] at hsz
   have hq:u1 [.i .i64 4,.s [],.s [],.s [],.s [],.s [],.l ([a,d].map O.g)] q 0:=hq
   have hl2:([a,d]:List O).length=2:=rfl
   have hpd:=d.size_pos
   have e1:u7 L (.co a d)=(u7 L a && u7 L d):=rfl
   rw [e1] at he
   rw [he]
   (refine Zz ?_;intros)
   refine f5 hr ⟨⟨(L,a),hL,by show a.size < 90000;omega⟩,by show a.size < n;omega⟩ (r:=.c (.b (u7 L a))) rfl (.k (.sl _ _ _ _ _ (by simp) aS) (.k (oV aS) .nil)) .nil fun _ _ _ _=>?_
   (refine Zq ?_;with_reducible repeat' first|intro _|apply aI)
   ·rw [‹u7 L a=true›,Bool.true_and]
    rw [‹u7 L a=true›,Bool.true_and] at he
    rw [← he]
    exact ih d _ _ ⟨_,_,_,_,rfl,rfl,rfl,aS,aS,he,oM⟩ (by rw [hs];omega)
   ·rw [show u7 L a=false by simpa using ‹¬u7 L a=true›,Bool.false_and]
    exact i6 ⟨.ret _ _ (.kn _),.nil⟩
  | _=>cases hco
 | false =>
  have hk:¬x.k=4:=fun e=>by cases x <;> first | (cases hco;done) | (simp [O.k] at e;done)
  rw [x.g_eq] at hq
  rw [he]
  (refine Zq ?_;with_reducible repeat' first|intro _|apply aI)
  ·exact absurd ‹x.k=4› hk
  ·have h2:=‹x.k=2›
   cases x with
   | sy s =>
    refine f5 hh ⟨(L,s),hL⟩ (r:=.c (.b (E6 L s))) rfl (.k (.sl _ _ _ _ _ (by simp) aS) (.k (c2m (gs:=List.drop 3 _) aS (by rfl) rfl) .nil)) .nil fun _ _ _ _=>?_
    (refine Zq ?_;intros)
    exact i6 ⟨.ret _ _ (.b _),.nil⟩
   | _=>simp [O.k] at h2
  ·have h2:=‹¬x.k=2›
   have:u7 L x=true:=by
    cases x with
    | sy s=>exact absurd rfl h2
    | co=>cases hco
    | _=>rfl
   rw [this]
   exact i6 ⟨.ret _ _ (.kn _),.nil⟩
def b7k (ok:O→Prop) (g:List Pk→f4→O→GV):Sp where
 ι:={ p:List Pk × f4 × O // H7 p.1∧ok p.2.2 }
 A p:=[.sl 2 (p.1.1.map pg),.c (.s p.1.2.1),.a p.1.2.2.g]
 B _:=[]
 R p:=.ret (g p.1.1 p.1.2.1 p.1.2.2)
 B' _:=[]
 inj i j vs bs h k _ _:=by
  obtain ⟨_,_,h1,k1,h,k⟩:=h.two k
  obtain ⟨_,_,h2,k2,h,k⟩:=h.two k
  obtain ⟨_,_,h3,k3,h,k⟩:=h.two k
  rw [a0r (h1.sl_inj k1),F2 h2 k2,O.g_inj (h3.a_inj k3)];exact ⟨rfl,rfl⟩
def ckG (L:List Pk) (cur:f4) (o:O):GV:=.c (.i .i64 (D2 L cur o).2)
theorem e6y:j5 75 (b7k okV ckG):=k8 (fun fn h=>e77 h) [(104,_),(60,_),(112,_)] (.cons e18 (.cons c2u (.cons e9a .nil))) fun U fn hfn ⟨(L,cur,o),hL,ho⟩ vs bs hv hb=>by
 have hva:=hfn 104 _ rfl
 have hfi:=hfn 60 _ rfl
 have hho:=hfn 112 _ rfl
 have hL:H7 L:=hL
 have ho:okV o:=ho
 have hv:j6 [.sl 2 (L.map pg),.c (.s cur),.a o.g] vs:=hv
 have hb:g9 [] bs:=hb
 show g8 U _ fun v bs'=>j7 (.ret (.c (.i .i64 (D2 L cur o).2))) v∧g9 [] bs'
 unfold r75
 (refine Zy ?_;intros)
 refine N2 aS o.g_len fun q0 hq0=>?_
 (refine Zy ?_;intros)
 refine f5 hva ⟨o,ho⟩ (r:=.c (.b true)) rfl (.k (oV aS) .nil) .nil fun _ _ _ _=>?_
 (refine Zz ?_;with_reducible repeat' first|intro _|apply aI)
 cases hf:C1 L cur with
 | none =>
  have e:(D2 L cur o).2=13:=by unfold D2;rw [if_pos (.inl hf)]
  rw [e]
  refine f5 hfi ⟨(L,cur),hL⟩ (r:=.t [.a [.s [],.l []],.c (.b false)]) (by show n5.ret (D5 L cur)=_;rw [a5p hf]) (.k (.sl _ _ _ _ _ (by simp) aS) j4) .nil fun _ _ _ _=>?_
  (refine Zq ?_;intros)
  exact i6 ⟨.ret _ _ (.i _ _),.nil⟩
 | some p =>
  refine f5 hfi ⟨(L,cur),hL⟩ (r:=.t [.a (pg p),.c (.b true)]) (by show n5.ret (D5 L cur)=_;rw [a5v hf]) (.k (.sl _ _ _ _ _ (by simp) aS) j4) .nil fun _ _ hv9 _=>?_
  have hv9:RV (.t [.a [.s p.1,.l (p.2.map sg)],.c (.b true)]) _:=hv9
  (refine Zq ?_;intros)
  refine f5 hho ⟨(L,o),hL,by show o.size < 90000;have:=ho.size;omega⟩ (r:=.c (.b (u7 L o))) rfl (.k (.sl _ _ _ _ _ (by simp) aS) (.k (oV aS) .nil)) .nil fun _ _ _ _=>?_
  (refine Zq ?_;with_reducible repeat' first|intro _|apply aI)
  ·have e:(D2 L cur o).2=0:=by unfold D2;rw [if_neg (by rw [hf,‹u7 L o=true›];simp)]
   rw [e]
   exact i6 ⟨.ret _ _ (.i _ _),.nil⟩
  ·have e:(D2 L cur o).2=13:=by unfold D2;rw [if_pos (.inr (by simpa using ‹¬u7 L o=true›))]
   rw [e]
   exact i6 ⟨.ret _ _ (.i _ _),.nil⟩
def P1 (o:O):GV:=match J0 o with
 | some x=>.t [.a x.g,.c (.b true)]
 | none=>.t [.a O.no.g,.c (.b false)]
open Classical in
theorem b9g {o:O} {l:List O} (h:A3 o=some l) (hl:l.length=2):J0 o=if O.eqb (l[0]'oM) x7=true then some (l[1]'oM) else none:=by
 match l,hl with
 | [a,b],_ =>
  unfold J0
  rw [h]
  show (if a=x7 then some b else none)=if O.eqb a x7=true then some b else none
  by_cases e:a=x7
  ·rw [if_pos e,if_pos (O.eqb_t.2 e)]
  ·rw [if_neg e,if_neg fun h=>e (O.eqb_t.1 h)]
theorem b9y {o:O} {l:List O} (h:A3 o=some l) (hl:¬l.length=2):J0 o=none:=by
 unfold J0
 rw [h]
 match l,hl with
 | [],_=>rfl
 | [_],_=>rfl
 | _ :: _ :: _ :: _,_=>rfl
theorem c2h {o:O} (h:A3 o=none):J0 o=none:=by unfold J0;rw [h]
abbrev zV0:V:=.agg [.int .i64 0,.str 0 0,.str 0 0,.str 0 0,.str 0 0,.str 0 0,.slice .nil 0 0 0 .no]
theorem f01:RV (.a O.no.g) zV0:=.ag _ _ (.k (.i _ _) (.k (.s _ _ _ rfl rfl) (.k (.s _ _ _ rfl rfl) (.k (.s _ _ _ rfl rfl) (.k (.s _ _ _ rfl rfl) (.k (.s _ _ _ rfl rfl) (.k (.cl _ _ _ _ _ rfl (.nil _ _ _)) .nil)))))))
theorem a0p {U:q8} {o:O} (h:J0 o=none):g8 U (some (.ret (.tuple [zV0,.known false]),[])) fun v bs'=>j7 (.ret (P1 o)) v∧g9 [] bs':=by
 unfold P1
 rw [h]
 exact i6 ⟨.ret _ _ (.t _ _ (.k f01 (.k (.kn _) .nil))),.nil⟩
theorem e9i:j5 113 (d0d P1):=k8 (fun fn h=>e1p h) [(121,_),(105,_),(144,_)] (.cons e60 (.cons c3v (.cons f7i .nil))) fun U fn hfn ⟨o,hz⟩ vs bs hv hb=>by
 have hit:=hfn 121 _ rfl
 have hsy:=hfn 105 _ rfl
 have heq:=hfn 144 _ rfl
 have hz:o.size < 90000:=hz
 have hv:j6 [.a o.g] vs:=hv
 have hb:g9 [] bs:=hb
 show g8 U _ fun v bs'=>j7 (.ret (P1 o)) v∧g9 [] bs'
 unfold d79
 (refine Zy ?_;intros)
 refine N2 aS o.g_len fun q0 hq0=>?_
 (refine Zy ?_;with_reducible repeat' first|intro _|apply aI)
 cases hi:A3 o with
 | none =>
  refine f5 hit ⟨o,hz⟩ (r:=.t [.sl 7 [],.c (.b false)]) (by show n5.ret (L6 o)=_;unfold L6;rw [hi]) (.k (oV aS) .nil) .nil fun _ _ _ _=>?_
  (refine Zq ?_;intros)
  exact a0p (c2h hi)
 | some l =>
  refine f5 hit ⟨o,hz⟩ (r:=.t [.sl 7 (l.map O.g),.c (.b true)]) (by show n5.ret (L6 o)=_;unfold L6;rw [hi]) (.k (oV aS) .nil) .nil fun _ _ _ _=>?_
  (refine Zq ?_;with_reducible repeat' first|intro _|apply aI)
  ·have hl:l.length=2:=oM
   have h2:=b9g hi hl
   refine f5 hsy (s7,[113,117,111,116,101]) (r:=.a x7.g) rfl (.k (.ag _ _ j4) .nil) .nil fun _ _ _ _=>?_
   (refine Zq ?_;intros)
   refine f5 heq (l[0]'oM) (r:=.c (.b (O.eqb (l[0]'oM) x7))) rfl (.k (oV aS) (.k (oV aS) .nil)) .nil fun _ _ _ _=>?_
   (refine Zq ?_;with_reducible repeat' first|intro _|apply aI)
   ·rw [if_pos ‹O.eqb _ x7=true›] at h2
    unfold P1
    rw [h2]
    exact i6 ⟨.ret _ _ (.t _ _ (.k (oV aS) (.k (.kn _) .nil))),.nil⟩
   ·rw [if_neg ‹¬O.eqb _ x7=true›] at h2
    exact a0p h2
  ·exact a0p (b9y hi oM)
end
end Go.Proofs.YtffaodopiifbkaaGreatDoor
namespace Go.Proofs.YtffaodopiifbkaaGreatDoor
open Go.Abs LQ Go.RowKit Go.Shelf
set_option maxRecDepth 100000
noncomputable section
section
variable {S:k6} {w:World}
theorem c7m {o:O} {v:Value} (h:Rd S o7 w v (dV (.a o.g))):∃ c6,v=.agg (ob7 o c6)∧Rd S o7 w c6 (dG (.l (o.ps.map O.g))):=by
 simp only [dV] at h
 cases h with
 | agg vs _ r =>
 obtain ⟨c6,e,hc⟩:=b3g r
 have:vs=ob7 o c6:=by rw [← Array.toList_inj,e]
 exact ⟨c6,by rw [this],hc⟩
theorem c65 {o:O} {c6:Value} (h:Rd S o7 w c6 (dG (.l (o.ps.map O.g)))):Rd S o7 w (.agg (ob7 o c6)) (dV (.a o.g)):=by
 simp only [dV]
 exact .agg _ _ (d4x h)
theorem c5f (s:f4) (c:UInt8) (hs:s.length < 90000) (hc:c=34∨c=124) (n:Int) (hn:n=c.toNat) (hg:GG.pred w) :
  Calls Tryz.prog 107 #[.string ⟨s.toArray⟩,.int .i32 n] w fun e w'=>e=.returned (.string ⟨(D1 c s).toArray⟩)∧Below w.heap.size w w':=by
 subst hn
 refine (a8o f1o ⟨(s,c),hs,hc⟩ rfl rfl (vs:=[.str s.length (j9 s),.int .i32 (c.toNat:Int)]) (.k (.s _ _ _ rfl rfl) (.k (.i _ _) .nil)) (S:=fun _ _=>False) (us:=[.string ⟨s.toArray⟩,.int .i32 (c.toNat:Int)]) hg (fun _ _ h=>h.elim) (.k (.str _ _ rfl) (.k (.int _ _) .nil))).mono ?_
 rintro e w' ⟨v,S',rfl,hb,_,_,hr⟩
 have:=X6 hr
 subst this
 exact ⟨rfl,hb⟩
theorem b56 {o:O} {c6:Value} (hq:a16 o) (hg:GG.pred w) (hwi:S.within w) (hc:Rd S o7 w c6 (dG (.l (o.ps.map O.g)))) :
  Calls Tryz.prog 115 #[.agg (ob7 o c6)] w fun e w'=>e=.returned (.bool (O.eqb o z8))∧Below w.heap.size w w':=by
 obtain ⟨v,hv⟩:=hq.rv
 refine (a8o c68 o rfl rfl (vs:=[v]) (.k hv .nil) (us:=[.agg (ob7 o c6)]) hg hwi (.k (c65 hc) .nil)).mono ?_
 rintro e w' ⟨v,S',rfl,hb,_,_,hr⟩
 have hr:Rd S' o7 w' v (.bool (O.eqb o z8)):=hr
 generalize O.eqb o z8=z at hr ⊢
 cases hr
 exact ⟨rfl,hb⟩
theorem d3e {L:List Pk} {cur:f4} {s:Sy} {lv:Value} {vL:V} (hL:H7 L) (h1:s.1.length < 90000) (h2:s.2.length < 90000) (hvL:RV (.sl 2 (L.map pg)) vL) (hg:GG.pred w) (hwi:S.within w) (hlv:Rd S o7 w lv (dV (.sl 2 (L.map pg)))) :
  Calls Tryz.prog 32 #[lv,.string ⟨cur.toArray⟩,.agg #[.string ⟨s.1.toArray⟩,.string ⟨s.2.toArray⟩]] w fun e w'=>e=.returned (.tuple #[.string ⟨(G2 L cur s).1.toArray⟩,.int .i64 (G2 L cur s).2])∧Below w.heap.size w w':=by
 refine (a8o d2p ⟨(L,cur,s),hL,h1,h2⟩ rfl rfl (vs:=[vL,.str cur.length (j9 cur),.agg [.str s.1.length (j9 s.1),.str s.2.length (j9 s.2)]])
  (.k hvL (.k (.s _ _ _ rfl rfl) (.k (.ag _ _ (.k (.s _ _ _ rfl rfl) (.k (.s _ _ _ rfl rfl) .nil))) .nil)))
  (us:=[lv,.string ⟨cur.toArray⟩,.agg #[.string ⟨s.1.toArray⟩,.string ⟨s.2.toArray⟩]]) hg hwi (.k hlv (.k (.str _ _ rfl) (.k ?_ .nil)))).mono ?_
 ·simp only [dV,sg,List.map_cons,List.map_nil,dG]
  exact .agg _ _ (.k (.str _ _ rfl) (.k (.str _ _ rfl) .nil))
 rintro e w' ⟨v,S',rfl,hb,_,_,hr⟩
 have hr:Rd S' o7 w' v (dV (a1r (G2 L cur s))):=hr
 generalize G2 L cur s=r at hr ⊢
 simp only [a1r,dV,dVs,dG] at hr
 cases hr with
 | tuple vs _ r =>
 obtain ⟨vs⟩:=vs
 cases r with
 | cons _ _ _ _ r1 r2 =>
 cases r2 with
 | cons _ _ _ _ r2 r3 =>
 cases r3
 cases r2
 have:=X6 r1
 subst this
 exact ⟨rfl,hb⟩
theorem c95 {o:O} {c6:Value} (hz:o.size < 90000) (hq:a16 o) (hg:GG.pred w) (hwi:S.within w) (hc:Rd S o7 w c6 (dG (.l (o.ps.map O.g)))) :
  Calls Tryz.prog 113 #[.agg (ob7 o c6)] w fun e w'=>Below w.heap.size w w'∧∃ S',S.grown S' w∧S'.within w'∧∃ x6,match J0 o with
   | some x=>e=.returned (.tuple #[.agg (ob7 x x6),.bool true])∧Rd S' o7 w' x6 (dG (.l (x.ps.map O.g)))
   | none=>e=.returned (.tuple #[.agg (ob7 .no x6),.bool false])∧Rd S' o7 w' x6 (dG (.l (O.no.ps.map O.g))):=by
 obtain ⟨v,hv⟩:=hq.rv
 refine (a8o e9i ⟨o,hz⟩ rfl rfl (vs:=[v]) (.k hv .nil) (us:=[.agg (ob7 o c6)]) hg hwi (.k (c65 hc) .nil)).mono ?_
 rintro e w' ⟨v,S',rfl,hb,h1,h2,hr⟩
 refine ⟨hb,S',h1,h2,?_⟩
 have hr:Rd S' o7 w' v (dV (P1 o)):=hr
 have key:∀ (x:O) (z:Bool),Rd S' o7 w' v (dV (.t [.a x.g,.c (.b z)]))→∃ x6,v=.tuple #[.agg (ob7 x x6),.bool z]∧Rd S' o7 w' x6 (dG (.l (x.ps.map O.g))):=by
  intro x z hr
  rw [dV,dVs,dVs,dVs] at hr
  cases hr with
  | tuple vs _ r =>
  obtain ⟨vs⟩:=vs
  cases r with
  | cons _ _ _ _ r1 r2 =>
  cases r2 with
  | cons _ _ _ _ r2 r3 =>
  cases r3
  obtain ⟨x6,e1,hx⟩:=c7m r1
  have r2:Rd S' o7 w' _ (.bool z):=r2
  cases r2
  subst e1
  exact ⟨x6,rfl,hx⟩
 unfold P1 at hr
 cases hs:J0 o with
 | none =>
  rw [hs] at hr
  obtain ⟨x6,e,h⟩:=key _ _ hr
  exact ⟨x6,by rw [e],h⟩
 | some x =>
  rw [hs] at hr
  obtain ⟨x6,e,h⟩:=key _ _ hr
  exact ⟨x6,by rw [e],h⟩
end
end
end Go.Proofs.YtffaodopiifbkaaGreatDoor
