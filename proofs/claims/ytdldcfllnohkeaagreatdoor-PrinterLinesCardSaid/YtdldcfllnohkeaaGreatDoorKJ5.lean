/- Valid objects: what the program's and the reference's checks say of them. -/
import Derived.Test.YtdldcfllnohkeaaGreatDoorKJ4
set_option linter.all false
namespace Go.Proofs.YtdldcfllnohkeaaGreatDoor
open Go.Abs LQ
set_option maxRecDepth 100000
set_option maxHeartbeats 4000000
noncomputable section
theorem c6h (n:Int) (d:Nat):a07 (f9 n) (f8 d)=(O.num n d).fm:=by
 unfold a07
 rw [c04,a3o,← a1j,← a1j,Bool.true_and,Bool.true_and,Bool.eq_iff_iff]
 simp only [O.fm,Bool.and_eq_true,decide_eq_true_iff]
 constructor
 ·rintro ⟨⟨h1,h2⟩,h3⟩;exact ⟨h3,h1,h2⟩
 ·rintro ⟨h3,h1,h2⟩;exact ⟨⟨h1,h2⟩,h3⟩
theorem c38:∀ o:O,(P8 o).fm=o.fm
 | .num n d=>by
  rw [b7w (o:=P8 (.num n d)) rfl,← c6h]
  simp [G3,P8,RT.obs]
 | .sy s=>by
  rw [b4a (o:=P8 (.sy s)) rfl]
  simp [G3,P8,RT.obs,O.fm]
 | .tx t=>by
  rw [b7x (o:=P8 (.tx t)) rfl,Bool.eq_iff_iff]
  simp [G3,P8,RT.obs,O.fm]
  exact decide_eq_true_iff
 | .co a d=>by
  rw [b5n (b8c a d) rfl,c38 a,c38 d]
  simp [G3,P8,O.fm]
 | .no=>by
  rw [d62 (o:=P8 .no) dE dE dE dE];rfl
theorem c43 {gs gs':List G} {q:Q} {k:Nat} (h:u6 gs q 0) (e:gs.take k=gs') (hk:k=gs'.length):RV (.a gs') (.a q k):=.a _ _ _ hk (e ▸ h.take k)
structure okV (o:O):Prop where
 fm:o.fm=true
 size:o.size≤3000
theorem d1w {n:Int} {k:Nat} (h:(f8 n.natAbs).length≤k):(f9 n).length≤k+1:=by
 rw [a1s,List.length_append]
 have:(LQ.sgn n).length≤1:=by unfold LQ.sgn;split <;> simp
 omega
theorem e7b {n:Int} {d:Nat} (h:(O.num n d).fm=true):(f9 n).length≤101∧(f8 d).length≤100:=by
 have h:o7 (f9 n) (f8 d)=(f9 n,f8 d)∧A8 (f9 n)≤100∧A8 (f8 d)≤100:=by simpa [O.fm] using h
 have h2:=h.2.1
 have h3:=h.2.2
 rw [a68] at h2
 rw [a2t] at h3
 exact ⟨d1w h2,h3⟩
theorem lt8:(0:Nat) < 8000:=dE
theorem lt9:(0:Nat) < 90000:=dE
theorem c1o:∀ {o:O},o.fm=true→o.sm∧(P8 o).sm
 | .num n d,h=>by
  have h:=e7b h
  exact ⟨⟨oM,oM⟩,⟨by show (f9 n).length < 8000;omega,by show (f8 d).length < 8000;omega,lt9,lt9⟩,trivial⟩
 | .sy s,h=>by
  have h1:=a0v (s:=s) h
  have h2:=a9c (s:=s) h
  exact ⟨⟨oM,oM⟩,⟨lt8,lt8,by show s.1.length < 90000;omega,by show s.2.length < 90000;omega⟩,trivial⟩
 | .tx t,h=>by
  have h:t.length≤200:=by simpa [O.fm] using h
  exact ⟨by show t.length < 9000;omega,⟨lt8,lt8,lt9,lt9⟩,trivial⟩
 | .co a d,h=>by
  have h:a.fm=true∧d.fm=true:=by simpa [O.fm] using h
  obtain ⟨a1,a2⟩:=c1o h.1
  obtain ⟨d1,d2⟩:=c1o h.2
  exact ⟨⟨a1,d1⟩,⟨lt8,lt8,lt9,lt9⟩,a2.1,a2.2,d2.1,d2.2,trivial⟩
 | .no,h=>by cases h
def f3q (r:GV):Sp where
 ι:={ o:O // okV o }
 A o:=[.a o.1.g]
 B _:=[]
 R _:=.ret r
 B' _:=[]
 inj i j vs bs h k _ _:=⟨rfl,rfl⟩
theorem e3t:j3 49 (f3q (.c (.b true))):=(c8c kIS).via (fun o=>⟨P8 o.1,(c1o o.2.fm).2⟩) fun o=>⟨by show [GV.a o.1.g]=[GV.a (P8 o.1).g];rw [d03],rfl,by
 show _=n6.ret (.c (.b (P8 o.1).vd))
 unfold Ob.vd
 rw [c39,c38,o.2.fm,decide_eq_true o.2.size];rfl,rfl⟩
theorem e3u:j3 28 (f3q (.c (.b true))):=e3s.via (fun o=>⟨o.1,(c1o o.2.fm).1⟩) fun o=>⟨rfl,rfl,by
 show _=n6.ret (.c (.b (decide (o.1.size≤3000) && o.1.fm)))
 rw [o.2.fm,decide_eq_true o.2.size];rfl,rfl⟩
def x7 (L:List Pk) (cur:f5) (o:O):f5 × Int:=if B0 L cur=none∨t8 L o=false then ([],13) else (o8 L cur o,0)
theorem b6e {L:List Pk} {o:O} (h:okV o) (k:t8 L o=true):okA L o:=c25 h.fm k
end
end Go.Proofs.YtdldcfllnohkeaaGreatDoor
namespace Go.Proofs.YtdldcfllnohkeaaGreatDoor
open Go.Abs LQ Go.RowKit Go.Shelf
set_option maxRecDepth 100000
noncomputable section
theorem e7r:j3 52 d15:=fun ⟨(s,c),hs,hc⟩ vs bs hv hb=>by
 change j5 [.c (.s s),.c (.i .i32 (c.toNat:Int))] vs at hv
 change s.length < 90000 at hs
 change c=34∨c=124 at hc
 cases hb
 refine ⟨.ret (.str (D8 c s).length (j9 (D8 c s))),[],fun hok=>?_,.ret _ _ (.s _ _ _ rfl rfl),.nil⟩
 rw [hv.map_toD]
 show CM X0.P X0.G _ _ [] (.ret (.str (k6 (D8 c s).length (j9 (D8 c s))))) []
 rw [y7]
 refine I8 (d:=.str (D8 c s)) Tryz.call52 fun w S M us hg hwi hr=>?_
 simp only [List.map_cons,List.map_nil,dV,dG] at hr
 cases hr with
 | cons _ _ _ _ r1 r2 =>
 cases r2 with
 | cons _ _ _ _ r2 r3 =>
 cases r3
 cases r2
 have e1:=T5 r1
 subst e1
 obtain ⟨m,hm⟩:=hg.2
 have key:=c6u m s c.toNat (by rcases hc with rfl | rfl;exact .inl rfl;exact .inr rfl) w hm hs
 have ec:c.toNat.toUInt8=c:=by rcases hc with rfl | rfl <;> rfl
 rw [ec] at key
 refine key.mono ?_
 rintro e w' ⟨rfl,hb⟩
 exact ⟨hb,_,S,rfl,⟨fun _ _ h=>h,fun _ _ h=>.inl h⟩,P5 hwi hb,.str _ _ rfl,M6 (fun _ _ _ h=>by cases h) (fun _ h=>by cases h)⟩
theorem e7j:j3 53 d12:=e7i e7r
end
end Go.Proofs.YtdldcfllnohkeaaGreatDoor
namespace Go.Proofs.YtdldcfllnohkeaaGreatDoor
open Go.Abs LQ
set_option maxRecDepth 100000
set_option maxHeartbeats 8000000
noncomputable section
def d11 (ok:O→Prop) (g:List Pk→O→GV):Sp where
 ι:={ p:List Pk × O // F1 p.1∧ok p.2 }
 A p:=[.sl 2 (p.1.1.map pg),.a p.1.2.g]
 B _:=[]
 R p:=.ret (g p.1.1 p.1.2)
 B' _:=[]
 inj i j vs bs h k _ _:=by
  obtain ⟨_,_,h1,k1,h,k⟩:=h.two k
  obtain ⟨_,_,h2,k2,h,k⟩:=h.two k
  rw [Y5 (h1.sl_inj k1),O.g_inj (h2.a_inj k2)];exact ⟨rfl,rfl⟩
def okZ (o:O):Prop:=o.size < 90000
def hmG (L:List Pk) (o:O):GV:=.c (.b (t8 L o))
theorem e7n:j3 51 (d11 okZ hmG):=R3 (fun p=>p.1.2.size) fun n ih=>k7 (fun fn h=>f0c h) [(51,(d11 okZ hmG).lt _ n),(82,_)] (.cons ih (.cons d3s .nil)) fun U fn hfn ⟨⟨(L,o),hL,hz⟩,hn⟩ vs bs hv hb=>by
 have hr:=hfn 51 _ rfl
 have hh:=hfn 82 _ rfl
 have hL:F1 L:=hL
 have hz:o.size < 90000:=hz
 have hn:o.size < n+1:=hn
 have hv:j5 [.sl 2 (L.map pg),.a o.g] vs:=hv
 have hb:RBs [] bs:=hb
 show g7 U _ fun v bs'=>j6 (.ret (.c (.b (t8 L o)))) v∧RBs [] bs'
 unfold r51
 (refine Zy ?_;intros)
 refine M5 aS o.g_len fun q0 hq0=>?_
 (refine Zy ?_;intros)
 refine E1 (fun (x:O) vs bs=>∃ (t:i7 Q) (k m:Nat) (q:Q),vs=[.slice t 2 k m .no,.ptr 0 0]∧bs=[.opa q 7]∧m=L.length∧m7 2 (L.map pg) t k∧u6 x.g q 0∧t8 L o=t8 L x∧x.size≤o.size) (fun x=>x.size) o ⟨_,_,_,_,rfl,rfl,by simp,aS,aS,rfl,Nat.le_refl _⟩ (by simp only [x8];omega) ?_
 rintro self x _ _ ⟨t,k,m,q,rfl,rfl,rfl,ht,hq,he,hsz⟩ ih
 cases hco:x.isCo with
 | true =>
  cases x with
  | co a d =>
   have hs:(O.co a d).size=1+a.size+d.size:=rfl
   rw [hs] at hsz
   have hq:u6 [.i .i64 4,.s [],.s [],.s [],.s [],.s [],.l ([a,d].map O.g)] q 0:=hq
   have hl2:([a,d]:List O).length=2:=rfl
   have hpd:=d.size_pos
   have e1:t8 L (.co a d)=(t8 L a && t8 L d):=rfl
   rw [e1] at he
   rw [he]
   (refine Zz ?_;intros)
   refine f6 hr ⟨⟨(L,a),hL,by show a.size < 90000;omega⟩,by show a.size < n;omega⟩ (r:=.c (.b (t8 L a))) rfl (.k (.sl _ _ _ _ _ (by simp) aS) (.k (oV aS) .nil)) .nil fun _ _ _ _=>?_
   (refine Zq ?_;with_reducible repeat' first|intro _|apply aI)
   ·rw [‹t8 L a=true›,Bool.true_and]
    rw [‹t8 L a=true›,Bool.true_and] at he
    rw [← he]
    exact ih d _ _ ⟨_,_,_,_,rfl,rfl,rfl,aS,aS,he,oM⟩ (by rw [hs];omega)
   ·rw [show t8 L a=false by simpa using ‹¬t8 L a=true›,Bool.false_and]
    exact g9 ⟨.ret _ _ (.kn _),.nil⟩
  | _=>cases hco
 | false =>
  have hk:¬x.k=4:=fun e=>by cases x <;> first | (cases hco;done) | (simp [O.k] at e;done)
  rw [x.g_eq] at hq
  rw [he]
  (refine Zq ?_;with_reducible repeat' first|intro _|apply aI)
  ·exact absurd ‹x.k=4› hk
  ·have h2:=‹x.k=2›
   cases x with
   | sy s =>
    refine f6 hh ⟨(L,s),hL⟩ (r:=.c (.b (F6 L s))) rfl (.k (.sl _ _ _ _ _ (by simp) aS) (.k (c43 (gs:=List.drop 3 _) aS (by rfl) rfl) .nil)) .nil fun _ _ _ _=>?_
    (refine Zq ?_;intros)
    exact g9 ⟨.ret _ _ (.b _),.nil⟩
   | _=>simp [O.k] at h2
  ·have h2:=‹¬x.k=2›
   have:t8 L x=true:=by
    cases x with
    | sy s=>exact absurd rfl h2
    | co=>cases hco
    | _=>rfl
   rw [this]
   exact g9 ⟨.ret _ _ (.kn _),.nil⟩
def b8s (ok:O→Prop) (g:List Pk→f5→O→GV):Sp where
 ι:={ p:List Pk × f5 × O // F1 p.1∧ok p.2.2 }
 A p:=[.sl 2 (p.1.1.map pg),.c (.s p.1.2.1),.a p.1.2.2.g]
 B _:=[]
 R p:=.ret (g p.1.1 p.1.2.1 p.1.2.2)
 B' _:=[]
 inj i j vs bs h k _ _:=by
  obtain ⟨_,_,h1,k1,h,k⟩:=h.two k
  obtain ⟨_,_,h2,k2,h,k⟩:=h.two k
  obtain ⟨_,_,h3,k3,h,k⟩:=h.two k
  rw [Y5 (h1.sl_inj k1),F7 h2 k2,O.g_inj (h3.a_inj k3)];exact ⟨rfl,rfl⟩
def ckG (L:List Pk) (cur:f5) (o:O):GV:=.c (.i .i64 (x7 L cur o).2)
theorem d3p:j3 25 (b8s okV ckG):=k7 (fun fn h=>e88 h) [(49,_),(50,_),(51,_)] (.cons e3t (.cons c3e (.cons e7n .nil))) fun U fn hfn ⟨(L,cur,o),hL,ho⟩ vs bs hv hb=>by
 have hva:=hfn 49 _ rfl
 have hfi:=hfn 50 _ rfl
 have hho:=hfn 51 _ rfl
 have hL:F1 L:=hL
 have ho:okV o:=ho
 have hv:j5 [.sl 2 (L.map pg),.c (.s cur),.a o.g] vs:=hv
 have hb:RBs [] bs:=hb
 show g7 U _ fun v bs'=>j6 (.ret (.c (.i .i64 (x7 L cur o).2))) v∧RBs [] bs'
 unfold r25
 (refine Zy ?_;intros)
 refine M5 aS o.g_len fun q0 hq0=>?_
 (refine Zy ?_;intros)
 refine f6 hva ⟨o,ho⟩ (r:=.c (.b true)) rfl (.k (oV aS) .nil) .nil fun _ _ _ _=>?_
 (refine Zz ?_;with_reducible repeat' first|intro _|apply aI)
 cases hf:B0 L cur with
 | none =>
  have e:(x7 L cur o).2=13:=by unfold x7;rw [if_pos (.inl hf)]
  rw [e]
  refine f6 hfi ⟨(L,cur),hL⟩ (r:=.t [.a [.s [],.l []],.c (.b false)]) (by show n6.ret (E2 L cur)=_;rw [a6b hf]) (.k (.sl _ _ _ _ _ (by simp) aS) j4) .nil fun _ _ _ _=>?_
  (refine Zq ?_;intros)
  exact g9 ⟨.ret _ _ (.i _ _),.nil⟩
 | some p =>
  refine f6 hfi ⟨(L,cur),hL⟩ (r:=.t [.a (pg p),.c (.b true)]) (by show n6.ret (E2 L cur)=_;rw [a6c hf]) (.k (.sl _ _ _ _ _ (by simp) aS) j4) .nil fun _ _ hv9 _=>?_
  have hv9:RV (.t [.a [.s p.1,.l (p.2.map sg)],.c (.b true)]) _:=hv9
  (refine Zq ?_;intros)
  refine f6 hho ⟨(L,o),hL,by show o.size < 90000;have:=ho.size;omega⟩ (r:=.c (.b (t8 L o))) rfl (.k (.sl _ _ _ _ _ (by simp) aS) (.k (oV aS) .nil)) .nil fun _ _ _ _=>?_
  (refine Zq ?_;with_reducible repeat' first|intro _|apply aI)
  ·have e:(x7 L cur o).2=0:=by unfold x7;rw [if_neg (by rw [hf,‹t8 L o=true›];simp)]
   rw [e]
   exact g9 ⟨.ret _ _ (.i _ _),.nil⟩
  ·have e:(x7 L cur o).2=13:=by unfold x7;rw [if_pos (.inr (by simpa using ‹¬t8 L o=true›))]
   rw [e]
   exact g9 ⟨.ret _ _ (.i _ _),.nil⟩
def P1 (o:O):GV:=match A7 o with
 | some x=>.t [.a x.g,.c (.b true)]
 | none=>.t [.a O.no.g,.c (.b false)]
open Classical in
theorem c0n {o:O} {l:List O} (h:m8 o=some l) (hl:l.length=2):A7 o=if O.eqb (l[0]'oM) z7=true then some (l[1]'oM) else none:=by
 match l,hl with
 | [a,b],_ =>
  unfold A7
  rw [h]
  show (if a=z7 then some b else none)=if O.eqb a z7=true then some b else none
  by_cases e:a=z7
  ·rw [if_pos e,if_pos (O.eqb_t.2 e)]
  ·rw [if_neg e,if_neg fun h=>e (O.eqb_t.1 h)]
theorem c0m {o:O} {l:List O} (h:m8 o=some l) (hl:¬l.length=2):A7 o=none:=by
 unfold A7
 rw [h]
 match l,hl with
 | [],_=>rfl
 | [_],_=>rfl
 | _ :: _ :: _ :: _,_=>rfl
theorem c49 {o:O} (h:m8 o=none):A7 o=none:=by unfold A7;rw [h]
abbrev zV0:V:=.agg [.int .i64 0,.str 0 0,.str 0 0,.str 0 0,.str 0 0,.str 0 0,.slice .nil 0 0 0 .no]
theorem f2l:RV (.a O.no.g) zV0:=.ag _ _ (.k (.i _ _) (.k (.s _ _ _ rfl rfl) (.k (.s _ _ _ rfl rfl) (.k (.s _ _ _ rfl rfl) (.k (.s _ _ _ rfl rfl) (.k (.s _ _ _ rfl rfl) (.k (.cl _ _ _ _ _ rfl (.nil _ _ _)) .nil)))))))
theorem a09 {U:s7} {o:O} (h:A7 o=none):g7 U (some (.ret (.tuple [zV0,.known false]),[])) fun v bs'=>j6 (.ret (P1 o)) v∧RBs [] bs':=by
 unfold P1
 rw [h]
 exact g9 ⟨.ret _ _ (.t _ _ (.k f2l (.k (.kn _) .nil))),.nil⟩
theorem d3x:j3 54 (b8t P1):=k7 (fun fn h=>f0g h) [(69,_),(88,_),(87,_)] (.cons d3u (.cons c3l (.cons f8k .nil))) fun U fn hfn ⟨o,hz⟩ vs bs hv hb=>by
 have hit:=hfn 69 _ rfl
 have hsy:=hfn 88 _ rfl
 have heq:=hfn 87 _ rfl
 have hz:o.size < 90000:=hz
 have hv:j5 [.a o.g] vs:=hv
 have hb:RBs [] bs:=hb
 show g7 U _ fun v bs'=>j6 (.ret (P1 o)) v∧RBs [] bs'
 unfold r54
 (refine Zy ?_;intros)
 refine M5 aS o.g_len fun q0 hq0=>?_
 (refine Zy ?_;with_reducible repeat' first|intro _|apply aI)
 cases hi:m8 o with
 | none =>
  refine f6 hit ⟨o,hz⟩ (r:=.t [.sl 7 [],.c (.b false)]) (by show n6.ret (J1 o)=_;unfold J1;rw [hi]) (.k (oV aS) .nil) .nil fun _ _ _ _=>?_
  (refine Zq ?_;intros)
  exact a09 (c49 hi)
 | some l =>
  refine f6 hit ⟨o,hz⟩ (r:=.t [.sl 7 (l.map O.g),.c (.b true)]) (by show n6.ret (J1 o)=_;unfold J1;rw [hi]) (.k (oV aS) .nil) .nil fun _ _ _ _=>?_
  (refine Zq ?_;with_reducible repeat' first|intro _|apply aI)
  ·have hl:l.length=2:=oM
   have h2:=c0n hi hl
   refine f6 hsy (u0,[113,117,111,116,101]) (r:=.a z7.g) rfl (.k (.ag _ _ j4) .nil) .nil fun _ _ _ _=>?_
   (refine Zq ?_;intros)
   refine f6 heq (l[0]'oM) (r:=.c (.b (O.eqb (l[0]'oM) z7))) rfl (.k (oV aS) (.k (oV aS) .nil)) .nil fun _ _ _ _=>?_
   (refine Zq ?_;with_reducible repeat' first|intro _|apply aI)
   ·rw [if_pos ‹O.eqb _ z7=true›] at h2
    unfold P1
    rw [h2]
    exact g9 ⟨.ret _ _ (.t _ _ (.k (oV aS) (.k (.kn _) .nil))),.nil⟩
   ·rw [if_neg ‹¬O.eqb _ z7=true›] at h2
    exact a09 h2
  ·exact a09 (c0m hi oM)
end
end Go.Proofs.YtdldcfllnohkeaaGreatDoor
namespace Go.Proofs.YtdldcfllnohkeaaGreatDoor
open Go.Abs LQ Go.RowKit Go.Shelf
set_option maxRecDepth 100000
noncomputable section
section
variable {S:j8} {w:World}
theorem b8g {o:O} {v:Value} (h:Rd S m5 w v (dV (.a o.g))):∃ c6,v=.agg (C4 o c6)∧Rd S m5 w c6 (dG (.l (o.ps.map O.g))):=by
 simp only [dV] at h
 cases h with
 | agg vs _ r =>
 obtain ⟨c6,e,hc⟩:=a9d r
 have:vs=C4 o c6:=by rw [← Array.toList_inj,e]
 exact ⟨c6,by rw [this],hc⟩
theorem b2a {o:O} {c6:Value} (h:Rd S m5 w c6 (dG (.l (o.ps.map O.g)))):Rd S m5 w (.agg (C4 o c6)) (dV (.a o.g)):=by
 simp only [dV]
 exact .agg _ _ (e0r h)
theorem c5z (s:f5) (c:UInt8) (hs:s.length < 90000) (hc:c=34∨c=124) (n:Int) (hn:n=c.toNat) (hg:GG.pred w) :
  Calls Tryz.prog 52 #[.string ⟨s.toArray⟩,.int .i32 n] w fun e w'=>e=.returned (.string ⟨(D8 c s).toArray⟩)∧Below w.heap.size w w':=by
 subst hn
 refine (a2e e7r ⟨(s,c),hs,hc⟩ rfl rfl (vs:=[.str s.length (j9 s),.int .i32 (c.toNat:Int)]) (.k (.s _ _ _ rfl rfl) (.k (.i _ _) .nil)) (S:=fun _ _=>False) (us:=[.string ⟨s.toArray⟩,.int .i32 (c.toNat:Int)]) hg (fun _ _ h=>h.elim) (.k (.str _ _ rfl) (.k (.int _ _) .nil))).mono ?_
 rintro e w' ⟨v,S',rfl,hb,_,_,hr⟩
 have:=T5 hr
 subst this
 exact ⟨rfl,hb⟩
theorem b45 {o:O} {c6:Value} (hq:S8 o) (hg:GG.pred w) (hwi:S.within w) (hc:Rd S m5 w c6 (dG (.l (o.ps.map O.g)))) :
  Calls Tryz.prog 56 #[.agg (C4 o c6)] w fun e w'=>e=.returned (.bool (O.eqb o A5))∧Below w.heap.size w w':=by
 obtain ⟨v,hv⟩:=hq.rv
 refine (a2e c75 o rfl rfl (vs:=[v]) (.k hv .nil) (us:=[.agg (C4 o c6)]) hg hwi (.k (b2a hc) .nil)).mono ?_
 rintro e w' ⟨v,S',rfl,hb,_,_,hr⟩
 have hr:Rd S' m5 w' v (.bool (O.eqb o A5)):=hr
 generalize O.eqb o A5=z at hr ⊢
 cases hr
 exact ⟨rfl,hb⟩
theorem d2t {L:List Pk} {cur:f5} {s:Sy} {lv:Value} {vL:V} (hL:F1 L) (h1:s.1.length < 90000) (h2:s.2.length < 90000) (hvL:RV (.sl 2 (L.map pg)) vL) (hg:GG.pred w) (hwi:S.within w) (hlv:Rd S m5 w lv (dV (.sl 2 (L.map pg)))) :
  Calls Tryz.prog 53 #[lv,.string ⟨cur.toArray⟩,.agg #[.string ⟨s.1.toArray⟩,.string ⟨s.2.toArray⟩]] w fun e w'=>e=.returned (.tuple #[.string ⟨(H9 L cur s).1.toArray⟩,.int .i64 (H9 L cur s).2])∧Below w.heap.size w w':=by
 refine (a2e e7j ⟨(L,cur,s),hL,h1,h2⟩ rfl rfl (vs:=[vL,.str cur.length (j9 cur),.agg [.str s.1.length (j9 s.1),.str s.2.length (j9 s.2)]])
  (.k hvL (.k (.s _ _ _ rfl rfl) (.k (.ag _ _ (.k (.s _ _ _ rfl rfl) (.k (.s _ _ _ rfl rfl) .nil))) .nil)))
  (us:=[lv,.string ⟨cur.toArray⟩,.agg #[.string ⟨s.1.toArray⟩,.string ⟨s.2.toArray⟩]]) hg hwi (.k hlv (.k (.str _ _ rfl) (.k ?_ .nil)))).mono ?_
 ·simp only [dV,sg,List.map_cons,List.map_nil,dG]
  exact .agg _ _ (.k (.str _ _ rfl) (.k (.str _ _ rfl) .nil))
 rintro e w' ⟨v,S',rfl,hb,_,_,hr⟩
 have hr:Rd S' m5 w' v (dV (a9b (H9 L cur s))):=hr
 generalize H9 L cur s=r at hr ⊢
 simp only [a9b,dV,dVs,dG] at hr
 cases hr with
 | tuple vs _ r =>
 obtain ⟨vs⟩:=vs
 cases r with
 | cons _ _ _ _ r1 r2 =>
 cases r2 with
 | cons _ _ _ _ r2 r3 =>
 cases r3
 cases r2
 have:=T5 r1
 subst this
 exact ⟨rfl,hb⟩
theorem a6x {f:FuncId} (hk:j3 f (b8t P1)) {o:O} {c6:Value} (hz:o.size < 90000) (hq:S8 o) (hg:GG.pred w) (hwi:S.within w) (hc:Rd S m5 w c6 (dG (.l (o.ps.map O.g)))) :
  Calls Tryz.prog f #[.agg (C4 o c6)] w fun e w'=>Below w.heap.size w w'∧∃ S',S.grown S' w∧S'.within w'∧∃ x6,match A7 o with
   | some x=>e=.returned (.tuple #[.agg (C4 x x6),.bool true])∧Rd S' m5 w' x6 (dG (.l (x.ps.map O.g)))
   | none=>e=.returned (.tuple #[.agg (C4 .no x6),.bool false])∧Rd S' m5 w' x6 (dG (.l (O.no.ps.map O.g))):=by
 obtain ⟨v,hv⟩:=hq.rv
 refine (a2e hk ⟨o,hz⟩ rfl rfl (vs:=[v]) (.k hv .nil) (us:=[.agg (C4 o c6)]) hg hwi (.k (b2a hc) .nil)).mono ?_
 rintro e w' ⟨v,S',rfl,hb,h1,h2,hr⟩
 refine ⟨hb,S',h1,h2,?_⟩
 have hr:Rd S' m5 w' v (dV (P1 o)):=hr
 have key:∀ (x:O) (z:Bool),Rd S' m5 w' v (dV (.t [.a x.g,.c (.b z)]))→∃ x6,v=.tuple #[.agg (C4 x x6),.bool z]∧Rd S' m5 w' x6 (dG (.l (x.ps.map O.g))):=by
  intro x z hr
  rw [dV,dVs,dVs,dVs] at hr
  cases hr with
  | tuple vs _ r =>
  obtain ⟨vs⟩:=vs
  cases r with
  | cons _ _ _ _ r1 r2 =>
  cases r2 with
  | cons _ _ _ _ r2 r3 =>
  cases r3
  obtain ⟨x6,e1,hx⟩:=b8g r1
  have r2:Rd S' m5 w' _ (.bool z):=r2
  cases r2
  subst e1
  exact ⟨x6,rfl,hx⟩
 unfold P1 at hr
 cases hs:A7 o with
 | none =>
  rw [hs] at hr
  obtain ⟨x6,e,h⟩:=key _ _ hr
  exact ⟨x6,by rw [e],h⟩
 | some x =>
  rw [hs] at hr
  obtain ⟨x6,e,h⟩:=key _ _ hr
  exact ⟨x6,by rw [e],h⟩
end
end
end Go.Proofs.YtdldcfllnohkeaaGreatDoor
