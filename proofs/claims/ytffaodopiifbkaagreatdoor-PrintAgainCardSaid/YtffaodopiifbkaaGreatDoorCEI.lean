/- The program's reader: objects from C5. -/
import Derived.Test.YtffaodopiifbkaaGreatDoorCEH
set_option linter.all false
namespace Go.Abs
theorem a8o {U:x5} {P:L3→List Bx→Prop} {α:Type} {f:α→List G} {n:Nat} {ys:List α} {v:V} {K:j9 Q→Nat→Nat→Om} (hv:RV (.c (.l (ys.map f))) v) (hn:∀ x,(f x).length=n+1) (h:∀ t off,r7 (n+1) (ys.map f) t off→j6 U (K t off ys.length) P):j6 U (U.uSl (n+1) 0 v K) P :=
 f7e hv (A3 hn) fun t off k=>by rw [List.length_map];exact h t off k
end Go.Abs
namespace Go.Proofs.YtffaodopiifbkaaGreatDoor
open Go.Abs LQ
set_option maxRecDepth 100000
set_option maxHeartbeats 8000000
noncomputable section
def M6 (L:List Pk) (cur:i6) (T:List u5) (i:Nat):List G:=[.l (L.map pg),.s cur,.l (T.map B5),.i .i64 (i:Int)]
theorem d2s {L L':List Pk} {c c':i6} {T T':List u5} {i i':Nat} (h:M6 L c T i=M6 L' c' T' i'):L=L'∧c=c'∧T=T'∧i=i':=by
 simp only [M6,List.cons.injEq,G.l.injEq,G.s.injEq,G.i.injEq,true_and,and_true] at h
 exact ⟨Y8 h.1,h.2.1,d15 h.2.2.1,oM⟩
abbrev PzI:={ p:List Pk × i6 × List u5 × Nat // K0 p.1∧b0o p.2.2.1∧p.2.2.2 < p.2.2.1.length }
def PzI.g (p:PzI):List G:=M6 p.1.1 p.1.2.1 p.1.2.2.1 p.1.2.2.2
def g2f:Sp where
 ι:=PzI
 A _:=[.p 0 0]
 B p:=[p.g]
 R p:=.ret (.a (B5 (p.1.2.2.1.getD p.1.2.2.2 t0)))
 B' p:=[p.g]
 inj i j vs bs _ _ h k:=by
  have:=d2s (j5.one_inj h k)
  have:i=j:=Subtype.ext (Prod.ext this.1 (Prod.ext this.2.1 (Prod.ext this.2.2.1 this.2.2.2)))
  rw [this];exact ⟨rfl,rfl⟩
theorem d4i:l5 86 g2f:=n6 (fun fn h=>f41 h) [] .nil fun U fn hfn ⟨(L,cur,T,i),hL,hT,hi⟩ vs bs hv hb=>by
 have hi:i < T.length:=hi
 have hT:b0o T:=hT
 have hl:=hT.len
 have hv:l8 [.p 0 0] vs:=hv
 have hb:j5 [[.l (L.map pg),.s cur,.l (T.map B5),.i .i64 (i:Int)]] bs:=hb
 show j6 U _ fun v bs'=>l9 (.ret (.a (B5 (T.getD i t0)))) v∧j5 [M6 L cur T i] bs'
 unfold r86
 (refine Zq ?_;intros)
 refine a8o aS b2i fun _ _ _=>?_
 (refine Zq ?_;intros)
 refine a8o aS a6f fun _ _ _=>?_
 (refine Zq ?_;intros)
 have e:T.getD i t0=T[i]:=by simp [List.getD,List.getElem?_eq_getElem hi]
 rw [e]
 refine k9 ⟨.ret _ _ (.a _ _ _ rfl aS),.k (.cells _ _ (.k (.cl _ _ _ _ _ (by simp) aS) (.k (.s _ _ _ rfl rfl) (.k (.cl _ _ _ _ _ (by simp) aS) (.k (.i _ _) .nil))))) .nil⟩
def U9 (e:Int) (t:u5):Int:=if t.kind=0 then 11 else e
theorem c4v:l5 87 { ι:=Int × u5,A:=fun p=>[.c (.i .i64 p.1),.a (B5 p.2)],B:=fun _=>[],R:=fun p=>S3 (U9 p.1 p.2) p.2.pos,B':=fun _=>[],inj:=fun i j vs bs h k _ _=>(by
  obtain ⟨_,_,h1,k1,h,k⟩:=h.two k
  obtain ⟨_,_,h2,k2,h,k⟩:=h.two k
  rw [a4h h1 k1,b3t (h2.a_inj k2)];exact ⟨rfl,rfl⟩) }:=n6 (fun fn h=>f08 h) [(51,_)] (.cons b3w .nil) fun U fn hfn ⟨e,t⟩ vs bs hv hb=>by
 have hf:=hfn 51 _ rfl
 have hv:l8 [.c (.i .i64 e),.a [.i .i64 t.kind,.i .i64 (t.pos:Int),.s t.pkg,.s t.text,.s t.den]] vs:=hv
 have hb:j5 [] bs:=hb
 show j6 U _ fun v bs'=>l9 (S3 (U9 e t) t.pos) v∧j5 [] bs'
 unfold r87
 (refine Zy ?_;intros)
 refine O1 (fun vs bs=>l8 [.c (.i .i64 (U9 e t)),.p 0 0] vs∧j5 [[.i .i64 t.kind,.i .i64 (t.pos:Int),.s t.pkg,.s t.text,.s t.den]] bs) ?_ ?_
 ·rintro vs' bs' ⟨hv',hb'⟩
  (refine Zq ?_;intros)
  exact G6 hf (U9 e t,(t.pos:Int)) (r:=.fl 122 (U9 e t) t.pos) rfl (.k (.i _ _) (.k (.q _ _ aS) .nil)) .nil fun _ hv=>Q2 hv .nil
 ·intro c hc
  (refine Zq ?_;with_reducible repeat' first|intro _|apply aI)
  ·have e1:U9 e t=11:=if_pos ‹_›
   rw [e1] at hc ⊢
   exact hc _ _ ⟨by (exact l6),RB.bx aS rfl⟩
  ·have e1:U9 e t=e:=if_neg ‹_›
   rw [e1] at hc ⊢
   exact hc _ _ ⟨by (exact l6),RB.bx aS rfl⟩
set_option maxHeartbeats 16000000
def T4:Except (Int × Nat) (O × Nat)→s8
 | .ok (o,_)=>.ret (.a o.g)
 | .error (e,p)=>S3 e p
def a1r (i:Nat):Except (Int × Nat) (O × Nat)→Nat
 | .ok (_,j)=>j
 | .error _=>i
abbrev PoI:={ p:(List Pk × i6 × List u5 × Nat) × Nat // (K0 p.1.1∧b0o p.1.2.2.1∧p.1.2.2.2 < p.1.2.2.1.length)∧p.2≤p.1.2.2.2 }
theorem d9n {i j:PoI} {vs:List V} {bs:List Bx} (hv:l8 [.p 0 0,.c (.i .i64 (i.1.2:Int))] vs) (kv:l8 [.p 0 0,.c (.i .i64 (j.1.2:Int))] vs) (h:j5 [M6 i.1.1.1 i.1.1.2.1 i.1.1.2.2.1 i.1.1.2.2.2] bs) (k:j5 [M6 j.1.1.1 j.1.1.2.1 j.1.1.2.2.1 j.1.1.2.2.2] bs):i=j:=by
 have e:=d2s (j5.one_inj h k)
 obtain ⟨_,_,_,_,hv,kv⟩:=hv.two kv
 obtain ⟨_,_,h2,k2,_,_⟩:=hv.two kv
 have e2:=a4h h2 k2
 exact Subtype.ext (Prod.ext (Prod.ext e.1 (Prod.ext e.2.1 (Prod.ext e.2.2.1 e.2.2.2))) oM)
def b6c:Sp where
 ι:=PoI
 A p:=[.p 0 0,.c (.i .i64 (p.1.2:Int))]
 B p:=[M6 p.1.1.1 p.1.1.2.1 p.1.1.2.2.1 p.1.1.2.2.2]
 R p:=T4 (F4 p.1.1.1 p.1.1.2.1 p.1.1.2.2.1 p.1.2 p.1.1.2.2.2)
 B' p:=[M6 p.1.1.1 p.1.1.2.1 p.1.1.2.2.1 (a1r p.1.1.2.2.2 (F4 p.1.1.1 p.1.1.2.1 p.1.1.2.2.1 p.1.2 p.1.1.2.2.2))]
 inj i j vs bs hv kv h k:=by rw [d9n hv kv h k];exact ⟨rfl,rfl⟩
def d5e:Sp where
 ι:=PoI
 A p:=[.p 0 0,.c (.i .i64 (p.1.2:Int))]
 B p:=[M6 p.1.1.1 p.1.1.2.1 p.1.1.2.2.1 p.1.1.2.2.2]
 R p:=T4 (O8 p.1.1.1 p.1.1.2.1 p.1.1.2.2.1 p.1.2 p.1.1.2.2.2 [])
 B' p:=[M6 p.1.1.1 p.1.1.2.1 p.1.1.2.2.1 (a1r p.1.1.2.2.2 (O8 p.1.1.1 p.1.1.2.1 p.1.1.2.2.1 p.1.2 p.1.1.2.2.2 []))]
 inj i j vs bs hv kv h k:=by rw [d9n hv kv h k];exact ⟨rfl,rfl⟩
theorem pzC {L:List Pk} {cur:i6} {T:List u5} {i:Nat} {ta tb:j9 Q} {oa ob:Nat} {n:Int} (ha:r7 2 (L.map pg) ta oa) (hb:r7 5 (T.map B5) tb ob) (hn:n=(i:Int)):RB (M6 L cur T i) (.cells [.slice ta 2 oa L.length .no,.str cur.length (p9 cur),.slice tb 5 ob T.length .no,.int .i64 n]):=by
 subst hn
 exact .cells _ _ (.k (.cl _ _ _ _ _ (by simp) ha) (.k (.s _ _ _ rfl rfl) (.k (.cl _ _ _ _ _ (by simp) hb) (.k (.i _ _) .nil))))
theorem pzQ {U:x5} (e:U=CU) {L:List Pk} {cur:i6} {T:List u5} {i j:Nat} {x:Q} {n:Int} (hx:A8 [.l (L.map pg),.s cur,.l (T.map B5),.i .i64 (i:Int)] x 0) (hn:n=(j:Int)):RB (M6 L cur T j) (.cells [.q (U.celQ x 0),.q (U.celQ x 1),.q (U.celQ x 2),.int .i64 n]):=by
 subst hn e
 exact .cells _ _ (.k (.q _ _ (A8.at hx (by rfl))) (.k (.q _ _ (A8.at hx (by rfl))) (.k (.q _ _ (A8.at hx (by rfl))) (.k (.i _ _) .nil))))
theorem c44 {L:List Pk} {cur:i6} {T:List u5} {j:Nat} {x y z:Q} {n:Int} (h1:RG (.l (L.map pg)) x) (h2:RG (.s cur) y) (h3:RG (.l (T.map B5)) z) (hn:n=(j:Int)):RB (M6 L cur T j) (.cells [.q x,.q y,.q z,.int .i64 n]):=by
 subst hn
 exact .cells _ _ (.k (.q _ _ h1) (.k (.q _ _ h2) (.k (.q _ _ h3) (.k (.i _ _) .nil))))
abbrev zOb:Bx:=.cells [.int .i64 0,.str 0 0,.str 0 0,.str 0 0,.str 0 0,.str 0 0,.slice .nil 0 0 0 .exact]
theorem e8l {t:u5} (h:OkT t) (h5:t.kind=5):a3s (qn (j0 t.text) (j0 t.den))=b20 t∧t.text.length < 8000∧t.den.length < 8000:=by
 obtain ⟨n,d,e1,e2,hd,hg,l1,l2⟩:=h.1 h5
 have h1:=b47 n d hd hg
 rw [P8,r8,A7] at h1
 have l3:(j4 n).length≤1+(i7 n.natAbs).length:=by
  rw [I8,List.length_append]
  have:(LQ.sgn n).length≤1:=by unfold LQ.sgn;split <;> simp
  omega
 refine ⟨?_,by rw [e1];omega,by rw [e2];omega⟩
 unfold b20
 rw [e1,e2,r8,A7,Int.natAbs_natCast]
 have q1:=Z4 (congrArg Prod.fst h1)
 have q2:=Z1 (congrArg Prod.snd h1)
 unfold a3s
 rw [q1,q2]
section
variable (hst:l5 203 W7)
def μO (p:PoI):Nat:=2 * (p.1.1.2.2.1.length - p.1.1.2.2.2)
def μL (p:PoI):Nat:=2 * (p.1.1.2.2.1.length - p.1.1.2.2.2)+1
theorem g13 (hst:l5 203 W7) (n:Nat) (ih1:l5 88 (b6c.lt μO n)) (ih2:l5 131 (d5e.lt μL n)):l5 88 (b6c.lt μO (n+1)):=n6 (fun fn h=>f4r h) [(86,_),(87,_),(88,b6c.lt μO n),(131,d5e.lt μL n),(128,_),(129,_),(105,_),(130,_),(106,_)] (.cons d4i (.cons c4v (.cons ih1 (.cons ih2 (.cons (d21 hst) (.cons f10 (.cons a63 (.cons f1l (.cons c6g .nil))))))))) fun U fn hfn ⟨⟨((L,cur,T,i),d),⟨hL,hT,hi⟩,hd⟩,hn⟩ vs bs hv hb=>by
 have hp:=hfn 86 _ rfl
 have hw:=hfn 87 _ rfl
 have ho:=hfn 88 _ rfl
 have hl:=hfn 131 _ rfl
 have hr:=hfn 128 _ rfl
 have ht:=hfn 129 _ rfl
 have hsy:=hfn 105 _ rfl
 have hls:=hfn 130 _ rfl
 have hin:=hfn 106 _ rfl
 have hL:K0 L:=hL
 have hT:b0o T:=hT
 have hi:i < T.length:=hi
 have hd:d≤i:=hd
 have hTl:=hT.len
 have hn:2 * (T.length - i) < n+1:=hn
 have hv:l8 [.p 0 0,.c (.i .i64 (d:Int))] vs:=hv
 have hb:j5 [[.l (L.map pg),.s cur,.l (T.map B5),.i .i64 (i:Int)]] bs:=hb
 show j6 U _ fun v bs'=>l9 (T4 (F4 L cur T d i)) v∧j5 [M6 L cur T (a1r i (F4 L cur T d i))] bs'
 unfold r88
 have e0:=b95 (L:=L) (cur:=cur) (d:=d) hi
 have hok:OkT (T.getD i t0):=hT.ok _ (by have:T.getD i t0=T[i]:=by simp [List.getD,List.getElem?_eq_getElem hi]
                                         rw [this];exact List.getElem_mem hi)
 have hkd:0≤(T.getD i t0).kind∧(T.getD i t0).kind≤7:=hT.kinds _ (by have:T.getD i t0=T[i]:=by simp [List.getD,List.getElem?_eq_getElem hi]
                                                                    rw [this];exact List.getElem_mem hi)
 have hlast:(T.getD i t0).kind ≠ 0→i+1 < T.length:=fun h=>by
  rcases Nat.lt_or_ge (i+1) T.length with h3 | h3
  ·exact h3
  ·exact absurd (hT.last i oM) h
 generalize htk:T.getD i t0=t at *
 (refine Zq ?_;intros)
 refine a8o aS b2i fun ta oa hta=>?_
 (refine Zq ?_;intros)
 refine a8o aS a6f fun tb ob htb=>?_
 (refine Zq ?_;intros)
 have bad:∀ {e e':Int} {vs:List V} {bs:List Bx} {K:V→List Bx→Om},F4 L cur T d i=.error (e',t.pos)→U9 e t=e'→l8 [.c (.i .i64 e),.a (B5 t)] vs→j5 [] bs→j6 U (U.bind (fn 87 vs bs) K fun v=>some (.pan (U.rn0 v),[.cells [.slice ta 2 oa L.length .no,.str cur.length (p9 cur),.slice tb 5 ob T.length .no,.int .i64 i]])) fun v bs'=>l9 (T4 (F4 L cur T d i)) v∧j5 [M6 L cur T (a1r i (F4 L cur T d i))] bs':=fun {e e' vs bs K} he hk hv hb=>by
  rw [he]
  exact G6 hw (e,t) (r:=.fl 122 e' t.pos) (by show S3 (U9 e t) t.pos=_;rw [hk]) hv hb fun _ hv=>Q2 hv (.k (pzC hta htb rfl) .nil)
 have good:∀ {o:O} {j:Nat} {v:V} {b:Bx},F4 L cur T d i=.ok (o,j)→RV (.a o.g) v→RB (M6 L cur T j) b→j6 U (some (.ret v,[b])) fun v bs'=>l9 (T4 (F4 L cur T d i)) v∧j5 [M6 L cur T (a1r i (F4 L cur T d i))] bs':=fun {o j v b} he hv hb=>by
  rw [he]
  exact k9 ⟨.ret _ _ hv,.k hb .nil⟩
 refine j3 hp ⟨(L,cur,T,i),hL,hT,hi⟩ (r:=.a (B5 t)) (by show s8.ret (.a (B5 (T.getD i t0)))=_;rw [htk]) l6 (.k (pzC hta htb rfl) .nil) fun _ _ hv1 hb1=>?_
 have hb1:j5 [[.l (L.map pg),.s cur,.l (T.map B5),.i .i64 (i:Int)]] _:=hb1
 have hv1:RV (.a [.i .i64 t.kind,.i .i64 (t.pos:Int),.s t.pkg,.s t.text,.s t.den]) _:=hv1
 (refine Zy ?_;intros)
 refine a8o aS b2i fun ta2 oa2 hta2=>?_
 (refine Zy ?_;intros)
 refine a8o aS a6f fun tb2 ob2 htb2=>?_
 (refine Zy ?_;intros)
 refine O1 (fun vs bs=>vs=[.ptr 0 0,.int .i64 d,.ptr 1 0,.ptr 2 0]∧∃ b0 b2,bs=[b0,zOb,b2]∧RB (M6 L cur T i) b0∧RB (B5 t) b2∧¬(200 < d∧(t.kind=1∨t.kind=4))) ?_ ?_
 ·rintro _ _ ⟨rfl,b0,b2,rfl,hb0,hb2,hdk⟩
  have hb0:RB [.l (L.map pg),.s cur,.l (T.map B5),.i .i64 (i:Int)] b0:=hb0
  have hb2:RB [.i .i64 t.kind,.i .i64 (t.pos:Int),.s t.pkg,.s t.text,.s t.den] b2:=hb2
  (refine Zy ?_;with_reducible repeat' first|intro _|apply aI)
  ·have k5:t.kind=5:=‹_›
   rw [if_neg oM,if_neg oM,if_pos k5] at e0
   obtain ⟨q1,q2,q3⟩:=e8l hok k5
   refine j3 hr ⟨(t.text,t.den),q2,q3⟩ (r:=.a (b20 t).g) (by show s8.ret (.a (a3s (qn (j0 t.text) (j0 t.den))).g)=_;rw [q1]) (.k (.q _ _ aS) (.k (.q _ _ aS) .nil)) .nil fun _ _ hv2 _=>?_
   refine L0 hv2 (O.g_len _) fun _ _=>?_
   (refine Zy ?_;intros)
   exact fun e=>good e0 oV (pzQ e aS oM) e
  ·have k5:¬t.kind=5:=‹_›
   have k7:t.kind=7:=‹_›
   rw [if_neg oM,if_neg oM,if_neg k5,if_pos k7] at e0
   refine j3 ht t.text (r:=.a (O.tx t.text).g) rfl (.k (.q _ _ aS) .nil) .nil fun _ _ hv2 _=>?_
   refine L0 hv2 (O.g_len _) fun _ _=>?_
   (refine Zy ?_;intros)
   exact fun e=>good e0 oV (pzQ e aS oM) e
  ·have k5:¬t.kind=5:=‹_›
   have k7:¬t.kind=7:=‹_›
   have k6:t.kind=6:=‹_›
   rw [if_neg oM,if_neg oM,if_neg k5,if_neg k7,if_pos k6] at e0
   generalize hcd:(if t.pkg=[] then cur else t.pkg)=c at e0
   refine O1 (fun vs bs=>∃ v b0 b2,vs=[.ptr 0 0,.ptr 1 0,.ptr 2 0,v]∧RV (.c (.s c)) v∧bs=[b0,zOb,b2]∧RB (M6 L cur T (i+1)) b0∧RB (B5 t) b2) ?_ ?_
   ·rintro _ _ ⟨v,b0,b2,rfl,hvc,rfl,hb0,hb2⟩
    have hb0:RB [.l (L.map pg),.s cur,.l (T.map B5),.i .i64 ((i+1:Nat):Int)] b0:=hb0
    have hb2:RB [.i .i64 t.kind,.i .i64 (t.pos:Int),.s t.pkg,.s t.text,.s t.den] b2:=hb2
    (refine Zy ?_;intros)
    refine sQR hvc fun _ _=>?_
    (refine Zy ?_;intros)
    refine j3 hin ⟨(L,c,t.text),hL⟩ (r:=.t [.a (sg (x7 L c t.text).1),.c (.i .i64 (x7 L c t.text).2)]) rfl (.k (.slq _ _ _ aS (A3 b2i)) (.k (.q _ _ aS) (.k (.q _ _ aS) .nil))) .nil fun _ _ hv2 _=>?_
    generalize x7 L c t.text=r at *
    obtain ⟨sy,er⟩:=r
    have hv2:RV (.t [.a [.s sy.1,.s sy.2],.c (.i .i64 er)]) _:=hv2
    have e0:F4 L cur T d i=if er=0 then .ok (.sy sy,i+1) else .error (er,t.pos):=e0
    (refine Zy ?_;intros)
    refine O1 (fun vs bs=>er=0∧vs=[.ptr 1 0,.ptr 2 0]∧∃ b0 b2,bs=[b0,zOb,b2]∧RB (M6 L cur T (i+1)) b0∧RB (sg sy) b2) ?_ ?_
    ·rintro _ _ ⟨her,rfl,b0,b2,rfl,hb0,hb2⟩
     have hb0:RB [.l (L.map pg),.s cur,.l (T.map B5),.i .i64 ((i+1:Nat):Int)] b0:=hb0
     have hb2:RB [.s sy.1,.s sy.2] b2:=hb2
     rw [if_pos her] at e0
     (refine Zy ?_;intros)
     refine j3 hsy sy (r:=.a (O.sy sy).g) rfl (.k (.a _ _ _ rfl aS) .nil) .nil fun _ _ hv2 _=>?_
     refine L0 hv2 (O.g_len _) fun _ _=>?_
     (refine Zy ?_;intros)
     exact good e0 oV (.opa _ _ _ rfl aS)
    ·intro cc hcc
     (refine Zy ?_;with_reducible repeat' first|intro _|apply aI)
     ·have her:er=0:=‹_›
      exact hcc _ _ ⟨her,rfl,_,_,rfl,.opa _ _ _ rfl aS,.opa _ _ _ rfl aS⟩
     ·have her:¬er=0:=‹_›
      rw [if_neg her] at e0
      exact bad e0 (if_neg oM) (.k (.i _ _) (.k (.a _ _ _ rfl aS) .nil)) .nil
   ·intro cc hcc
    (refine Zy ?_;with_reducible repeat' first|intro _|apply aI)
    ·have hz:t.pkg=[]:=‹t.pkg=n5 0 0›
     rw [if_pos hz] at hcd
     subst hcd
     exact fun e=>hcc _ _ ⟨_,_,_,rfl,.q _ _ (by subst e;exact A8.at aS (by rfl)),rfl,pzQ e aS oM,.opa _ _ _ rfl aS⟩ e
    ·have hz:¬t.pkg=[]:=‹¬t.pkg=n5 0 0›
     rw [if_neg hz] at hcd
     subst hcd
     exact fun e=>hcc _ _ ⟨_,_,_,rfl,.q _ _ aS,rfl,pzQ e aS oM,.opa _ _ _ rfl aS⟩ e
  ·have k5:¬t.kind=5:=‹_›
   have k7:¬t.kind=7:=‹_›
   have k6:¬t.kind=6:=‹_›
   have k4:t.kind=4:=‹_›
   have hi1:=hlast oM
   rw [if_neg oM,if_neg oM,if_neg k5,if_neg k7,if_neg k6,if_neg oM,if_pos k4] at e0
   refine j3 hsy (u1,[113,117,111,116,101]) (r:=.a z8.g) rfl (.k (.ag _ _ l6) .nil) .nil fun _ _ hv2 _=>?_
   refine L0 hv2 (O.g_len _) fun _ _=>?_
   (refine Zy ?_;with_reducible repeat' first|intro _|apply aI)
   cases hx:F4 L cur T (d+1) (i+1) with
   | error er =>
    obtain ⟨er,p⟩:=er
    rw [hx] at e0
    rw [e0]
    exact fun e=>G6 ho ⟨⟨((L,cur,T,i+1),d+1),⟨hL,hT,hi1⟩,by show d+1≤i+1;omega⟩,by show 2 * (T.length - (i+1)) < n;omega⟩ (r:=.fl 122 er p) (by show T4 (F4 L cur T (d+1) (i+1))=_;rw [hx];rfl) (.k (.p _ _) (.k (rvI (show ((d+1:Nat):Int)=(d:Int)+1 by omega)) .nil)) (.k (pzQ (j:=i+1) e aS oM) .nil) (fun _ hv=>Q2 hv (.k (pzC hta htb rfl) .nil)) e
   | ok oj =>
    obtain ⟨o,j⟩:=oj
    rw [hx] at e0
    refine fun e=>j3 ho ⟨⟨((L,cur,T,i+1),d+1),⟨hL,hT,hi1⟩,by show d+1≤i+1;omega⟩,by show 2 * (T.length - (i+1)) < n;omega⟩ (r:=.a o.g) (by show T4 (F4 L cur T (d+1) (i+1))=_;rw [hx];rfl) (.k (.p _ _) (.k (rvI (show ((d+1:Nat):Int)=(d:Int)+1 by omega)) .nil)) (.k (pzQ (j:=i+1) e aS oM) .nil) (fun _ _ hv3 hb3=>?_) e
    have hb3:j5 [M6 L cur T (a1r (i+1) (F4 L cur T (d+1) (i+1)))] _:=hb3
    rw [hx] at hb3
    have hb3:j5 [[.l (L.map pg),.s cur,.l (T.map B5),.i .i64 (j:Int)]] _:=hb3
    refine L0 hv3 (O.g_len _) fun _ _=>?_
    (refine Zy ?_;intros)
    refine sQR aS fun _ _=>?_
    (refine Zy ?_;intros)
    refine sQR aS fun _ _=>?_
    (refine Zy ?_;intros)
    refine sQR aS fun _ _=>?_
    (refine Zy ?_;intros)
    have r1:=a1a (r:=z8.g) (by rw [O.g_len];decide) aS
    have r2:=a1a (r:=o.g) (by rw [O.g_len];decide) aS
    refine j3 hls ⟨[z8,o],by show 2 < 90000;decide⟩ (r:=.a (E7 [z8,o]).g) rfl (.k (.sl _ _ _ _ _ rfl (.cons _ _ _ _ _ z8.g_len r1.1 r1.2 (.cons _ _ _ _ _ o.g_len r2.1 r2.2 (.nil _ _ _)))) .nil) .nil fun _ _ hv4 _=>?_
    refine L0 hv4 (O.g_len _) fun _ _=>?_
    (refine Zy ?_;intros)
    exact good e0 oV (c44 aS aS aS rfl)
  ·have k5:¬t.kind=5:=‹_›
   have k7:¬t.kind=7:=‹_›
   have k6:¬t.kind=6:=‹_›
   have k4:¬t.kind=4:=‹_›
   have k1:t.kind=1:=‹_›
   have hi1:=hlast oM
   rw [if_neg oM,if_neg oM,if_neg k5,if_neg k7,if_neg k6,if_neg oM,if_neg k4] at e0
   cases hx:O8 L cur T (d+1) (i+1) [] with
   | error er =>
    obtain ⟨er,p⟩:=er
    rw [hx] at e0
    rw [e0]
    exact fun e=>G6 hl ⟨⟨((L,cur,T,i+1),d+1),⟨hL,hT,hi1⟩,by show d+1≤i+1;omega⟩,by show 2 * (T.length - (i+1))+1 < n;omega⟩ (r:=.fl 122 er p) (by show T4 (O8 L cur T (d+1) (i+1) [])=_;rw [hx];rfl) (.k (.p _ _) (.k (rvI (show ((d+1:Nat):Int)=(d:Int)+1 by omega)) .nil)) (.k (pzQ (j:=i+1) e aS oM) .nil) (fun _ hv=>Q2 hv (.k (pzC hta htb rfl) .nil)) e
   | ok oj =>
    obtain ⟨o,j⟩:=oj
    rw [hx] at e0
    refine fun e=>j3 hl ⟨⟨((L,cur,T,i+1),d+1),⟨hL,hT,hi1⟩,by show d+1≤i+1;omega⟩,by show 2 * (T.length - (i+1))+1 < n;omega⟩ (r:=.a o.g) (by show T4 (O8 L cur T (d+1) (i+1) [])=_;rw [hx];rfl) (.k (.p _ _) (.k (rvI (show ((d+1:Nat):Int)=(d:Int)+1 by omega)) .nil)) (.k (pzQ (j:=i+1) e aS oM) .nil) (fun _ _ hv3 hb3=>?_) e
    have hb3:j5 [M6 L cur T (a1r (i+1) (O8 L cur T (d+1) (i+1) []))] _:=hb3
    rw [hx] at hb3
    have hb3:j5 [[.l (L.map pg),.s cur,.l (T.map B5),.i .i64 (j:Int)]] _:=hb3
    refine L0 hv3 (O.g_len _) fun _ _=>?_
    (refine Zy ?_;intros)
    refine sQR aS fun _ _=>?_
    (refine Zy ?_;intros)
    refine sQR aS fun _ _=>?_
    (refine Zy ?_;intros)
    refine sQR aS fun _ _=>?_
    (refine Zy ?_;intros)
    exact good e0 oV (c44 aS aS aS rfl)
  ·have k5:¬t.kind=5:=‹_›
   have k7:¬t.kind=7:=‹_›
   have k6:¬t.kind=6:=‹_›
   have k4:¬t.kind=4:=‹_›
   have k1:¬t.kind=1:=‹_›
   by_cases k0:t.kind=0
   ·rw [if_pos k0] at e0
    exact bad e0 (if_pos k0) (.k (.i _ _) (.k (.a _ _ _ rfl aS) .nil)) .nil
   ·rw [if_neg k0,if_pos oM] at e0
    exact bad e0 (if_neg k0) (.k (.i _ _) (.k (.a _ _ _ rfl aS) .nil)) .nil
 ·intro c hc
  refine O1 (fun vs bs=>∃ (z:Bool) (v:V) (b0 b2:Bx),vs=[.ptr 0 0,.int .i64 d,.ptr 1 0,.ptr 2 0,v]∧RV (.c (.b z)) v∧bs=[b0,zOb,b2]∧RB (M6 L cur T i) b0∧RB (B5 t) b2∧(z=true↔200 < d∧(t.kind=1∨t.kind=4))) ?_ ?_
  ·rintro _ _ ⟨z,v,b0,b2,rfl,hz,rfl,hb0,hb2,hzk⟩
   have hb0:RB [.l (L.map pg),.s cur,.l (T.map B5),.i .i64 (i:Int)] b0:=hb0
   have hb2:RB [.i .i64 t.kind,.i .i64 (t.pos:Int),.s t.pkg,.s t.text,.s t.den] b2:=hb2
   (refine Zy ?_;with_reducible repeat' first|intro _|apply aI)
   ·have hz1:=hzk.1 ‹_›
    rw [if_neg oM,if_neg oM,if_neg oM,if_neg oM,if_neg oM,if_pos oM] at e0
    exact bad e0 (if_neg oM) (.k (.i _ _) (.k (.a _ _ _ rfl aS) .nil)) .nil
   ·exact hc _ _ ⟨rfl,_,_,rfl,.opa _ _ _ rfl aS,.opa _ _ _ rfl aS,fun h=>‹¬z=true› (hzk.2 h)⟩
  ·intro c2 hc2
   (refine Zy ?_;with_reducible repeat' first|intro _|apply aI)
   ·exact hc2 _ _ ⟨true,_,_,_,rfl,.kn _,rfl,pzC hta2 htb2 rfl,.opa _ _ _ rfl aS,by simp;omega⟩
   ·exact fun e=>hc2 _ _ ⟨decide (t.kind=4),_,_,_,rfl,V9 (by subst e;rw [b3m]),rfl,pzC hta2 htb2 rfl,.opa _ _ _ rfl aS,by rw [decide_eq_true_iff];omega⟩ e
   ·exact hc2 _ _ ⟨false,_,_,_,rfl,.kn _,rfl,pzC hta2 htb2 rfl,.opa _ _ _ rfl aS,by simp;omega⟩
end
end
end Go.Proofs.YtffaodopiifbkaaGreatDoor
