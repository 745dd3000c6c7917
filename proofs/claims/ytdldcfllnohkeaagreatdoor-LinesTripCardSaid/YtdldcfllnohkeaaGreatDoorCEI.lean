/- The program's reader: objects from C7. -/
import Derived.Test.YtdldcfllnohkeaaGreatDoorCEH
set_option linter.all false
namespace Go.Abs
theorem a8o {U:v8} {P:L6→List Bx→Prop} {α:Type} {f:α→List G} {n:Nat} {ys:List α} {v:V} {K:j8 Q→Nat→Nat→Om} (hv:RV (.c (.l (ys.map f))) v) (hn:∀ x,(f x).length=n+1) (h:∀ t off,p9 (n+1) (ys.map f) t off→j5 U (K t off ys.length) P):j5 U (U.uSl (n+1) 0 v K) P :=
 f6g hv (A0 hn) fun t off k=>by rw [List.length_map];exact h t off k
end Go.Abs
namespace Go.Proofs.YtdldcfllnohkeaaGreatDoor
open Go.Abs LQ
set_option maxRecDepth 100000
set_option maxHeartbeats 8000000
noncomputable section
def N6 (L:List Pk) (cur:i6) (T:List x5) (i:Nat):List G:=[.l (L.map pg),.s cur,.l (T.map A7),.i .i64 (i:Int)]
theorem d2a {L L':List Pk} {c c':i6} {T T':List x5} {i i':Nat} (h:N6 L c T i=N6 L' c' T' i'):L=L'∧c=c'∧T=T'∧i=i':=by
 simp only [N6,List.cons.injEq,G.l.injEq,G.s.injEq,G.i.injEq,true_and,and_true] at h
 exact ⟨W7 h.1,h.2.1,d2s h.2.2.1,oM⟩
abbrev PzI:={ p:List Pk × i6 × List x5 × Nat // H7 p.1∧b5q p.2.2.1∧p.2.2.2 < p.2.2.1.length }
def PzI.g (p:PzI):List G:=N6 p.1.1 p.1.2.1 p.1.2.2.1 p.1.2.2.2
def g2c:Sp where
 ι:=PzI
 A _:=[.p 0 0]
 B p:=[p.g]
 R p:=.ret (.a (A7 (p.1.2.2.1.getD p.1.2.2.2 t0)))
 B' p:=[p.g]
 inj i j vs bs _ _ h k:=by
  have:=d2a (RBs.one_inj h k)
  have:i=j:=Subtype.ext (Prod.ext this.1 (Prod.ext this.2.1 (Prod.ext this.2.2.1 this.2.2.2)))
  rw [this];exact ⟨rfl,rfl⟩
theorem d3y:k9 72 g2c:=n9 (fun fn h=>f41 h) [] .nil fun U fn hfn ⟨(L,cur,T,i),hL,hT,hi⟩ vs bs hv hb=>by
 have hi:i < T.length:=hi
 have hT:b5q T:=hT
 have hl:=hT.len
 have hv:l7 [.p 0 0] vs:=hv
 have hb:RBs [[.l (L.map pg),.s cur,.l (T.map A7),.i .i64 (i:Int)]] bs:=hb
 show j5 U _ fun v bs'=>l8 (.ret (.a (A7 (T.getD i t0)))) v∧RBs [N6 L cur T i] bs'
 unfold r72
 (refine Zq ?_;intros)
 refine a8o aS b21 fun _ _ _=>?_
 (refine Zq ?_;intros)
 refine a8o aS a6v fun _ _ _=>?_
 (refine Zq ?_;intros)
 have e:T.getD i t0=T[i]:=by simp [List.getD,List.getElem?_eq_getElem hi]
 rw [e]
 refine j9 ⟨.ret _ _ (.a _ _ _ rfl aS),.k (.cells _ _ (.k (.cl _ _ _ _ _ (by simp) aS) (.k (.s _ _ _ rfl rfl) (.k (.cl _ _ _ _ _ (by simp) aS) (.k (.i _ _) .nil))))) .nil⟩
def W8 (e:Int) (t:x5):Int:=if t.kind=0 then 11 else e
theorem c6g:k9 73 { ι:=Int × x5,A:=fun p=>[.c (.i .i64 p.1),.a (A7 p.2)],B:=fun _=>[],R:=fun p=>T3 (W8 p.1 p.2) p.2.pos,B':=fun _=>[],inj:=fun i j vs bs h k _ _=>(by
  obtain ⟨_,_,h1,k1,h,k⟩:=h.two k
  obtain ⟨_,_,h2,k2,h,k⟩:=h.two k
  rw [a2v h1 k1,b4q (h2.a_inj k2)];exact ⟨rfl,rfl⟩) }:=n9 (fun fn h=>f43 h) [(45,_)] (.cons b39 .nil) fun U fn hfn ⟨e,t⟩ vs bs hv hb=>by
 have hf:=hfn 45 _ rfl
 have hv:l7 [.c (.i .i64 e),.a [.i .i64 t.kind,.i .i64 (t.pos:Int),.s t.pkg,.s t.text,.s t.den]] vs:=hv
 have hb:RBs [] bs:=hb
 show j5 U _ fun v bs'=>l8 (T3 (W8 e t) t.pos) v∧RBs [] bs'
 unfold r73
 (refine Zy ?_;intros)
 refine S4 (fun vs bs=>l7 [.c (.i .i64 (W8 e t)),.p 0 0] vs∧RBs [[.i .i64 t.kind,.i .i64 (t.pos:Int),.s t.pkg,.s t.text,.s t.den]] bs) ?_ ?_
 ·rintro vs' bs' ⟨hv',hb'⟩
  (refine Zq ?_;intros)
  exact G6 hf (W8 e t,(t.pos:Int)) (r:=.fl 107 (W8 e t) t.pos) rfl (.k (.i _ _) (.k (.q _ _ aS) .nil)) .nil fun _ hv=>R0 hv .nil
 ·intro c hc
  (refine Zq ?_;with_reducible repeat' first|intro _|apply aI)
  ·have e1:W8 e t=11:=if_pos ‹_›
   rw [e1] at hc ⊢
   exact hc _ _ ⟨by (exact l5),RB.bx aS rfl⟩
  ·have e1:W8 e t=e:=if_neg ‹_›
   rw [e1] at hc ⊢
   exact hc _ _ ⟨by (exact l5),RB.bx aS rfl⟩
set_option maxHeartbeats 16000000
def U2:Except (Int × Nat) (O × Nat)→r7
 | .ok (o,_)=>.ret (.a o.g)
 | .error (e,p)=>T3 e p
def a1u (i:Nat):Except (Int × Nat) (O × Nat)→Nat
 | .ok (_,j)=>j
 | .error _=>i
abbrev PoI:={ p:(List Pk × i6 × List x5 × Nat) × Nat // (H7 p.1.1∧b5q p.1.2.2.1∧p.1.2.2.2 < p.1.2.2.1.length)∧p.2≤p.1.2.2.2 }
theorem d7z {i j:PoI} {vs:List V} {bs:List Bx} (hv:l7 [.p 0 0,.c (.i .i64 (i.1.2:Int))] vs) (kv:l7 [.p 0 0,.c (.i .i64 (j.1.2:Int))] vs) (h:RBs [N6 i.1.1.1 i.1.1.2.1 i.1.1.2.2.1 i.1.1.2.2.2] bs) (k:RBs [N6 j.1.1.1 j.1.1.2.1 j.1.1.2.2.1 j.1.1.2.2.2] bs):i=j:=by
 have e:=d2a (RBs.one_inj h k)
 obtain ⟨_,_,_,_,hv,kv⟩:=hv.two kv
 obtain ⟨_,_,h2,k2,_,_⟩:=hv.two kv
 have e2:=a2v h2 k2
 exact Subtype.ext (Prod.ext (Prod.ext e.1 (Prod.ext e.2.1 (Prod.ext e.2.2.1 e.2.2.2))) oM)
def b6x:Sp where
 ι:=PoI
 A p:=[.p 0 0,.c (.i .i64 (p.1.2:Int))]
 B p:=[N6 p.1.1.1 p.1.1.2.1 p.1.1.2.2.1 p.1.1.2.2.2]
 R p:=U2 (F9 p.1.1.1 p.1.1.2.1 p.1.1.2.2.1 p.1.2 p.1.1.2.2.2)
 B' p:=[N6 p.1.1.1 p.1.1.2.1 p.1.1.2.2.1 (a1u p.1.1.2.2.2 (F9 p.1.1.1 p.1.1.2.1 p.1.1.2.2.1 p.1.2 p.1.1.2.2.2))]
 inj i j vs bs hv kv h k:=by rw [d7z hv kv h k];exact ⟨rfl,rfl⟩
def d47:Sp where
 ι:=PoI
 A p:=[.p 0 0,.c (.i .i64 (p.1.2:Int))]
 B p:=[N6 p.1.1.1 p.1.1.2.1 p.1.1.2.2.1 p.1.1.2.2.2]
 R p:=U2 (Q6 p.1.1.1 p.1.1.2.1 p.1.1.2.2.1 p.1.2 p.1.1.2.2.2 [])
 B' p:=[N6 p.1.1.1 p.1.1.2.1 p.1.1.2.2.1 (a1u p.1.1.2.2.2 (Q6 p.1.1.1 p.1.1.2.1 p.1.1.2.2.1 p.1.2 p.1.1.2.2.2 []))]
 inj i j vs bs hv kv h k:=by rw [d7z hv kv h k];exact ⟨rfl,rfl⟩
theorem pzC {L:List Pk} {cur:i6} {T:List x5} {i:Nat} {ta tb:j8 Q} {oa ob:Nat} {n:Int} (ha:p9 2 (L.map pg) ta oa) (hb:p9 5 (T.map A7) tb ob) (hn:n=(i:Int)):RB (N6 L cur T i) (.cells [.slice ta 2 oa L.length .no,.str cur.length (n7 cur),.slice tb 5 ob T.length .no,.int .i64 n]):=by
 subst hn
 exact .cells _ _ (.k (.cl _ _ _ _ _ (by simp) ha) (.k (.s _ _ _ rfl rfl) (.k (.cl _ _ _ _ _ (by simp) hb) (.k (.i _ _) .nil))))
theorem pzQ {U:v8} (e:U=CU) {L:List Pk} {cur:i6} {T:List x5} {i j:Nat} {x:Q} {n:Int} (hx:A6 [.l (L.map pg),.s cur,.l (T.map A7),.i .i64 (i:Int)] x 0) (hn:n=(j:Int)):RB (N6 L cur T j) (.cells [.q (U.celQ x 0),.q (U.celQ x 1),.q (U.celQ x 2),.int .i64 n]):=by
 subst hn e
 exact .cells _ _ (.k (.q _ _ (A6.at hx (by rfl))) (.k (.q _ _ (A6.at hx (by rfl))) (.k (.q _ _ (A6.at hx (by rfl))) (.k (.i _ _) .nil))))
theorem c7s {L:List Pk} {cur:i6} {T:List x5} {j:Nat} {x y z:Q} {n:Int} (h1:RG (.l (L.map pg)) x) (h2:RG (.s cur) y) (h3:RG (.l (T.map A7)) z) (hn:n=(j:Int)):RB (N6 L cur T j) (.cells [.q x,.q y,.q z,.int .i64 n]):=by
 subst hn
 exact .cells _ _ (.k (.q _ _ h1) (.k (.q _ _ h2) (.k (.q _ _ h3) (.k (.i _ _) .nil))))
abbrev zOb:Bx:=.cells [.int .i64 0,.str 0 0,.str 0 0,.str 0 0,.str 0 0,.str 0 0,.slice .nil 0 0 0 .exact]
theorem e9n {t:x5} (h:OkT t) (h5:t.kind=5):a30 (qn (j0 t.text) (j0 t.den))=c1i t∧t.text.length < 8000∧t.den.length < 8000:=by
 obtain ⟨n,d,e1,e2,hd,hg,l1,l2⟩:=h.1 h5
 have h1:=b5b n d hd hg
 rw [U4,s7,B4] at h1
 have l3:(j3 n).length≤1+(i7 n.natAbs).length:=by
  rw [I8,List.length_append]
  have:(LQ.sgn n).length≤1:=by unfold LQ.sgn;split <;> simp
  omega
 refine ⟨?_,by rw [e1];omega,by rw [e2];omega⟩
 unfold c1i
 rw [e1,e2,s7,B4,Int.natAbs_natCast]
 have q1:=Z7 (congrArg Prod.fst h1)
 have q2:=a0a (congrArg Prod.snd h1)
 unfold a30
 rw [q1,q2]
section
variable (hst:k9 179 Y2)
def μO (p:PoI):Nat:=2 * (p.1.1.2.2.1.length - p.1.1.2.2.2)
def μL (p:PoI):Nat:=2 * (p.1.1.2.2.1.length - p.1.1.2.2.2)+1
theorem g1v (hst:k9 179 Y2) (n:Nat) (ih1:k9 74 (b6x.lt μO n)) (ih2:k9 105 (d47.lt μL n)):k9 74 (b6x.lt μO (n+1)):=n9 (fun fn h=>f45 h) [(72,_),(73,_),(74,b6x.lt μO n),(105,d47.lt μL n),(101,_),(102,_),(88,_),(104,_),(103,_)] (.cons d3y (.cons c6g (.cons ih1 (.cons ih2 (.cons (d3z hst) (.cons f1b (.cons b0r (.cons f0y (.cons c6b .nil))))))))) fun U fn hfn ⟨⟨((L,cur,T,i),d),⟨hL,hT,hi⟩,hd⟩,hn⟩ vs bs hv hb=>by
 have hp:=hfn 72 _ rfl
 have hw:=hfn 73 _ rfl
 have ho:=hfn 74 _ rfl
 have hl:=hfn 105 _ rfl
 have hr:=hfn 101 _ rfl
 have ht:=hfn 102 _ rfl
 have hsy:=hfn 88 _ rfl
 have hls:=hfn 104 _ rfl
 have hin:=hfn 103 _ rfl
 have hL:H7 L:=hL
 have hT:b5q T:=hT
 have hi:i < T.length:=hi
 have hd:d≤i:=hd
 have hTl:=hT.len
 have hn:2 * (T.length - i) < n+1:=hn
 have hv:l7 [.p 0 0,.c (.i .i64 (d:Int))] vs:=hv
 have hb:RBs [[.l (L.map pg),.s cur,.l (T.map A7),.i .i64 (i:Int)]] bs:=hb
 show j5 U _ fun v bs'=>l8 (U2 (F9 L cur T d i)) v∧RBs [N6 L cur T (a1u i (F9 L cur T d i))] bs'
 unfold r74
 have e0:=d1x (L:=L) (cur:=cur) (d:=d) hi
 have hok:OkT (T.getD i t0):=hT.ok _ (by have:T.getD i t0=T[i]:=by simp [List.getD,List.getElem?_eq_getElem hi]
                                         rw [this];exact List.getElem_mem hi)
 have hkd:0≤(T.getD i t0).kind∧(T.getD i t0).kind≤7:=hT.kinds _ (by have:T.getD i t0=T[i]:=by simp [List.getD,List.getElem?_eq_getElem hi]
                                                                    rw [this];exact List.getElem_mem hi)
 have hlast:(T.getD i t0).kind ≠ 0→i+1 < T.length:=fun h=>by
  rcases Nat.lt_or_ge (i+1) T.length with h3 | h3
  ·exact h3
  ·exact absurd (hT.last i oM) h
 generalize htk:T.getD i t0=t at *
 (refine Zq ?_;intros)
 refine a8o aS b21 fun ta oa hta=>?_
 (refine Zq ?_;intros)
 refine a8o aS a6v fun tb ob htb=>?_
 (refine Zq ?_;intros)
 have bad:∀ {e e':Int} {vs:List V} {bs:List Bx} {K:V→List Bx→Om},F9 L cur T d i=.error (e',t.pos)→W8 e t=e'→l7 [.c (.i .i64 e),.a (A7 t)] vs→RBs [] bs→j5 U (U.bind (fn 73 vs bs) K fun v=>some (.pan (U.rn0 v),[.cells [.slice ta 2 oa L.length .no,.str cur.length (n7 cur),.slice tb 5 ob T.length .no,.int .i64 i]])) fun v bs'=>l8 (U2 (F9 L cur T d i)) v∧RBs [N6 L cur T (a1u i (F9 L cur T d i))] bs':=fun {e e' vs bs K} he hk hv hb=>by
  rw [he]
  exact G6 hw (e,t) (r:=.fl 107 e' t.pos) (by show T3 (W8 e t) t.pos=_;rw [hk]) hv hb fun _ hv=>R0 hv (.k (pzC hta htb rfl) .nil)
 have good:∀ {o:O} {j:Nat} {v:V} {b:Bx},F9 L cur T d i=.ok (o,j)→RV (.a o.g) v→RB (N6 L cur T j) b→j5 U (some (.ret v,[b])) fun v bs'=>l8 (U2 (F9 L cur T d i)) v∧RBs [N6 L cur T (a1u i (F9 L cur T d i))] bs':=fun {o j v b} he hv hb=>by
  rw [he]
  exact j9 ⟨.ret _ _ hv,.k hb .nil⟩
 refine j4 hp ⟨(L,cur,T,i),hL,hT,hi⟩ (r:=.a (A7 t)) (by show r7.ret (.a (A7 (T.getD i t0)))=_;rw [htk]) l5 (.k (pzC hta htb rfl) .nil) fun _ _ hv1 hb1=>?_
 have hb1:RBs [[.l (L.map pg),.s cur,.l (T.map A7),.i .i64 (i:Int)]] _:=hb1
 have hv1:RV (.a [.i .i64 t.kind,.i .i64 (t.pos:Int),.s t.pkg,.s t.text,.s t.den]) _:=hv1
 (refine Zy ?_;intros)
 refine a8o aS b21 fun ta2 oa2 hta2=>?_
 (refine Zy ?_;intros)
 refine a8o aS a6v fun tb2 ob2 htb2=>?_
 (refine Zy ?_;intros)
 refine S4 (fun vs bs=>vs=[.ptr 0 0,.int .i64 d,.ptr 1 0,.ptr 2 0]∧∃ b0 b2,bs=[b0,zOb,b2]∧RB (N6 L cur T i) b0∧RB (A7 t) b2∧¬(200 < d∧(t.kind=1∨t.kind=4))) ?_ ?_
 ·rintro _ _ ⟨rfl,b0,b2,rfl,hb0,hb2,hdk⟩
  have hb0:RB [.l (L.map pg),.s cur,.l (T.map A7),.i .i64 (i:Int)] b0:=hb0
  have hb2:RB [.i .i64 t.kind,.i .i64 (t.pos:Int),.s t.pkg,.s t.text,.s t.den] b2:=hb2
  (refine Zy ?_;with_reducible repeat' first|intro _|apply aI)
  ·have k5:t.kind=5:=‹_›
   rw [if_neg oM,if_neg oM,if_pos k5] at e0
   obtain ⟨q1,q2,q3⟩:=e9n hok k5
   refine j4 hr ⟨(t.text,t.den),q2,q3⟩ (r:=.a (c1i t).g) (by show r7.ret (.a (a30 (qn (j0 t.text) (j0 t.den))).g)=_;rw [q1]) (.k (.q _ _ aS) (.k (.q _ _ aS) .nil)) .nil fun _ _ hv2 _=>?_
   refine M5 hv2 (O.g_len _) fun _ _=>?_
   (refine Zy ?_;intros)
   exact fun e=>good e0 oV (pzQ e aS oM) e
  ·have k5:¬t.kind=5:=‹_›
   have k7:t.kind=7:=‹_›
   rw [if_neg oM,if_neg oM,if_neg k5,if_pos k7] at e0
   refine j4 ht t.text (r:=.a (O.tx t.text).g) rfl (.k (.q _ _ aS) .nil) .nil fun _ _ hv2 _=>?_
   refine M5 hv2 (O.g_len _) fun _ _=>?_
   (refine Zy ?_;intros)
   exact fun e=>good e0 oV (pzQ e aS oM) e
  ·have k5:¬t.kind=5:=‹_›
   have k7:¬t.kind=7:=‹_›
   have k6:t.kind=6:=‹_›
   rw [if_neg oM,if_neg oM,if_neg k5,if_neg k7,if_pos k6] at e0
   generalize hcd:(if t.pkg=[] then cur else t.pkg)=c at e0
   refine S4 (fun vs bs=>∃ v b0 b2,vs=[.ptr 0 0,.ptr 1 0,.ptr 2 0,v]∧RV (.c (.s c)) v∧bs=[b0,zOb,b2]∧RB (N6 L cur T (i+1)) b0∧RB (A7 t) b2) ?_ ?_
   ·rintro _ _ ⟨v,b0,b2,rfl,hvc,rfl,hb0,hb2⟩
    have hb0:RB [.l (L.map pg),.s cur,.l (T.map A7),.i .i64 ((i+1:Nat):Int)] b0:=hb0
    have hb2:RB [.i .i64 t.kind,.i .i64 (t.pos:Int),.s t.pkg,.s t.text,.s t.den] b2:=hb2
    (refine Zy ?_;intros)
    refine sQR hvc fun _ _=>?_
    (refine Zy ?_;intros)
    refine j4 hin ⟨(L,c,t.text),hL⟩ (r:=.t [.a (sg (B8 L c t.text).1),.c (.i .i64 (B8 L c t.text).2)]) rfl (.k (.slq _ _ _ aS (A0 b21)) (.k (.q _ _ aS) (.k (.q _ _ aS) .nil))) .nil fun _ _ hv2 _=>?_
    generalize B8 L c t.text=r at *
    obtain ⟨sy,er⟩:=r
    have hv2:RV (.t [.a [.s sy.1,.s sy.2],.c (.i .i64 er)]) _:=hv2
    have e0:F9 L cur T d i=if er=0 then .ok (.sy sy,i+1) else .error (er,t.pos):=e0
    (refine Zy ?_;intros)
    refine S4 (fun vs bs=>er=0∧vs=[.ptr 1 0,.ptr 2 0]∧∃ b0 b2,bs=[b0,zOb,b2]∧RB (N6 L cur T (i+1)) b0∧RB (sg sy) b2) ?_ ?_
    ·rintro _ _ ⟨her,rfl,b0,b2,rfl,hb0,hb2⟩
     have hb0:RB [.l (L.map pg),.s cur,.l (T.map A7),.i .i64 ((i+1:Nat):Int)] b0:=hb0
     have hb2:RB [.s sy.1,.s sy.2] b2:=hb2
     rw [if_pos her] at e0
     (refine Zy ?_;intros)
     refine j4 hsy sy (r:=.a (O.sy sy).g) rfl (.k (.a _ _ _ rfl aS) .nil) .nil fun _ _ hv2 _=>?_
     refine M5 hv2 (O.g_len _) fun _ _=>?_
     (refine Zy ?_;intros)
     exact good e0 oV (.opa _ _ _ rfl aS)
    ·intro cc hcc
     (refine Zy ?_;with_reducible repeat' first|intro _|apply aI)
     ·have her:er=0:=‹_›
      exact hcc _ _ ⟨her,rfl,_,_,rfl,.opa _ _ _ rfl aS,.opa _ _ _ rfl aS⟩
     ·have her:¬er=0:=‹_›
      rw [if_neg her] at e0
      exact bad e0 (if_neg oM) (.k (.i _ _) (.k (.a _ _ _ rfl aS) .nil)) .nil
   ·intro cc hcc
    (refine Zy ?_;with_reducible repeat' first|intro _|apply aI)
    ·have hz:t.pkg=[]:=‹t.pkg=m8 0 0›
     rw [if_pos hz] at hcd
     subst hcd
     exact fun e=>hcc _ _ ⟨_,_,_,rfl,.q _ _ (by subst e;exact A6.at aS (by rfl)),rfl,pzQ e aS oM,.opa _ _ _ rfl aS⟩ e
    ·have hz:¬t.pkg=[]:=‹¬t.pkg=m8 0 0›
     rw [if_neg hz] at hcd
     subst hcd
     exact fun e=>hcc _ _ ⟨_,_,_,rfl,.q _ _ aS,rfl,pzQ e aS oM,.opa _ _ _ rfl aS⟩ e
  ·have k5:¬t.kind=5:=‹_›
   have k7:¬t.kind=7:=‹_›
   have k6:¬t.kind=6:=‹_›
   have k4:t.kind=4:=‹_›
   have hi1:=hlast oM
   rw [if_neg oM,if_neg oM,if_neg k5,if_neg k7,if_neg k6,if_neg oM,if_pos k4] at e0
   refine j4 hsy (x7,[113,117,111,116,101]) (r:=.a B0.g) rfl (.k (.ag _ _ l5) .nil) .nil fun _ _ hv2 _=>?_
   refine M5 hv2 (O.g_len _) fun _ _=>?_
   (refine Zy ?_;with_reducible repeat' first|intro _|apply aI)
   cases hx:F9 L cur T (d+1) (i+1) with
   | error er =>
    obtain ⟨er,p⟩:=er
    rw [hx] at e0
    rw [e0]
    exact fun e=>G6 ho ⟨⟨((L,cur,T,i+1),d+1),⟨hL,hT,hi1⟩,by show d+1≤i+1;omega⟩,by show 2 * (T.length - (i+1)) < n;omega⟩ (r:=.fl 107 er p) (by show U2 (F9 L cur T (d+1) (i+1))=_;rw [hx];rfl) (.k (.p _ _) (.k (rvI (show ((d+1:Nat):Int)=(d:Int)+1 by omega)) .nil)) (.k (pzQ (j:=i+1) e aS oM) .nil) (fun _ hv=>R0 hv (.k (pzC hta htb rfl) .nil)) e
   | ok oj =>
    obtain ⟨o,j⟩:=oj
    rw [hx] at e0
    refine fun e=>j4 ho ⟨⟨((L,cur,T,i+1),d+1),⟨hL,hT,hi1⟩,by show d+1≤i+1;omega⟩,by show 2 * (T.length - (i+1)) < n;omega⟩ (r:=.a o.g) (by show U2 (F9 L cur T (d+1) (i+1))=_;rw [hx];rfl) (.k (.p _ _) (.k (rvI (show ((d+1:Nat):Int)=(d:Int)+1 by omega)) .nil)) (.k (pzQ (j:=i+1) e aS oM) .nil) (fun _ _ hv3 hb3=>?_) e
    have hb3:RBs [N6 L cur T (a1u (i+1) (F9 L cur T (d+1) (i+1)))] _:=hb3
    rw [hx] at hb3
    have hb3:RBs [[.l (L.map pg),.s cur,.l (T.map A7),.i .i64 (j:Int)]] _:=hb3
    refine M5 hv3 (O.g_len _) fun _ _=>?_
    (refine Zy ?_;intros)
    refine sQR aS fun _ _=>?_
    (refine Zy ?_;intros)
    refine sQR aS fun _ _=>?_
    (refine Zy ?_;intros)
    refine sQR aS fun _ _=>?_
    (refine Zy ?_;intros)
    have r1:=a1h (r:=B0.g) (by rw [O.g_len];decide) aS
    have r2:=a1h (r:=o.g) (by rw [O.g_len];decide) aS
    refine j4 hls ⟨[B0,o],by show 2 < 90000;decide⟩ (r:=.a (F1 [B0,o]).g) rfl (.k (.sl _ _ _ _ _ rfl (.cons _ _ _ _ _ B0.g_len r1.1 r1.2 (.cons _ _ _ _ _ o.g_len r2.1 r2.2 (.nil _ _ _)))) .nil) .nil fun _ _ hv4 _=>?_
    refine M5 hv4 (O.g_len _) fun _ _=>?_
    (refine Zy ?_;intros)
    exact good e0 oV (c7s aS aS aS rfl)
  ·have k5:¬t.kind=5:=‹_›
   have k7:¬t.kind=7:=‹_›
   have k6:¬t.kind=6:=‹_›
   have k4:¬t.kind=4:=‹_›
   have k1:t.kind=1:=‹_›
   have hi1:=hlast oM
   rw [if_neg oM,if_neg oM,if_neg k5,if_neg k7,if_neg k6,if_neg oM,if_neg k4] at e0
   cases hx:Q6 L cur T (d+1) (i+1) [] with
   | error er =>
    obtain ⟨er,p⟩:=er
    rw [hx] at e0
    rw [e0]
    exact fun e=>G6 hl ⟨⟨((L,cur,T,i+1),d+1),⟨hL,hT,hi1⟩,by show d+1≤i+1;omega⟩,by show 2 * (T.length - (i+1))+1 < n;omega⟩ (r:=.fl 107 er p) (by show U2 (Q6 L cur T (d+1) (i+1) [])=_;rw [hx];rfl) (.k (.p _ _) (.k (rvI (show ((d+1:Nat):Int)=(d:Int)+1 by omega)) .nil)) (.k (pzQ (j:=i+1) e aS oM) .nil) (fun _ hv=>R0 hv (.k (pzC hta htb rfl) .nil)) e
   | ok oj =>
    obtain ⟨o,j⟩:=oj
    rw [hx] at e0
    refine fun e=>j4 hl ⟨⟨((L,cur,T,i+1),d+1),⟨hL,hT,hi1⟩,by show d+1≤i+1;omega⟩,by show 2 * (T.length - (i+1))+1 < n;omega⟩ (r:=.a o.g) (by show U2 (Q6 L cur T (d+1) (i+1) [])=_;rw [hx];rfl) (.k (.p _ _) (.k (rvI (show ((d+1:Nat):Int)=(d:Int)+1 by omega)) .nil)) (.k (pzQ (j:=i+1) e aS oM) .nil) (fun _ _ hv3 hb3=>?_) e
    have hb3:RBs [N6 L cur T (a1u (i+1) (Q6 L cur T (d+1) (i+1) []))] _:=hb3
    rw [hx] at hb3
    have hb3:RBs [[.l (L.map pg),.s cur,.l (T.map A7),.i .i64 (j:Int)]] _:=hb3
    refine M5 hv3 (O.g_len _) fun _ _=>?_
    (refine Zy ?_;intros)
    refine sQR aS fun _ _=>?_
    (refine Zy ?_;intros)
    refine sQR aS fun _ _=>?_
    (refine Zy ?_;intros)
    refine sQR aS fun _ _=>?_
    (refine Zy ?_;intros)
    exact good e0 oV (c7s aS aS aS rfl)
  ·have k5:¬t.kind=5:=‹_›
   have k7:¬t.kind=7:=‹_›
   have k6:¬t.kind=6:=‹_›
   have k4:¬t.kind=4:=‹_›
   have k1:¬t.kind=1:=‹_›
   by_cases k0:t.kind=0
   ·rw [if_pos k0] at e0
    exact bad e0 (if_pos k0) (.k (.i _ _) (.k (.a _ _ _ rfl aS) .nil)) .nil
   ·rw [if_neg k0,if_pos oM] at e0
    exact bad e0 (if_neg k0) (.k (.i _ _) (.k (.a _ _ _ rfl aS) .nil)) .nil
 ·intro c hc
  refine S4 (fun vs bs=>∃ (z:Bool) (v:V) (b0 b2:Bx),vs=[.ptr 0 0,.int .i64 d,.ptr 1 0,.ptr 2 0,v]∧RV (.c (.b z)) v∧bs=[b0,zOb,b2]∧RB (N6 L cur T i) b0∧RB (A7 t) b2∧(z=true↔200 < d∧(t.kind=1∨t.kind=4))) ?_ ?_
  ·rintro _ _ ⟨z,v,b0,b2,rfl,hz,rfl,hb0,hb2,hzk⟩
   have hb0:RB [.l (L.map pg),.s cur,.l (T.map A7),.i .i64 (i:Int)] b0:=hb0
   have hb2:RB [.i .i64 t.kind,.i .i64 (t.pos:Int),.s t.pkg,.s t.text,.s t.den] b2:=hb2
   (refine Zy ?_;with_reducible repeat' first|intro _|apply aI)
   ·have hz1:=hzk.1 ‹_›
    rw [if_neg oM,if_neg oM,if_neg oM,if_neg oM,if_neg oM,if_pos oM] at e0
    exact bad e0 (if_neg oM) (.k (.i _ _) (.k (.a _ _ _ rfl aS) .nil)) .nil
   ·exact hc _ _ ⟨rfl,_,_,rfl,.opa _ _ _ rfl aS,.opa _ _ _ rfl aS,fun h=>‹¬z=true› (hzk.2 h)⟩
  ·intro c2 hc2
   (refine Zy ?_;with_reducible repeat' first|intro _|apply aI)
   ·exact hc2 _ _ ⟨true,_,_,_,rfl,.kn _,rfl,pzC hta2 htb2 rfl,.opa _ _ _ rfl aS,by simp;omega⟩
   ·exact fun e=>hc2 _ _ ⟨decide (t.kind=4),_,_,_,rfl,U6 (by subst e;rw [a62]),rfl,pzC hta2 htb2 rfl,.opa _ _ _ rfl aS,by rw [decide_eq_true_iff];omega⟩ e
   ·exact hc2 _ _ ⟨false,_,_,_,rfl,.kn _,rfl,pzC hta2 htb2 rfl,.opa _ _ _ rfl aS,by simp;omega⟩
end
end
end Go.Proofs.YtdldcfllnohkeaaGreatDoor
