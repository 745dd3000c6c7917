/- The program's reader: objects from C4. -/
import Derived.Test.YtffaodopiifbkaaGreatDoorCEH
import Derived.Test.YtffaodopiifbkaaGreatDoorCV
set_option linter.all false
namespace Go.Abs
theorem a6t {U:w7} {P:G3→List Bx→Prop} {α:Type} {f:α→List G} {n:Nat} {ys:List α} {v:V} {K:j8 Q→Nat→Nat→Om} (hv:RV (.c (.l (ys.map f))) v) (hn:∀ x,(f x).length=n+1) (h:∀ t off,u6 (n+1) (ys.map f) t off→j3 U (K t off ys.length) P):j3 U (U.uSl (n+1) 0 v K) P :=
 e3u hv (C7 hn) fun t off k=>by rw [List.length_map];exact h t off k
end Go.Abs
namespace Go.Proofs.YtffaodopiifbkaaGreatDoor
open Go.Abs LQ
set_option maxRecDepth 100000
set_option maxHeartbeats 8000000
noncomputable section
def K7 (L:List Pk) (cur:i7) (T:List B5) (i:Nat):List G:=[.l (L.map pg),.s cur,.l (T.map x3),.i .i64 (i:Int)]
theorem c6p {L L':List Pk} {c c':i7} {T T':List B5} {i i':Nat} (h:K7 L c T i=K7 L' c' T' i'):L=L'∧c=c'∧T=T'∧i=i':=by
 simp only [K7,List.cons.injEq,G.l.injEq,G.s.injEq,G.i.injEq,true_and,and_true] at h
 exact ⟨a7u h.1,h.2.1,c6h h.2.2.1,by omega⟩
abbrev PzI:={ p:List Pk × i7 × List B5 × Nat // a49 p.1∧b3c p.2.2.1∧p.2.2.2 < p.2.2.1.length }
def PzI.g (p:PzI):List G:=K7 p.1.1 p.1.2.1 p.1.2.2.1 p.1.2.2.2
def f1y:Sp where
 ι:=PzI
 A _:=[.p 0 0]
 B p:=[p.g]
 R p:=.ret (.a (x3 (p.1.2.2.1.getD p.1.2.2.2 t0)))
 B' p:=[p.g]
 inj i j vs bs _ _ h k:=by
  have:=c6p (RBs.one_inj h k)
  have:i=j:=Subtype.ext (Prod.ext this.1 (Prod.ext this.2.1 (Prod.ext this.2.2.1 this.2.2.2)))
  rw [this];exact ⟨rfl,rfl⟩
theorem c7w:l5 86 f1y:=v7 (fun fn h=>e53 h) [] .nil fun U fn hfn ⟨(L,cur,T,i),hL,hT,hi⟩ vs bs hv hb=>by
 have hi:i < T.length:=hi
 have hT:b3c T:=hT
 have hl:=hT.len
 have hv:l9 [.p 0 0] vs:=hv
 have hb:RBs [[.l (L.map pg),.s cur,.l (T.map x3),.i .i64 (i:Int)]] bs:=hb
 show j3 U _ fun v bs'=>m8 (.ret (.a (x3 (T.getD i t0)))) v∧RBs [K7 L cur T i] bs'
 unfold r86
 (refine Zq ?_;with_reducible repeat' first|intro _|apply aI)
 refine a6t (by assumption) a9z fun _ _ _=>?_
 (refine Zq ?_;with_reducible repeat' first|intro _|apply aI)
 refine a6t (by assumption) V5 fun _ _ _=>?_
 (refine Zq ?_;with_reducible repeat' first|intro _|apply aI)
 have e:T.getD i t0=T[i]:=by simp [List.getD,List.getElem?_eq_getElem hi]
 rw [e]
 refine l6 ⟨.ret _ _ (.a _ _ _ rfl (by assumption)),.cons _ _ _ _ (.cells _ _ (.cons _ _ _ _ (.cl _ _ _ _ _ (by simp) (by assumption)) (.cons _ _ _ _ (.s _ _ _ rfl rfl) (.cons _ _ _ _ (.cl _ _ _ _ _ (by simp) (by assumption)) (.cons _ _ _ _ (.i _ _) .nil))))) .nil⟩
def R8 (e:Int) (t:B5):Int:=if t.kind=0 then 11 else e
theorem c1t:l5 87 { ι:=Int × B5,A:=fun p=>[.c (.i .i64 p.1),.a (x3 p.2)],B:=fun _=>[],R:=fun p=>P4 (R8 p.1 p.2) p.2.pos,B':=fun _=>[],inj:=fun i j vs bs h k _ _=>(by
  obtain ⟨_,_,h1,k1,h,k⟩:=h.two k
  obtain ⟨_,_,h2,k2,h,k⟩:=h.two k
  rw [M7 h1 k1,a4r (h2.a_inj k2)];exact ⟨rfl,rfl⟩) }:=v7 (fun fn h=>e2t h) [(51,_)] (.cons b1s .nil) fun U fn hfn ⟨e,t⟩ vs bs hv hb=>by
 have hf:=hfn 51 _ rfl
 have hv:l9 [.c (.i .i64 e),.a [.i .i64 t.kind,.i .i64 (t.pos:Int),.s t.pkg,.s t.text,.s t.den]] vs:=hv
 have hb:RBs [] bs:=hb
 show j3 U _ fun v bs'=>m8 (P4 (R8 e t) t.pos) v∧RBs [] bs'
 unfold r87
 (refine Zy ?_;with_reducible repeat' first|intro _|apply aI)
 refine H6 (fun vs bs=>l9 [.c (.i .i64 (R8 e t)),.p 0 0] vs∧RBs [[.i .i64 t.kind,.i .i64 (t.pos:Int),.s t.pkg,.s t.text,.s t.den]] bs) ?_ ?_
 ·rintro vs' bs' ⟨hv',hb'⟩
  (refine Zq ?_;with_reducible repeat' first|intro _|apply aI)
  exact G1 hf (R8 e t,(t.pos:Int)) (r:=.fl 122 (R8 e t) t.pos) rfl (.cons _ _ _ _ (.i _ _) (.cons _ _ _ _ (.q _ _ (by assumption)) .nil)) .nil fun _ hv=>N6 hv .nil
 ·intro c hc
  (refine Zq ?_;with_reducible repeat' first|intro _|apply aI)
  ·have e1:R8 e t=11:=if_pos ‹_›
   rw [e1] at hc ⊢
   exact hc _ _ ⟨by (exact j9),RB.bx (by assumption) rfl⟩
  ·have e1:R8 e t=e:=if_neg ‹_›
   rw [e1] at hc ⊢
   exact hc _ _ ⟨by (exact j9),RB.bx (by assumption) rfl⟩
end
end Go.Proofs.YtffaodopiifbkaaGreatDoor
namespace Go.Proofs.YtffaodopiifbkaaGreatDoor
open Go.Abs LQ
set_option maxRecDepth 100000
set_option maxHeartbeats 16000000
noncomputable section
def Q0:Except (Int × Nat) (O × Nat)→y4
 | .ok (o,_)=>.ret (.a o.g)
 | .error (e,p)=>P4 e p
def a0j (i:Nat):Except (Int × Nat) (O × Nat)→Nat
 | .ok (_,j)=>j
 | .error _=>i
abbrev PoI:={ p:(List Pk × i7 × List B5 × Nat) × Nat // (a49 p.1.1∧b3c p.1.2.2.1∧p.1.2.2.2 < p.1.2.2.1.length)∧p.2≤p.1.2.2.2 }
theorem d02 {i j:PoI} {vs:List V} {bs:List Bx} (hv:l9 [.p 0 0,.c (.i .i64 (i.1.2:Int))] vs) (kv:l9 [.p 0 0,.c (.i .i64 (j.1.2:Int))] vs) (h:RBs [K7 i.1.1.1 i.1.1.2.1 i.1.1.2.2.1 i.1.1.2.2.2] bs) (k:RBs [K7 j.1.1.1 j.1.1.2.1 j.1.1.2.2.1 j.1.1.2.2.2] bs):i=j:=by
 have e:=c6p (RBs.one_inj h k)
 obtain ⟨_,_,_,_,hv,kv⟩:=hv.two kv
 obtain ⟨_,_,h2,k2,_,_⟩:=hv.two kv
 have e2:=M7 h2 k2
 exact Subtype.ext (Prod.ext (Prod.ext e.1 (Prod.ext e.2.1 (Prod.ext e.2.2.1 e.2.2.2))) (by omega))
def b3y:Sp where
 ι:=PoI
 A p:=[.p 0 0,.c (.i .i64 (p.1.2:Int))]
 B p:=[K7 p.1.1.1 p.1.1.2.1 p.1.1.2.2.1 p.1.1.2.2.2]
 R p:=Q0 (F6 p.1.1.1 p.1.1.2.1 p.1.1.2.2.1 p.1.2 p.1.1.2.2.2)
 B' p:=[K7 p.1.1.1 p.1.1.2.1 p.1.1.2.2.1 (a0j p.1.1.2.2.2 (F6 p.1.1.1 p.1.1.2.1 p.1.1.2.2.1 p.1.2 p.1.1.2.2.2))]
 inj i j vs bs hv kv h k:=by rw [d02 hv kv h k];exact ⟨rfl,rfl⟩
def c7c:Sp where
 ι:=PoI
 A p:=[.p 0 0,.c (.i .i64 (p.1.2:Int))]
 B p:=[K7 p.1.1.1 p.1.1.2.1 p.1.1.2.2.1 p.1.1.2.2.2]
 R p:=Q0 (N8 p.1.1.1 p.1.1.2.1 p.1.1.2.2.1 p.1.2 p.1.1.2.2.2 [])
 B' p:=[K7 p.1.1.1 p.1.1.2.1 p.1.1.2.2.1 (a0j p.1.1.2.2.2 (N8 p.1.1.1 p.1.1.2.1 p.1.1.2.2.1 p.1.2 p.1.1.2.2.2 []))]
 inj i j vs bs hv kv h k:=by rw [d02 hv kv h k];exact ⟨rfl,rfl⟩
theorem pzC {L:List Pk} {cur:i7} {T:List B5} {i:Nat} {ta tb:j8 Q} {oa ob:Nat} {n:Int} (ha:u6 2 (L.map pg) ta oa) (hb:u6 5 (T.map x3) tb ob) (hn:n=(i:Int)):RB (K7 L cur T i) (.cells [.slice ta 2 oa L.length .no,.str cur.length (n6 cur),.slice tb 5 ob T.length .no,.int .i64 n]):=by
 subst hn
 exact .cells _ _ (.cons _ _ _ _ (.cl _ _ _ _ _ (by simp) ha) (.cons _ _ _ _ (.s _ _ _ rfl rfl) (.cons _ _ _ _ (.cl _ _ _ _ _ (by simp) hb) (.cons _ _ _ _ (.i _ _) .nil))))
theorem pzQ {U:w7} (e:U=CU) {L:List Pk} {cur:i7} {T:List B5} {i j:Nat} {x:Q} {n:Int} (hx:B6 [.l (L.map pg),.s cur,.l (T.map x3),.i .i64 (i:Int)] x 0) (hn:n=(j:Int)):RB (K7 L cur T j) (.cells [.q (U.celQ x 0),.q (U.celQ x 1),.q (U.celQ x 2),.int .i64 n]):=by
 subst hn e
 exact .cells _ _ (.cons _ _ _ _ (.q _ _ (B6.at hx (by rfl))) (.cons _ _ _ _ (.q _ _ (B6.at hx (by rfl))) (.cons _ _ _ _ (.q _ _ (B6.at hx (by rfl))) (.cons _ _ _ _ (.i _ _) .nil))))
theorem c2u {L:List Pk} {cur:i7} {T:List B5} {j:Nat} {x y z:Q} {n:Int} (h1:RG (.l (L.map pg)) x) (h2:RG (.s cur) y) (h3:RG (.l (T.map x3)) z) (hn:n=(j:Int)):RB (K7 L cur T j) (.cells [.q x,.q y,.q z,.int .i64 n]):=by
 subst hn
 exact .cells _ _ (.cons _ _ _ _ (.q _ _ h1) (.cons _ _ _ _ (.q _ _ h2) (.cons _ _ _ _ (.q _ _ h3) (.cons _ _ _ _ (.i _ _) .nil))))
abbrev zOb:Bx:=.cells [.int .i64 0,.str 0 0,.str 0 0,.str 0 0,.str 0 0,.str 0 0,.slice .nil 0 0 0 .exact]
theorem e0i {t:B5} (h:OkT t) (h5:t.kind=5):a7a (qn (i6 t.text) (i6 t.den))=c3d t∧t.text.length < 8000∧t.den.length < 8000:=by
 obtain ⟨n,d,e1,e2,hd,hg,l1,l2⟩:=h.1 h5
 have h1:=c4c n d hd hg
 rw [a1o,B0,E5] at h1
 have l3:(j6 n).length≤1+(j5 n.natAbs).length:=by
  rw [a3z,List.length_append]
  have:(LQ.sgn n).length≤1:=by unfold LQ.sgn;split <;> simp
  omega
 refine ⟨?_,by rw [e1];omega,by rw [e2];omega⟩
 unfold c3d
 rw [e1,e2,B0,E5,Int.natAbs_natCast]
 have q1:=a0i (congrArg Prod.fst h1)
 have q2:=a7d (congrArg Prod.snd h1)
 unfold a7a
 rw [q1,q2]
section
variable (hst:l5 203 T7)
def μO (p:PoI):Nat:=2 * (p.1.1.2.2.1.length - p.1.1.2.2.2)
def μL (p:PoI):Nat:=2 * (p.1.1.2.2.1.length - p.1.1.2.2.2)+1
theorem f2v (hst:l5 203 T7) (n:Nat) (ih1:l5 88 (b3y.lt μO n)) (ih2:l5 131 (c7c.lt μL n)):l5 88 (b3y.lt μO (n+1)):=v7 (fun fn h=>e5x h) [(86,_),(87,_),(88,b3y.lt μO n),(131,c7c.lt μL n),(128,_),(129,_),(105,_),(130,_),(106,_)] (.cons c7w (.cons c1t (.cons ih1 (.cons ih2 (.cons (c8t hst) (.cons e2r (.cons b3r (.cons e48 (.cons d58 .nil))))))))) fun U fn hfn ⟨⟨((L,cur,T,i),d),⟨hL,hT,hi⟩,hd⟩,hn⟩ vs bs hv hb=>by
 have hp:=hfn 86 _ rfl
 have hw:=hfn 87 _ rfl
 have ho:=hfn 88 _ rfl
 have hl:=hfn 131 _ rfl
 have hr:=hfn 128 _ rfl
 have ht:=hfn 129 _ rfl
 have hsy:=hfn 105 _ rfl
 have hls:=hfn 130 _ rfl
 have hin:=hfn 106 _ rfl
 have hL:a49 L:=hL
 have hT:b3c T:=hT
 have hi:i < T.length:=hi
 have hd:d≤i:=hd
 have hTl:=hT.len
 have hn:2 * (T.length - i) < n+1:=hn
 have hv:l9 [.p 0 0,.c (.i .i64 (d:Int))] vs:=hv
 have hb:RBs [[.l (L.map pg),.s cur,.l (T.map x3),.i .i64 (i:Int)]] bs:=hb
 show j3 U _ fun v bs'=>m8 (Q0 (F6 L cur T d i)) v∧RBs [K7 L cur T (a0j i (F6 L cur T d i))] bs'
 unfold r88
 have e0:=c56 (L:=L) (cur:=cur) (d:=d) hi
 have hok:OkT (T.getD i t0):=hT.ok _ (by have:T.getD i t0=T[i]:=by simp [List.getD,List.getElem?_eq_getElem hi]
                                         rw [this];exact List.getElem_mem hi)
 have hkd:0≤(T.getD i t0).kind∧(T.getD i t0).kind≤7:=hT.kinds _ (by have:T.getD i t0=T[i]:=by simp [List.getD,List.getElem?_eq_getElem hi]
                                                                    rw [this];exact List.getElem_mem hi)
 have hlast:(T.getD i t0).kind ≠ 0→i+1 < T.length:=fun h=>by
  rcases Nat.lt_or_ge (i+1) T.length with h3 | h3
  ·exact h3
  ·exact absurd (hT.last i (by omega)) h
 generalize htk:T.getD i t0=t at *
 (refine Zq ?_;with_reducible repeat' first|intro _|apply aI)
 refine a6t (by assumption) a9z fun ta oa hta=>?_
 (refine Zq ?_;with_reducible repeat' first|intro _|apply aI)
 refine a6t (by assumption) V5 fun tb ob htb=>?_
 (refine Zq ?_;with_reducible repeat' first|intro _|apply aI)
 have bad:∀ {e e':Int} {vs:List V} {bs:List Bx} {K:V→List Bx→Om},F6 L cur T d i=.error (e',t.pos)→R8 e t=e'→l9 [.c (.i .i64 e),.a (x3 t)] vs→RBs [] bs→j3 U (U.bind (fn 87 vs bs) K fun v=>some (.pan (U.rn0 v),[.cells [.slice ta 2 oa L.length .no,.str cur.length (n6 cur),.slice tb 5 ob T.length .no,.int .i64 i]])) fun v bs'=>m8 (Q0 (F6 L cur T d i)) v∧RBs [K7 L cur T (a0j i (F6 L cur T d i))] bs':=fun {e e' vs bs K} he hk hv hb=>by
  rw [he]
  exact G1 hw (e,t) (r:=.fl 122 e' t.pos) (by show P4 (R8 e t) t.pos=_;rw [hk]) hv hb fun _ hv=>N6 hv (.cons _ _ _ _ (pzC hta htb rfl) .nil)
 have good:∀ {o:O} {j:Nat} {v:V} {b:Bx},F6 L cur T d i=.ok (o,j)→RV (.a o.g) v→RB (K7 L cur T j) b→j3 U (some (.ret v,[b])) fun v bs'=>m8 (Q0 (F6 L cur T d i)) v∧RBs [K7 L cur T (a0j i (F6 L cur T d i))] bs':=fun {o j v b} he hv hb=>by
  rw [he]
  exact l6 ⟨.ret _ _ hv,.cons _ _ _ _ hb .nil⟩
 refine j4 hp ⟨(L,cur,T,i),hL,hT,hi⟩ (r:=.a (x3 t)) (by show y4.ret (.a (x3 (T.getD i t0)))=_;rw [htk]) j9 (.cons _ _ _ _ (pzC hta htb rfl) .nil) fun _ _ hv1 hb1=>?_
 have hb1:RBs [[.l (L.map pg),.s cur,.l (T.map x3),.i .i64 (i:Int)]] _:=hb1
 have hv1:RV (.a [.i .i64 t.kind,.i .i64 (t.pos:Int),.s t.pkg,.s t.text,.s t.den]) _:=hv1
 (refine Zy ?_;with_reducible repeat' first|intro _|apply aI)
 refine a6t (by assumption) a9z fun ta2 oa2 hta2=>?_
 (refine Zy ?_;with_reducible repeat' first|intro _|apply aI)
 refine a6t (by assumption) V5 fun tb2 ob2 htb2=>?_
 (refine Zy ?_;with_reducible repeat' first|intro _|apply aI)
 refine H6 (fun vs bs=>vs=[.ptr 0 0,.int .i64 d,.ptr 1 0,.ptr 2 0]∧∃ b0 b2,bs=[b0,zOb,b2]∧RB (K7 L cur T i) b0∧RB (x3 t) b2∧¬(200 < d∧(t.kind=1∨t.kind=4))) ?_ ?_
 ·rintro _ _ ⟨rfl,b0,b2,rfl,hb0,hb2,hdk⟩
  have hb0:RB [.l (L.map pg),.s cur,.l (T.map x3),.i .i64 (i:Int)] b0:=hb0
  have hb2:RB [.i .i64 t.kind,.i .i64 (t.pos:Int),.s t.pkg,.s t.text,.s t.den] b2:=hb2
  (refine Zy ?_;with_reducible repeat' first|intro _|apply aI)
  ·have k5:t.kind=5:=‹_›
   rw [if_neg (by omega),if_neg (by omega),if_pos k5] at e0
   obtain ⟨q1,q2,q3⟩:=e0i hok k5
   refine j4 hr ⟨(t.text,t.den),q2,q3⟩ (r:=.a (c3d t).g) (by show y4.ret (.a (a7a (qn (i6 t.text) (i6 t.den))).g)=_;rw [q1]) (.cons _ _ _ _ (.q _ _ (by assumption)) (.cons _ _ _ _ (.q _ _ (by assumption)) .nil)) .nil fun _ _ hv2 _=>?_
   refine U4 hv2 (O.g_len _) fun _ _=>?_
   (refine Zy ?_;with_reducible repeat' first|intro _|apply aI)
   exact fun e=>good e0 oV (pzQ e (by assumption) (by omega)) e
  ·have k5:¬t.kind=5:=‹_›
   have k7:t.kind=7:=‹_›
   rw [if_neg (by omega),if_neg (by omega),if_neg k5,if_pos k7] at e0
   refine j4 ht t.text (r:=.a (O.tx t.text).g) rfl (.cons _ _ _ _ (.q _ _ (by assumption)) .nil) .nil fun _ _ hv2 _=>?_
   refine U4 hv2 (O.g_len _) fun _ _=>?_
   (refine Zy ?_;with_reducible repeat' first|intro _|apply aI)
   exact fun e=>good e0 oV (pzQ e (by assumption) (by omega)) e
  ·have k5:¬t.kind=5:=‹_›
   have k7:¬t.kind=7:=‹_›
   have k6:t.kind=6:=‹_›
   rw [if_neg (by omega),if_neg (by omega),if_neg k5,if_neg k7,if_pos k6] at e0
   generalize hcd:(if t.pkg=[] then cur else t.pkg)=c at e0
   refine H6 (fun vs bs=>∃ v b0 b2,vs=[.ptr 0 0,.ptr 1 0,.ptr 2 0,v]∧RV (.c (.s c)) v∧bs=[b0,zOb,b2]∧RB (K7 L cur T (i+1)) b0∧RB (x3 t) b2) ?_ ?_
   ·rintro _ _ ⟨v,b0,b2,rfl,hvc,rfl,hb0,hb2⟩
    have hb0:RB [.l (L.map pg),.s cur,.l (T.map x3),.i .i64 ((i+1:Nat):Int)] b0:=hb0
    have hb2:RB [.i .i64 t.kind,.i .i64 (t.pos:Int),.s t.pkg,.s t.text,.s t.den] b2:=hb2
    (refine Zy ?_;with_reducible repeat' first|intro _|apply aI)
    refine sQR hvc fun _ _=>?_
    (refine Zy ?_;with_reducible repeat' first|intro _|apply aI)
    refine j4 hin ⟨(L,c,t.text),hL⟩ (r:=.t [.a (sg (F3 L c t.text).1),.c (.i .i64 (F3 L c t.text).2)]) rfl (.cons _ _ _ _ (.slq _ _ _ (by assumption) (C7 a9z)) (.cons _ _ _ _ (.q _ _ (by assumption)) (.cons _ _ _ _ (.q _ _ (by assumption)) .nil))) .nil fun _ _ hv2 _=>?_
    generalize F3 L c t.text=r at *
    obtain ⟨sy,er⟩:=r
    have hv2:RV (.t [.a [.s sy.1,.s sy.2],.c (.i .i64 er)]) _:=hv2
    have e0:F6 L cur T d i=if er=0 then .ok (.sy sy,i+1) else .error (er,t.pos):=e0
    (refine Zy ?_;with_reducible repeat' first|intro _|apply aI)
    refine H6 (fun vs bs=>er=0∧vs=[.ptr 1 0,.ptr 2 0]∧∃ b0 b2,bs=[b0,zOb,b2]∧RB (K7 L cur T (i+1)) b0∧RB (sg sy) b2) ?_ ?_
    ·rintro _ _ ⟨her,rfl,b0,b2,rfl,hb0,hb2⟩
     have hb0:RB [.l (L.map pg),.s cur,.l (T.map x3),.i .i64 ((i+1:Nat):Int)] b0:=hb0
     have hb2:RB [.s sy.1,.s sy.2] b2:=hb2
     rw [if_pos her] at e0
     (refine Zy ?_;with_reducible repeat' first|intro _|apply aI)
     refine j4 hsy sy (r:=.a (O.sy sy).g) rfl (.cons _ _ _ _ (.a _ _ _ rfl (by assumption)) .nil) .nil fun _ _ hv2 _=>?_
     refine U4 hv2 (O.g_len _) fun _ _=>?_
     (refine Zy ?_;with_reducible repeat' first|intro _|apply aI)
     exact good e0 oV (.opa _ _ _ rfl (by assumption))
    ·intro cc hcc
     (refine Zy ?_;with_reducible repeat' first|intro _|apply aI)
     ·have her:er=0:=‹_›
      exact hcc _ _ ⟨her,rfl,_,_,rfl,.opa _ _ _ rfl (by assumption),.opa _ _ _ rfl (by assumption)⟩
     ·have her:¬er=0:=‹_›
      rw [if_neg her] at e0
      exact bad e0 (if_neg (by omega)) (.cons _ _ _ _ (.i _ _) (.cons _ _ _ _ (.a _ _ _ rfl (by assumption)) .nil)) .nil
   ·intro cc hcc
    (refine Zy ?_;with_reducible repeat' first|intro _|apply aI)
    ·have hz:t.pkg=[]:=‹t.pkg=u7 0 0›
     rw [if_pos hz] at hcd
     subst hcd
     exact fun e=>hcc _ _ ⟨_,_,_,rfl,.q _ _ (by subst e;exact B6.at (by assumption) (by rfl)),rfl,pzQ e (by assumption) (by omega),.opa _ _ _ rfl (by assumption)⟩ e
    ·have hz:¬t.pkg=[]:=‹¬t.pkg=u7 0 0›
     rw [if_neg hz] at hcd
     subst hcd
     exact fun e=>hcc _ _ ⟨_,_,_,rfl,.q _ _ (by assumption),rfl,pzQ e (by assumption) (by omega),.opa _ _ _ rfl (by assumption)⟩ e
  ·have k5:¬t.kind=5:=‹_›
   have k7:¬t.kind=7:=‹_›
   have k6:¬t.kind=6:=‹_›
   have k4:t.kind=4:=‹_›
   have hi1:=hlast (by omega)
   rw [if_neg (by omega),if_neg (by omega),if_neg k5,if_neg k7,if_neg k6,if_neg (by omega),if_pos k4] at e0
   refine j4 hsy (E4,[113,117,111,116,101]) (r:=.a a5r.g) rfl (.cons _ _ _ _ (.ag _ _ j9) .nil) .nil fun _ _ hv2 _=>?_
   refine U4 hv2 (O.g_len _) fun _ _=>?_
   (refine Zy ?_;with_reducible repeat' first|intro _|apply aI)
   cases hx:F6 L cur T (d+1) (i+1) with
   | error er =>
    obtain ⟨er,p⟩:=er
    rw [hx] at e0
    rw [e0]
    exact fun e=>G1 ho ⟨⟨((L,cur,T,i+1),d+1),⟨hL,hT,hi1⟩,by show d+1≤i+1;omega⟩,by show 2 * (T.length - (i+1)) < n;omega⟩ (r:=.fl 122 er p) (by show Q0 (F6 L cur T (d+1) (i+1))=_;rw [hx];rfl) (.cons _ _ _ _ (.p _ _) (.cons _ _ _ _ (rvI (show ((d+1:Nat):Int)=(d:Int)+1 by omega)) .nil)) (.cons _ _ _ _ (pzQ (j:=i+1) e (by assumption) (by omega)) .nil) (fun _ hv=>N6 hv (.cons _ _ _ _ (pzC hta htb rfl) .nil)) e
   | ok oj =>
    obtain ⟨o,j⟩:=oj
    rw [hx] at e0
    refine fun e=>j4 ho ⟨⟨((L,cur,T,i+1),d+1),⟨hL,hT,hi1⟩,by show d+1≤i+1;omega⟩,by show 2 * (T.length - (i+1)) < n;omega⟩ (r:=.a o.g) (by show Q0 (F6 L cur T (d+1) (i+1))=_;rw [hx];rfl) (.cons _ _ _ _ (.p _ _) (.cons _ _ _ _ (rvI (show ((d+1:Nat):Int)=(d:Int)+1 by omega)) .nil)) (.cons _ _ _ _ (pzQ (j:=i+1) e (by assumption) (by omega)) .nil) (fun _ _ hv3 hb3=>?_) e
    have hb3:RBs [K7 L cur T (a0j (i+1) (F6 L cur T (d+1) (i+1)))] _:=hb3
    rw [hx] at hb3
    have hb3:RBs [[.l (L.map pg),.s cur,.l (T.map x3),.i .i64 (j:Int)]] _:=hb3
    refine U4 hv3 (O.g_len _) fun _ _=>?_
    (refine Zy ?_;with_reducible repeat' first|intro _|apply aI)
    refine sQR (by assumption) fun _ _=>?_
    (refine Zy ?_;with_reducible repeat' first|intro _|apply aI)
    refine sQR (by assumption) fun _ _=>?_
    (refine Zy ?_;with_reducible repeat' first|intro _|apply aI)
    refine sQR (by assumption) fun _ _=>?_
    (refine Zy ?_;with_reducible repeat' first|intro _|apply aI)
    have r1:=a45 (r:=a5r.g) (by rw [O.g_len];decide) (by assumption)
    have r2:=a45 (r:=o.g) (by rw [O.g_len];decide) (by assumption)
    refine j4 hls ⟨[a5r,o],by show 2 < 90000;decide⟩ (r:=.a (T4 [a5r,o]).g) rfl (.cons _ _ _ _ (.sl _ _ _ _ _ rfl (.cons _ _ _ _ _ a5r.g_len r1.1 r1.2 (.cons _ _ _ _ _ o.g_len r2.1 r2.2 (.nil _ _ _)))) .nil) .nil fun _ _ hv4 _=>?_
    refine U4 hv4 (O.g_len _) fun _ _=>?_
    (refine Zy ?_;with_reducible repeat' first|intro _|apply aI)
    exact good e0 oV (c2u (by assumption) (by assumption) (by assumption) rfl)
  ·have k5:¬t.kind=5:=‹_›
   have k7:¬t.kind=7:=‹_›
   have k6:¬t.kind=6:=‹_›
   have k4:¬t.kind=4:=‹_›
   have k1:t.kind=1:=‹_›
   have hi1:=hlast (by omega)
   rw [if_neg (by omega),if_neg (by omega),if_neg k5,if_neg k7,if_neg k6,if_neg (by omega),if_neg k4] at e0
   cases hx:N8 L cur T (d+1) (i+1) [] with
   | error er =>
    obtain ⟨er,p⟩:=er
    rw [hx] at e0
    rw [e0]
    exact fun e=>G1 hl ⟨⟨((L,cur,T,i+1),d+1),⟨hL,hT,hi1⟩,by show d+1≤i+1;omega⟩,by show 2 * (T.length - (i+1))+1 < n;omega⟩ (r:=.fl 122 er p) (by show Q0 (N8 L cur T (d+1) (i+1) [])=_;rw [hx];rfl) (.cons _ _ _ _ (.p _ _) (.cons _ _ _ _ (rvI (show ((d+1:Nat):Int)=(d:Int)+1 by omega)) .nil)) (.cons _ _ _ _ (pzQ (j:=i+1) e (by assumption) (by omega)) .nil) (fun _ hv=>N6 hv (.cons _ _ _ _ (pzC hta htb rfl) .nil)) e
   | ok oj =>
    obtain ⟨o,j⟩:=oj
    rw [hx] at e0
    refine fun e=>j4 hl ⟨⟨((L,cur,T,i+1),d+1),⟨hL,hT,hi1⟩,by show d+1≤i+1;omega⟩,by show 2 * (T.length - (i+1))+1 < n;omega⟩ (r:=.a o.g) (by show Q0 (N8 L cur T (d+1) (i+1) [])=_;rw [hx];rfl) (.cons _ _ _ _ (.p _ _) (.cons _ _ _ _ (rvI (show ((d+1:Nat):Int)=(d:Int)+1 by omega)) .nil)) (.cons _ _ _ _ (pzQ (j:=i+1) e (by assumption) (by omega)) .nil) (fun _ _ hv3 hb3=>?_) e
    have hb3:RBs [K7 L cur T (a0j (i+1) (N8 L cur T (d+1) (i+1) []))] _:=hb3
    rw [hx] at hb3
    have hb3:RBs [[.l (L.map pg),.s cur,.l (T.map x3),.i .i64 (j:Int)]] _:=hb3
    refine U4 hv3 (O.g_len _) fun _ _=>?_
    (refine Zy ?_;with_reducible repeat' first|intro _|apply aI)
    refine sQR (by assumption) fun _ _=>?_
    (refine Zy ?_;with_reducible repeat' first|intro _|apply aI)
    refine sQR (by assumption) fun _ _=>?_
    (refine Zy ?_;with_reducible repeat' first|intro _|apply aI)
    refine sQR (by assumption) fun _ _=>?_
    (refine Zy ?_;with_reducible repeat' first|intro _|apply aI)
    exact good e0 oV (c2u (by assumption) (by assumption) (by assumption) rfl)
  ·have k5:¬t.kind=5:=‹_›
   have k7:¬t.kind=7:=‹_›
   have k6:¬t.kind=6:=‹_›
   have k4:¬t.kind=4:=‹_›
   have k1:¬t.kind=1:=‹_›
   by_cases k0:t.kind=0
   ·rw [if_pos k0] at e0
    exact bad e0 (if_pos k0) (.cons _ _ _ _ (.i _ _) (.cons _ _ _ _ (.a _ _ _ rfl (by assumption)) .nil)) .nil
   ·rw [if_neg k0,if_pos (by omega)] at e0
    exact bad e0 (if_neg k0) (.cons _ _ _ _ (.i _ _) (.cons _ _ _ _ (.a _ _ _ rfl (by assumption)) .nil)) .nil
 ·intro c hc
  refine H6 (fun vs bs=>∃ (z:Bool) (v:V) (b0 b2:Bx),vs=[.ptr 0 0,.int .i64 d,.ptr 1 0,.ptr 2 0,v]∧RV (.c (.b z)) v∧bs=[b0,zOb,b2]∧RB (K7 L cur T i) b0∧RB (x3 t) b2∧(z=true↔200 < d∧(t.kind=1∨t.kind=4))) ?_ ?_
  ·rintro _ _ ⟨z,v,b0,b2,rfl,hz,rfl,hb0,hb2,hzk⟩
   have hb0:RB [.l (L.map pg),.s cur,.l (T.map x3),.i .i64 (i:Int)] b0:=hb0
   have hb2:RB [.i .i64 t.kind,.i .i64 (t.pos:Int),.s t.pkg,.s t.text,.s t.den] b2:=hb2
   (refine Zy ?_;with_reducible repeat' first|intro _|apply aI)
   ·have hz1:=hzk.1 ‹_›
    rw [if_neg (by omega),if_neg (by omega),if_neg (by omega),if_neg (by omega),if_neg (by omega),if_pos (by omega)] at e0
    exact bad e0 (if_neg (by omega)) (.cons _ _ _ _ (.i _ _) (.cons _ _ _ _ (.a _ _ _ rfl (by assumption)) .nil)) .nil
   ·exact hc _ _ ⟨rfl,_,_,rfl,.opa _ _ _ rfl (by assumption),.opa _ _ _ rfl (by assumption),fun h=>‹¬z=true› (hzk.2 h)⟩
  ·intro c2 hc2
   (refine Zy ?_;with_reducible repeat' first|intro _|apply aI)
   ·exact hc2 _ _ ⟨true,_,_,_,rfl,.kn _,rfl,pzC hta2 htb2 rfl,.opa _ _ _ rfl (by assumption),by simp;omega⟩
   ·exact fun e=>hc2 _ _ ⟨decide (t.kind=4),_,_,_,rfl,Q1 (by subst e;rw [a0r]),rfl,pzC hta2 htb2 rfl,.opa _ _ _ rfl (by assumption),by rw [decide_eq_true_iff];omega⟩ e
   ·exact hc2 _ _ ⟨false,_,_,_,rfl,.kn _,rfl,pzC hta2 htb2 rfl,.opa _ _ _ rfl (by assumption),by simp;omega⟩
end
end
end Go.Proofs.YtffaodopiifbkaaGreatDoor
