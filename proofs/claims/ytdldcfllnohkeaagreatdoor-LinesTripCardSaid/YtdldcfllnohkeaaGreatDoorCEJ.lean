/- The program's parser: lists. -/
import Derived.Test.YtdldcfllnohkeaaGreatDoorCEI
set_option linter.all false
namespace Go.Proofs.YtdldcfllnohkeaaGreatDoor
open Go.Abs LQ
set_option maxRecDepth 100000
set_option maxHeartbeats 16000000
noncomputable section
theorem d34 {acc:List O} {x:O} {m:Nat} (hm:m - 1 < acc.length) (h0:0 < m):T4 (acc.drop (m - 1)) x=.co acc[m - 1] (T4 (acc.drop m) x):=by
 rw [List.drop_eq_getElem_cons hm,show m - 1+1=m by omega];rfl
theorem g1u (n:Nat) (ih1:k9 74 (b6x.lt μO n)):k9 105 (d47.lt μL (n+1)):=n9 (fun fn h=>e7t h) [(72,_),(73,_),(74,b6x.lt μO n),(130,_),(131,_)] (.cons d3y (.cons c6g (.cons ih1 (.cons e4n (.cons d6v .nil))))) fun U fn hfn ⟨⟨((L,cur,T,i),d),⟨hL,hT,hi⟩,hd⟩,hn⟩ vs bs hv hb=>by
 have hp:=hfn 72 _ rfl
 have hw:=hfn 73 _ rfl
 have ho:=hfn 74 _ rfl
 have hni:=hfn 130 _ rfl
 have hco:=hfn 131 _ rfl
 have hL:H7 L:=hL
 have hT:b5q T:=hT
 have hi:i < T.length:=hi
 have hd:d≤i:=hd
 have hTl:=hT.len
 have hn:2 * (T.length - i)+1 < n+1:=hn
 have hv:l7 [.p 0 0,.c (.i .i64 (d:Int))] vs:=hv
 have hb:RBs [[.l (L.map pg),.s cur,.l (T.map A7),.i .i64 (i:Int)]] bs:=hb
 show j5 U _ fun v bs'=>l8 (U2 (Q6 L cur T d i [])) v∧RBs [N6 L cur T (a1u i (Q6 L cur T d i []))] bs'
 unfold e1p
 have hlast:∀ {k},k < T.length→(T.getD k t0).kind ≠ 0→k+1 < T.length:=fun {k} hk h=>by
  rcases Nat.lt_or_ge (k+1) T.length with h3 | h3
  ·exact h3
  ·exact absurd (hT.last k oM) h
 (refine Zq ?_;intros)
 refine a8o aS b21 fun ta oa hta=>?_
 (refine Zq ?_;intros)
 refine a8o aS a6v fun tb ob htb=>?_
 (refine Zq ?_;intros)
 refine j4 hni () (r:=.a B3.g) rfl .nil .nil fun _ _ hv1 _=>?_
 refine M5 hv1 (O.g_len _) fun _ hnil=>?_
 (refine Zy ?_;intros)
 refine S4 (fun vs bs=>∃ (k:Nat) (x:O) (acc:List O) (t:j8 Q) (b0 b2:Bx),vs=[.ptr 0 0,.ptr 1 0,.ptr 2 0,.slice t 7 0 acc.length (.tok 3)]∧bs=[b0,zOb,b2,.tok acc.length 7]∧RB (N6 L cur T k) b0∧RB x.g b2∧p9 7 (acc.map O.g) t 0∧k < T.length∧acc.length≤k∧(T.getD k t0).kind=2∧Q6 L cur T d i []=.ok (T4 acc x,k+1)) ?_ ?_
 ·rintro _ _ ⟨k,x,acc,t,b0,b2,rfl,rfl,hb0,hb2,ht,hk,ha,hkd,he⟩
  have hb0:RB [.l (L.map pg),.s cur,.l (T.map A7),.i .i64 (k:Int)] b0:=hb0
  (refine Zy ?_;intros)
  refine a7q hb2 (O.g_len _) fun _ _=>?_
  (refine Zy ?_;intros)
  refine fun e=>H2 (fun (m:Nat) vs bs=>∃ (t:j8 Q) (i:Int) (b0 b2:Bx),vs=[.ptr 1 0,.slice t 7 0 acc.length (.tok 2),.ptr 3 0,.int .i64 i]∧bs=[b0,zOb,.tok acc.length 7,b2]∧RB (N6 L cur T (k+1)) b0∧RB (T4 (acc.drop m) x).g b2∧p9 7 (acc.map O.g) t 0∧i=m - 1∧m≤acc.length) (fun m=>m) acc.length
   ⟨_,_,_,_,rfl,rfl,pzQ e aS oM,by rw [List.drop_length];exact .opa _ _ _ (O.g_len _).symm aS,ht,oM,Nat.le_refl _⟩ (by simp only [C4];omega) ?_ e
  rintro self m _ _ ⟨t,i',b0,b2,rfl,rfl,hb0,hb2,ht,rfl,hm⟩ ih
  have hb0:RB [.l (L.map pg),.s cur,.l (T.map A7),.i .i64 ((k+1:Nat):Int)] b0:=hb0
  (refine Zy ?_;intros)
  refine a7q hb2 (O.g_len _) fun _ _=>?_
  (refine Zy ?_;with_reducible repeat' first|intro _|apply aI)
  ·refine c1e (y:=acc[m - 1]) aS (by rw [show ((m:Int) - 1).toNat=m - 1 by omega];exact List.getElem?_eq_getElem oM) fun _ _=>?_
   (refine Zy ?_;intros)
   refine j4 hco (acc[m - 1],T4 (acc.drop m) x) (r:=.a (O.co acc[m - 1] (T4 (acc.drop m) x)).g) rfl (.k oV oA) .nil fun _ _ hv2 _=>?_
   refine M5 hv2 (O.g_len _) fun _ _=>?_
   (refine Zy ?_;intros)
   refine ih (m - 1) _ _ ⟨_,_,_,_,rfl,rfl,.opa _ _ _ rfl aS,?_,ht,oM,oM⟩ oM
   rw [d34 oM oM]
   exact .opa _ _ _ (O.g_len _).symm aS
  ·have em:m=0:=oM
   subst em
   rw [List.drop_zero] at *
   rw [he]
   exact j9 ⟨.ret _ _ oV,.k (.opa _ _ _ rfl aS) .nil⟩
 ·intro c hc
  have bad:∀ {k:Nat} {e e':Int} {t:x5} {vs:List V} {bs:List Bx} {K:V→List Bx→Om},Q6 L cur T d i []=.error (e',t.pos)→W8 e t=e'→l7 [.c (.i .i64 e),.a (A7 t)] vs→RBs [] bs→j5 U (U.bind (fn 73 vs bs) K fun v=>some (.pan (U.rn0 v),[.cells [.slice ta 2 oa L.length .no,.str cur.length (n7 cur),.slice tb 5 ob T.length .no,.int .i64 i]])) fun v bs'=>l8 (U2 (Q6 L cur T d i [])) v∧RBs [N6 L cur T (a1u i (Q6 L cur T d i []))] bs':=fun {k e e' t vs bs K} he hk hv hb=>by
   rw [he]
   exact G6 hw (e,t) (r:=.fl 107 e' t.pos) (by show T3 (W8 e t) t.pos=_;rw [hk]) hv hb fun _ hv=>R0 hv (.k (pzC hta htb rfl) .nil)
  refine H2 (fun (k:Nat) vs bs=>∃ (acc:List O) (v:V) (b0 b2:Bx),vs=[.ptr 0 0,.int .i64 d,.ptr 1 0,.ptr 2 0,v]∧bs=[b0,zOb,b2,.tok acc.length 7]∧RB (N6 L cur T k) b0∧RB B3.g b2∧a1e 3 7 (acc.map O.g) v∧i≤k∧k < T.length∧acc.length≤k∧Q6 L cur T d i []=Q6 L cur T d k acc) (fun k=>T.length - k) i
   ⟨[],_,_,_,rfl,rfl,pzC hta htb rfl,.opa _ _ _ (O.g_len _).symm aS,.b rfl,Nat.le_refl _,hi,Nat.zero_le _,rfl⟩ (by simp only [C4];omega) ?_
  rintro self k _ _ ⟨acc,v,b0,b2,rfl,rfl,hb0,hb2,htk,hik,hk,hak,he⟩ ih
  have hb0:RB [.l (L.map pg),.s cur,.l (T.map A7),.i .i64 (k:Int)] b0:=hb0
  have e0:=e0p (L:=L) (cur:=cur) (d:=d) (acc:=acc) hk
  rw [← he] at e0
  have hlk:=hlast hk
  generalize htk0:T.getD k t0=t at *
  (refine Zy ?_;intros)
  refine j4 hp ⟨(L,cur,T,k),hL,hT,hk⟩ (r:=.a (A7 t)) (by show r7.ret (.a (A7 (T.getD k t0)))=_;rw [htk0]) l5 (RB.bx aS rfl) fun _ _ hv1 hb1=>?_
  have hb1:RBs [[.l (L.map pg),.s cur,.l (T.map A7),.i .i64 (k:Int)]] _:=hb1
  have hv1:RV (.a [.i .i64 t.kind,.i .i64 (t.pos:Int),.s t.pkg,.s t.text,.s t.den]) _:=hv1
  (refine Zy ?_;with_reducible repeat' first|intro _|apply aI)
  ·have k2:t.kind=2:=‹_›
   rw [if_pos k2] at e0
   exact hc _ _ ⟨k,B3,acc,_,_,_,rfl,rfl,.opa _ _ _ rfl aS,.opa _ _ _ (O.g_len _).symm aS,aS,hk,hak,by rw [htk0];exact k2,e0⟩
  ·have k2:¬t.kind=2:=‹_›
   rw [if_neg k2] at e0
   refine S4 (fun vs bs=>∃ (z:Bool) (t':j8 Q) (v:V) (b0 b2:Bx),vs=[.ptr 0 0,.int .i64 d,.ptr 1 0,.slice t' 7 0 acc.length (.tok 2),.ptr 3 0,v]∧RV (.c (.b z)) v∧bs=[b0,zOb,.tok acc.length 7,b2]∧RB (N6 L cur T k) b0∧RB B3.g b2∧p9 7 (acc.map O.g) t' 0∧(z=true↔t.kind=3∧acc ≠ [])) ?_ ?_
   ·rintro _ _ ⟨z,t',v,b0,b2,rfl,hvz,rfl,hb0,hb2,ht',hz⟩
    have hb0:RB [.l (L.map pg),.s cur,.l (T.map A7),.i .i64 (k:Int)] b0:=hb0
    (refine Zy ?_;with_reducible repeat' first|intro _|apply aI)
    ·have hz1:=hz.1 ‹_›
     rw [if_pos hz1] at e0
     have hk1:=hlk oM
     cases hx:F9 L cur T d (k+1) with
     | error er =>
      obtain ⟨er,p⟩:=er
      rw [hx] at e0
      rw [e0]
      exact fun e=>G6 ho ⟨⟨((L,cur,T,k+1),d),⟨hL,hT,hk1⟩,by show d≤k+1;omega⟩,by show 2 * (T.length - (k+1)) < n;omega⟩ (r:=.fl 107 er p) (by show U2 (F9 L cur T d (k+1))=_;rw [hx];rfl) (.k (.p _ _) (.k (.i _ _) .nil)) (.k (pzQ (j:=k+1) e aS oM) .nil) (fun _ hv=>R0 hv (.k (pzC hta htb rfl) .nil)) e
     | ok oj =>
      obtain ⟨o,j⟩:=oj
      rw [hx] at e0
      simp only [] at e0
      have hj:=c0v hT hx
      refine fun e=>j4 ho ⟨⟨((L,cur,T,k+1),d),⟨hL,hT,hk1⟩,by show d≤k+1;omega⟩,by show 2 * (T.length - (k+1)) < n;omega⟩ (r:=.a o.g) (by show U2 (F9 L cur T d (k+1))=_;rw [hx];rfl) (.k (.p _ _) (.k (.i _ _) .nil)) (.k (pzQ (j:=k+1) e aS oM) .nil) (fun _ _ hv3 hb3=>?_) e
      have hb3:RBs [N6 L cur T (a1u (k+1) (F9 L cur T d (k+1)))] _:=hb3
      rw [hx] at hb3
      have hb3:RBs [[.l (L.map pg),.s cur,.l (T.map A7),.i .i64 (j:Int)]] _:=hb3
      refine M5 hv3 (O.g_len _) fun _ _=>?_
      (refine Zy ?_;intros)
      refine sQR aS fun _ _=>?_
      (refine Zy ?_;intros)
      refine sQR aS fun _ _=>?_
      (refine Zy ?_;intros)
      refine sQR aS fun _ _=>?_
      (refine Zy ?_;intros)
      generalize htj:T.getD j t0=u at *
      refine j4 hp ⟨(L,cur,T,j),hL,hT,hj.2⟩ (r:=.a (A7 u)) (by show r7.ret (.a (A7 (T.getD j t0)))=_;rw [htj]) l5 (.k (c7s aS aS aS rfl) .nil) fun _ _ hv1 hb1=>?_
      have hb1:RBs [[.l (L.map pg),.s cur,.l (T.map A7),.i .i64 (j:Int)]] _:=hb1
      have hv1:RV (.a [.i .i64 u.kind,.i .i64 (u.pos:Int),.s u.pkg,.s u.text,.s u.den]) _:=hv1
      (refine Zy ?_;intros)
      refine sQR aS fun _ _=>?_
      (refine Zy ?_;intros)
      refine sQR aS fun _ _=>?_
      (refine Zy ?_;intros)
      refine sQR aS fun _ _=>?_
      (refine Zy ?_;with_reducible repeat' first|intro _|apply aI)
      ·have u2:u.kind=2:=‹_›
       rw [if_pos u2] at e0
       exact hc _ _ ⟨j,o,acc,_,_,_,rfl,rfl,c7s aS aS aS rfl,.opa _ _ _ (O.g_len _).symm aS,aS,hj.2,oM,by rw [htj];exact u2,e0⟩
      ·have u2:¬u.kind=2:=‹_›
       rw [if_neg u2] at e0
       refine j4 hp ⟨(L,cur,T,j),hL,hT,hj.2⟩ (r:=.a (A7 u)) (by show r7.ret (.a (A7 (T.getD j t0)))=_;rw [htj]) l5 (.k (c7s aS aS aS rfl) .nil) fun _ _ hv1 hb1=>?_
       have hb1:RBs [[.l (L.map pg),.s cur,.l (T.map A7),.i .i64 (j:Int)]] _:=hb1
       have hv1:RV (.a [.i .i64 u.kind,.i .i64 (u.pos:Int),.s u.pkg,.s u.text,.s u.den]) _:=hv1
       (refine Zy ?_;intros)
       refine sQR aS fun _ _=>?_
       (refine Zy ?_;intros)
       refine sQR aS fun _ _=>?_
       (refine Zy ?_;intros)
       refine sQR aS fun _ _=>?_
       (refine Zy ?_;intros)
       by_cases u0:u.kind=0
       ·rw [if_pos u0] at e0
        exact bad (k:=0) e0 (if_pos u0) (.k (.i _ _) (.k (.a _ _ _ rfl aS) .nil)) .nil
       ·rw [if_neg u0] at e0
        exact bad (k:=0) e0 (if_neg u0) (.k (.i _ _) (.k (.a _ _ _ rfl aS) .nil)) .nil
    ·have hz0:¬(t.kind=3∧acc ≠ []):=fun h=>‹¬z=true› (hz.2 h)
     rw [if_neg hz0] at e0
     cases hx:F9 L cur T d k with
     | error er =>
      obtain ⟨er,p⟩:=er
      rw [hx] at e0
      rw [e0]
      exact G6 ho ⟨⟨((L,cur,T,k),d),⟨hL,hT,hk⟩,by show d≤k;omega⟩,by show 2 * (T.length - k) < n;omega⟩ (r:=.fl 107 er p) (by show U2 (F9 L cur T d k)=_;rw [hx];rfl) (.k (.p _ _) (.k (.i _ _) .nil)) (RB.bx aS rfl) fun _ hv=>R0 hv (.k (pzC hta htb rfl) .nil)
     | ok oj =>
      obtain ⟨o,j⟩:=oj
      rw [hx] at e0
      simp only [] at e0
      have hj:=c0v hT hx
      refine j4 ho ⟨⟨((L,cur,T,k),d),⟨hL,hT,hk⟩,by show d≤k;omega⟩,by show 2 * (T.length - k) < n;omega⟩ (r:=.a o.g) (by show U2 (F9 L cur T d k)=_;rw [hx];rfl) (.k (.p _ _) (.k (.i _ _) .nil)) (RB.bx aS rfl) fun _ _ hv3 hb3=>?_
      have hb3:RBs [N6 L cur T (a1u k (F9 L cur T d k))] _:=hb3
      rw [hx] at hb3
      have hb3:RBs [[.l (L.map pg),.s cur,.l (T.map A7),.i .i64 (j:Int)]] _:=hb3
      refine M5 hv3 (O.g_len _) fun _ _=>?_
      (refine Zy ?_;intros)
      refine a2b (xs:=acc.map O.g) (r:=o.g) (n:=7) (off:=0) aS (fun _=>a1h (by rw [O.g_len];decide) aS) (O.g_len _) (by simp) (by simp;omega) fun _ ht2=>?_
      rw [show acc.map O.g ++ [o.g]=(acc ++ [o]).map O.g by simp] at ht2
      (refine Zy ?_;intros)
      exact ih j _ _ ⟨acc ++ [o],_,_,_,rfl,by rw [List.length_append];rfl,.opa _ _ _ rfl aS,.opa _ _ _ (O.g_len _).symm aS,.a _ _ (by simp) ht2,oM,hj.2,by simp;omega,e0⟩ oM
   ·intro c2 hc2
    refine j4 hp ⟨(L,cur,T,k),hL,hT,hk⟩ (r:=.a (A7 t)) (by show r7.ret (.a (A7 (T.getD k t0)))=_;rw [htk0]) l5 (RB.bx aS rfl) fun _ _ hv1 hb1=>?_
    have hb1:RBs [[.l (L.map pg),.s cur,.l (T.map A7),.i .i64 (k:Int)]] _:=hb1
    have hv1:RV (.a [.i .i64 t.kind,.i .i64 (t.pos:Int),.s t.pkg,.s t.text,.s t.den]) _:=hv1
    (refine Zy ?_;with_reducible repeat' first|intro _|apply aI)
    ·have k3:t.kind=3:=‹_›
     exact fun e=>hc2 _ _ ⟨decide (acc ≠ []),_,_,_,_,rfl,U6 (by subst e;rw [b92,decide_eq_decide];cases acc <;> simp <;> omega),rfl,.opa _ _ _ rfl aS,.opa _ _ _ (O.g_len _).symm aS,aS,by simp [k3]⟩ e
    ·have k3:¬t.kind=3:=‹_›
     exact hc2 _ _ ⟨false,_,_,_,_,rfl,.kn _,rfl,.opa _ _ _ rfl aS,.opa _ _ _ (O.g_len _).symm aS,aS,by simp [k3]⟩
theorem d3x (hst:k9 179 Y2):∀ n,k9 74 (b6x.lt μO n)∧k9 105 (d47.lt μL n)
 | 0=>⟨fun i=>absurd i.2 (Nat.not_lt_zero _),fun i=>absurd i.2 (Nat.not_lt_zero _)⟩
 | n+1=>⟨g1v hst n (d3x hst n).1 (d3x hst n).2,g1u n (d3x hst n).1⟩
theorem f85 (hst:k9 179 Y2):k9 74 b6x:=fun i=>(d3x hst (μO i+1)).1 ⟨i,Nat.lt_succ_self _⟩
theorem k9.via {g:FuncId} {sp sp':Sp} (h:k9 g sp) (f:sp'.ι→sp.ι) (e:∀ i,sp'.A i=sp.A (f i)∧sp'.B i=sp.B (f i)∧sp'.R i=sp.R (f i)∧sp'.B' i=sp.B' (f i)):k9 g sp':=fun i vs bs hv hb=>by
 obtain ⟨e1,e2,e3,e4⟩:=e i
 rw [e1] at hv
 rw [e2] at hb
 rw [e3,e4]
 exact h (f i) vs bs hv hb
def R8:O→Ob
 | .num n d=>⟨1,j3 n,i7 d,([],[]),[],.nil⟩
 | .sy s=>⟨2,[],[],s,[],.nil⟩
 | .tx t=>⟨3,[],[],([],[]),t,.nil⟩
 | .co a d=>⟨4,[],[],([],[]),[],.node (R8 a).k (R8 a).nu (R8 a).de (R8 a).s (R8 a).t (R8 a).ps (.node (R8 d).k (R8 d).nu (R8 d).de (R8 d).s (R8 d).t (R8 d).ps .nil)⟩
 | .no=>⟨0,[],[],([],[]),[],.nil⟩
theorem c0u (a d:O):(R8 (.co a d)).ps.obs=[R8 a,R8 d]:=rfl
theorem c4j:∀ o:O,(R8 o).g=o.g
 | .num _ _=>rfl
 | .sy _=>rfl
 | .tx _=>rfl
 | .no=>rfl
 | .co a d=>by
  rw [Ob.g_eq,c0u,List.map_cons,List.map_cons,c4j a,c4j d];rfl
theorem b8b:∀ o:O,(R8 o).nd=o.size
 | .num _ _=>rfl
 | .sy _=>rfl
 | .tx _=>rfl
 | .no=>rfl
 | .co a d=>by rw [Ob.nd_eq,c0u];simp only [];rw [b8b a,b8b d];rfl
theorem e6t:k9 75 (spO fun o=>.c (.i .i64 (min o.size 3001:Nat))):=d1h.via (fun o=>⟨R8 o,trivial⟩) fun (o:O)=>⟨(congrArg (fun x=>[GV.a x]) (c4j o)).symm,rfl,(congrArg (fun x:Nat=>r7.ret (.c (.i .i64 (min x 3001:Nat)))) (b8b o)).symm,rfl⟩
def a9a (p:O × Nat):List G:=[.i .i64 (p.2:Int)]
def a88 (p:O × Nat):List G:=p.1.g
theorem c68 (p:O × Nat):(a88 p).length=7:=O.g_len _
def rdR:Except (Int × Nat) (List (O × Nat))→r7
 | .ok l=>.ret (.t [.sl 7 (l.map a88),.sl 1 (l.map a9a)])
 | .error (e,p)=>T3 e p
def c8i (R:List Pk→i6→i6→r7):Sp where
 ι:={ p:List Pk × i6 × i6 // H7 p.1∧p.2.2.length < 8000 }
 A p:=[.sl 2 (p.1.1.map pg),.c (.s p.1.2.1),.c (.s p.1.2.2)]
 B _:=[]
 R p:=R p.1.1 p.1.2.1 p.1.2.2
 B' _:=[]
 inj i j vs bs h k _ _:=by
  obtain ⟨_,_,h1,k1,h,k⟩:=h.two k
  obtain ⟨_,_,h2,k2,h,k⟩:=h.two k
  obtain ⟨_,_,h3,k3,h,k⟩:=h.two k
  rw [W7 (h1.sl_inj k1),H3 h2 k2,H3 h3 k3];exact ⟨rfl,rfl⟩
theorem e4x {U:v8} {P:L6→List Bx→Prop} {α:Type} {f:α→List G} {n:Nat} {xs:List α} {x:α} {q:Q} {t:j8 Q} {K:j8 Q→Om} (ht:p9 n (xs.map f) t 0) (hr:U=CU→Row (f x) q) (hn:(f x).length=n) (hb:xs.length+2≤281474976710656)
  (h:∀ t',p9 n ((xs ++ [x]).map f) t' 0→j5 U (K t') P):j5 U (U.aT (.node q .nil .nil) 1 t (U.nAdd 0 xs.length) 0 K) P :=
 a2b ht hr hn (by simp) (by simp;omega) fun t' k=>h t' (by rw [List.map_append];exact k)
theorem f88 (hst:k9 179 Y2) (hdl:k9 109 b9b) (hcr:k9 132 c8h):k9 44 (c8i fun L cur s=>rdR (M4 L cur s)):=n9 (fun fn h=>f3u h) [(46,_),(72,_),(73,_),(74,_),(75,_)] (.cons (e4p hst hdl hcr) (.cons d3y (.cons c6g (.cons (f85 hst) (.cons e6t .nil))))) fun U fn hfn ⟨(L,cur,s),hL,hs⟩ vs bs hv hb=>by
 have hsc:=hfn 46 _ rfl
 have hp:=hfn 72 _ rfl
 have hw:=hfn 73 _ rfl
 have ho:=hfn 74 _ rfl
 have hno:=hfn 75 _ rfl
 have hL:H7 L:=hL
 have hs:s.length < 8000:=hs
 have hv:l7 [.sl 2 (L.map pg),.c (.s cur),.c (.s s)] vs:=hv
 have hb:RBs [] bs:=hb
 show j5 U _ fun v bs'=>l8 (rdR (M4 L cur s)) v∧RBs [] bs'
 unfold r44
 (refine Zq ?_;with_reducible repeat' first|intro _|apply aI)
 cases htk:C7 s with
 | error er =>
  obtain ⟨er,p⟩:=er
  have e1:M4 L cur s=.error (er,p):=by unfold M4;rw [htk]
  rw [e1]
  exact G6 hsc ⟨s,hs⟩ (r:=.fl 107 er p) (by show b9m (C7 s)=_;rw [htk];rfl) l5 .nil fun _ hv=>R0 hv .nil
 | ok T =>
  have hT:=d81 htk
  have hTl:=hT.len
  have e1:M4 L cur s=a17 L cur T (T.length+1) 0 []:=by unfold M4;rw [htk]
  refine j4 hsc ⟨s,hs⟩ (r:=.sl 5 (T.map A7)) (by show b9m (C7 s)=_;rw [htk];rfl) l5 .nil fun _ _ _ _=>?_
  (refine Zq ?_;intros)
  refine H2 (fun (i:Nat) vs bs=>∃ (m:Nat) (acc:List (O × Nat)) (v1 v2:V) (b0:Bx),vs=[.ptr 0 0,v1,v2]∧bs=[b0,.tok acc.length 7,.tok acc.length 1]∧RB (N6 L cur T i) b0∧a1e 1 7 (acc.map a88) v1∧a1e 2 1 (acc.map a9a) v2∧i < T.length∧T.length+1≤m+i∧acc.length≤100∧M4 L cur s=a17 L cur T m i acc) (fun i=>T.length - i) 0
   ⟨_,[],_,_,_,rfl,rfl,pzC aS aS rfl,.b rfl,.b rfl,hT.pos,Nat.le_refl _,dE,e1⟩ (by simp only [C4];omega) ?_
  rintro self i _ _ ⟨m,acc,v1,v2,b0,rfl,rfl,hb0,ht1,ht2,hi,hm,ha,he⟩ ih
  have hb0:RB [.l (L.map pg),.s cur,.l (T.map A7),.i .i64 (i:Int)] b0:=hb0
  obtain ⟨m,rfl⟩:∃ m',m=m'+1:=⟨m - 1,oM⟩
  rw [a17] at he
  have hof:O1 L cur T (2 * T.length+2) 0 i=F9 L cur T 0 i:=rfl
  rw [hof] at he
  have e9:=d1x (L:=L) (cur:=cur) (d:=0) hi
  generalize htk0:T.getD i t0=t at *
  (refine Zy ?_;intros)
  refine j4 hp ⟨(L,cur,T,i),hL,hT,hi⟩ (r:=.a (A7 t)) (by show r7.ret (.a (A7 (T.getD i t0)))=_;rw [htk0]) l5 (RB.bx aS rfl) fun _ _ hv1 hb1=>?_
  have hb1:RBs [[.l (L.map pg),.s cur,.l (T.map A7),.i .i64 (i:Int)]] _:=hb1
  have hv1:RV (.a [.i .i64 t.kind,.i .i64 (t.pos:Int),.s t.pkg,.s t.text,.s t.den]) _:=hv1
  (refine Zy ?_;with_reducible repeat' first|intro _|apply aI)
  ·rw [if_pos ‹t.kind=0›] at he
   rw [he]
   exact j9 ⟨.ret _ _ (.t _ _ (.k (.sl _ _ _ _ _ (by simp) aS) (.k (.sl _ _ _ _ _ (by simp) aS) .nil))),.nil⟩
  ·have k0:¬t.kind=0:=‹_›
   rw [if_neg k0] at he
   refine j4 hp ⟨(L,cur,T,i),hL,hT,hi⟩ (r:=.a (A7 t)) (by show r7.ret (.a (A7 (T.getD i t0)))=_;rw [htk0]) l5 (RB.bx aS rfl) fun _ _ hv1 hb1=>?_
   have hb1:RBs [[.l (L.map pg),.s cur,.l (T.map A7),.i .i64 (i:Int)]] _:=hb1
   have hv1:RV (.a [.i .i64 t.kind,.i .i64 (t.pos:Int),.s t.pkg,.s t.text,.s t.den]) _:=hv1
   have bad:∀ {e e':Int} {vs:List V} {bs:List Bx} {K:V→List Bx→Om},M4 L cur s=.error (e',t.pos)→W8 e t=e'→l7 [.c (.i .i64 e),.a (A7 t)] vs→RBs [] bs→j5 U (U.bind (fn 73 vs bs) K fun v=>some (.pan (U.rn0 v),[])) fun v bs'=>l8 (rdR (M4 L cur s)) v∧RBs [] bs':=fun {e e' vs bs K} he hk hv hb=>by
    rw [he]
    exact G6 hw (e,t) (r:=.fl 107 e' t.pos) (by show T3 (W8 e t) t.pos=_;rw [hk]) hv hb fun _ hv=>R0 hv .nil
   (refine Zy ?_;intros)
   refine S4 (fun vs bs=>∃ (x y:j8 Q) (b0 b3:Bx),vs=[.ptr 0 0,.slice x 7 0 acc.length (.tok 1),.slice y 1 0 acc.length (.tok 2),.ptr 3 0]∧bs=[b0,.tok acc.length 7,.tok acc.length 1,b3]∧RB (N6 L cur T i) b0∧RB (A7 t) b3∧p9 7 (acc.map a88) x 0∧p9 1 (acc.map a9a) y 0∧¬(100≤acc.length∧t.kind ≠ 2∧t.kind ≠ 3)) ?_ ?_
   ·rintro _ _ ⟨x,y,b0,b3,rfl,rfl,hb0,hb3,hx,hy,hlim⟩
    have hb0:RB [.l (L.map pg),.s cur,.l (T.map A7),.i .i64 (i:Int)] b0:=hb0
    have hb3:RB [.i .i64 t.kind,.i .i64 (t.pos:Int),.s t.pkg,.s t.text,.s t.den] b3:=hb3
    rw [if_neg hlim] at he
    (refine Zy ?_;with_reducible repeat' first|intro _|apply aI)
    cases hob:F9 L cur T 0 i with
    | error er =>
     obtain ⟨er,p⟩:=er
     rw [hob] at he
     rw [he]
     exact G6 ho ⟨((L,cur,T,i),0),⟨hL,hT,hi⟩,Nat.zero_le _⟩ (r:=.fl 107 er p) (by show U2 (F9 L cur T 0 i)=_;rw [hob];rfl) l5 (RB.bx aS rfl) fun _ hv=>R0 hv .nil
    | ok oj =>
     obtain ⟨o,j⟩:=oj
     have hj:=c0v hT hob
     rw [hob] at he e9
     simp only [] at he
     have k23:¬(t.kind=2∨t.kind=3):=fun h=>by rw [if_neg k0,if_pos h] at e9;cases e9
     refine j4 ho ⟨((L,cur,T,i),0),⟨hL,hT,hi⟩,Nat.zero_le _⟩ (r:=.a o.g) (by show U2 (F9 L cur T 0 i)=_;rw [hob];rfl) l5 (RB.bx aS rfl) fun _ _ hv3 hb3'=>?_
     have hb3':RBs [N6 L cur T (a1u i (F9 L cur T 0 i))] _:=hb3'
     rw [hob] at hb3'
     have hb3':RBs [[.l (L.map pg),.s cur,.l (T.map A7),.i .i64 (j:Int)]] _:=hb3'
     refine M5 hv3 (O.g_len _) fun _ _=>?_
     (refine Zy ?_;intros)
     refine S4 (fun vs bs=>∃ (x y:j8 Q) (b0 b3 b4:Bx),vs=[.ptr 0 0,.slice x 7 0 acc.length (.tok 1),.slice y 1 0 acc.length (.tok 2),.ptr 3 0,.ptr 4 0]∧bs=[b0,.tok acc.length 7,.tok acc.length 1,b3,b4]∧RB (N6 L cur T j) b0∧RB (A7 t) b3∧RB o.g b4∧p9 7 (acc.map a88) x 0∧p9 1 (acc.map a9a) y 0∧¬3000 < o.size) ?_ ?_
     ·rintro _ _ ⟨x,y,b0,b3,b4,rfl,rfl,hb0,hb3,hb4,hx,hy,hsz⟩
      have hb0:RB [.l (L.map pg),.s cur,.l (T.map A7),.i .i64 (j:Int)] b0:=hb0
      have hb3:RB [.i .i64 t.kind,.i .i64 (t.pos:Int),.s t.pkg,.s t.text,.s t.den] b3:=hb3
      rw [if_neg hsz] at he
      (refine Zy ?_;intros)
      refine a7q hb4 (O.g_len _) fun _ _=>?_
      (refine Zy ?_;intros)
      refine e4x (f:=a88) (x:=(o,t.pos)) aS (fun _=>a1h (by rw [c68];decide) aS) (c68 _) oM fun _ _=>?_
      (refine Zy ?_;intros)
      refine e4x (f:=a9a) (x:=(o,t.pos)) aS (fun _=>L4 aS) rfl oM fun _ _=>?_
      (refine Zy ?_;intros)
      exact ih j _ _ ⟨m,acc ++ [(o,t.pos)],_,_,_,rfl,by rw [List.length_append];rfl,.opa _ _ _ rfl aS,.a _ _ (by simp) aS,.a _ _ (by simp) aS,hj.2,oM,by simp;omega,he⟩ oM
     ·intro c3 hc3
      refine a28 (gs:=o.g) aS fun _ _=>?_
      refine j4 hno o (r:=.c (.i .i64 (min o.size 3001:Nat))) rfl oA .nil fun _ _ _ _=>?_
      (refine Zy ?_;with_reducible repeat' first|intro _|apply aI)
      ·have hsz:3000 < o.size:=by have:=‹(3000:Int) < ((min o.size 3001:Nat):Int)›;omega
       rw [if_pos hsz] at he
       exact bad he (if_neg k0) (.k (.i _ _) (.k (.a _ _ _ rfl aS) .nil)) .nil
      ·have hsz:¬3000 < o.size:=by have:=‹¬(3000:Int) < ((min o.size 3001:Nat):Int)›;omega
       exact hc3 _ _ ⟨_,_,_,_,_,rfl,rfl,.opa _ _ _ rfl aS,.opa _ _ _ rfl aS,.opa _ _ _ (O.g_len _).symm aS,aS,aS,hsz⟩
   ·intro c hc
    refine S4 (fun vs bs=>∃ (z:Bool) (x y:j8 Q) (v:V) (b0 b3:Bx),vs=[.ptr 0 0,.slice x 7 0 acc.length (.tok 1),.slice y 1 0 acc.length (.tok 2),.ptr 3 0,v]∧RV (.c (.b z)) v∧bs=[b0,.tok acc.length 7,.tok acc.length 1,b3]∧RB (N6 L cur T i) b0∧RB (A7 t) b3∧p9 7 (acc.map a88) x 0∧p9 1 (acc.map a9a) y 0∧(z=true↔100≤acc.length∧t.kind ≠ 2∧t.kind ≠ 3)) ?_ ?_
    ·rintro _ _ ⟨z,x,y,v,b0,b3,rfl,hvz,rfl,hb0,hb3,hx,hy,hz⟩
     have hb0:RB [.l (L.map pg),.s cur,.l (T.map A7),.i .i64 (i:Int)] b0:=hb0
     have hb3:RB [.i .i64 t.kind,.i .i64 (t.pos:Int),.s t.pkg,.s t.text,.s t.den] b3:=hb3
     (refine Zy ?_;with_reducible repeat' first|intro _|apply aI)
     ·rw [if_pos (hz.1 ‹_›)] at he
      exact bad he (if_neg k0) (.k (.i _ _) (.k (.a _ _ _ rfl aS) .nil)) .nil
     ·exact hc _ _ ⟨_,_,_,_,rfl,rfl,.opa _ _ _ rfl aS,.opa _ _ _ rfl aS,aS,aS,fun h=>‹¬z=true› (hz.2 h)⟩
    ·intro c2 hc2
     (refine Zy ?_;with_reducible repeat' first|intro _|apply aI)
     ·exact hc2 _ _ ⟨false,_,_,_,_,_,rfl,.kn _,rfl,.opa _ _ _ rfl aS,.opa _ _ _ rfl aS,aS,aS,by simp;omega⟩
     ·exact fun e=>hc2 _ _ ⟨decide (t.kind ≠ 3),_,_,_,_,_,rfl,U6 (by subst e;rw [c4e,a62];simp),rfl,.opa _ _ _ rfl aS,.opa _ _ _ rfl aS,aS,aS,by rw [decide_eq_true_iff];omega⟩ e
     ·exact hc2 _ _ ⟨false,_,_,_,_,_,rfl,.kn _,rfl,.opa _ _ _ rfl aS,.opa _ _ _ rfl aS,aS,aS,by simp;omega⟩
end
end Go.Proofs.YtdldcfllnohkeaaGreatDoor
