/- The program's parser: lists. -/
import Derived.Test.YtffaodopiifbkaaGreatDoorCEI
set_option linter.all false
namespace Go.Proofs.YtffaodopiifbkaaGreatDoor
open Go.Abs LQ
set_option maxRecDepth 100000
set_option maxHeartbeats 16000000
noncomputable section
theorem c60 {acc:List O} {x:O} {m:Nat} (hm:m - 1 < acc.length) (h0:0 < m):a1w (acc.drop (m - 1)) x=.co acc[m - 1] (a1w (acc.drop m) x):=by
 rw [List.drop_eq_getElem_cons hm,show m - 1+1=m by omega];rfl
theorem f1g (n:Nat) (ih1:l5 88 (b3y.lt μO n)):l5 131 (c7c.lt μL (n+1)):=v7 (fun fn h=>d9o h) [(86,_),(87,_),(88,b3y.lt μO n),(156,_),(157,_)] (.cons c7w (.cons c1t (.cons ih1 (.cons d7i (.cons d0k .nil))))) fun U fn hfn ⟨⟨((L,cur,T,i),d),⟨hL,hT,hi⟩,hd⟩,hn⟩ vs bs hv hb=>by
 have hp:=hfn 86 _ rfl
 have hw:=hfn 87 _ rfl
 have ho:=hfn 88 _ rfl
 have hni:=hfn 156 _ rfl
 have hco:=hfn 157 _ rfl
 have hL:a49 L:=hL
 have hT:b3c T:=hT
 have hi:i < T.length:=hi
 have hd:d≤i:=hd
 have hTl:=hT.len
 have hn:2 * (T.length - i)+1 < n+1:=hn
 have hv:l9 [.p 0 0,.c (.i .i64 (d:Int))] vs:=hv
 have hb:RBs [[.l (L.map pg),.s cur,.l (T.map x3),.i .i64 (i:Int)]] bs:=hb
 show j3 U _ fun v bs'=>m8 (Q0 (N8 L cur T d i [])) v∧RBs [K7 L cur T (a0j i (N8 L cur T d i []))] bs'
 unfold d3j
 have hlast:∀ {k},k < T.length→(T.getD k t0).kind ≠ 0→k+1 < T.length:=fun {k} hk h=>by
  rcases Nat.lt_or_ge (k+1) T.length with h3 | h3
  ·exact h3
  ·exact absurd (hT.last k (by omega)) h
 (refine Zq ?_;with_reducible repeat' first|intro _|apply aI)
 refine a6t (by assumption) a9z fun ta oa hta=>?_
 (refine Zq ?_;with_reducible repeat' first|intro _|apply aI)
 refine a6t (by assumption) V5 fun tb ob htb=>?_
 (refine Zq ?_;with_reducible repeat' first|intro _|apply aI)
 refine j4 hni () (r:=.a Z3.g) rfl .nil .nil fun _ _ hv1 _=>?_
 refine U4 hv1 (O.g_len _) fun _ hnil=>?_
 (refine Zy ?_;with_reducible repeat' first|intro _|apply aI)
 refine H6 (fun vs bs=>∃ (k:Nat) (x:O) (acc:List O) (t:j8 Q) (b0 b2:Bx),vs=[.ptr 0 0,.ptr 1 0,.ptr 2 0,.slice t 7 0 acc.length (.tok 3)]∧bs=[b0,zOb,b2,.tok acc.length 7]∧RB (K7 L cur T k) b0∧RB x.g b2∧u6 7 (acc.map O.g) t 0∧k < T.length∧acc.length≤k∧(T.getD k t0).kind=2∧N8 L cur T d i []=.ok (a1w acc x,k+1)) ?_ ?_
 ·rintro _ _ ⟨k,x,acc,t,b0,b2,rfl,rfl,hb0,hb2,ht,hk,ha,hkd,he⟩
  have hb0:RB [.l (L.map pg),.s cur,.l (T.map x3),.i .i64 (k:Int)] b0:=hb0
  (refine Zy ?_;with_reducible repeat' first|intro _|apply aI)
  refine a1f hb2 (O.g_len _) fun _ _=>?_
  (refine Zy ?_;with_reducible repeat' first|intro _|apply aI)
  refine fun e=>F8 (fun (m:Nat) vs bs=>∃ (t:j8 Q) (i:Int) (b0 b2:Bx),vs=[.ptr 1 0,.slice t 7 0 acc.length (.tok 2),.ptr 3 0,.int .i64 i]∧bs=[b0,zOb,.tok acc.length 7,b2]∧RB (K7 L cur T (k+1)) b0∧RB (a1w (acc.drop m) x).g b2∧u6 7 (acc.map O.g) t 0∧i=m - 1∧m≤acc.length) (fun m=>m) acc.length
   ⟨_,_,_,_,rfl,rfl,pzQ e (by assumption) (by omega),by rw [List.drop_length];exact .opa _ _ _ (O.g_len _).symm (by assumption),ht,by omega,Nat.le_refl _⟩ (by simp only [B8];omega) ?_ e
  rintro self m _ _ ⟨t,i',b0,b2,rfl,rfl,hb0,hb2,ht,rfl,hm⟩ ih
  have hb0:RB [.l (L.map pg),.s cur,.l (T.map x3),.i .i64 ((k+1:Nat):Int)] b0:=hb0
  (refine Zy ?_;with_reducible repeat' first|intro _|apply aI)
  refine a1f hb2 (O.g_len _) fun _ _=>?_
  (refine Zy ?_;with_reducible repeat' first|intro _|apply aI)
  ·refine b3i (y:=acc[m - 1]) (by assumption) (by rw [show ((m:Int) - 1).toNat=m - 1 by omega];exact List.getElem?_eq_getElem (by omega)) fun _ _=>?_
   (refine Zy ?_;with_reducible repeat' first|intro _|apply aI)
   refine j4 hco (acc[m - 1],a1w (acc.drop m) x) (r:=.a (O.co acc[m - 1] (a1w (acc.drop m) x)).g) rfl (.cons _ _ _ _ oV oA) .nil fun _ _ hv2 _=>?_
   refine U4 hv2 (O.g_len _) fun _ _=>?_
   (refine Zy ?_;with_reducible repeat' first|intro _|apply aI)
   refine ih (m - 1) _ _ ⟨_,_,_,_,rfl,rfl,.opa _ _ _ rfl (by assumption),?_,ht,by omega,by omega⟩ (by omega)
   rw [c60 (by omega) (by omega)]
   exact .opa _ _ _ (O.g_len _).symm (by assumption)
  ·have em:m=0:=by omega
   subst em
   rw [List.drop_zero] at *
   rw [he]
   exact l6 ⟨.ret _ _ oV,.cons _ _ _ _ (.opa _ _ _ rfl (by assumption)) .nil⟩
 ·intro c hc
  have bad:∀ {k:Nat} {e e':Int} {t:B5} {vs:List V} {bs:List Bx} {K:V→List Bx→Om},N8 L cur T d i []=.error (e',t.pos)→R8 e t=e'→l9 [.c (.i .i64 e),.a (x3 t)] vs→RBs [] bs→j3 U (U.bind (fn 87 vs bs) K fun v=>some (.pan (U.rn0 v),[.cells [.slice ta 2 oa L.length .no,.str cur.length (n6 cur),.slice tb 5 ob T.length .no,.int .i64 i]])) fun v bs'=>m8 (Q0 (N8 L cur T d i [])) v∧RBs [K7 L cur T (a0j i (N8 L cur T d i []))] bs':=fun {k e e' t vs bs K} he hk hv hb=>by
   rw [he]
   exact G1 hw (e,t) (r:=.fl 122 e' t.pos) (by show P4 (R8 e t) t.pos=_;rw [hk]) hv hb fun _ hv=>N6 hv (.cons _ _ _ _ (pzC hta htb rfl) .nil)
  refine F8 (fun (k:Nat) vs bs=>∃ (acc:List O) (v:V) (b0 b2:Bx),vs=[.ptr 0 0,.int .i64 d,.ptr 1 0,.ptr 2 0,v]∧bs=[b0,zOb,b2,.tok acc.length 7]∧RB (K7 L cur T k) b0∧RB Z3.g b2∧Z4 3 7 (acc.map O.g) v∧i≤k∧k < T.length∧acc.length≤k∧N8 L cur T d i []=N8 L cur T d k acc) (fun k=>T.length - k) i
   ⟨[],_,_,_,rfl,rfl,pzC hta htb rfl,.opa _ _ _ (O.g_len _).symm (by assumption),.b rfl,Nat.le_refl _,hi,Nat.zero_le _,rfl⟩ (by simp only [B8];omega) ?_
  rintro self k _ _ ⟨acc,v,b0,b2,rfl,rfl,hb0,hb2,htk,hik,hk,hak,he⟩ ih
  have hb0:RB [.l (L.map pg),.s cur,.l (T.map x3),.i .i64 (k:Int)] b0:=hb0
  have e0:=d4e (L:=L) (cur:=cur) (d:=d) (acc:=acc) hk
  rw [← he] at e0
  have hlk:=hlast hk
  generalize htk0:T.getD k t0=t at *
  (refine Zy ?_;with_reducible repeat' first|intro _|apply aI)
  refine j4 hp ⟨(L,cur,T,k),hL,hT,hk⟩ (r:=.a (x3 t)) (by show y4.ret (.a (x3 (T.getD k t0)))=_;rw [htk0]) j9 (RB.bx (by assumption) rfl) fun _ _ hv1 hb1=>?_
  have hb1:RBs [[.l (L.map pg),.s cur,.l (T.map x3),.i .i64 (k:Int)]] _:=hb1
  have hv1:RV (.a [.i .i64 t.kind,.i .i64 (t.pos:Int),.s t.pkg,.s t.text,.s t.den]) _:=hv1
  (refine Zy ?_;with_reducible repeat' first|intro _|apply aI)
  ·have k2:t.kind=2:=‹_›
   rw [if_pos k2] at e0
   exact hc _ _ ⟨k,Z3,acc,_,_,_,rfl,rfl,.opa _ _ _ rfl (by assumption),.opa _ _ _ (O.g_len _).symm (by assumption),by assumption,hk,hak,by rw [htk0];exact k2,e0⟩
  ·have k2:¬t.kind=2:=‹_›
   rw [if_neg k2] at e0
   refine H6 (fun vs bs=>∃ (z:Bool) (t':j8 Q) (v:V) (b0 b2:Bx),vs=[.ptr 0 0,.int .i64 d,.ptr 1 0,.slice t' 7 0 acc.length (.tok 2),.ptr 3 0,v]∧RV (.c (.b z)) v∧bs=[b0,zOb,.tok acc.length 7,b2]∧RB (K7 L cur T k) b0∧RB Z3.g b2∧u6 7 (acc.map O.g) t' 0∧(z=true↔t.kind=3∧acc ≠ [])) ?_ ?_
   ·rintro _ _ ⟨z,t',v,b0,b2,rfl,hvz,rfl,hb0,hb2,ht',hz⟩
    have hb0:RB [.l (L.map pg),.s cur,.l (T.map x3),.i .i64 (k:Int)] b0:=hb0
    (refine Zy ?_;with_reducible repeat' first|intro _|apply aI)
    ·have hz1:=hz.1 ‹_›
     rw [if_pos hz1] at e0
     have hk1:=hlk (by omega)
     cases hx:F6 L cur T d (k+1) with
     | error er =>
      obtain ⟨er,p⟩:=er
      rw [hx] at e0
      rw [e0]
      exact fun e=>G1 ho ⟨⟨((L,cur,T,k+1),d),⟨hL,hT,hk1⟩,by show d≤k+1;omega⟩,by show 2 * (T.length - (k+1)) < n;omega⟩ (r:=.fl 122 er p) (by show Q0 (F6 L cur T d (k+1))=_;rw [hx];rfl) (.cons _ _ _ _ (.p _ _) (.cons _ _ _ _ (.i _ _) .nil)) (.cons _ _ _ _ (pzQ (j:=k+1) e (by assumption) (by omega)) .nil) (fun _ hv=>N6 hv (.cons _ _ _ _ (pzC hta htb rfl) .nil)) e
     | ok oj =>
      obtain ⟨o,j⟩:=oj
      rw [hx] at e0
      simp only [] at e0
      have hj:=b6r hT hx
      refine fun e=>j4 ho ⟨⟨((L,cur,T,k+1),d),⟨hL,hT,hk1⟩,by show d≤k+1;omega⟩,by show 2 * (T.length - (k+1)) < n;omega⟩ (r:=.a o.g) (by show Q0 (F6 L cur T d (k+1))=_;rw [hx];rfl) (.cons _ _ _ _ (.p _ _) (.cons _ _ _ _ (.i _ _) .nil)) (.cons _ _ _ _ (pzQ (j:=k+1) e (by assumption) (by omega)) .nil) (fun _ _ hv3 hb3=>?_) e
      have hb3:RBs [K7 L cur T (a0j (k+1) (F6 L cur T d (k+1)))] _:=hb3
      rw [hx] at hb3
      have hb3:RBs [[.l (L.map pg),.s cur,.l (T.map x3),.i .i64 (j:Int)]] _:=hb3
      refine U4 hv3 (O.g_len _) fun _ _=>?_
      (refine Zy ?_;with_reducible repeat' first|intro _|apply aI)
      refine sQR (by assumption) fun _ _=>?_
      (refine Zy ?_;with_reducible repeat' first|intro _|apply aI)
      refine sQR (by assumption) fun _ _=>?_
      (refine Zy ?_;with_reducible repeat' first|intro _|apply aI)
      refine sQR (by assumption) fun _ _=>?_
      (refine Zy ?_;with_reducible repeat' first|intro _|apply aI)
      generalize htj:T.getD j t0=u at *
      refine j4 hp ⟨(L,cur,T,j),hL,hT,hj.2⟩ (r:=.a (x3 u)) (by show y4.ret (.a (x3 (T.getD j t0)))=_;rw [htj]) j9 (.cons _ _ _ _ (c2u (by assumption) (by assumption) (by assumption) rfl) .nil) fun _ _ hv1 hb1=>?_
      have hb1:RBs [[.l (L.map pg),.s cur,.l (T.map x3),.i .i64 (j:Int)]] _:=hb1
      have hv1:RV (.a [.i .i64 u.kind,.i .i64 (u.pos:Int),.s u.pkg,.s u.text,.s u.den]) _:=hv1
      (refine Zy ?_;with_reducible repeat' first|intro _|apply aI)
      refine sQR (by assumption) fun _ _=>?_
      (refine Zy ?_;with_reducible repeat' first|intro _|apply aI)
      refine sQR (by assumption) fun _ _=>?_
      (refine Zy ?_;with_reducible repeat' first|intro _|apply aI)
      refine sQR (by assumption) fun _ _=>?_
      (refine Zy ?_;with_reducible repeat' first|intro _|apply aI)
      ·have u2:u.kind=2:=‹_›
       rw [if_pos u2] at e0
       exact hc _ _ ⟨j,o,acc,_,_,_,rfl,rfl,c2u (by assumption) (by assumption) (by assumption) rfl,.opa _ _ _ (O.g_len _).symm (by assumption),by assumption,hj.2,by omega,by rw [htj];exact u2,e0⟩
      ·have u2:¬u.kind=2:=‹_›
       rw [if_neg u2] at e0
       refine j4 hp ⟨(L,cur,T,j),hL,hT,hj.2⟩ (r:=.a (x3 u)) (by show y4.ret (.a (x3 (T.getD j t0)))=_;rw [htj]) j9 (.cons _ _ _ _ (c2u (by assumption) (by assumption) (by assumption) rfl) .nil) fun _ _ hv1 hb1=>?_
       have hb1:RBs [[.l (L.map pg),.s cur,.l (T.map x3),.i .i64 (j:Int)]] _:=hb1
       have hv1:RV (.a [.i .i64 u.kind,.i .i64 (u.pos:Int),.s u.pkg,.s u.text,.s u.den]) _:=hv1
       (refine Zy ?_;with_reducible repeat' first|intro _|apply aI)
       refine sQR (by assumption) fun _ _=>?_
       (refine Zy ?_;with_reducible repeat' first|intro _|apply aI)
       refine sQR (by assumption) fun _ _=>?_
       (refine Zy ?_;with_reducible repeat' first|intro _|apply aI)
       refine sQR (by assumption) fun _ _=>?_
       (refine Zy ?_;with_reducible repeat' first|intro _|apply aI)
       by_cases u0:u.kind=0
       ·rw [if_pos u0] at e0
        exact bad (k:=0) e0 (if_pos u0) (.cons _ _ _ _ (.i _ _) (.cons _ _ _ _ (.a _ _ _ rfl (by assumption)) .nil)) .nil
       ·rw [if_neg u0] at e0
        exact bad (k:=0) e0 (if_neg u0) (.cons _ _ _ _ (.i _ _) (.cons _ _ _ _ (.a _ _ _ rfl (by assumption)) .nil)) .nil
    ·have hz0:¬(t.kind=3∧acc ≠ []):=fun h=>‹¬z=true› (hz.2 h)
     rw [if_neg hz0] at e0
     cases hx:F6 L cur T d k with
     | error er =>
      obtain ⟨er,p⟩:=er
      rw [hx] at e0
      rw [e0]
      exact G1 ho ⟨⟨((L,cur,T,k),d),⟨hL,hT,hk⟩,by show d≤k;omega⟩,by show 2 * (T.length - k) < n;omega⟩ (r:=.fl 122 er p) (by show Q0 (F6 L cur T d k)=_;rw [hx];rfl) (.cons _ _ _ _ (.p _ _) (.cons _ _ _ _ (.i _ _) .nil)) (RB.bx (by assumption) rfl) fun _ hv=>N6 hv (.cons _ _ _ _ (pzC hta htb rfl) .nil)
     | ok oj =>
      obtain ⟨o,j⟩:=oj
      rw [hx] at e0
      simp only [] at e0
      have hj:=b6r hT hx
      refine j4 ho ⟨⟨((L,cur,T,k),d),⟨hL,hT,hk⟩,by show d≤k;omega⟩,by show 2 * (T.length - k) < n;omega⟩ (r:=.a o.g) (by show Q0 (F6 L cur T d k)=_;rw [hx];rfl) (.cons _ _ _ _ (.p _ _) (.cons _ _ _ _ (.i _ _) .nil)) (RB.bx (by assumption) rfl) fun _ _ hv3 hb3=>?_
      have hb3:RBs [K7 L cur T (a0j k (F6 L cur T d k))] _:=hb3
      rw [hx] at hb3
      have hb3:RBs [[.l (L.map pg),.s cur,.l (T.map x3),.i .i64 (j:Int)]] _:=hb3
      refine U4 hv3 (O.g_len _) fun _ _=>?_
      (refine Zy ?_;with_reducible repeat' first|intro _|apply aI)
      refine Z5 (xs:=acc.map O.g) (r:=o.g) (n:=7) (off:=0) (by assumption) (fun _=>a45 (by rw [O.g_len];decide) (by assumption)) (O.g_len _) (by simp) (by simp;omega) fun _ ht2=>?_
      rw [show acc.map O.g ++ [o.g]=(acc ++ [o]).map O.g by simp] at ht2
      (refine Zy ?_;with_reducible repeat' first|intro _|apply aI)
      exact ih j _ _ ⟨acc ++ [o],_,_,_,rfl,by rw [List.length_append];rfl,.opa _ _ _ rfl (by assumption),.opa _ _ _ (O.g_len _).symm (by assumption),.a _ _ (by simp) ht2,by omega,hj.2,by simp;omega,e0⟩ (by omega)
   ·intro c2 hc2
    refine j4 hp ⟨(L,cur,T,k),hL,hT,hk⟩ (r:=.a (x3 t)) (by show y4.ret (.a (x3 (T.getD k t0)))=_;rw [htk0]) j9 (RB.bx (by assumption) rfl) fun _ _ hv1 hb1=>?_
    have hb1:RBs [[.l (L.map pg),.s cur,.l (T.map x3),.i .i64 (k:Int)]] _:=hb1
    have hv1:RV (.a [.i .i64 t.kind,.i .i64 (t.pos:Int),.s t.pkg,.s t.text,.s t.den]) _:=hv1
    (refine Zy ?_;with_reducible repeat' first|intro _|apply aI)
    ·have k3:t.kind=3:=‹_›
     exact fun e=>hc2 _ _ ⟨decide (acc ≠ []),_,_,_,_,rfl,Q1 (by subst e;rw [b4b,decide_eq_decide];cases acc <;> simp <;> omega),rfl,.opa _ _ _ rfl (by assumption),.opa _ _ _ (O.g_len _).symm (by assumption),by assumption,by simp [k3]⟩ e
    ·have k3:¬t.kind=3:=‹_›
     exact hc2 _ _ ⟨false,_,_,_,_,rfl,.kn _,rfl,.opa _ _ _ rfl (by assumption),.opa _ _ _ (O.g_len _).symm (by assumption),by assumption,by simp [k3]⟩
theorem c8k (hst:l5 203 T7):∀ n,l5 88 (b3y.lt μO n)∧l5 131 (c7c.lt μL n)
 | 0=>⟨fun i=>absurd i.2 (Nat.not_lt_zero _),fun i=>absurd i.2 (Nat.not_lt_zero _)⟩
 | n+1=>⟨f2v hst n (c8k hst n).1 (c8k hst n).2,f1g n (c8k hst n).1⟩
theorem e79 (hst:l5 203 T7):l5 88 b3y:=fun i=>(c8k hst (μO i+1)).1 ⟨i,Nat.lt_succ_self _⟩
end
end Go.Proofs.YtffaodopiifbkaaGreatDoor
namespace Go.Proofs.YtffaodopiifbkaaGreatDoor
open Go.Abs LQ
set_option maxRecDepth 100000
set_option maxHeartbeats 16000000
noncomputable section
theorem l5.via {g:FuncId} {sp sp':Sp} (h:l5 g sp) (f:sp'.ι→sp.ι) (e:∀ i,sp'.A i=sp.A (f i)∧sp'.B i=sp.B (f i)∧sp'.R i=sp.R (f i)∧sp'.B' i=sp.B' (f i)):l5 g sp':=fun i vs bs hv hb=>by
 obtain ⟨e1,e2,e3,e4⟩:=e i
 rw [e1] at hv
 rw [e2] at hb
 rw [e3,e4]
 exact h (f i) vs bs hv hb
def obO:O→Ob
 | .num n d=>⟨1,j6 n,j5 d,([],[]),[],.nil⟩
 | .sy s=>⟨2,[],[],s,[],.nil⟩
 | .tx t=>⟨3,[],[],([],[]),t,.nil⟩
 | .co a d=>⟨4,[],[],([],[]),[],.node (obO a).k (obO a).nu (obO a).de (obO a).s (obO a).t (obO a).ps (.node (obO d).k (obO d).nu (obO d).de (obO d).s (obO d).t (obO d).ps .nil)⟩
 | .no=>⟨0,[],[],([],[]),[],.nil⟩
theorem c5u (a d:O):(obO (.co a d)).ps.obs=[obO a,obO d]:=rfl
theorem c7p:∀ o:O,(obO o).g=o.g
 | .num _ _=>rfl
 | .sy _=>rfl
 | .tx _=>rfl
 | .no=>rfl
 | .co a d=>by
  rw [Ob.g_eq,c5u,List.map_cons,List.map_cons,c7p a,c7p d];rfl
theorem c2c:∀ o:O,(obO o).nd=o.size
 | .num _ _=>rfl
 | .sy _=>rfl
 | .tx _=>rfl
 | .no=>rfl
 | .co a d=>by rw [Ob.nd_eq,c5u];simp only [];rw [c2c a,c2c d];rfl
theorem d8a:l5 89 (spO fun o=>.c (.i .i64 (min o.size 3001:Nat))):=c6k.via (fun o=>⟨obO o,trivial⟩) fun (o:O)=>⟨(congrArg (fun x=>[GV.a x]) (c7p o)).symm,rfl,(congrArg (fun x:Nat=>y4.ret (.c (.i .i64 (min x 3001:Nat)))) (c2c o)).symm,rfl⟩
def a6y (p:O × Nat):List G:=[.i .i64 (p.2:Int)]
def a69 (p:O × Nat):List G:=p.1.g
theorem c27 (p:O × Nat):(a69 p).length=7:=O.g_len _
def rdR:Except (Int × Nat) (List (O × Nat))→y4
 | .ok l=>.ret (.t [.sl 7 (l.map a69),.sl 1 (l.map a6y)])
 | .error (e,p)=>P4 e p
def c2p (R:List Pk→i7→i7→y4):Sp where
 ι:={ p:List Pk × i7 × i7 // a49 p.1∧p.2.2.length < 8000 }
 A p:=[.sl 2 (p.1.1.map pg),.c (.s p.1.2.1),.c (.s p.1.2.2)]
 B _:=[]
 R p:=R p.1.1 p.1.2.1 p.1.2.2
 B' _:=[]
 inj i j vs bs h k _ _:=by
  obtain ⟨_,_,h1,k1,h,k⟩:=h.two k
  obtain ⟨_,_,h2,k2,h,k⟩:=h.two k
  obtain ⟨_,_,h3,k3,h,k⟩:=h.two k
  rw [a7u (h1.sl_inj k1),H3 h2 k2,H3 h3 k3];exact ⟨rfl,rfl⟩
theorem d7t {U:w7} {P:G3→List Bx→Prop} {α:Type} {f:α→List G} {n:Nat} {xs:List α} {x:α} {q:Q} {t:j8 Q} {K:j8 Q→Om} (ht:u6 n (xs.map f) t 0) (hr:U=CU→Row (f x) q) (hn:(f x).length=n) (hb:xs.length+2≤281474976710656)
  (h:∀ t',u6 n ((xs ++ [x]).map f) t' 0→j3 U (K t') P):j3 U (U.aT (.node q .nil .nil) 1 t (U.nAdd 0 xs.length) 0 K) P :=
 Z5 ht hr hn (by simp) (by simp;omega) fun t' k=>h t' (by rw [List.map_append];exact k)
theorem e9o (hst:l5 203 T7) (hdl:l5 136 b47) (hcr:l5 158 c3h):l5 50 (c2p fun L cur s=>rdR (M5 L cur s)):=v7 (fun fn h=>e4b h) [(55,_),(86,_),(87,_),(88,_),(89,_)] (.cons (d7c hst hdl hcr) (.cons c7w (.cons c1t (.cons (e79 hst) (.cons d8a .nil))))) fun U fn hfn ⟨(L,cur,s),hL,hs⟩ vs bs hv hb=>by
 have hsc:=hfn 55 _ rfl
 have hp:=hfn 86 _ rfl
 have hw:=hfn 87 _ rfl
 have ho:=hfn 88 _ rfl
 have hno:=hfn 89 _ rfl
 have hL:a49 L:=hL
 have hs:s.length < 8000:=hs
 have hv:l9 [.sl 2 (L.map pg),.c (.s cur),.c (.s s)] vs:=hv
 have hb:RBs [] bs:=hb
 show j3 U _ fun v bs'=>m8 (rdR (M5 L cur s)) v∧RBs [] bs'
 unfold r50
 (refine Zq ?_;with_reducible repeat' first|intro _|apply aI)
 cases htk:C4 s with
 | error er =>
  obtain ⟨er,p⟩:=er
  have e1:M5 L cur s=.error (er,p):=by unfold M5;rw [htk]
  rw [e1]
  exact G1 hsc ⟨s,hs⟩ (r:=.fl 122 er p) (by show b6i (C4 s)=_;rw [htk];rfl) j9 .nil fun _ hv=>N6 hv .nil
 | ok T =>
  have hT:=d1q htk
  have hTl:=hT.len
  have e1:M5 L cur s=a5d L cur T (T.length+1) 0 []:=by unfold M5;rw [htk]
  refine j4 hsc ⟨s,hs⟩ (r:=.sl 5 (T.map x3)) (by show b6i (C4 s)=_;rw [htk];rfl) j9 .nil fun _ _ _ _=>?_
  (refine Zq ?_;with_reducible repeat' first|intro _|apply aI)
  refine F8 (fun (i:Nat) vs bs=>∃ (m:Nat) (acc:List (O × Nat)) (v1 v2:V) (b0:Bx),vs=[.ptr 0 0,v1,v2]∧bs=[b0,.tok acc.length 7,.tok acc.length 1]∧RB (K7 L cur T i) b0∧Z4 1 7 (acc.map a69) v1∧Z4 2 1 (acc.map a6y) v2∧i < T.length∧T.length+1≤m+i∧acc.length≤100∧M5 L cur s=a5d L cur T m i acc) (fun i=>T.length - i) 0
   ⟨_,[],_,_,_,rfl,rfl,pzC (by assumption) (by assumption) rfl,.b rfl,.b rfl,hT.pos,Nat.le_refl _,by decide,e1⟩ (by simp only [B8];omega) ?_
  rintro self i _ _ ⟨m,acc,v1,v2,b0,rfl,rfl,hb0,ht1,ht2,hi,hm,ha,he⟩ ih
  have hb0:RB [.l (L.map pg),.s cur,.l (T.map x3),.i .i64 (i:Int)] b0:=hb0
  obtain ⟨m,rfl⟩:∃ m',m=m'+1:=⟨m - 1,by omega⟩
  rw [a5d] at he
  have hof:R7 L cur T (2 * T.length+2) 0 i=F6 L cur T 0 i:=rfl
  rw [hof] at he
  have e9:=c56 (L:=L) (cur:=cur) (d:=0) hi
  generalize htk0:T.getD i t0=t at *
  (refine Zy ?_;with_reducible repeat' first|intro _|apply aI)
  refine j4 hp ⟨(L,cur,T,i),hL,hT,hi⟩ (r:=.a (x3 t)) (by show y4.ret (.a (x3 (T.getD i t0)))=_;rw [htk0]) j9 (RB.bx (by assumption) rfl) fun _ _ hv1 hb1=>?_
  have hb1:RBs [[.l (L.map pg),.s cur,.l (T.map x3),.i .i64 (i:Int)]] _:=hb1
  have hv1:RV (.a [.i .i64 t.kind,.i .i64 (t.pos:Int),.s t.pkg,.s t.text,.s t.den]) _:=hv1
  (refine Zy ?_;with_reducible repeat' first|intro _|apply aI)
  ·rw [if_pos ‹t.kind=0›] at he
   rw [he]
   exact l6 ⟨.ret _ _ (.t _ _ (.cons _ _ _ _ (.sl _ _ _ _ _ (by simp) (by assumption)) (.cons _ _ _ _ (.sl _ _ _ _ _ (by simp) (by assumption)) .nil))),.nil⟩
  ·have k0:¬t.kind=0:=‹_›
   rw [if_neg k0] at he
   refine j4 hp ⟨(L,cur,T,i),hL,hT,hi⟩ (r:=.a (x3 t)) (by show y4.ret (.a (x3 (T.getD i t0)))=_;rw [htk0]) j9 (RB.bx (by assumption) rfl) fun _ _ hv1 hb1=>?_
   have hb1:RBs [[.l (L.map pg),.s cur,.l (T.map x3),.i .i64 (i:Int)]] _:=hb1
   have hv1:RV (.a [.i .i64 t.kind,.i .i64 (t.pos:Int),.s t.pkg,.s t.text,.s t.den]) _:=hv1
   have bad:∀ {e e':Int} {vs:List V} {bs:List Bx} {K:V→List Bx→Om},M5 L cur s=.error (e',t.pos)→R8 e t=e'→l9 [.c (.i .i64 e),.a (x3 t)] vs→RBs [] bs→j3 U (U.bind (fn 87 vs bs) K fun v=>some (.pan (U.rn0 v),[])) fun v bs'=>m8 (rdR (M5 L cur s)) v∧RBs [] bs':=fun {e e' vs bs K} he hk hv hb=>by
    rw [he]
    exact G1 hw (e,t) (r:=.fl 122 e' t.pos) (by show P4 (R8 e t) t.pos=_;rw [hk]) hv hb fun _ hv=>N6 hv .nil
   (refine Zy ?_;with_reducible repeat' first|intro _|apply aI)
   refine H6 (fun vs bs=>∃ (x y:j8 Q) (b0 b3:Bx),vs=[.ptr 0 0,.slice x 7 0 acc.length (.tok 1),.slice y 1 0 acc.length (.tok 2),.ptr 3 0]∧bs=[b0,.tok acc.length 7,.tok acc.length 1,b3]∧RB (K7 L cur T i) b0∧RB (x3 t) b3∧u6 7 (acc.map a69) x 0∧u6 1 (acc.map a6y) y 0∧¬(100≤acc.length∧t.kind ≠ 2∧t.kind ≠ 3)) ?_ ?_
   ·rintro _ _ ⟨x,y,b0,b3,rfl,rfl,hb0,hb3,hx,hy,hlim⟩
    have hb0:RB [.l (L.map pg),.s cur,.l (T.map x3),.i .i64 (i:Int)] b0:=hb0
    have hb3:RB [.i .i64 t.kind,.i .i64 (t.pos:Int),.s t.pkg,.s t.text,.s t.den] b3:=hb3
    rw [if_neg hlim] at he
    (refine Zy ?_;with_reducible repeat' first|intro _|apply aI)
    cases hob:F6 L cur T 0 i with
    | error er =>
     obtain ⟨er,p⟩:=er
     rw [hob] at he
     rw [he]
     exact G1 ho ⟨((L,cur,T,i),0),⟨hL,hT,hi⟩,Nat.zero_le _⟩ (r:=.fl 122 er p) (by show Q0 (F6 L cur T 0 i)=_;rw [hob];rfl) j9 (RB.bx (by assumption) rfl) fun _ hv=>N6 hv .nil
    | ok oj =>
     obtain ⟨o,j⟩:=oj
     have hj:=b6r hT hob
     rw [hob] at he e9
     simp only [] at he
     have k23:¬(t.kind=2∨t.kind=3):=fun h=>by rw [if_neg k0,if_pos h] at e9;cases e9
     refine j4 ho ⟨((L,cur,T,i),0),⟨hL,hT,hi⟩,Nat.zero_le _⟩ (r:=.a o.g) (by show Q0 (F6 L cur T 0 i)=_;rw [hob];rfl) j9 (RB.bx (by assumption) rfl) fun _ _ hv3 hb3'=>?_
     have hb3':RBs [K7 L cur T (a0j i (F6 L cur T 0 i))] _:=hb3'
     rw [hob] at hb3'
     have hb3':RBs [[.l (L.map pg),.s cur,.l (T.map x3),.i .i64 (j:Int)]] _:=hb3'
     refine U4 hv3 (O.g_len _) fun _ _=>?_
     (refine Zy ?_;with_reducible repeat' first|intro _|apply aI)
     refine H6 (fun vs bs=>∃ (x y:j8 Q) (b0 b3 b4:Bx),vs=[.ptr 0 0,.slice x 7 0 acc.length (.tok 1),.slice y 1 0 acc.length (.tok 2),.ptr 3 0,.ptr 4 0]∧bs=[b0,.tok acc.length 7,.tok acc.length 1,b3,b4]∧RB (K7 L cur T j) b0∧RB (x3 t) b3∧RB o.g b4∧u6 7 (acc.map a69) x 0∧u6 1 (acc.map a6y) y 0∧¬3000 < o.size) ?_ ?_
     ·rintro _ _ ⟨x,y,b0,b3,b4,rfl,rfl,hb0,hb3,hb4,hx,hy,hsz⟩
      have hb0:RB [.l (L.map pg),.s cur,.l (T.map x3),.i .i64 (j:Int)] b0:=hb0
      have hb3:RB [.i .i64 t.kind,.i .i64 (t.pos:Int),.s t.pkg,.s t.text,.s t.den] b3:=hb3
      rw [if_neg hsz] at he
      (refine Zy ?_;with_reducible repeat' first|intro _|apply aI)
      refine a1f hb4 (O.g_len _) fun _ _=>?_
      (refine Zy ?_;with_reducible repeat' first|intro _|apply aI)
      refine d7t (f:=a69) (x:=(o,t.pos)) (by assumption) (fun _=>a45 (by rw [c27];decide) (by assumption)) (c27 _) (by omega) fun _ _=>?_
      (refine Zy ?_;with_reducible repeat' first|intro _|apply aI)
      refine d7t (f:=a6y) (x:=(o,t.pos)) (by assumption) (fun _=>I9 (by assumption)) rfl (by omega) fun _ _=>?_
      (refine Zy ?_;with_reducible repeat' first|intro _|apply aI)
      exact ih j _ _ ⟨m,acc ++ [(o,t.pos)],_,_,_,rfl,by rw [List.length_append];rfl,.opa _ _ _ rfl (by assumption),.a _ _ (by simp) (by assumption),.a _ _ (by simp) (by assumption),hj.2,by omega,by simp;omega,he⟩ (by omega)
     ·intro c3 hc3
      refine a07 (gs:=o.g) (by assumption) fun _ _=>?_
      refine j4 hno o (r:=.c (.i .i64 (min o.size 3001:Nat))) rfl oA .nil fun _ _ _ _=>?_
      (refine Zy ?_;with_reducible repeat' first|intro _|apply aI)
      ·have hsz:3000 < o.size:=by have:=‹(3000:Int) < ((min o.size 3001:Nat):Int)›;omega
       rw [if_pos hsz] at he
       exact bad he (if_neg k0) (.cons _ _ _ _ (.i _ _) (.cons _ _ _ _ (.a _ _ _ rfl (by assumption)) .nil)) .nil
      ·have hsz:¬3000 < o.size:=by have:=‹¬(3000:Int) < ((min o.size 3001:Nat):Int)›;omega
       exact hc3 _ _ ⟨_,_,_,_,_,rfl,rfl,.opa _ _ _ rfl (by assumption),.opa _ _ _ rfl (by assumption),.opa _ _ _ (O.g_len _).symm (by assumption),by assumption,by assumption,hsz⟩
   ·intro c hc
    refine H6 (fun vs bs=>∃ (z:Bool) (x y:j8 Q) (v:V) (b0 b3:Bx),vs=[.ptr 0 0,.slice x 7 0 acc.length (.tok 1),.slice y 1 0 acc.length (.tok 2),.ptr 3 0,v]∧RV (.c (.b z)) v∧bs=[b0,.tok acc.length 7,.tok acc.length 1,b3]∧RB (K7 L cur T i) b0∧RB (x3 t) b3∧u6 7 (acc.map a69) x 0∧u6 1 (acc.map a6y) y 0∧(z=true↔100≤acc.length∧t.kind ≠ 2∧t.kind ≠ 3)) ?_ ?_
    ·rintro _ _ ⟨z,x,y,v,b0,b3,rfl,hvz,rfl,hb0,hb3,hx,hy,hz⟩
     have hb0:RB [.l (L.map pg),.s cur,.l (T.map x3),.i .i64 (i:Int)] b0:=hb0
     have hb3:RB [.i .i64 t.kind,.i .i64 (t.pos:Int),.s t.pkg,.s t.text,.s t.den] b3:=hb3
     (refine Zy ?_;with_reducible repeat' first|intro _|apply aI)
     ·rw [if_pos (hz.1 ‹_›)] at he
      exact bad he (if_neg k0) (.cons _ _ _ _ (.i _ _) (.cons _ _ _ _ (.a _ _ _ rfl (by assumption)) .nil)) .nil
     ·exact hc _ _ ⟨_,_,_,_,rfl,rfl,.opa _ _ _ rfl (by assumption),.opa _ _ _ rfl (by assumption),by assumption,by assumption,fun h=>‹¬z=true› (hz.2 h)⟩
    ·intro c2 hc2
     (refine Zy ?_;with_reducible repeat' first|intro _|apply aI)
     ·exact hc2 _ _ ⟨false,_,_,_,_,_,rfl,.kn _,rfl,.opa _ _ _ rfl (by assumption),.opa _ _ _ rfl (by assumption),by assumption,by assumption,by simp;omega⟩
     ·exact fun e=>hc2 _ _ ⟨decide (t.kind ≠ 3),_,_,_,_,_,rfl,Q1 (by subst e;rw [a4k,a0r];simp),rfl,.opa _ _ _ rfl (by assumption),.opa _ _ _ rfl (by assumption),by assumption,by assumption,by rw [decide_eq_true_iff];omega⟩ e
     ·exact hc2 _ _ ⟨false,_,_,_,_,_,rfl,.kn _,rfl,.opa _ _ _ rfl (by assumption),.opa _ _ _ rfl (by assumption),by assumption,by assumption,by simp;omega⟩
end
end Go.Proofs.YtffaodopiifbkaaGreatDoor
