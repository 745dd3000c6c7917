/- The reference's reader: a token. -/
import Derived.Test.YtffaodopiifbkaaGreatDoorCJ1
import Derived.Test.YtffaodopiifbkaaGreatDoorCR5
import Derived.Test.YtffaodopiifbkaaGreatDoorCV
import Derived.Test.YtffaodopiifbkaaGreatDoorCJ0
set_option linter.all false
namespace Go.Proofs.YtffaodopiifbkaaGreatDoor
open Go.Abs LQ
set_option maxRecDepth 100000
set_option maxHeartbeats 8000000
noncomputable section
abbrev T5:=B5 × Nat × Int × Int
def J8 (s:i7) (c:Int) (i:Nat):i7 × Nat × Int × Int:=match encl s c i [] with
 | .ok (l,_)=>(F1 l,a0p s c i,0,0)
 | .error (e,p)=>([],a0p s c i,e,p)
theorem c1a (s:i7) (c:Int) (i:Nat):N0 s c i []=.ret (.t [.c (.s (J8 s c i).1),.c (.i .i64 ((J8 s c i).2.1:Int)),D1 (J8 s c i).2.2.1 (J8 s c i).2.2.2]):=by
 unfold N0 J8
 cases encl s c i [] <;> rfl
def P3 (s:i7) (i:Nat) (pkg:i7) (k:Nat):T5 :=
 if k+2 < s.length then
  if bt s (k+2)=124 then (⟨6,i,pkg,(J8 s 124 (k+2+1)).1,[]⟩,(J8 s 124 (k+2+1)).2.1,if (J8 s 124 (k+2+1)).2.2.1=0 then C8 ⟨6,i,pkg,(J8 s 124 (k+2+1)).1,[]⟩ true else (J8 s 124 (k+2+1)).2.2)
  else if y8 (bt s (k+2))=true then (⟨6,i,pkg,(s.take (l7 s (k+2))).drop (k+2),[]⟩,l7 s (k+2),C8 ⟨6,i,pkg,(s.take (l7 s (k+2))).drop (k+2),[]⟩ false)
  else (⟨6,i,pkg,[],[]⟩,k+2,12,((k+2:Nat):Int))
 else (⟨6,i,pkg,[],[]⟩,k+2,11,s.length)
def b3t (r:T5):y4:=.ret (.t [.a (x3 r.1),.c (.i .i64 (r.2.1:Int)),D1 r.2.2.1 r.2.2.2])
theorem c99 {U:w7} {P:G3→List Bx→Prop} {fn:FuncId→E1} {g:FuncId} {sp:Sp} (hg:Ans fn g sp) (i:sp.ι) {vs:List V} {bs:List Bx} {K:V→List Bx→Om} {Kp:V→Om} {r:GV} (hr:sp.R i=.ret r) (hv:U=CU→l9 (sp.A i) vs) (hb:RBs (sp.B i) bs)
  (hk:∀ v bs',RV r v→RBs (sp.B' i) bs'→j3 U (K v bs') P):j3 U (U.bind (fn g vs bs) K Kp) P:=fun e=>j4 hg i hr (hv e) hb hk e
theorem e4x {U:w7} {P:G3→List Bx→Prop} {n:Nat} {gs:List G} {b:Bx} {K:Q→Om} (hb:U=CU→RB gs b) (hn:gs.length=n) (h:∀ q,B6 gs q 0→j3 U (K q) P):j3 U (U.uBo n b K) P:=fun e=>a1f (hb e) hn h e
theorem a7j {U:w7} {P:G3→List Bx→Prop} {K:Q→Om} (h:∀ q,B6 [.i .i64 0,.i .i64 0,.s [],.s [],.s []] q 0→j3 U (K q) P):j3 U (U.uBo 5 (.cells [.int .i64 0,.int .i64 0,.str 0 0,.str 0 0,.str 0 0]) K) P:=a1f (.cells _ _ (by exact (show l9 [.c (.i .i64 0),.c (.i .i64 0),.c (.s []),.c (.s []),.c (.s [])] _ by (exact j9)))) rfl h
theorem a2e {U:w7} {P:G3→List Bx→Prop} {K:Q→Om} (h:∀ q,B6 [.i .i64 0,.i .i64 0] q 0→j3 U (K q) P):j3 U (U.uBo 2 (.cells [.int .i64 0,.int .i64 0]) K) P:=a1f (.cells _ _ (by exact (show l9 [.c (.i .i64 0),.c (.i .i64 0)] _ by (exact j9)))) rfl h
theorem H8 (t:B5) (k:Nat) (ep:Int × Int) {v1 v3:V} {n:Int} {U:w7} (hn:n=k) (h1:U=CU→RV (.a (x3 t)) v1) (h3:RV (D1 ep.1 ep.2) v3):j3 U (some (.ret (.tuple [v1,.int .i64 n,v3]),[])) fun v bs'=>m8 (b3t (t,k,ep)) v∧RBs [] bs':=fun e=>by
 subst hn
 exact l6 ⟨.ret _ _ (.t _ _ (.cons _ _ _ _ (h1 e) (.cons _ _ _ _ (.i _ _) (.cons _ _ _ _ h3 .nil)))),.nil⟩ e
theorem S5 (k:Int) (p:Nat) (g t d:i7) {vs:List V} (h:l9 [.c (.i .i64 k),.c (.i .i64 (p:Int)),.c (.s g),.c (.s t),.c (.s d)] vs):RV (.a (x3 ⟨k,p,g,t,d⟩)) (.agg vs):=.ag _ _ h
theorem S6 (k:Int) (p:Nat) (g t d:i7) {x:Q} (h:B6 [.i .i64 k,.i .i64 (p:Int),.s g,.s t,.s d] x 0):RV (.a (x3 ⟨k,p,g,t,d⟩)) (.a x 5):=.a _ _ _ rfl h
theorem K6 (e p:Int) {x:Q} (h:B6 [.i .i64 e,.i .i64 p] x 0):RV (D1 e p) (.a x 2):=.a _ _ _ rfl h
def f1p:Sp where
 ι:={ p:(i7 × Nat) × i7 × Nat // (p.2.2+2≤p.1.1.length∧p.1.1.length < 90000)∧p.2.1.length < 90000 }
 A p:=[.c (.s p.1.1.1),.a (x3 ⟨0,p.1.1.2,[],[],[]⟩),.c (.s p.1.2.1),.c (.i .i64 (p.1.2.2:Int))]
 B _:=[]
 R p:=b3t (P3 p.1.1.1 p.1.1.2 p.1.2.1 p.1.2.2)
 B' _:=[]
 inj i j vs bs h k _ _:=by
  obtain ⟨_,_,h1,k1,h,k⟩:=h.two k
  obtain ⟨_,_,h2,k2,h,k⟩:=h.two k
  obtain ⟨_,_,h3,k3,h,k⟩:=h.two k
  obtain ⟨_,_,h4,k4,h,k⟩:=h.two k
  have e2:=a4r (h2.a_inj k2)
  have e4:=M7 h4 k4
  simp only [B5.mk.injEq,true_and,and_true] at e2
  rw [H3 h1 k1,e2,H3 h3 k3,show i.1.2.2=j.1.2.2 by omega];exact ⟨rfl,rfl⟩
theorem e6j:l5 100 f1p:=v7 (fun fn h=>e0o h) [(53,_),(96,_),(97,_),(98,_),(99,_)] (.cons b5v (.cons d60 (.cons c5x (.cons b0j (.cons c9h .nil))))) fun U fn hfn ⟨((s,i),pkg,k),⟨h1,h2⟩,h3⟩ vs bs hv hb=>by
 have hbd:=hfn 53 _ rfl
 have hen:=hfn 96 _ rfl
 have hnm:=hfn 97 _ rfl
 have hco:=hfn 98 _ rfl
 have hwd:=hfn 99 _ rfl
 have hv:l9 [.c (.s s),.a [.i .i64 0,.i .i64 (i:Int),.s [],.s [],.s []],.c (.s pkg),.c (.i .i64 (k:Int))] vs:=hv
 have hb:RBs [] bs:=hb
 have h1:k+2≤s.length:=h1
 have h2:s.length < 90000:=h2
 have h3:pkg.length < 90000:=h3
 show j3 U _ fun v bs'=>m8 (b3t (P3 s i pkg k)) v∧RBs [] bs'
 unfold d6p
 have hbt:((s.getD (k+2) 0).toNat:Int)=bt s (k+2):=rfl
 have e2:((k:Int)+2).toNat=k+2:=by omega
 (refine Zq ?_;with_reducible repeat' first|intro _|apply And.intro)
 ·refine j4 hbd (11,(s.length:Int)) (r:=D1 11 s.length) rfl (by (exact j9)) .nil fun _ _ hv5 _=>?_
  have hv5:RV (.a [.i .i64 11,.i .i64 (s.length:Int)]) _:=hv5
  (refine Zq ?_;with_reducible repeat' first|intro _|apply And.intro)
  rw [show P3 s i pkg k=(⟨6,i,pkg,[],[]⟩,k+2,11,(s.length:Int)) by unfold P3;rw [if_neg (by omega)]]
  exact H8 _ _ _ (by simp) (fun e=>S5 6 i pkg [] [] (by subst e;(exact W6))) (K6 11 s.length (by assumption))
 ·have hlt:k+2 < s.length:=by omega
  have hc:bt s (k+2)=124:=by rw [← hbt,← e2];assumption
  generalize hr:J8 s 124 (k+2+1)=r
  obtain ⟨x,n,e,p⟩:=r
  refine j4 hen ⟨((s,k+2+1),124),⟨by show k+2+1≤s.length;omega,h2⟩,(by decide:(124:Int) ≠ 92)⟩ (r:=.t [.c (.s x),.c (.i .i64 (n:Int)),D1 e p]) (by show N0 s 124 (k+2+1) []=_;rw [c1a,hr]) (.cons _ _ _ _ (.s _ _ _ rfl rfl) (.cons _ _ _ _ (by simp;exact .i _ _) (.cons _ _ _ _ (.i _ _) .nil))) .nil fun _ _ hv5 _=>?_
  have hv5:RV (.t [.c (.s x),.c (.i .i64 (n:Int)),.a [.i .i64 e,.i .i64 p]]) _:=hv5
  have eq:P3 s i pkg k=(⟨6,i,pkg,x,[]⟩,n,if e=0 then C8 ⟨6,i,pkg,x,[]⟩ true else (e,p)):=by
   unfold P3
   rw [if_pos hlt,if_pos hc,hr]
  rw [eq]
  (refine Zq ?_;with_reducible repeat' first|intro _|apply And.intro)
  ·rw [if_pos ‹_›]
   refine c99 hnm ⟨(⟨6,i,pkg,x,[]⟩,true),h3⟩ (r:=D1 (C8 ⟨6,i,pkg,x,[]⟩ true).1 (C8 ⟨6,i,pkg,x,[]⟩ true).2) rfl (fun e=>.cons _ _ _ _ (S5 6 i pkg x [] (by subst e;(exact W6))) (by (exact j9))) .nil fun _ _ hv6 _=>?_
   have hv6:RV (.a [.i .i64 (C8 ⟨6,i,pkg,x,[]⟩ true).1,.i .i64 (C8 ⟨6,i,pkg,x,[]⟩ true).2]) _:=hv6
   (refine Zq ?_;with_reducible repeat' first|intro _|apply And.intro)
   refine e4x (gs:=x3 ⟨6,i,pkg,x,[]⟩) (fun e=>.cells _ _ (by subst e;exact (show l9 [.c (.i .i64 6),.c (.i .i64 (i:Int)),.c (.s pkg),.c (.s x),.c (.s [])] _ by (exact W6)))) rfl fun _ _=>?_
   (refine Zq ?_;with_reducible repeat' first|intro _|apply And.intro)
   refine a7j fun _ _=>?_
   (refine Zq ?_;with_reducible repeat' first|intro _|apply And.intro)
   refine a2e fun _ _=>?_
   (refine Zq ?_;with_reducible repeat' first|intro _|apply And.intro)
   exact H8 ⟨6,i,pkg,x,[]⟩ n (C8 ⟨6,i,pkg,x,[]⟩ true) rfl (fun _=>S6 6 i pkg x [] (by assumption)) (K6 _ _ (by assumption))
  ·rw [if_neg ‹_›]
   refine e4x (gs:=x3 ⟨6,i,pkg,x,[]⟩) (fun e=>.cells _ _ (by subst e;exact (show l9 [.c (.i .i64 6),.c (.i .i64 (i:Int)),.c (.s pkg),.c (.s x),.c (.s [])] _ by (exact W6)))) rfl fun _ _=>?_
   (refine Zq ?_;with_reducible repeat' first|intro _|apply And.intro)
   refine a7j fun _ _=>?_
   (refine Zq ?_;with_reducible repeat' first|intro _|apply And.intro)
   refine a2e fun _ _=>?_
   (refine Zq ?_;with_reducible repeat' first|intro _|apply And.intro)
   exact H8 ⟨6,i,pkg,x,[]⟩ n (e,p) rfl (fun _=>S6 6 i pkg x [] (by assumption)) (K6 e p (by assumption))
 ·have hlt:k+2 < s.length:=by omega
  have hc:¬bt s (k+2)=124:=by rw [← hbt,← e2];assumption
  have hw:=F9 s (k+2) h1
  refine j4 hco (bt s (k+2)) (r:=.c (.b (y8 (bt s (k+2))))) rfl (.cons _ _ _ _ (.i _ _) .nil) .nil fun _ _ _ _=>?_
  (refine Zq ?_;with_reducible repeat' first|intro _|apply And.intro)
  ·have hk:y8 (bt s (k+2))=true:=‹_›
   generalize hj:l7 s (k+2)=j
   rw [hj] at hw
   refine j4 hwd ⟨(s,k+2),h1,h2⟩ (r:=.c (.i .i64 (j:Int))) (by show y4.ret (.c (.i .i64 (l7 s (k+2):Int)))=_;rw [hj]) (.cons _ _ _ _ (.s _ _ _ rfl rfl) (.cons _ _ _ _ (by simp;exact .i _ _) .nil)) .nil fun _ _ _ _=>?_
   (refine Zq ?_;with_reducible repeat' first|intro _|apply And.intro)
   rw [show (s.take (j:Int).toNat).drop ((k:Int)+2).toNat=(s.take j).drop (k+2) from rfl]
   generalize hx:(s.take j).drop (k+2)=x
   have eq:P3 s i pkg k=(⟨6,i,pkg,x,[]⟩,j,C8 ⟨6,i,pkg,x,[]⟩ false):=by
    unfold P3
    rw [if_pos hlt,if_neg hc,if_pos hk,hj,hx]
   rw [eq]
   refine c99 hnm ⟨(⟨6,i,pkg,x,[]⟩,false),h3⟩ (r:=D1 (C8 ⟨6,i,pkg,x,[]⟩ false).1 (C8 ⟨6,i,pkg,x,[]⟩ false).2) rfl (fun e=>.cons _ _ _ _ (S5 6 i pkg x [] (by subst e;(exact W6))) (by (exact j9))) .nil fun _ _ hv6 _=>?_
   have hv6:RV (.a [.i .i64 (C8 ⟨6,i,pkg,x,[]⟩ false).1,.i .i64 (C8 ⟨6,i,pkg,x,[]⟩ false).2]) _:=hv6
   (refine Zq ?_;with_reducible repeat' first|intro _|apply And.intro)
   exact H8 _ _ _ rfl (fun e=>S5 6 i pkg x [] (by subst e;(exact W6))) (K6 _ _ (by assumption))
  ·refine j4 hbd (12,((k+2:Nat):Int)) (r:=D1 12 ((k+2:Nat):Int)) rfl (.cons _ _ _ _ (.i _ _) (.cons _ _ _ _ (by simp;exact .i _ _) .nil)) .nil fun _ _ hv5 _=>?_
   have hv5:RV (.a [.i .i64 12,.i .i64 ((k+2:Nat):Int)]) _:=hv5
   (refine Zq ?_;with_reducible repeat' first|intro _|apply And.intro)
   have eq:P3 s i pkg k=(⟨6,i,pkg,[],[]⟩,k+2,12,((k+2:Nat):Int)):=by
    unfold P3
    rw [if_pos hlt,if_neg hc,if_neg ‹_›]
   rw [eq]
   exact H8 _ _ _ (by simp) (fun e=>S5 6 i pkg [] [] (by subst e;(exact W6))) (K6 _ _ (by assumption))
end
end Go.Proofs.YtffaodopiifbkaaGreatDoor
namespace Go.Proofs.YtffaodopiifbkaaGreatDoor
open Go.Abs LQ
set_option maxRecDepth 100000
set_option maxHeartbeats 8000000
noncomputable section
def a8e (i:Nat) (w:i7) (k:Nat):T5 :=
 if w=[46] then (⟨3,i,[],[],[]⟩,k,0,0)
 else if (l8 w).2.2=true then
  if plain (l8 w).2.1=[48] then (⟨0,i,[],[],[]⟩,k,12,i)
  else (⟨5,i,[],(u9 (plain (l8 w).1) (plain (l8 w).2.1)).1,(u9 (plain (l8 w).1) (plain (l8 w).2.1)).2⟩,k,
   if 100 < G4 (u9 (plain (l8 w).1) (plain (l8 w).2.1)).1∨100 < G4 (u9 (plain (l8 w).1) (plain (l8 w).2.1)).2 then (2,(i:Int)) else (0,0))
 else (⟨6,i,[],w,[]⟩,k,C8 ⟨6,i,[],w,[]⟩ false)
def R9 (s:i7) (i:Nat):T5 :=
 if bt s i=40 then (⟨1,i,[],[],[]⟩,i+1,0,0)
 else if bt s i=41 then (⟨2,i,[],[],[]⟩,i+1,0,0)
 else if bt s i=39 then (⟨4,i,[],[],[]⟩,i+1,0,0)
 else if bt s i=34 then (⟨7,i,[],(J8 s 34 (i+1)).1,[]⟩,(J8 s 34 (i+1)).2.1,if (J8 s 34 (i+1)).2.2.1=0∧200 < (J8 s 34 (i+1)).1.length then (2,(i:Int)) else (J8 s 34 (i+1)).2.2)
 else if bt s i=124 then (⟨6,i,[],(J8 s 124 (i+1)).1,[]⟩,(J8 s 124 (i+1)).2.1,if (J8 s 124 (i+1)).2.2.1=0 then C8 ⟨6,i,[],(J8 s 124 (i+1)).1,[]⟩ true else (J8 s 124 (i+1)).2.2)
 else if y8 (bt s i)=true then
  if has s (l7 s i) 58 58=true then P3 s i ((s.take (l7 s i)).drop i) (l7 s i)
  else a8e i ((s.take (l7 s i)).drop i) (l7 s i)
 else (⟨0,i,[],[],[]⟩,i,12,i)
theorem b3l {s:i7} {c:Int} {i:Nat} {acc:List Int} {e:Int} {p:Nat} (h:encl s c i acc=.error (e,p)):e ≠ 0:=by
 fun_induction encl s c i acc with
 | case1=>cases h
 | case2 i acc h1 h2 h3 ih=>exact ih h
 | case3=>injection h with h;injection h with h1 h2;omega
 | case4 i acc h1 h2 h3 h4 h5 ih=>exact ih h
 | case5=>injection h with h;injection h with h1 h2;omega
 | case6=>injection h with h;injection h with h1 h2;omega
def exT (r:T5):Except (Int × Nat) (B5 × Nat):=if r.2.2.1=0 then .ok (r.1,r.2.1) else .error (r.2.2.1,r.2.2.2.toNat)
theorem a9f (t:B5) (b:Bool) (k:Nat):exT (t,k,C8 t b)=if p9 t.text t.pkg b=0 then .ok (t,k) else .error (p9 t.text t.pkg b,t.pos):=by
 unfold exT C8
 by_cases h:p9 t.text t.pkg b=0
 ·rw [if_pos h,if_pos h];rfl
 ·rw [if_neg h,if_neg h];simp only [];rw [if_neg h,Int.toNat_natCast]
theorem b7q {s:i7} {c:Int} {i j:Nat} {l:List Int} (h:encl s c i []=.ok (l,j)):J8 s c i=(F1 l,j,0,0):=by
 unfold J8;rw [h];simp only [];rw [e1r h]
theorem b28 {s:i7} {c:Int} {i p:Nat} {e:Int} (h:encl s c i []=.error (e,p)):J8 s c i=([],a0p s c i,e,(p:Int)):=by
 unfold J8;rw [h]
theorem b10 {t:B5} {k:Nat} {p:Int}:exT (t,k,0,p)=.ok (t,k):=by unfold exT;rw [if_pos rfl]
theorem a1d {t:B5} {k:Nat} {e:Int} {p:Nat} (h:e ≠ 0):exT (t,k,e,(p:Int))=.error (e,p):=by unfold exT;rw [if_neg h];rw [Int.toNat_natCast]
theorem e0a (s:i7) (i:Nat) (pkg:i7) (k:Nat):H4 s i pkg k=exT (P3 s i pkg k):=by
 unfold H4 P3
 by_cases h1:k+2 < s.length
 ·rw [if_pos h1,if_pos h1]
  by_cases h2:bt s (k+2)=124
  ·rw [if_pos h2,if_pos h2]
   cases he:encl s 124 (k+2+1) [] with
   | error e =>
    obtain ⟨e,p⟩:=e
    have h0:=b3l he
    rw [b28 he]
    simp only []
    rw [if_neg h0,a1d h0]
   | ok r =>
    obtain ⟨l,j⟩:=r
    rw [b7q he]
    simp only [if_true]
    rw [a9f];rfl
  ·rw [if_neg h2,if_neg h2]
   by_cases h3:y8 (bt s (k+2))=true
   ·rw [if_pos h3,if_pos h3,a9f];rfl
   ·rw [if_neg h3,if_neg h3,a1d (by decide)]
 ·rw [if_neg h1,if_neg h1,a1d (by decide)]
theorem e1b (i:Nat) (w:i7) (k:Nat):F4 i w k=exT (a8e i w k):=by
 unfold F4 a8e
 by_cases h1:w=[46]
 ·rw [if_pos h1,if_pos h1,b10];rfl
 ·rw [if_neg h1,if_neg h1]
  by_cases h2:(l8 w).2.2=true
  ·rw [if_pos h2,if_pos h2]
   by_cases h3:plain (l8 w).2.1=[48]
   ·rw [if_pos h3,if_pos (show plain (l8 w).2.1=A5 from h3),a1d (by decide)]
   ·rw [if_neg h3,if_neg (show ¬plain (l8 w).2.1=A5 from h3)]
    simp only []
    generalize u9 (plain (l8 w).1) (plain (l8 w).2.1)=r
    by_cases h4:100 < G4 r.1∨100 < G4 r.2
    ·rw [if_pos h4,if_pos h4,a1d (by decide)]
    ·rw [if_neg h4,if_neg h4,b10];rfl
  ·rw [if_neg h2,if_neg h2,a9f];rfl
theorem c3b (s:i7) (i:Nat):B7 s i=exT (R9 s i):=by
 unfold B7 R9
 by_cases h1:bt s i=40
 ·rw [if_pos h1,if_pos h1,b10];rfl
 rw [if_neg h1,if_neg h1]
 by_cases h2:bt s i=41
 ·rw [if_pos h2,if_pos h2,b10];rfl
 rw [if_neg h2,if_neg h2]
 by_cases h3:bt s i=39
 ·rw [if_pos h3,if_pos h3,b10];rfl
 rw [if_neg h3,if_neg h3]
 by_cases h4:bt s i=34
 ·rw [if_pos h4,if_pos h4]
  cases he:encl s 34 (i+1) [] with
  | error e =>
   obtain ⟨e,p⟩:=e
   have h0:=b3l he
   rw [b28 he]
   simp only []
   rw [if_neg (fun h=>h0 h.1),a1d h0]
  | ok r =>
   obtain ⟨l,j⟩:=r
   rw [b7q he]
   simp only [true_and]
   have hl:(F1 l).length=l.length:=by simp [F1]
   rw [hl]
   by_cases h5:200 < l.length
   ·rw [if_pos h5,if_pos h5,a1d (by decide)]
   ·rw [if_neg h5,if_neg h5,b10];rfl
 rw [if_neg h4,if_neg h4]
 by_cases h5:bt s i=124
 ·rw [if_pos h5,if_pos h5]
  cases he:encl s 124 (i+1) [] with
  | error e =>
   obtain ⟨e,p⟩:=e
   have h0:=b3l he
   rw [b28 he]
   simp only []
   rw [if_neg h0,a1d h0]
  | ok r =>
   obtain ⟨l,j⟩:=r
   rw [b7q he]
   simp only [if_true]
   rw [a9f];rfl
 rw [if_neg h5,if_neg h5]
 by_cases h6:y8 (bt s i)=true
 ·rw [if_pos h6,if_pos h6]
  by_cases h7:has s (l7 s i) 58 58=true
  ·rw [if_pos h7,if_pos h7,e0a]
  ·rw [if_neg h7,if_neg h7,e1b]
 ·rw [if_neg h6,if_neg h6,a1d (by decide)]
def f2o:Sp where
 ι:={ p:i7 × Nat // p.2 < p.1.length∧p.1.length < 8000 }
 A p:=[.c (.s p.1.1),.c (.i .i64 (p.1.2:Int))]
 B _:=[]
 R p:=b3t (R9 p.1.1 p.1.2)
 B' _:=[]
 inj i j vs bs h k _ _:=by
  obtain ⟨_,_,h1,k1,h,k⟩:=h.two k
  obtain ⟨_,_,h2,k2,h,k⟩:=h.two k
  have e2:=M7 h2 k2
  rw [H3 h1 k1,show i.1.2=j.1.2 by omega];exact ⟨rfl,rfl⟩
theorem b0l {U:w7} {P:G3→List Bx→Prop} (k:Int) (p:Nat) (g t d:i7) {cs:List V} {K:Q→Om} (h:l9 [.c (.i .i64 k),.c (.i .i64 (p:Int)),.c (.s g),.c (.s t),.c (.s d)] cs) (hk:∀ q,B6 [.i .i64 k,.i .i64 (p:Int),.s g,.s t,.s d] q 0→j3 U (K q) P):j3 U (U.uBo 5 (.cells cs) K) P:=a1f (gs:=[.i .i64 k,.i .i64 (p:Int),.s g,.s t,.s d]) (.cells _ _ h) rfl hk
theorem e72:l5 57 f2o:=v7 (fun fn h=>e6f h) [(53,_),(96,_),(97,_),(98,_),(99,_),(95,_),(100,_),(101,_),(102,_),(85,_),(103,_)] (.cons b5v (.cons d60 (.cons c5x (.cons b0j (.cons c9h (.cons d7w (.cons e6j (.cons c9u (.cons d95 (.cons c54 (.cons d5i .nil))))))))))) fun U fn hfn ⟨(s,i),h1,h2⟩ vs bs hv hb=>by
 have hbd:=hfn 53 _ rfl
 have hen:=hfn 96 _ rfl
 have hnm:=hfn 97 _ rfl
 have hco:=hfn 98 _ rfl
 have hwd:=hfn 99 _ rfl
 have hha:=hfn 95 _ rfl
 have hqu:=hfn 100 _ rfl
 have hnu:=hfn 101 _ rfl
 have hpl:=hfn 102 _ rfl
 have hre:=hfn 85 _ rfl
 have hdi:=hfn 103 _ rfl
 have hv:l9 [.c (.s s),.c (.i .i64 (i:Int))] vs:=hv
 have hb:RBs [] bs:=hb
 have h1:i < s.length:=h1
 have h2:s.length < 8000:=h2
 show j3 U _ fun v bs'=>m8 (b3t (R9 s i)) v∧RBs [] bs'
 unfold r57
 have hbt:((s.getD i 0).toNat:Int)=bt s i:=rfl
 have hi1:i+1≤s.length:=h1
 have h9:s.length < 90000:=by omega
 have e1:((i:Int)+1).toNat=i+1:=by omega
 (refine Zq ?_;with_reducible repeat' first|intro _|apply And.intro)
 ·have h:bt s i=40:=‹_›
  rw [show R9 s i=(⟨1,i,[],[],[]⟩,i+1,0,0) by unfold R9;rw [if_pos h]]
  exact H8 ⟨1,i,[],[],[]⟩ (i+1) (0,0) (by simp) (fun _=>S5 1 i [] [] [] (by (exact j9))) (a0b 0 0)
 ·have n1:¬bt s i=40:=‹_›
  have h:bt s i=41:=‹_›
  rw [show R9 s i=(⟨2,i,[],[],[]⟩,i+1,0,0) by unfold R9;rw [if_neg n1,if_pos h]]
  exact H8 ⟨2,i,[],[],[]⟩ (i+1) (0,0) (by simp) (fun _=>S5 2 i [] [] [] (by (exact j9))) (a0b 0 0)
 ·have n1:¬bt s i=40:=‹¬((s.getD i 0).toNat:Int)=40›
  have n2:¬bt s i=41:=‹¬((s.getD i 0).toNat:Int)=41›
  have h:bt s i=39:=‹_›
  rw [show R9 s i=(⟨4,i,[],[],[]⟩,i+1,0,0) by unfold R9;rw [if_neg n1,if_neg n2,if_pos h]]
  exact H8 ⟨4,i,[],[],[]⟩ (i+1) (0,0) (by simp) (fun _=>S5 4 i [] [] [] (by (exact j9))) (a0b 0 0)
 ·have n1:¬bt s i=40:=‹¬((s.getD i 0).toNat:Int)=40›
  have n2:¬bt s i=41:=‹¬((s.getD i 0).toNat:Int)=41›
  have n3:¬bt s i=39:=‹¬((s.getD i 0).toNat:Int)=39›
  have h:bt s i=34:=‹((s.getD i 0).toNat:Int)=34›
  generalize hr:J8 s 34 (i+1)=r
  obtain ⟨x,n,e,p⟩:=r
  refine j4 hen ⟨((s,i+1),34),⟨hi1,h9⟩,(by decide:(34:Int) ≠ 92)⟩ (r:=.t [.c (.s x),.c (.i .i64 (n:Int)),D1 e p]) (by show N0 s 34 (i+1) []=_;rw [c1a,hr]) (.cons _ _ _ _ (.s _ _ _ rfl rfl) (.cons _ _ _ _ (by simp;exact .i _ _) (.cons _ _ _ _ (.i _ _) .nil))) .nil fun _ _ hv5 _=>?_
  have hv5:RV (.t [.c (.s x),.c (.i .i64 (n:Int)),.a [.i .i64 e,.i .i64 p]]) _:=hv5
  rw [show R9 s i=(⟨7,i,[],x,[]⟩,n,if e=0∧200 < x.length then (2,(i:Int)) else (e,p)) by unfold R9;rw [if_neg n1,if_neg n2,if_neg n3,if_pos h,hr]]
  (refine Zq ?_;with_reducible repeat' first|intro _|apply And.intro)
  ·have h0:e=0:=‹_›
   refine a7j fun _ _=>?_
   (refine Zq ?_;with_reducible repeat' first|intro _|apply And.intro)
   refine a2e fun _ _=>?_
   (refine Zq ?_;with_reducible repeat' first|intro _|apply And.intro)
   refine b0l 7 i [] x [] (by (exact j9)) fun _ _=>?_
   (refine Zq ?_;with_reducible repeat' first|intro _|apply And.intro)
   ·rw [if_pos ⟨h0,by omega⟩]
    refine j4 hbd (2,(i:Int)) (r:=D1 2 i) rfl (.cons _ _ _ _ (.i _ _) (.cons _ _ _ _ (.q _ _ (by assumption)) .nil)) .nil fun _ _ hv6 _=>?_
    have hv6:RV (.a [.i .i64 2,.i .i64 (i:Int)]) _:=hv6
    (refine Zq ?_;with_reducible repeat' first|intro _|apply And.intro)
    exact H8 ⟨7,i,[],x,[]⟩ n (2,(i:Int)) rfl (fun _=>S6 7 i [] x [] (by assumption)) (K6 _ _ (by assumption))
   ·rw [if_neg (fun h=>by omega)]
    exact H8 ⟨7,i,[],x,[]⟩ n (e,p) rfl (fun _=>S6 7 i [] x [] (by assumption)) (K6 _ _ (by assumption))
  ·have h0:¬e=0:=‹_›
   refine a7j fun _ _=>?_
   (refine Zq ?_;with_reducible repeat' first|intro _|apply And.intro)
   refine a2e fun _ _=>?_
   (refine Zq ?_;with_reducible repeat' first|intro _|apply And.intro)
   refine b0l 7 i [] x [] (by (exact j9)) fun _ _=>?_
   (refine Zq ?_;with_reducible repeat' first|intro _|apply And.intro)
   rw [if_neg (fun h=>h0 h.1)]
   exact H8 ⟨7,i,[],x,[]⟩ n (e,p) rfl (fun _=>S6 7 i [] x [] (by assumption)) (K6 _ _ (by assumption))
 ·have n1:¬bt s i=40:=‹¬((s.getD i 0).toNat:Int)=40›
  have n2:¬bt s i=41:=‹¬((s.getD i 0).toNat:Int)=41›
  have n3:¬bt s i=39:=‹¬((s.getD i 0).toNat:Int)=39›
  have n4:¬bt s i=34:=‹¬((s.getD i 0).toNat:Int)=34›
  have h:bt s i=124:=‹((s.getD i 0).toNat:Int)=124›
  generalize hr:J8 s 124 (i+1)=r
  obtain ⟨x,n,e,p⟩:=r
  refine j4 hen ⟨((s,i+1),124),⟨hi1,h9⟩,(by decide:(124:Int) ≠ 92)⟩ (r:=.t [.c (.s x),.c (.i .i64 (n:Int)),D1 e p]) (by show N0 s 124 (i+1) []=_;rw [c1a,hr]) (.cons _ _ _ _ (.s _ _ _ rfl rfl) (.cons _ _ _ _ (by simp;exact .i _ _) (.cons _ _ _ _ (.i _ _) .nil))) .nil fun _ _ hv5 _=>?_
  have hv5:RV (.t [.c (.s x),.c (.i .i64 (n:Int)),.a [.i .i64 e,.i .i64 p]]) _:=hv5
  rw [show R9 s i=(⟨6,i,[],x,[]⟩,n,if e=0 then C8 ⟨6,i,[],x,[]⟩ true else (e,p)) by unfold R9;rw [if_neg n1,if_neg n2,if_neg n3,if_neg n4,if_pos h,hr]]
  (refine Zq ?_;with_reducible repeat' first|intro _|apply And.intro)
  ·rw [if_pos ‹e=0›]
   refine j4 hnm ⟨(⟨6,i,[],x,[]⟩,true),(by decide:([]:i7).length < 90000)⟩ (r:=D1 (C8 ⟨6,i,[],x,[]⟩ true).1 (C8 ⟨6,i,[],x,[]⟩ true).2) rfl (.cons _ _ _ _ (S5 6 i [] x [] (by (exact j9))) (by (exact j9))) .nil fun _ _ hv6 _=>?_
   have hv6:RV (.a [.i .i64 (C8 ⟨6,i,[],x,[]⟩ true).1,.i .i64 (C8 ⟨6,i,[],x,[]⟩ true).2]) _:=hv6
   (refine Zq ?_;with_reducible repeat' first|intro _|apply And.intro)
   refine a7j fun _ _=>?_
   (refine Zq ?_;with_reducible repeat' first|intro _|apply And.intro)
   refine a2e fun _ _=>?_
   (refine Zq ?_;with_reducible repeat' first|intro _|apply And.intro)
   refine b0l 6 i [] x [] (by (exact j9)) fun _ _=>?_
   (refine Zq ?_;with_reducible repeat' first|intro _|apply And.intro)
   exact H8 ⟨6,i,[],x,[]⟩ n (C8 ⟨6,i,[],x,[]⟩ true) rfl (fun _=>S6 6 i [] x [] (by assumption)) (K6 _ _ (by assumption))
  ·rw [if_neg ‹¬e=0›]
   refine a7j fun _ _=>?_
   (refine Zq ?_;with_reducible repeat' first|intro _|apply And.intro)
   refine a2e fun _ _=>?_
   (refine Zq ?_;with_reducible repeat' first|intro _|apply And.intro)
   refine b0l 6 i [] x [] (by (exact j9)) fun _ _=>?_
   (refine Zq ?_;with_reducible repeat' first|intro _|apply And.intro)
   exact H8 ⟨6,i,[],x,[]⟩ n (e,p) rfl (fun _=>S6 6 i [] x [] (by assumption)) (K6 _ _ (by assumption))
 ·have n1:¬bt s i=40:=‹¬((s.getD i 0).toNat:Int)=40›
  have n2:¬bt s i=41:=‹¬((s.getD i 0).toNat:Int)=41›
  have n3:¬bt s i=39:=‹¬((s.getD i 0).toNat:Int)=39›
  have n4:¬bt s i=34:=‹¬((s.getD i 0).toNat:Int)=34›
  have n5:¬bt s i=124:=‹¬((s.getD i 0).toNat:Int)=124›
  have eo:R9 s i=if y8 (bt s i)=true then
    if has s (l7 s i) 58 58=true then P3 s i ((s.take (l7 s i)).drop i) (l7 s i)
    else a8e i ((s.take (l7 s i)).drop i) (l7 s i)
   else (⟨0,i,[],[],[]⟩,i,12,i):=by
   conv=>lhs;unfold R9
   rw [if_neg n1,if_neg n2,if_neg n3,if_neg n4,if_neg n5]
  rw [eo]
  refine j4 hco (bt s i) (r:=.c (.b (y8 (bt s i)))) rfl (by rw [← hbt];(exact j9)) .nil fun _ _ _ _=>?_
  (refine Zq ?_;with_reducible repeat' first|intro _|apply And.intro)
  ·rw [if_pos ‹y8 (bt s i)=true›]
   have hw:=F9 s i (by omega)
   generalize hj:l7 s i=j at *
   refine j4 hwd ⟨(s,i),by show i≤s.length;omega,h9⟩ (r:=.c (.i .i64 (j:Int))) (by show y4.ret (.c (.i .i64 (l7 s i:Int)))=_;rw [hj]) (by (exact j9)) .nil fun _ _ _ _=>?_
   (refine Zq ?_;with_reducible repeat' first|intro _|apply And.intro)
   have hlen:((s.take j).drop i).length < 8000:=by simp;omega
   rw [show (s.take (j:Int).toNat).drop (i:Int).toNat=(s.take j).drop i from rfl]
   generalize hx:(s.take j).drop i=w at *
   refine j4 hha ⟨((s,j),58,58),hw.2,h9⟩ (r:=.c (.b (has s j 58 58))) rfl (by (exact j9)) .nil fun _ _ _ _=>?_
   (refine Zq ?_;with_reducible repeat' first|intro _|apply And.intro)
   ·have hs2:=K5 ‹has s j 58 58=true›
    rw [if_pos ‹has s j 58 58=true›]
    generalize hr:P3 s i w j=r
    obtain ⟨⟨tk,tp,tg,tt,td⟩,n,e,p⟩:=r
    refine j4 hqu ⟨((s,i),w,j),⟨by show j+2≤s.length;omega,h9⟩,by show w.length < 90000;omega⟩ (r:=.t [.a (x3 ⟨tk,tp,tg,tt,td⟩),.c (.i .i64 (n:Int)),D1 e p]) (by show b3t (P3 s i w j)=_;rw [hr];rfl) (.cons _ _ _ _ (.s _ _ _ rfl rfl) (.cons _ _ _ _ (S5 0 i [] [] [] (by (exact j9))) (.cons _ _ _ _ (.s _ _ _ rfl rfl) (.cons _ _ _ _ (.i _ _) .nil)))) .nil fun _ _ hv6 _=>?_
    have hv6:RV (.t [.a [.i .i64 tk,.i .i64 (tp:Int),.s tg,.s tt,.s td],.c (.i .i64 (n:Int)),.a [.i .i64 e,.i .i64 p]]) _:=hv6
    (refine Zq ?_;with_reducible repeat' first|intro _|apply And.intro)
    exact H8 ⟨tk,tp,tg,tt,td⟩ n (e,p) rfl (fun _=>S6 tk tp tg tt td (by assumption)) (K6 _ _ (by assumption))
   ·rw [if_neg ‹¬has s j 58 58=true›]
    refine j4 hnu ⟨w,by show w.length < 90000;omega⟩ (r:=.t [.c (.s (l8 w).1),.c (.s (l8 w).2.1),.c (.b (l8 w).2.2)]) rfl (by (exact j9)) .nil fun _ _ _ _=>?_
    have hnl:=b2w w
    unfold a8e
    (refine Zq ?_;with_reducible repeat' first|intro _|apply And.intro)
    ·rw [if_pos (show w=[46] from ‹_›)]
     refine a7j fun _ _=>?_
     (refine Zq ?_;with_reducible repeat' first|intro _|apply And.intro)
     refine a2e fun _ _=>?_
     (refine Zq ?_;with_reducible repeat' first|intro _|apply And.intro)
     refine b0l 3 i [] [] [] (by (exact j9)) fun _ _=>?_
     (refine Zq ?_;with_reducible repeat' first|intro _|apply And.intro)
     refine a2e fun _ _=>?_
     (refine Zq ?_;with_reducible repeat' first|intro _|apply And.intro)
     exact H8 ⟨3,i,[],[],[]⟩ j (0,0) rfl (fun _=>S6 3 i [] [] [] (by assumption)) (K6 _ _ (by assumption))
    ·rw [if_neg (show ¬w=[46] from ‹_›),if_pos ‹(l8 w).2.2=true›]
     have hp1:=a00 (l8 w).1
     have hp2:=a00 (l8 w).2.1
     refine j4 hpl ⟨(l8 w).2.1,by show (l8 w).2.1.length < 90000;omega⟩ (r:=.c (.s (plain (l8 w).2.1))) rfl (by (exact j9)) .nil fun _ _ _ _=>?_
     (refine Zq ?_;with_reducible repeat' first|intro _|apply And.intro)
     ·rw [if_pos (show plain (l8 w).2.1=[48] from ‹_›)]
      refine j4 hbd (12,(i:Int)) (r:=D1 12 i) rfl (by (exact j9)) .nil fun _ _ hv6 _=>?_
      have hv6:RV (.a [.i .i64 12,.i .i64 (i:Int)]) _:=hv6
      (refine Zq ?_;with_reducible repeat' first|intro _|apply And.intro)
      exact H8 ⟨0,i,[],[],[]⟩ j (12,(i:Int)) rfl (fun _=>S5 0 i [] [] [] (by (exact j9))) (K6 _ _ (by assumption))
     ·rw [if_neg (show ¬plain (l8 w).2.1=[48] from ‹_›)]
      refine j4 hpl ⟨(l8 w).1,by show (l8 w).1.length < 90000;omega⟩ (r:=.c (.s (plain (l8 w).1))) rfl (by (exact j9)) .nil fun _ _ _ _=>?_
      (refine Zq ?_;with_reducible repeat' first|intro _|apply And.intro)
      refine j4 hpl ⟨(l8 w).2.1,by show (l8 w).2.1.length < 90000;omega⟩ (r:=.c (.s (plain (l8 w).2.1))) rfl (by (exact j9)) .nil fun _ _ _ _=>?_
      (refine Zq ?_;with_reducible repeat' first|intro _|apply And.intro)
      generalize hr:u9 (plain (l8 w).1) (plain (l8 w).2.1)=r
      have hrf:=a5x (plain (l8 w).1) (plain (l8 w).2.1)
      rw [hr] at hrf
      obtain ⟨rn,rd⟩:=r
      have hrl:rn.length < 9000∧rd.length < 9000:=by
       obtain ⟨a,b,e,_,_,l1,l2⟩:=hrf
       injection e with e3 e4
       subst e3 e4
       unfold j6
       constructor
       ·split
        ·simp only [List.length_append,List.length_cons,List.length_nil];omega
        ·omega
       ·omega
      refine j4 hre ⟨(plain (l8 w).1,plain (l8 w).2.1),by show (plain (l8 w).1).length < 9000;omega,by show (plain (l8 w).2.1).length < 9000;omega⟩ (r:=.t [.c (.s rn),.c (.s rd)]) (by show y4.ret (.t [.c (.s (u9 (plain (l8 w).1) (plain (l8 w).2.1)).1),.c (.s (u9 (plain (l8 w).1) (plain (l8 w).2.1)).2)])=_;rw [hr]) (by (exact j9)) .nil fun _ _ _ _=>?_
      (refine Zq ?_;with_reducible repeat' first|intro _|apply And.intro)
      refine j4 hdi ⟨rn,by show rn.length < 90000;omega⟩ (r:=.c (.i .i64 (G4 rn))) rfl (by (exact j9)) .nil fun _ _ _ _=>?_
      simp only []
      (refine Zq ?_;with_reducible repeat' first|intro _|apply And.intro)
      ·rw [if_pos (.inl (by omega))]
       refine a7j fun _ _=>?_
       (refine Zq ?_;with_reducible repeat' first|intro _|apply And.intro)
       refine a2e fun _ _=>?_
       (refine Zq ?_;with_reducible repeat' first|intro _|apply And.intro)
       refine b0l 5 i [] rn rd (by (exact j9)) fun _ _=>?_
       (refine Zq ?_;with_reducible repeat' first|intro _|apply And.intro)
       refine a2e fun _ _=>?_
       (refine Zq ?_;with_reducible repeat' first|intro _|apply And.intro)
       refine j4 hbd (2,(i:Int)) (r:=D1 2 i) rfl (by (exact j9)) .nil fun _ _ hv6 _=>?_
       have hv6:RV (.a [.i .i64 2,.i .i64 (i:Int)]) _:=hv6
       (refine Zq ?_;with_reducible repeat' first|intro _|apply And.intro)
       exact H8 ⟨5,i,[],rn,rd⟩ j (2,(i:Int)) rfl (fun _=>S6 5 i [] rn rd (by assumption)) (K6 _ _ (by assumption))
      ·refine j4 hdi ⟨rd,by show rd.length < 90000;omega⟩ (r:=.c (.i .i64 (G4 rd))) rfl (by (exact j9)) .nil fun _ _ _ _=>?_
       (refine Zq ?_;with_reducible repeat' first|intro _|apply And.intro)
       refine a7j fun _ _=>?_
       (refine Zq ?_;with_reducible repeat' first|intro _|apply And.intro)
       refine a2e fun _ _=>?_
       (refine Zq ?_;with_reducible repeat' first|intro _|apply And.intro)
       refine b0l 5 i [] rn rd (by (exact j9)) fun _ _=>?_
       (refine Zq ?_;with_reducible repeat' first|intro _|apply And.intro)
       refine a2e fun _ _=>?_
       (refine Zq ?_;with_reducible repeat' first|intro _|apply And.intro)
       ·rw [if_pos (.inr (by omega))]
        refine j4 hbd (2,(i:Int)) (r:=D1 2 i) rfl (by (exact j9)) .nil fun _ _ hv6 _=>?_
        have hv6:RV (.a [.i .i64 2,.i .i64 (i:Int)]) _:=hv6
        (refine Zq ?_;with_reducible repeat' first|intro _|apply And.intro)
        exact H8 ⟨5,i,[],rn,rd⟩ j (2,(i:Int)) rfl (fun _=>S6 5 i [] rn rd (by assumption)) (K6 _ _ (by assumption))
       ·rw [if_neg (fun h=>by omega)]
        exact H8 ⟨5,i,[],rn,rd⟩ j (0,0) rfl (fun _=>S6 5 i [] rn rd (by assumption)) (K6 _ _ (by assumption))
    ·rw [if_neg (show ¬w=[46] from ‹_›),if_neg ‹¬(l8 w).2.2=true›]
     refine j4 hnm ⟨(⟨6,i,[],w,[]⟩,false),(by decide:([]:i7).length < 90000)⟩ (r:=D1 (C8 ⟨6,i,[],w,[]⟩ false).1 (C8 ⟨6,i,[],w,[]⟩ false).2) rfl (.cons _ _ _ _ (S5 6 i [] w [] (by (exact j9))) (by (exact j9))) .nil fun _ _ hv6 _=>?_
     have hv6:RV (.a [.i .i64 (C8 ⟨6,i,[],w,[]⟩ false).1,.i .i64 (C8 ⟨6,i,[],w,[]⟩ false).2]) _:=hv6
     (refine Zq ?_;with_reducible repeat' first|intro _|apply And.intro)
     refine a7j fun _ _=>?_
     (refine Zq ?_;with_reducible repeat' first|intro _|apply And.intro)
     refine a2e fun _ _=>?_
     (refine Zq ?_;with_reducible repeat' first|intro _|apply And.intro)
     refine b0l 6 i [] w [] (by (exact j9)) fun _ _=>?_
     (refine Zq ?_;with_reducible repeat' first|intro _|apply And.intro)
     exact H8 ⟨6,i,[],w,[]⟩ j (C8 ⟨6,i,[],w,[]⟩ false) rfl (fun _=>S6 6 i [] w [] (by assumption)) (K6 _ _ (by assumption))
  ·rw [if_neg ‹¬y8 (bt s i)=true›]
   refine j4 hbd (12,(i:Int)) (r:=D1 12 i) rfl (by (exact j9)) .nil fun _ _ hv6 _=>?_
   have hv6:RV (.a [.i .i64 12,.i .i64 (i:Int)]) _:=hv6
   (refine Zq ?_;with_reducible repeat' first|intro _|apply And.intro)
   exact H8 ⟨0,i,[],[],[]⟩ i (12,(i:Int)) rfl (fun _=>S5 0 i [] [] [] (by (exact j9))) (K6 _ _ (by assumption))
end
end Go.Proofs.YtffaodopiifbkaaGreatDoor
namespace Go.Proofs.YtffaodopiifbkaaGreatDoor
open Go.Abs LQ
set_option maxRecDepth 100000
set_option maxHeartbeats 8000000
noncomputable section
theorem a6e (t:B5) (b:Bool):0≤(C8 t b).2:=by unfold C8;split <;> simp
theorem b33 (s:i7) (c:Int) (i:Nat):0≤(J8 s c i).2.2.2:=by unfold J8;split <;> simp
theorem d26 (s:i7) (i:Nat) (pkg:i7) (k:Nat):0≤(P3 s i pkg k).2.2.2:=by
 unfold P3
 split
 ·split
  ·simp only []
   split
   ·exact a6e _ _
   ·exact b33 _ _ _
  ·split
   ·exact a6e _ _
   ·simp only [];omega
 ·simp only [];omega
theorem d4f (i:Nat) (w:i7) (k:Nat):0≤(a8e i w k).2.2.2:=by
 unfold a8e
 split
 ·simp
 ·split
  ·split
   ·simp
   ·simp only [];split <;> simp
  ·exact a6e _ _
theorem d2s (s:i7) (i:Nat):0≤(R9 s i).2.2.2:=by
 unfold R9
 split
 ·simp
 split
 ·simp
 split
 ·simp
 split
 ·simp only []
  split
  ·simp
  ·exact b33 _ _ _
 split
 ·simp only []
  split
  ·exact a6e _ _
  ·exact b33 _ _ _
 split
 ·split
  ·exact d26 _ _ _ _
  ·exact d4f _ _ _
 ·simp
theorem d41:l5 24 b3d:=v7 (fun fn h=>e7a h) [(53,_),(56,_),(57,_)] (.cons b5v (.cons e6l (.cons e72 .nil))) fun U fn hfn ⟨s,hs⟩ vs bs hv hb=>by
 have hbd:=hfn 53 _ rfl
 have hsk:=hfn 56 _ rfl
 have hon:=hfn 57 _ rfl
 have hv:l9 [.c (.s s)] vs:=hv
 have hb:RBs [] bs:=hb
 have hs:s.length < 8000:=hs
 show j3 U _ fun v bs'=>m8 (b4s (C4 s)) v∧RBs [] bs'
 unfold r24
 have err:∀ {e p:Int} {k:Nat} {x:Q} {R:Except (Int × Nat) (List B5)},p=k→R=.error (e,k)→B6 [.i .i64 e,.i .i64 p] x 0→j3 U (some (.ret (.tuple [.slice .nil 0 0 0 .no,.a x 2]),[])) fun v bs'=>m8 (b4s R) v∧RBs [] bs':=fun hp h hx=>by
  subst hp h
  exact l6 ⟨.ret _ _ (.t _ _ (.cons _ _ _ _ (.sl0 _ _ _) (.cons _ _ _ _ (.a _ _ _ rfl hx) .nil))),.nil⟩
 (refine Zq ?_;with_reducible repeat' first|intro _|apply And.intro)
 ·have e:C4 s=.error (2,0):=by unfold C4;rw [if_pos (by omega)]
  refine j4 hbd (2,0) (r:=D1 2 0) rfl (by (exact j9)) .nil fun _ _ hv5 _=>?_
  have hv5:RV (.a [.i .i64 2,.i .i64 0]) _:=hv5
  (refine Zq ?_;with_reducible repeat' first|intro _|apply And.intro)
  exact err rfl e (by assumption)
 ·have et:C4 s=E8 s 0 []:=by unfold C4;rw [if_neg (by omega)]
  refine F8 (fun (i:Nat) vs bs=>∃ (acc:List B5) (v:V) (b0:Bx),vs=[.str s.length (n6 s),.ptr 0 0,.int .i64 i,v]∧bs=[b0,.tok acc.length 5]∧RB [.i .i64 0,.i .i64 0] b0∧Z4 1 5 (acc.map x3) v∧i≤s.length∧acc.length≤i∧C4 s=E8 s i acc) (fun i=>s.length - i) 0 ⟨[],_,_,rfl,rfl,.cells _ _ (by (exact j9)),.b rfl,Nat.zero_le _,Nat.le_refl _,et⟩ (by simp only [B8];omega) ?_
  rintro self i _ _ ⟨acc,v,b0,rfl,rfl,hb0,htk,hi,ha,he⟩ ih
  rw [he,X9 hi]
  (refine Zq ?_;with_reducible repeat' first|intro _|apply And.intro)
  cases hk:LQ.skip s i with
  | none =>
   refine j4 hsk ⟨(s,i),hi,by show s.length < 90000;omega⟩ (r:=.t [.c (.i .i64 (s.length:Int)),.c (.b false)]) (by show a5n s i=_;unfold a5n;rw [hk]) (by (exact j9)) .nil fun _ _ _ _=>?_
   (refine Zq ?_;with_reducible repeat' first|intro _|apply And.intro)
   refine j4 hbd (11,(s.length:Int)) (r:=D1 11 s.length) rfl (by (exact j9)) .nil fun _ _ hv5 _=>?_
   have hv5:RV (.a [.i .i64 11,.i .i64 (s.length:Int)]) _:=hv5
   (refine Zq ?_;with_reducible repeat' first|intro _|apply And.intro)
   exact err rfl rfl (by assumption)
  | some j =>
   have hj:=V3 hi hk
   simp only []
   refine j4 hsk ⟨(s,i),hi,by show s.length < 90000;omega⟩ (r:=.t [.c (.i .i64 (j:Int)),.c (.b true)]) (by show a5n s i=_;unfold a5n;rw [hk]) (by (exact j9)) .nil fun _ _ _ _=>?_
   (refine Zq ?_;with_reducible repeat' first|intro _|apply And.intro)
   ·rw [if_neg (by omega)]
    refine Z5 (xs:=acc.map x3) (r:=x3 ⟨0,s.length,[],[],[]⟩) (n:=5) (off:=0) (by assumption) (fun _=>a45 (by rw [V5];decide) (.cons _ _ _ _ (.i _ _) (.cons _ _ _ _ (.i _ _) (.cons _ _ _ _ (.s _ _ _ rfl rfl) (.cons _ _ _ _ (.s _ _ _ rfl rfl) (.cons _ _ _ _ (.s _ _ _ rfl rfl) (.nil _ _))))))) (V5 _) (by simp) (by simp;omega) fun _ ht'=>?_
    rw [show acc.map x3 ++ [x3 ⟨0,s.length,[],[],[]⟩]=(acc ++ [(⟨0,s.length,[],[],[]⟩:B5)]).map x3 by simp] at ht'
    (refine Zq ?_;with_reducible repeat' first|intro _|apply And.intro)
    exact l6 ⟨.ret _ _ (.t _ _ (.cons _ _ _ _ (.sl _ _ _ _ _ (by simp) ht') (.cons _ _ _ _ (a0b 0 0) .nil))),.nil⟩
   ·have hjl:j < s.length:=by omega
    rw [if_pos hjl,c3b]
    generalize hr:R9 s j=r
    obtain ⟨⟨tk,tp,tg,tt,td⟩,n,e,p⟩:=r
    refine j4 hon ⟨(s,j),hjl,hs⟩ (r:=.t [.a (x3 ⟨tk,tp,tg,tt,td⟩),.c (.i .i64 (n:Int)),D1 e p]) (by show b3t (R9 s j)=_;rw [hr];rfl) (by (exact j9)) .nil fun _ _ hv6 _=>?_
    have hv6:RV (.t [.a [.i .i64 tk,.i .i64 (tp:Int),.s tg,.s tt,.s td],.c (.i .i64 (n:Int)),.a [.i .i64 e,.i .i64 p]]) _:=hv6
    have hp0:=d2s s j
    rw [hr] at hp0
    have hp0:0≤p:=hp0
    (refine Zq ?_;with_reducible repeat' first|intro _|apply And.intro)
    ·have h0:e=0:=‹_›
     have hx:exT (⟨tk,tp,tg,tt,td⟩,n,e,p)=.ok (⟨tk,tp,tg,tt,td⟩,n):=by unfold exT;rw [if_pos h0]
     have hg:=W5 hjl (by rw [c3b,hr,hx])
     rw [hx]
     simp only []
     refine Z5 (xs:=acc.map x3) (r:=x3 ⟨tk,tp,tg,tt,td⟩) (n:=5) (off:=0) (by assumption) (fun _=>a45 (by rw [V5];decide) (by assumption)) (V5 _) (by simp) (by simp;omega) fun _ ht'=>?_
     rw [show acc.map x3 ++ [x3 ⟨tk,tp,tg,tt,td⟩]=(acc ++ [(⟨tk,tp,tg,tt,td⟩:B5)]).map x3 by simp] at ht'
     (refine Zq ?_;with_reducible repeat' first|intro _|apply And.intro)
     have et2:C4 s=E8 s n (acc ++ [⟨tk,tp,tg,tt,td⟩]):=by rw [he,X9 hi,hk];simp only [];rw [if_pos hjl,c3b,hr,hx]
     rw [← et2]
     exact ih n _ _ ⟨acc ++ [⟨tk,tp,tg,tt,td⟩],_,_,rfl,by rw [List.length_append];rfl,.opa _ _ _ rfl (by assumption),.a _ _ (by simp) ht',hg.2,by simp;omega,et2⟩ (by omega)
    ·have h0:¬e=0:=‹_›
     have hx:exT (⟨tk,tp,tg,tt,td⟩,n,e,p)=.error (e,p.toNat):=by unfold exT;rw [if_neg h0]
     rw [hx]
     exact err (e:=e) (p:=p) (k:=p.toNat) (by omega) rfl (by assumption)
end
end Go.Proofs.YtffaodopiifbkaaGreatDoor
namespace Go.Proofs.YtffaodopiifbkaaGreatDoor
open Go.Abs LQ
set_option maxRecDepth 100000
set_option maxHeartbeats 4000000
noncomputable section
def f12:Sp where
 ι:={ p:List B5 × List B5 // p.1.length < 90000∧p.1=p.2 }
 A p:=[.sl 5 (p.1.1.map x3),.sl 5 (p.1.2.map x3)]
 B _:=[]
 R _:=.ret (.c (.b true))
 B' _:=[]
 inj _ _ _ _ _ _ _ _:=⟨rfl,rfl⟩
theorem e5w:l5 25 f12:=v7 (fun fn h=>e51 h) [] .nil fun U fn hfn ⟨(l,m),hl,e⟩ vs bs hv hb=>by
 change l.length < 90000 at hl
 change l=m at e
 subst e
 have hv:l9 [.sl 5 (l.map x3),.sl 5 (l.map x3)] vs:=hv
 have hb:RBs [] bs:=hb
 show j3 U _ fun v bs'=>m8 (.ret (.c (.b true))) v∧RBs [] bs'
 unfold r25
 (refine Zq ?_;with_reducible repeat' first|intro _|apply And.intro)
 ·refine F8 (fun (i:Nat) vs bs=>∃ (t1 t2:j8 Q) (o1 o2:Nat),vs=[.slice t1 5 o1 l.length .no,.slice t2 5 o2 l.length .no,.int .i64 i]∧bs=[]∧u6 5 (l.map x3) t1 o1∧u6 5 (l.map x3) t2 o2∧i≤l.length) (fun i=>l.length - i) 0 ⟨_,_,_,_,by simp;exact ⟨⟨rfl,rfl⟩,rfl,rfl⟩,rfl,by assumption,by assumption,by omega⟩ (by simp only [B8];omega) ?_
  rintro self i _ _ ⟨t1,t2,o1,o2,rfl,rfl,ht1,ht2,hi⟩ ih
  (refine Zq ?_;with_reducible repeat' first|intro _|apply And.intro)
  all_goals first
   | exact ih (i+1) _ _ ⟨t1,t2,o1,o2,rfl,rfl,ht1,ht2,by omega⟩ (by omega)
   | exact l6 ⟨.ret _ _ (.kn _),.nil⟩
   | contradiction
 ·exact absurd rfl ‹_›
def f2u:Sp where
 ι:=i7
 A s:=[.c (.s s)]
 B _:=[]
 R _:=.ret (.c (.b true))
 B' _:=[]
 inj _ _ _ _ _ _ _ _:=⟨rfl,rfl⟩
theorem d2y {s:i7} {T:List B5} (h:C4 s=.ok T):T.length≤s.length+1:=by
 unfold C4 at h
 split at h
 ·cases h
 ·obtain ⟨T',e,_,_,hl⟩:=a83 (s.length) (by omega) (Nat.zero_le _) h
  subst e
  simp at hl ⊢
  omega
theorem b95:l5 4 f2u:=v7 (fun fn h=>e9s h) [(17,_),(23,_),(24,_),(25,_)] (.cons d96 (.cons d6g (.cons d41 (.cons e5w .nil)))) fun U fn hfn (s:i7) vs bs hv hb=>by
 have hf:=hfn 17 _ rfl
 have ht:=hfn 23 _ rfl
 have h5:=hfn 24 _ rfl
 have hs:=hfn 25 _ rfl
 have hv:l9 [.c (.s s)] vs:=hv
 have hb:RBs [] bs:=hb
 show j3 U _ fun v bs'=>m8 (.ret (.c (.b true))) v∧RBs [] bs'
 unfold r4
 have good:j3 U (some (.ret (.known true),[])) fun v bs'=>m8 (.ret (.c (.b true))) v∧RBs [] bs':=l6 ⟨.ret _ _ (.kn _),.nil⟩
 (refine Zq ?_;with_reducible repeat' first|intro _|apply And.intro)
 refine j4 hf () (r:=.c (.b true)) rfl .nil .nil fun _ _ _ _=>?_
 (refine Zq ?_;with_reducible repeat' first|intro _|apply And.intro)
 ·exact good
 have hl:s.length < 8000:=by omega
 have key:∃ (T:List B5) (e p:Int),b4s (C4 s)=.ret (.t [.sl 5 (T.map x3),.a [.i .i64 e,.i .i64 p]])∧T.length < 90000:=by
  cases hx:C4 s with
  | ok T=>exact ⟨T,0,0,rfl,by have:=d2y hx;omega⟩
  | error ep=>exact ⟨[],ep.1,ep.2,rfl,by decide⟩
 obtain ⟨T,e,p,hT,hTl⟩:=key
 refine j4 ht ⟨s,hl⟩ (r:=.t [.sl 5 (T.map x3),.a [.i .i64 e,.i .i64 p]]) hT (by (exact j9)) .nil fun _ _ hv1 _=>?_
 have hv1:RV (.t [.sl 5 (T.map x3),.a [.i .i64 e,.i .i64 p]]) _:=hv1
 (refine Zq ?_;with_reducible repeat' first|intro _|apply And.intro)
 refine j4 h5 ⟨s,hl⟩ (r:=.t [.sl 5 (T.map x3),.a [.i .i64 e,.i .i64 p]]) hT (by (exact j9)) .nil fun _ _ hv2 _=>?_
 have hv2:RV (.t [.sl 5 (T.map x3),.a [.i .i64 e,.i .i64 p]]) _:=hv2
 (refine Zq ?_;with_reducible repeat' first|intro _|apply And.intro)
 refine sIk ?_
 (refine Zq ?_;with_reducible repeat' first|intro _|apply And.intro)
 refine sIk ?_
 (refine Zq ?_;with_reducible repeat' first|intro _|apply And.intro)
 ·refine j4 hs ⟨(T,T),hTl,rfl⟩ (r:=.c (.b true)) rfl (by (exact j9)) .nil fun _ _ _ _=>?_
  (refine Zq ?_;with_reducible repeat' first|intro _|apply And.intro)
  exact l6 ⟨.ret _ _ (.b _),.nil⟩
 ·rename_i hh
  exact absurd ⟨rfl,rfl,trivial⟩ hh
end
end Go.Proofs.YtffaodopiifbkaaGreatDoor
