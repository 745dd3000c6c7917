/- The reference's reader: a token. -/
import Derived.Test.YtffaodopiifbkaaGreatDoorCJ1
set_option linter.all false
namespace Go.Proofs.YtffaodopiifbkaaGreatDoor
open Go.Abs LQ
set_option maxRecDepth 100000
set_option maxHeartbeats 8000000
noncomputable section
abbrev T5:=y3 × Nat × Int × Int
def H5 (s:j0) (c:Int) (i:Nat):j0 × Nat × Int × Int:=match C1 s c i [] with
 | .ok (l,_)=>(D5 l,a00 s c i,0,0)
 | .error (e,p)=>([],a00 s c i,e,p)
theorem c4i (s:j0) (c:Int) (i:Nat):L5 s c i []=.ret (.t [.c (.s (H5 s c i).1),.c (.i .i64 ((H5 s c i).2.1:Int)),v8 (H5 s c i).2.2.1 (H5 s c i).2.2.2]):=by
 unfold L5 H5
 cases C1 s c i [] <;> rfl
def O9 (s:j0) (i:Nat) (pkg:j0) (k:Nat):T5 :=
 if k+2 < s.length then
  if bt s (k+2)=124 then (⟨6,i,pkg,(H5 s 124 (k+2+1)).1,[]⟩,(H5 s 124 (k+2+1)).2.1,if (H5 s 124 (k+2+1)).2.2.1=0 then A6 ⟨6,i,pkg,(H5 s 124 (k+2+1)).1,[]⟩ true else (H5 s 124 (k+2+1)).2.2)
  else if x5 (bt s (k+2))=true then (⟨6,i,pkg,(s.take (n7 s (k+2))).drop (k+2),[]⟩,n7 s (k+2),A6 ⟨6,i,pkg,(s.take (n7 s (k+2))).drop (k+2),[]⟩ false)
  else (⟨6,i,pkg,[],[]⟩,k+2,12,((k+2:Nat):Int))
 else (⟨6,i,pkg,[],[]⟩,k+2,11,s.length)
def b4t (r:T5):t7:=.ret (.t [.a (p9 r.1),.c (.i .i64 (r.2.1:Int)),v8 r.2.2.1 r.2.2.2])
theorem d1i {U:t6} {P:E6→List Bx→Prop} {fn:FuncId→C6} {g:FuncId} {sp:Sp} (hg:Ans fn g sp) (i:sp.ι) {vs:List V} {bs:List Bx} {K:V→List Bx→Om} {Kp:V→Om} {r:GV} (hr:sp.R i=.ret r) (hv:U=CU→l8 (sp.A i) vs) (hb:RBs (sp.B i) bs)
  (hk:∀ v bs',RV r v→RBs (sp.B' i) bs'→j3 U (K v bs') P):j3 U (U.bind (fn g vs bs) K Kp) P:=fun e=>i6 hg i hr (hv e) hb hk e
theorem e4s {U:t6} {P:E6→List Bx→Prop} {n:Nat} {gs:List G} {b:Bx} {K:Q→Om} (hb:U=CU→RB gs b) (hn:gs.length=n) (h:∀ q,x4 gs q 0→j3 U (K q) P):j3 U (U.uBo n b K) P:=fun e=>X8 (hb e) hn h e
theorem a7h {U:t6} {P:E6→List Bx→Prop} {K:Q→Om} (h:∀ q,x4 [.i .i64 0,.i .i64 0,.s [],.s [],.s []] q 0→j3 U (K q) P):j3 U (U.uBo 5 (.cells [.int .i64 0,.int .i64 0,.str 0 0,.str 0 0,.str 0 0]) K) P:=X8 (.cells _ _ (by exact (show l8 [.c (.i .i64 0),.c (.i .i64 0),.c (.s []),.c (.s []),.c (.s [])] _ by (exact j7)))) rfl h
theorem a17 {U:t6} {P:E6→List Bx→Prop} {K:Q→Om} (h:∀ q,x4 [.i .i64 0,.i .i64 0] q 0→j3 U (K q) P):j3 U (U.uBo 2 (.cells [.int .i64 0,.int .i64 0]) K) P:=X8 (.cells _ _ (by exact (show l8 [.c (.i .i64 0),.c (.i .i64 0)] _ by (exact j7)))) rfl h
theorem G2 (t:y3) (k:Nat) (ep:Int × Int) {v1 v3:V} {n:Int} {U:t6} (hn:n=k) (h1:U=CU→RV (.a (p9 t)) v1) (h3:RV (v8 ep.1 ep.2) v3):j3 U (some (.ret (.tuple [v1,.int .i64 n,v3]),[])) fun v bs'=>l7 (b4t (t,k,ep)) v∧RBs [] bs':=fun e=>by
 subst hn
 exact k9 ⟨.ret _ _ (.t _ _ (.k (h1 e) (.k (.i _ _) (.k h3 .nil)))),.nil⟩ e
theorem S3 (k:Int) (p:Nat) (g t d:j0) {vs:List V} (h:l8 [.c (.i .i64 k),.c (.i .i64 (p:Int)),.c (.s g),.c (.s t),.c (.s d)] vs):RV (.a (p9 ⟨k,p,g,t,d⟩)) (.agg vs):=.ag _ _ h
theorem R7 (k:Int) (p:Nat) (g t d:j0) {x:Q} (h:x4 [.i .i64 k,.i .i64 (p:Int),.s g,.s t,.s d] x 0):RV (.a (p9 ⟨k,p,g,t,d⟩)) (.a x 5):=.a _ _ _ rfl h
theorem A3 (e p:Int) {x:Q} (h:x4 [.i .i64 e,.i .i64 p] x 0):RV (v8 e p) (.a x 2):=.a _ _ _ rfl h
def f47:Sp where
 ι:={ p:(j0 × Nat) × j0 × Nat // (p.2.2+2≤p.1.1.length∧p.1.1.length < 90000)∧p.2.1.length < 90000 }
 A p:=[.c (.s p.1.1.1),.a (p9 ⟨0,p.1.1.2,[],[],[]⟩),.c (.s p.1.2.1),.c (.i .i64 (p.1.2.2:Int))]
 B _:=[]
 R p:=b4t (O9 p.1.1.1 p.1.1.2 p.1.2.1 p.1.2.2)
 B' _:=[]
 inj i j vs bs h k _ _:=by
  obtain ⟨_,_,h1,k1,h,k⟩:=h.two k
  obtain ⟨_,_,h2,k2,h,k⟩:=h.two k
  obtain ⟨_,_,h3,k3,h,k⟩:=h.two k
  obtain ⟨_,_,h4,k4,h,k⟩:=h.two k
  have e2:=a5c (h2.a_inj k2)
  have e4:=K7 h4 k4
  simp only [y3.mk.injEq,true_and,and_true] at e2
  rw [F1 h1 k1,e2,F1 h3 k3,show i.1.2.2=j.1.2.2 by omega];exact ⟨rfl,rfl⟩
theorem e5o:l6 100 f47:=o7 (fun fn h=>e3w h) [(53,_),(96,_),(97,_),(98,_),(99,_)] (.cons a4h (.cons d9e (.cons c79 (.cons b0d (.cons d1d .nil))))) fun U fn hfn ⟨((s,i),pkg,k),⟨h1,h2⟩,h3⟩ vs bs hv hb=>by
 have hbd:=hfn 53 _ rfl
 have hen:=hfn 96 _ rfl
 have hnm:=hfn 97 _ rfl
 have hco:=hfn 98 _ rfl
 have hwd:=hfn 99 _ rfl
 have hv:l8 [.c (.s s),.a [.i .i64 0,.i .i64 (i:Int),.s [],.s [],.s []],.c (.s pkg),.c (.i .i64 (k:Int))] vs:=hv
 have hb:RBs [] bs:=hb
 have h1:k+2≤s.length:=h1
 have h2:s.length < 90000:=h2
 have h3:pkg.length < 90000:=h3
 show j3 U _ fun v bs'=>l7 (b4t (O9 s i pkg k)) v∧RBs [] bs'
 unfold d6b
 have hbt:((s.getD (k+2) 0).toNat:Int)=bt s (k+2):=rfl
 have e2:((k:Int)+2).toNat=k+2:=oM
 (refine Zq ?_;with_reducible repeat' first|intro _|apply aI)
 ·refine i6 hbd (11,(s.length:Int)) (r:=v8 11 s.length) rfl j7 .nil fun _ _ hv5 _=>?_
  have hv5:RV (.a [.i .i64 11,.i .i64 (s.length:Int)]) _:=hv5
  (refine Zq ?_;intros)
  rw [show O9 s i pkg k=(⟨6,i,pkg,[],[]⟩,k+2,11,(s.length:Int)) by unfold O9;rw [if_neg oM]]
  exact G2 _ _ _ (by simp) (fun e=>S3 6 i pkg [] [] (by subst e;(exact W8))) (A3 11 s.length aS)
 ·have hlt:k+2 < s.length:=oM
  have hc:bt s (k+2)=124:=by rw [← hbt,← e2];assumption
  generalize hr:H5 s 124 (k+2+1)=r
  obtain ⟨x,n,e,p⟩:=r
  refine i6 hen ⟨((s,k+2+1),124),⟨by show k+2+1≤s.length;omega,h2⟩,(by decide:(124:Int) ≠ 92)⟩ (r:=.t [.c (.s x),.c (.i .i64 (n:Int)),v8 e p]) (by show L5 s 124 (k+2+1) []=_;rw [c4i,hr]) (.k (.s _ _ _ rfl rfl) (.k (by simp;exact .i _ _) (.k (.i _ _) .nil))) .nil fun _ _ hv5 _=>?_
  have hv5:RV (.t [.c (.s x),.c (.i .i64 (n:Int)),.a [.i .i64 e,.i .i64 p]]) _:=hv5
  have eq:O9 s i pkg k=(⟨6,i,pkg,x,[]⟩,n,if e=0 then A6 ⟨6,i,pkg,x,[]⟩ true else (e,p)):=by
   unfold O9
   rw [if_pos hlt,if_pos hc,hr]
  rw [eq]
  (refine Zq ?_;with_reducible repeat' first|intro _|apply aI)
  ·rw [if_pos ‹_›]
   refine d1i hnm ⟨(⟨6,i,pkg,x,[]⟩,true),h3⟩ (r:=v8 (A6 ⟨6,i,pkg,x,[]⟩ true).1 (A6 ⟨6,i,pkg,x,[]⟩ true).2) rfl (fun e=>.k (S3 6 i pkg x [] (by subst e;(exact W8))) j7) .nil fun _ _ hv6 _=>?_
   have hv6:RV (.a [.i .i64 (A6 ⟨6,i,pkg,x,[]⟩ true).1,.i .i64 (A6 ⟨6,i,pkg,x,[]⟩ true).2]) _:=hv6
   (refine Zq ?_;intros)
   refine e4s (gs:=p9 ⟨6,i,pkg,x,[]⟩) (fun e=>.cells _ _ (by subst e;exact (show l8 [.c (.i .i64 6),.c (.i .i64 (i:Int)),.c (.s pkg),.c (.s x),.c (.s [])] _ by (exact W8)))) rfl fun _ _=>?_
   (refine Zq ?_;intros)
   refine a7h fun _ _=>?_
   (refine Zq ?_;intros)
   refine a17 fun _ _=>?_
   (refine Zq ?_;intros)
   exact G2 ⟨6,i,pkg,x,[]⟩ n (A6 ⟨6,i,pkg,x,[]⟩ true) rfl (fun _=>R7 6 i pkg x [] aS) (A3 _ _ aS)
  ·rw [if_neg ‹_›]
   refine e4s (gs:=p9 ⟨6,i,pkg,x,[]⟩) (fun e=>.cells _ _ (by subst e;exact (show l8 [.c (.i .i64 6),.c (.i .i64 (i:Int)),.c (.s pkg),.c (.s x),.c (.s [])] _ by (exact W8)))) rfl fun _ _=>?_
   (refine Zq ?_;intros)
   refine a7h fun _ _=>?_
   (refine Zq ?_;intros)
   refine a17 fun _ _=>?_
   (refine Zq ?_;intros)
   exact G2 ⟨6,i,pkg,x,[]⟩ n (e,p) rfl (fun _=>R7 6 i pkg x [] aS) (A3 e p aS)
 ·have hlt:k+2 < s.length:=oM
  have hc:¬bt s (k+2)=124:=by rw [← hbt,← e2];assumption
  have hw:=E5 s (k+2) h1
  refine i6 hco (bt s (k+2)) (r:=.c (.b (x5 (bt s (k+2))))) rfl (.k (.i _ _) .nil) .nil fun _ _ _ _=>?_
  (refine Zq ?_;with_reducible repeat' first|intro _|apply aI)
  ·have hk:x5 (bt s (k+2))=true:=‹_›
   generalize hj:n7 s (k+2)=j
   rw [hj] at hw
   refine i6 hwd ⟨(s,k+2),h1,h2⟩ (r:=.c (.i .i64 (j:Int))) (by show t7.ret (.c (.i .i64 (n7 s (k+2):Int)))=_;rw [hj]) (.k (.s _ _ _ rfl rfl) (.k (by simp;exact .i _ _) .nil)) .nil fun _ _ _ _=>?_
   (refine Zq ?_;intros)
   rw [show (s.take (j:Int).toNat).drop ((k:Int)+2).toNat=(s.take j).drop (k+2) from rfl]
   generalize hx:(s.take j).drop (k+2)=x
   have eq:O9 s i pkg k=(⟨6,i,pkg,x,[]⟩,j,A6 ⟨6,i,pkg,x,[]⟩ false):=by
    unfold O9
    rw [if_pos hlt,if_neg hc,if_pos hk,hj,hx]
   rw [eq]
   refine d1i hnm ⟨(⟨6,i,pkg,x,[]⟩,false),h3⟩ (r:=v8 (A6 ⟨6,i,pkg,x,[]⟩ false).1 (A6 ⟨6,i,pkg,x,[]⟩ false).2) rfl (fun e=>.k (S3 6 i pkg x [] (by subst e;(exact W8))) j7) .nil fun _ _ hv6 _=>?_
   have hv6:RV (.a [.i .i64 (A6 ⟨6,i,pkg,x,[]⟩ false).1,.i .i64 (A6 ⟨6,i,pkg,x,[]⟩ false).2]) _:=hv6
   (refine Zq ?_;intros)
   exact G2 _ _ _ rfl (fun e=>S3 6 i pkg x [] (by subst e;(exact W8))) (A3 _ _ aS)
  ·refine i6 hbd (12,((k+2:Nat):Int)) (r:=v8 12 ((k+2:Nat):Int)) rfl (.k (.i _ _) (.k (by simp;exact .i _ _) .nil)) .nil fun _ _ hv5 _=>?_
   have hv5:RV (.a [.i .i64 12,.i .i64 ((k+2:Nat):Int)]) _:=hv5
   (refine Zq ?_;intros)
   have eq:O9 s i pkg k=(⟨6,i,pkg,[],[]⟩,k+2,12,((k+2:Nat):Int)):=by
    unfold O9
    rw [if_pos hlt,if_neg hc,if_neg ‹_›]
   rw [eq]
   exact G2 _ _ _ (by simp) (fun e=>S3 6 i pkg [] [] (by subst e;(exact W8))) (A3 _ _ aS)
def a8s (i:Nat) (w:j0) (k:Nat):T5 :=
 if w=[46] then (⟨3,i,[],[],[]⟩,k,0,0)
 else if (m6 w).2.2=true then
  if plain (m6 w).2.1=[48] then (⟨0,i,[],[],[]⟩,k,12,i)
  else (⟨5,i,[],(s7 (plain (m6 w).1) (plain (m6 w).2.1)).1,(s7 (plain (m6 w).1) (plain (m6 w).2.1)).2⟩,k,
   if 100 < E8 (s7 (plain (m6 w).1) (plain (m6 w).2.1)).1∨100 < E8 (s7 (plain (m6 w).1) (plain (m6 w).2.1)).2 then (2,(i:Int)) else (0,0))
 else (⟨6,i,[],w,[]⟩,k,A6 ⟨6,i,[],w,[]⟩ false)
def Q8 (s:j0) (i:Nat):T5 :=
 if bt s i=40 then (⟨1,i,[],[],[]⟩,i+1,0,0)
 else if bt s i=41 then (⟨2,i,[],[],[]⟩,i+1,0,0)
 else if bt s i=39 then (⟨4,i,[],[],[]⟩,i+1,0,0)
 else if bt s i=34 then (⟨7,i,[],(H5 s 34 (i+1)).1,[]⟩,(H5 s 34 (i+1)).2.1,if (H5 s 34 (i+1)).2.2.1=0∧200 < (H5 s 34 (i+1)).1.length then (2,(i:Int)) else (H5 s 34 (i+1)).2.2)
 else if bt s i=124 then (⟨6,i,[],(H5 s 124 (i+1)).1,[]⟩,(H5 s 124 (i+1)).2.1,if (H5 s 124 (i+1)).2.2.1=0 then A6 ⟨6,i,[],(H5 s 124 (i+1)).1,[]⟩ true else (H5 s 124 (i+1)).2.2)
 else if x5 (bt s i)=true then
  if has s (n7 s i) 58 58=true then O9 s i ((s.take (n7 s i)).drop i) (n7 s i)
  else a8s i ((s.take (n7 s i)).drop i) (n7 s i)
 else (⟨0,i,[],[],[]⟩,i,12,i)
theorem b4r {s:j0} {c:Int} {i:Nat} {acc:List Int} {e:Int} {p:Nat} (h:C1 s c i acc=.error (e,p)):e ≠ 0:=by
 fun_induction C1 s c i acc with
 | case1=>cases h
 | case2 i acc h1 h2 h3 ih=>exact ih h
 | case3=>injection h with h;injection h with h1 h2;omega
 | case4 i acc h1 h2 h3 h4 h5 ih=>exact ih h
 | case5=>injection h with h;injection h with h1 h2;omega
 | case6=>injection h with h;injection h with h1 h2;omega
def exT (r:T5):Except (Int × Nat) (y3 × Nat):=if r.2.2.1=0 then .ok (r.1,r.2.1) else .error (r.2.2.1,r.2.2.2.toNat)
theorem a8y (t:y3) (b:Bool) (k:Nat):exT (t,k,A6 t b)=if q7 t.text t.pkg b=0 then .ok (t,k) else .error (q7 t.text t.pkg b,t.pos):=by
 unfold exT A6
 by_cases h:q7 t.text t.pkg b=0
 ·rw [if_pos h,if_pos h];rfl
 ·rw [if_neg h,if_neg h];simp only [];rw [if_neg h,Int.toNat_natCast]
theorem b7z {s:j0} {c:Int} {i j:Nat} {l:List Int} (h:C1 s c i []=.ok (l,j)):H5 s c i=(D5 l,j,0,0):=by
 unfold H5;rw [h];simp only [];rw [e1r h]
theorem b3r {s:j0} {c:Int} {i p:Nat} {e:Int} (h:C1 s c i []=.error (e,p)):H5 s c i=([],a00 s c i,e,(p:Int)):=by
 unfold H5;rw [h]
theorem b2p {t:y3} {k:Nat} {p:Int}:exT (t,k,0,p)=.ok (t,k):=by unfold exT;rw [if_pos rfl]
theorem a1m {t:y3} {k:Nat} {e:Int} {p:Nat} (h:e ≠ 0):exT (t,k,e,(p:Int))=.error (e,p):=by unfold exT;rw [if_neg h];rw [Int.toNat_natCast]
theorem e26 (s:j0) (i:Nat) (pkg:j0) (k:Nat):K4 s i pkg k=exT (O9 s i pkg k):=by
 unfold K4 O9
 by_cases h1:k+2 < s.length
 ·rw [if_pos h1,if_pos h1]
  by_cases h2:bt s (k+2)=124
  ·rw [if_pos h2,if_pos h2]
   cases he:C1 s 124 (k+2+1) [] with
   | error e =>
    obtain ⟨e,p⟩:=e
    have h0:=b4r he
    rw [b3r he]
    simp only []
    rw [if_neg h0,a1m h0]
   | ok r =>
    obtain ⟨l,j⟩:=r
    rw [b7z he]
    simp only [if_true]
    rw [a8y];rfl
  ·rw [if_neg h2,if_neg h2]
   by_cases h3:x5 (bt s (k+2))=true
   ·rw [if_pos h3,if_pos h3,a8y];rfl
   ·rw [if_neg h3,if_neg h3,a1m dE]
 ·rw [if_neg h1,if_neg h1,a1m dE]
theorem d9y (i:Nat) (w:j0) (k:Nat):G1 i w k=exT (a8s i w k):=by
 unfold G1 a8s
 by_cases h1:w=[46]
 ·rw [if_pos h1,if_pos h1,b2p];rfl
 ·rw [if_neg h1,if_neg h1]
  by_cases h2:(m6 w).2.2=true
  ·rw [if_pos h2,if_pos h2]
   by_cases h3:plain (m6 w).2.1=[48]
   ·rw [if_pos h3,if_pos (show plain (m6 w).2.1=x6 from h3),a1m dE]
   ·rw [if_neg h3,if_neg (show ¬plain (m6 w).2.1=x6 from h3)]
    simp only []
    generalize s7 (plain (m6 w).1) (plain (m6 w).2.1)=r
    by_cases h4:100 < E8 r.1∨100 < E8 r.2
    ·rw [if_pos h4,if_pos h4,a1m dE]
    ·rw [if_neg h4,if_neg h4,b2p];rfl
  ·rw [if_neg h2,if_neg h2,a8y];rfl
theorem b6m (s:j0) (i:Nat):B3 s i=exT (Q8 s i):=by
 unfold B3 Q8
 by_cases h1:bt s i=40
 ·rw [if_pos h1,if_pos h1,b2p];rfl
 rw [if_neg h1,if_neg h1]
 by_cases h2:bt s i=41
 ·rw [if_pos h2,if_pos h2,b2p];rfl
 rw [if_neg h2,if_neg h2]
 by_cases h3:bt s i=39
 ·rw [if_pos h3,if_pos h3,b2p];rfl
 rw [if_neg h3,if_neg h3]
 by_cases h4:bt s i=34
 ·rw [if_pos h4,if_pos h4]
  cases he:C1 s 34 (i+1) [] with
  | error e =>
   obtain ⟨e,p⟩:=e
   have h0:=b4r he
   rw [b3r he]
   simp only []
   rw [if_neg (fun h=>h0 h.1),a1m h0]
  | ok r =>
   obtain ⟨l,j⟩:=r
   rw [b7z he]
   simp only [true_and]
   have hl:(D5 l).length=l.length:=by simp [D5]
   rw [hl]
   by_cases h5:200 < l.length
   ·rw [if_pos h5,if_pos h5,a1m dE]
   ·rw [if_neg h5,if_neg h5,b2p];rfl
 rw [if_neg h4,if_neg h4]
 by_cases h5:bt s i=124
 ·rw [if_pos h5,if_pos h5]
  cases he:C1 s 124 (i+1) [] with
  | error e =>
   obtain ⟨e,p⟩:=e
   have h0:=b4r he
   rw [b3r he]
   simp only []
   rw [if_neg h0,a1m h0]
  | ok r =>
   obtain ⟨l,j⟩:=r
   rw [b7z he]
   simp only [if_true]
   rw [a8y];rfl
 rw [if_neg h5,if_neg h5]
 by_cases h6:x5 (bt s i)=true
 ·rw [if_pos h6,if_pos h6]
  by_cases h7:has s (n7 s i) 58 58=true
  ·rw [if_pos h7,if_pos h7,e26]
  ·rw [if_neg h7,if_neg h7,d9y]
 ·rw [if_neg h6,if_neg h6,a1m dE]
def f4y:Sp where
 ι:={ p:j0 × Nat // p.2 < p.1.length∧p.1.length < 8000 }
 A p:=[.c (.s p.1.1),.c (.i .i64 (p.1.2:Int))]
 B _:=[]
 R p:=b4t (Q8 p.1.1 p.1.2)
 B' _:=[]
 inj i j vs bs h k _ _:=by
  obtain ⟨_,_,h1,k1,h,k⟩:=h.two k
  obtain ⟨_,_,h2,k2,h,k⟩:=h.two k
  have e2:=K7 h2 k2
  rw [F1 h1 k1,show i.1.2=j.1.2 by omega];exact ⟨rfl,rfl⟩
theorem a97 {U:t6} {P:E6→List Bx→Prop} (k:Int) (p:Nat) (g t d:j0) {cs:List V} {K:Q→Om} (h:l8 [.c (.i .i64 k),.c (.i .i64 (p:Int)),.c (.s g),.c (.s t),.c (.s d)] cs) (hk:∀ q,x4 [.i .i64 k,.i .i64 (p:Int),.s g,.s t,.s d] q 0→j3 U (K q) P):j3 U (U.uBo 5 (.cells cs) K) P:=X8 (gs:=[.i .i64 k,.i .i64 (p:Int),.s g,.s t,.s d]) (.cells _ _ h) rfl hk
theorem f2g:l6 57 f4y:=o7 (fun fn h=>e4b h) [(53,_),(96,_),(97,_),(98,_),(99,_),(95,_),(100,_),(101,_),(102,_),(85,_),(103,_)] (.cons a4h (.cons d9e (.cons c79 (.cons b0d (.cons d1d (.cons d8n (.cons e5o (.cons d2y (.cons e1y (.cons c6m (.cons d5b .nil))))))))))) fun U fn hfn ⟨(s,i),h1,h2⟩ vs bs hv hb=>by
 have hbd:=hfn 53 _ rfl
 have hen:=hfn 96 _ rfl
 have hnm:=hfn 97 _ rfl
 have hco:=hfn 98 _ rfl
 have hwd:=hfn 99 _ rfl
 have hha:=hfn 95 _ rfl
 have hqu:=hfn 100 _ rfl
 have hnu:=hfn 101 _ rfl
 have hpl:=hfn 102 _ rfl
 have hre:=hfn 85 _ rfl
 have hdi:=hfn 103 _ rfl
 have hv:l8 [.c (.s s),.c (.i .i64 (i:Int))] vs:=hv
 have hb:RBs [] bs:=hb
 have h1:i < s.length:=h1
 have h2:s.length < 8000:=h2
 show j3 U _ fun v bs'=>l7 (b4t (Q8 s i)) v∧RBs [] bs'
 unfold r57
 have hbt:((s.getD i 0).toNat:Int)=bt s i:=rfl
 have hi1:i+1≤s.length:=h1
 have h9:s.length < 90000:=oM
 have e1:((i:Int)+1).toNat=i+1:=oM
 (refine Zq ?_;with_reducible repeat' first|intro _|apply aI)
 ·have h:bt s i=40:=‹_›
  rw [show Q8 s i=(⟨1,i,[],[],[]⟩,i+1,0,0) by unfold Q8;rw [if_pos h]]
  exact G2 ⟨1,i,[],[],[]⟩ (i+1) (0,0) (by simp) (fun _=>S3 1 i [] [] [] j7) (N8 0 0)
 ·have n1:¬bt s i=40:=‹_›
  have h:bt s i=41:=‹_›
  rw [show Q8 s i=(⟨2,i,[],[],[]⟩,i+1,0,0) by unfold Q8;rw [if_neg n1,if_pos h]]
  exact G2 ⟨2,i,[],[],[]⟩ (i+1) (0,0) (by simp) (fun _=>S3 2 i [] [] [] j7) (N8 0 0)
 ·have n1:¬bt s i=40:=‹¬((s.getD i 0).toNat:Int)=40›
  have n2:¬bt s i=41:=‹¬((s.getD i 0).toNat:Int)=41›
  have h:bt s i=39:=‹_›
  rw [show Q8 s i=(⟨4,i,[],[],[]⟩,i+1,0,0) by unfold Q8;rw [if_neg n1,if_neg n2,if_pos h]]
  exact G2 ⟨4,i,[],[],[]⟩ (i+1) (0,0) (by simp) (fun _=>S3 4 i [] [] [] j7) (N8 0 0)
 ·have n1:¬bt s i=40:=‹¬((s.getD i 0).toNat:Int)=40›
  have n2:¬bt s i=41:=‹¬((s.getD i 0).toNat:Int)=41›
  have n3:¬bt s i=39:=‹¬((s.getD i 0).toNat:Int)=39›
  have h:bt s i=34:=‹((s.getD i 0).toNat:Int)=34›
  generalize hr:H5 s 34 (i+1)=r
  obtain ⟨x,n,e,p⟩:=r
  refine i6 hen ⟨((s,i+1),34),⟨hi1,h9⟩,(by decide:(34:Int) ≠ 92)⟩ (r:=.t [.c (.s x),.c (.i .i64 (n:Int)),v8 e p]) (by show L5 s 34 (i+1) []=_;rw [c4i,hr]) (.k (.s _ _ _ rfl rfl) (.k (by simp;exact .i _ _) (.k (.i _ _) .nil))) .nil fun _ _ hv5 _=>?_
  have hv5:RV (.t [.c (.s x),.c (.i .i64 (n:Int)),.a [.i .i64 e,.i .i64 p]]) _:=hv5
  rw [show Q8 s i=(⟨7,i,[],x,[]⟩,n,if e=0∧200 < x.length then (2,(i:Int)) else (e,p)) by unfold Q8;rw [if_neg n1,if_neg n2,if_neg n3,if_pos h,hr]]
  (refine Zq ?_;with_reducible repeat' first|intro _|apply aI)
  ·have h0:e=0:=‹_›
   refine a7h fun _ _=>?_
   (refine Zq ?_;intros)
   refine a17 fun _ _=>?_
   (refine Zq ?_;intros)
   refine a97 7 i [] x [] j7 fun _ _=>?_
   (refine Zq ?_;with_reducible repeat' first|intro _|apply aI)
   ·rw [if_pos ⟨h0,oM⟩]
    refine i6 hbd (2,(i:Int)) (r:=v8 2 i) rfl (.k (.i _ _) (.k (.q _ _ aS) .nil)) .nil fun _ _ hv6 _=>?_
    have hv6:RV (.a [.i .i64 2,.i .i64 (i:Int)]) _:=hv6
    (refine Zq ?_;intros)
    exact G2 ⟨7,i,[],x,[]⟩ n (2,(i:Int)) rfl (fun _=>R7 7 i [] x [] aS) (A3 _ _ aS)
   ·rw [if_neg (fun h=>by omega)]
    exact G2 ⟨7,i,[],x,[]⟩ n (e,p) rfl (fun _=>R7 7 i [] x [] aS) (A3 _ _ aS)
  ·have h0:¬e=0:=‹_›
   refine a7h fun _ _=>?_
   (refine Zq ?_;intros)
   refine a17 fun _ _=>?_
   (refine Zq ?_;intros)
   refine a97 7 i [] x [] j7 fun _ _=>?_
   (refine Zq ?_;intros)
   rw [if_neg (fun h=>h0 h.1)]
   exact G2 ⟨7,i,[],x,[]⟩ n (e,p) rfl (fun _=>R7 7 i [] x [] aS) (A3 _ _ aS)
 ·have n1:¬bt s i=40:=‹¬((s.getD i 0).toNat:Int)=40›
  have n2:¬bt s i=41:=‹¬((s.getD i 0).toNat:Int)=41›
  have n3:¬bt s i=39:=‹¬((s.getD i 0).toNat:Int)=39›
  have n4:¬bt s i=34:=‹¬((s.getD i 0).toNat:Int)=34›
  have h:bt s i=124:=‹((s.getD i 0).toNat:Int)=124›
  generalize hr:H5 s 124 (i+1)=r
  obtain ⟨x,n,e,p⟩:=r
  refine i6 hen ⟨((s,i+1),124),⟨hi1,h9⟩,(by decide:(124:Int) ≠ 92)⟩ (r:=.t [.c (.s x),.c (.i .i64 (n:Int)),v8 e p]) (by show L5 s 124 (i+1) []=_;rw [c4i,hr]) (.k (.s _ _ _ rfl rfl) (.k (by simp;exact .i _ _) (.k (.i _ _) .nil))) .nil fun _ _ hv5 _=>?_
  have hv5:RV (.t [.c (.s x),.c (.i .i64 (n:Int)),.a [.i .i64 e,.i .i64 p]]) _:=hv5
  rw [show Q8 s i=(⟨6,i,[],x,[]⟩,n,if e=0 then A6 ⟨6,i,[],x,[]⟩ true else (e,p)) by unfold Q8;rw [if_neg n1,if_neg n2,if_neg n3,if_neg n4,if_pos h,hr]]
  (refine Zq ?_;with_reducible repeat' first|intro _|apply aI)
  ·rw [if_pos ‹e=0›]
   refine i6 hnm ⟨(⟨6,i,[],x,[]⟩,true),(by decide:([]:j0).length < 90000)⟩ (r:=v8 (A6 ⟨6,i,[],x,[]⟩ true).1 (A6 ⟨6,i,[],x,[]⟩ true).2) rfl (.k (S3 6 i [] x [] j7) j7) .nil fun _ _ hv6 _=>?_
   have hv6:RV (.a [.i .i64 (A6 ⟨6,i,[],x,[]⟩ true).1,.i .i64 (A6 ⟨6,i,[],x,[]⟩ true).2]) _:=hv6
   (refine Zq ?_;intros)
   refine a7h fun _ _=>?_
   (refine Zq ?_;intros)
   refine a17 fun _ _=>?_
   (refine Zq ?_;intros)
   refine a97 6 i [] x [] j7 fun _ _=>?_
   (refine Zq ?_;intros)
   exact G2 ⟨6,i,[],x,[]⟩ n (A6 ⟨6,i,[],x,[]⟩ true) rfl (fun _=>R7 6 i [] x [] aS) (A3 _ _ aS)
  ·rw [if_neg ‹¬e=0›]
   refine a7h fun _ _=>?_
   (refine Zq ?_;intros)
   refine a17 fun _ _=>?_
   (refine Zq ?_;intros)
   refine a97 6 i [] x [] j7 fun _ _=>?_
   (refine Zq ?_;intros)
   exact G2 ⟨6,i,[],x,[]⟩ n (e,p) rfl (fun _=>R7 6 i [] x [] aS) (A3 _ _ aS)
 ·have n1:¬bt s i=40:=‹¬((s.getD i 0).toNat:Int)=40›
  have n2:¬bt s i=41:=‹¬((s.getD i 0).toNat:Int)=41›
  have n3:¬bt s i=39:=‹¬((s.getD i 0).toNat:Int)=39›
  have n4:¬bt s i=34:=‹¬((s.getD i 0).toNat:Int)=34›
  have n5:¬bt s i=124:=‹¬((s.getD i 0).toNat:Int)=124›
  have eo:Q8 s i=if x5 (bt s i)=true then
    if has s (n7 s i) 58 58=true then O9 s i ((s.take (n7 s i)).drop i) (n7 s i)
    else a8s i ((s.take (n7 s i)).drop i) (n7 s i)
   else (⟨0,i,[],[],[]⟩,i,12,i):=by
   conv=>lhs;unfold Q8
   rw [if_neg n1,if_neg n2,if_neg n3,if_neg n4,if_neg n5]
  rw [eo]
  refine i6 hco (bt s i) (r:=.c (.b (x5 (bt s i)))) rfl (by rw [← hbt];(exact j7)) .nil fun _ _ _ _=>?_
  (refine Zq ?_;with_reducible repeat' first|intro _|apply aI)
  ·rw [if_pos ‹x5 (bt s i)=true›]
   have hw:=E5 s i oM
   generalize hj:n7 s i=j at *
   refine i6 hwd ⟨(s,i),by show i≤s.length;omega,h9⟩ (r:=.c (.i .i64 (j:Int))) (by show t7.ret (.c (.i .i64 (n7 s i:Int)))=_;rw [hj]) j7 .nil fun _ _ _ _=>?_
   (refine Zq ?_;intros)
   have hlen:((s.take j).drop i).length < 8000:=by simp;omega
   rw [show (s.take (j:Int).toNat).drop (i:Int).toNat=(s.take j).drop i from rfl]
   generalize hx:(s.take j).drop i=w at *
   refine i6 hha ⟨((s,j),58,58),hw.2,h9⟩ (r:=.c (.b (has s j 58 58))) rfl j7 .nil fun _ _ _ _=>?_
   (refine Zq ?_;with_reducible repeat' first|intro _|apply aI)
   ·have hs2:=P9 ‹has s j 58 58=true›
    rw [if_pos ‹has s j 58 58=true›]
    generalize hr:O9 s i w j=r
    obtain ⟨⟨tk,tp,tg,tt,td⟩,n,e,p⟩:=r
    refine i6 hqu ⟨((s,i),w,j),⟨by show j+2≤s.length;omega,h9⟩,by show w.length < 90000;omega⟩ (r:=.t [.a (p9 ⟨tk,tp,tg,tt,td⟩),.c (.i .i64 (n:Int)),v8 e p]) (by show b4t (O9 s i w j)=_;rw [hr];rfl) (.k (.s _ _ _ rfl rfl) (.k (S3 0 i [] [] [] j7) (.k (.s _ _ _ rfl rfl) (.k (.i _ _) .nil)))) .nil fun _ _ hv6 _=>?_
    have hv6:RV (.t [.a [.i .i64 tk,.i .i64 (tp:Int),.s tg,.s tt,.s td],.c (.i .i64 (n:Int)),.a [.i .i64 e,.i .i64 p]]) _:=hv6
    (refine Zq ?_;intros)
    exact G2 ⟨tk,tp,tg,tt,td⟩ n (e,p) rfl (fun _=>R7 tk tp tg tt td aS) (A3 _ _ aS)
   ·rw [if_neg ‹¬has s j 58 58=true›]
    refine i6 hnu ⟨w,by show w.length < 90000;omega⟩ (r:=.t [.c (.s (m6 w).1),.c (.s (m6 w).2.1),.c (.b (m6 w).2.2)]) rfl j7 .nil fun _ _ _ _=>?_
    have hnl:=b29 w
    unfold a8s
    (refine Zq ?_;with_reducible repeat' first|intro _|apply aI)
    ·rw [if_pos (show w=[46] from ‹_›)]
     refine a7h fun _ _=>?_
     (refine Zq ?_;intros)
     refine a17 fun _ _=>?_
     (refine Zq ?_;intros)
     refine a97 3 i [] [] [] j7 fun _ _=>?_
     (refine Zq ?_;intros)
     refine a17 fun _ _=>?_
     (refine Zq ?_;intros)
     exact G2 ⟨3,i,[],[],[]⟩ j (0,0) rfl (fun _=>R7 3 i [] [] [] aS) (A3 _ _ aS)
    ·rw [if_neg (show ¬w=[46] from ‹_›),if_pos ‹(m6 w).2.2=true›]
     have hp1:=a04 (m6 w).1
     have hp2:=a04 (m6 w).2.1
     refine i6 hpl ⟨(m6 w).2.1,by show (m6 w).2.1.length < 90000;omega⟩ (r:=.c (.s (plain (m6 w).2.1))) rfl j7 .nil fun _ _ _ _=>?_
     (refine Zq ?_;with_reducible repeat' first|intro _|apply aI)
     ·rw [if_pos (show plain (m6 w).2.1=[48] from ‹_›)]
      refine i6 hbd (12,(i:Int)) (r:=v8 12 i) rfl j7 .nil fun _ _ hv6 _=>?_
      have hv6:RV (.a [.i .i64 12,.i .i64 (i:Int)]) _:=hv6
      (refine Zq ?_;intros)
      exact G2 ⟨0,i,[],[],[]⟩ j (12,(i:Int)) rfl (fun _=>S3 0 i [] [] [] j7) (A3 _ _ aS)
     ·rw [if_neg (show ¬plain (m6 w).2.1=[48] from ‹_›)]
      refine i6 hpl ⟨(m6 w).1,by show (m6 w).1.length < 90000;omega⟩ (r:=.c (.s (plain (m6 w).1))) rfl j7 .nil fun _ _ _ _=>?_
      (refine Zq ?_;intros)
      refine i6 hpl ⟨(m6 w).2.1,by show (m6 w).2.1.length < 90000;omega⟩ (r:=.c (.s (plain (m6 w).2.1))) rfl j7 .nil fun _ _ _ _=>?_
      (refine Zq ?_;intros)
      generalize hr:s7 (plain (m6 w).1) (plain (m6 w).2.1)=r
      have hrf:=a6b (plain (m6 w).1) (plain (m6 w).2.1)
      rw [hr] at hrf
      obtain ⟨rn,rd⟩:=r
      have hrl:rn.length < 9000∧rd.length < 9000:=by
       obtain ⟨a,b,e,_,_,l1,l2⟩:=hrf
       injection e with e3 e4
       subst e3 e4
       unfold j6
       constructor
       ·split
        ·simp only [List.length_append,List.length_cons,List.length_nil];omega
        ·omega
       ·omega
      refine i6 hre ⟨(plain (m6 w).1,plain (m6 w).2.1),by show (plain (m6 w).1).length < 9000;omega,by show (plain (m6 w).2.1).length < 9000;omega⟩ (r:=.t [.c (.s rn),.c (.s rd)]) (by show t7.ret (.t [.c (.s (s7 (plain (m6 w).1) (plain (m6 w).2.1)).1),.c (.s (s7 (plain (m6 w).1) (plain (m6 w).2.1)).2)])=_;rw [hr]) j7 .nil fun _ _ _ _=>?_
      (refine Zq ?_;intros)
      refine i6 hdi ⟨rn,by show rn.length < 90000;omega⟩ (r:=.c (.i .i64 (E8 rn))) rfl j7 .nil fun _ _ _ _=>?_
      simp only []
      (refine Zq ?_;with_reducible repeat' first|intro _|apply aI)
      ·rw [if_pos (.inl oM)]
       refine a7h fun _ _=>?_
       (refine Zq ?_;intros)
       refine a17 fun _ _=>?_
       (refine Zq ?_;intros)
       refine a97 5 i [] rn rd j7 fun _ _=>?_
       (refine Zq ?_;intros)
       refine a17 fun _ _=>?_
       (refine Zq ?_;intros)
       refine i6 hbd (2,(i:Int)) (r:=v8 2 i) rfl j7 .nil fun _ _ hv6 _=>?_
       have hv6:RV (.a [.i .i64 2,.i .i64 (i:Int)]) _:=hv6
       (refine Zq ?_;intros)
       exact G2 ⟨5,i,[],rn,rd⟩ j (2,(i:Int)) rfl (fun _=>R7 5 i [] rn rd aS) (A3 _ _ aS)
      ·refine i6 hdi ⟨rd,by show rd.length < 90000;omega⟩ (r:=.c (.i .i64 (E8 rd))) rfl j7 .nil fun _ _ _ _=>?_
       (refine Zq ?_;intros)
       refine a7h fun _ _=>?_
       (refine Zq ?_;intros)
       refine a17 fun _ _=>?_
       (refine Zq ?_;intros)
       refine a97 5 i [] rn rd j7 fun _ _=>?_
       (refine Zq ?_;intros)
       refine a17 fun _ _=>?_
       (refine Zq ?_;with_reducible repeat' first|intro _|apply aI)
       ·rw [if_pos (.inr oM)]
        refine i6 hbd (2,(i:Int)) (r:=v8 2 i) rfl j7 .nil fun _ _ hv6 _=>?_
        have hv6:RV (.a [.i .i64 2,.i .i64 (i:Int)]) _:=hv6
        (refine Zq ?_;intros)
        exact G2 ⟨5,i,[],rn,rd⟩ j (2,(i:Int)) rfl (fun _=>R7 5 i [] rn rd aS) (A3 _ _ aS)
       ·rw [if_neg (fun h=>by omega)]
        exact G2 ⟨5,i,[],rn,rd⟩ j (0,0) rfl (fun _=>R7 5 i [] rn rd aS) (A3 _ _ aS)
    ·rw [if_neg (show ¬w=[46] from ‹_›),if_neg ‹¬(m6 w).2.2=true›]
     refine i6 hnm ⟨(⟨6,i,[],w,[]⟩,false),(by decide:([]:j0).length < 90000)⟩ (r:=v8 (A6 ⟨6,i,[],w,[]⟩ false).1 (A6 ⟨6,i,[],w,[]⟩ false).2) rfl (.k (S3 6 i [] w [] j7) j7) .nil fun _ _ hv6 _=>?_
     have hv6:RV (.a [.i .i64 (A6 ⟨6,i,[],w,[]⟩ false).1,.i .i64 (A6 ⟨6,i,[],w,[]⟩ false).2]) _:=hv6
     (refine Zq ?_;intros)
     refine a7h fun _ _=>?_
     (refine Zq ?_;intros)
     refine a17 fun _ _=>?_
     (refine Zq ?_;intros)
     refine a97 6 i [] w [] j7 fun _ _=>?_
     (refine Zq ?_;intros)
     exact G2 ⟨6,i,[],w,[]⟩ j (A6 ⟨6,i,[],w,[]⟩ false) rfl (fun _=>R7 6 i [] w [] aS) (A3 _ _ aS)
  ·rw [if_neg ‹¬x5 (bt s i)=true›]
   refine i6 hbd (12,(i:Int)) (r:=v8 12 i) rfl j7 .nil fun _ _ hv6 _=>?_
   have hv6:RV (.a [.i .i64 12,.i .i64 (i:Int)]) _:=hv6
   (refine Zq ?_;intros)
   exact G2 ⟨0,i,[],[],[]⟩ i (12,(i:Int)) rfl (fun _=>S3 0 i [] [] [] j7) (A3 _ _ aS)
theorem a6p (t:y3) (b:Bool):0≤(A6 t b).2:=by unfold A6;split <;> simp
theorem b3o (s:j0) (c:Int) (i:Nat):0≤(H5 s c i).2.2.2:=by unfold H5;split <;> simp
theorem d7a (s:j0) (i:Nat) (pkg:j0) (k:Nat):0≤(O9 s i pkg k).2.2.2:=by
 unfold O9
 split
 ·split
  ·simp only []
   split
   ·exact a6p _ _
   ·exact b3o _ _ _
  ·split
   ·exact a6p _ _
   ·simp only [];omega
 ·simp only [];omega
theorem d4z (i:Nat) (w:j0) (k:Nat):0≤(a8s i w k).2.2.2:=by
 unfold a8s
 split
 ·simp
 ·split
  ·split
   ·simp
   ·simp only [];split <;> simp
  ·exact a6p _ _
theorem d5e (s:j0) (i:Nat):0≤(Q8 s i).2.2.2:=by
 unfold Q8
 split
 ·simp
 split
 ·simp
 split
 ·simp
 split
 ·simp only []
  split
  ·simp
  ·exact b3o _ _ _
 split
 ·simp only []
  split
  ·exact a6p _ _
  ·exact b3o _ _ _
 split
 ·split
  ·exact d7a _ _ _ _
  ·exact d4z _ _ _
 ·simp
theorem c31:l6 24 d47:=o7 (fun fn h=>e4y h) [(53,_),(56,_),(57,_)] (.cons a4h (.cons e7z (.cons f2g .nil))) fun U fn hfn ⟨s,hs⟩ vs bs hv hb=>by
 have hbd:=hfn 53 _ rfl
 have hsk:=hfn 56 _ rfl
 have hon:=hfn 57 _ rfl
 have hv:l8 [.c (.s s)] vs:=hv
 have hb:RBs [] bs:=hb
 have hs:s.length < 8000:=hs
 show j3 U _ fun v bs'=>l7 (b1y (A7 s)) v∧RBs [] bs'
 unfold r24
 have err:∀ {e p:Int} {k:Nat} {x:Q} {R:Except (Int × Nat) (List y3)},p=k→R=.error (e,k)→x4 [.i .i64 e,.i .i64 p] x 0→j3 U (some (.ret (.tuple [.slice .nil 0 0 0 .no,.a x 2]),[])) fun v bs'=>l7 (b1y R) v∧RBs [] bs':=fun hp h hx=>by
  subst hp h
  exact k9 ⟨.ret _ _ (.t _ _ (.k (.sl0 _ _ _) (.k (.a _ _ _ rfl hx) .nil))),.nil⟩
 (refine Zq ?_;with_reducible repeat' first|intro _|apply aI)
 ·have e:A7 s=.error (2,0):=by unfold A7;rw [if_pos oM]
  refine i6 hbd (2,0) (r:=v8 2 0) rfl j7 .nil fun _ _ hv5 _=>?_
  have hv5:RV (.a [.i .i64 2,.i .i64 0]) _:=hv5
  (refine Zq ?_;intros)
  exact err rfl e aS
 ·have et:A7 s=D7 s 0 []:=by unfold A7;rw [if_neg oM]
  refine C7 (fun (i:Nat) vs bs=>∃ (acc:List y3) (v:V) (b0:Bx),vs=[.str s.length (m8 s),.ptr 0 0,.int .i64 i,v]∧bs=[b0,.tok acc.length 5]∧RB [.i .i64 0,.i .i64 0] b0∧V4 1 5 (acc.map p9) v∧i≤s.length∧acc.length≤i∧A7 s=D7 s i acc) (fun i=>s.length - i) 0 ⟨[],_,_,rfl,rfl,.cells _ _ j7,.b rfl,Nat.zero_le _,Nat.le_refl _,et⟩ (by simp only [x8];omega) ?_
  rintro self i _ _ ⟨acc,v,b0,rfl,rfl,hb0,htk,hi,ha,he⟩ ih
  rw [he,Y5 hi]
  (refine Zq ?_;with_reducible repeat' first|intro _|apply aI)
  cases hk:LQ.skip s i with
  | none =>
   refine i6 hsk ⟨(s,i),hi,by show s.length < 90000;omega⟩ (r:=.t [.c (.i .i64 (s.length:Int)),.c (.b false)]) (by show a6e s i=_;unfold a6e;rw [hk]) j7 .nil fun _ _ _ _=>?_
   (refine Zq ?_;intros)
   refine i6 hbd (11,(s.length:Int)) (r:=v8 11 s.length) rfl j7 .nil fun _ _ hv5 _=>?_
   have hv5:RV (.a [.i .i64 11,.i .i64 (s.length:Int)]) _:=hv5
   (refine Zq ?_;intros)
   exact err rfl rfl aS
  | some j =>
   have hj:=R5 hi hk
   simp only []
   refine i6 hsk ⟨(s,i),hi,by show s.length < 90000;omega⟩ (r:=.t [.c (.i .i64 (j:Int)),.c (.b true)]) (by show a6e s i=_;unfold a6e;rw [hk]) j7 .nil fun _ _ _ _=>?_
   (refine Zq ?_;with_reducible repeat' first|intro _|apply aI)
   ·rw [if_neg oM]
    refine V8 (xs:=acc.map p9) (r:=p9 ⟨0,s.length,[],[],[]⟩) (n:=5) (off:=0) aS (fun _=>T0 (by rw [F7];decide) (.k (.i _ _) (.k (.i _ _) (.k (.s _ _ _ rfl rfl) (.k (.s _ _ _ rfl rfl) (.k (.s _ _ _ rfl rfl) (.nil _ _))))))) (F7 _) (by simp) (by simp;omega) fun _ ht'=>?_
    rw [show acc.map p9 ++ [p9 ⟨0,s.length,[],[],[]⟩]=(acc ++ [(⟨0,s.length,[],[],[]⟩:y3)]).map p9 by simp] at ht'
    (refine Zq ?_;intros)
    exact k9 ⟨.ret _ _ (.t _ _ (.k (.sl _ _ _ _ _ (by simp) ht') (.k (N8 0 0) .nil))),.nil⟩
   ·have hjl:j < s.length:=oM
    rw [if_pos hjl,b6m]
    generalize hr:Q8 s j=r
    obtain ⟨⟨tk,tp,tg,tt,td⟩,n,e,p⟩:=r
    refine i6 hon ⟨(s,j),hjl,hs⟩ (r:=.t [.a (p9 ⟨tk,tp,tg,tt,td⟩),.c (.i .i64 (n:Int)),v8 e p]) (by show b4t (Q8 s j)=_;rw [hr];rfl) j7 .nil fun _ _ hv6 _=>?_
    have hv6:RV (.t [.a [.i .i64 tk,.i .i64 (tp:Int),.s tg,.s tt,.s td],.c (.i .i64 (n:Int)),.a [.i .i64 e,.i .i64 p]]) _:=hv6
    have hp0:=d5e s j
    rw [hr] at hp0
    have hp0:0≤p:=hp0
    (refine Zq ?_;with_reducible repeat' first|intro _|apply aI)
    ·have h0:e=0:=‹_›
     have hx:exT (⟨tk,tp,tg,tt,td⟩,n,e,p)=.ok (⟨tk,tp,tg,tt,td⟩,n):=by unfold exT;rw [if_pos h0]
     have hg:=X5 hjl (by rw [b6m,hr,hx])
     rw [hx]
     simp only []
     refine V8 (xs:=acc.map p9) (r:=p9 ⟨tk,tp,tg,tt,td⟩) (n:=5) (off:=0) aS (fun _=>T0 (by rw [F7];decide) aS) (F7 _) (by simp) (by simp;omega) fun _ ht'=>?_
     rw [show acc.map p9 ++ [p9 ⟨tk,tp,tg,tt,td⟩]=(acc ++ [(⟨tk,tp,tg,tt,td⟩:y3)]).map p9 by simp] at ht'
     (refine Zq ?_;intros)
     have et2:A7 s=D7 s n (acc ++ [⟨tk,tp,tg,tt,td⟩]):=by rw [he,Y5 hi,hk];simp only [];rw [if_pos hjl,b6m,hr,hx]
     rw [← et2]
     exact ih n _ _ ⟨acc ++ [⟨tk,tp,tg,tt,td⟩],_,_,rfl,by rw [List.length_append];rfl,.opa _ _ _ rfl aS,.a _ _ (by simp) ht',hg.2,by simp;omega,et2⟩ oM
    ·have h0:¬e=0:=‹_›
     have hx:exT (⟨tk,tp,tg,tt,td⟩,n,e,p)=.error (e,p.toNat):=by unfold exT;rw [if_neg h0]
     rw [hx]
     exact err (e:=e) (p:=p) (k:=p.toNat) oM rfl aS
end
end Go.Proofs.YtffaodopiifbkaaGreatDoor
