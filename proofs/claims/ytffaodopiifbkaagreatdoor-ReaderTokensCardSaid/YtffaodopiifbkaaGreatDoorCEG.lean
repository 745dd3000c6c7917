/- Packages and symbols: the program's and the reference's. -/
import Derived.Test.YtffaodopiifbkaaGreatDoorCEF
set_option linter.all false
namespace Go.Proofs.YtffaodopiifbkaaGreatDoor
open Go.Abs LQ
set_option maxRecDepth 100000
set_option maxHeartbeats 4000000
noncomputable section
theorem b22:∀ {l m:List Sy},l.map sg=m.map sg→l=m
 | [],[],_=>rfl
 | [],_ :: _,h=>by simp at h
 | _ :: _,[],h=>by simp at h
 | a :: l,b :: m,h=>by simp only [List.map_cons,List.cons.injEq] at h;rw [c3k h.1,b22 h.2]
theorem e2i {a b:Pk} (h:pg a=pg b):a=b:=by
 simp only [pg,List.cons.injEq,G.s.injEq,G.l.injEq,and_true] at h
 exact Prod.ext h.1 (b22 h.2)
theorem a7u:∀ {l m:List Pk},l.map pg=m.map pg→l=m
 | [],[],_=>rfl
 | [],_ :: _,h=>by simp at h
 | _ :: _,[],h=>by simp at h
 | a :: l,b :: m,h=>by simp only [List.map_cons,List.cons.injEq] at h;rw [e2i h.1,a7u h.2]
def a49 (L:List Pk):Prop:=L.length < 90000∧∀ p ∈ L,p.2.length < 90000
def f1s (g:List Pk→i7→GV):Sp where
 ι:={ p:List Pk × i7 // a49 p.1 }
 A p:=[.sl 2 (p.1.1.map pg),.c (.s p.1.2)]
 B _:=[]
 R p:=.ret (g p.1.1 p.1.2)
 B' _:=[]
 inj i j vs bs h k _ _:=by
  obtain ⟨_,_,h1,k1,h,k⟩:=h.two k
  obtain ⟨_,_,h2,k2,h,k⟩:=h.two k
  rw [a7u (h1.sl_inj k1),H3 h2 k2];exact ⟨rfl,rfl⟩
def e8c (g:List Pk→i7→i7→GV):Sp where
 ι:={ p:List Pk × i7 × i7 // a49 p.1 }
 A p:=[.sl 2 (p.1.1.map pg),.c (.s p.1.2.1),.c (.s p.1.2.2)]
 B _:=[]
 R p:=.ret (g p.1.1 p.1.2.1 p.1.2.2)
 B' _:=[]
 inj i j vs bs h k _ _:=by
  obtain ⟨_,_,h1,k1,h,k⟩:=h.two k
  obtain ⟨_,_,h2,k2,h,k⟩:=h.two k
  obtain ⟨_,_,h3,k3,h,k⟩:=h.two k
  rw [a7u (h1.sl_inj k1),H3 h2 k2,H3 h3 k3];exact ⟨rfl,rfl⟩
def a56 (L:List Pk) (n:i7):GV:=match P6 L n with
 | some p=>.t [.a (pg p),.c (.b true)]
 | none=>.t [.a [.s [],.l []],.c (.b false)]
theorem d5e {L:List Pk} {n:i7} {i:Nat} (h:i < L.length) (hn:L[i].1=n):P6 (L.drop i) n=some L[i]:=by
 rw [List.drop_eq_getElem_cons h,P6,if_pos hn]
theorem e11 {L:List Pk} {n:i7} {i:Nat} (h:i < L.length) (hn:¬L[i].1=n):P6 (L.drop i) n=P6 (L.drop (i+1)) n:=by
 rw [List.drop_eq_getElem_cons h,P6,if_neg hn]
theorem d5b {L:List Pk} {n:i7} {i:Nat} (h:¬i < L.length):P6 (L.drop i) n=none:=by
 rw [List.drop_eq_nil_of_le (by omega)];rfl
theorem e6t:l5 60 (f1s a56):=v7 (fun fn h=>e2w h) [] .nil fun U fn hfn ⟨(L,nm),hL⟩ vs bs hv hb=>by
 have hL:a49 L:=hL
 have hl:L.length < 90000:=hL.1
 have hv:l9 [.sl 2 (L.map pg),.c (.s nm)] vs:=hv
 have hb:RBs [] bs:=hb
 show j3 U _ fun v bs'=>m8 (.ret (a56 L nm)) v∧RBs [] bs'
 unfold r60
 (refine Zq ?_;with_reducible repeat' first|intro _|apply aI)
 refine F8 (fun (i:Nat) vs bs=>∃ (t:j8 Q) (off:Nat),vs=[.str nm.length (n6 nm),.ptr 0 0,.slice t 2 off L.length .no,.int .i64 L.length,.int .i64 i]∧bs=[.cells [.str 0 0,.slice .nil 0 0 0 .exact]]∧u6 2 (L.map pg) t off∧i≤L.length∧P6 (L.drop i) nm=P6 L nm) (fun i=>L.length - i) 0 ⟨_,_,rfl,rfl,by assumption,Nat.zero_le _,rfl⟩ (by simp only [B8];omega) ?_
 rintro self i _ _ ⟨t,off,rfl,rfl,ht,hi,he⟩ ih
 (refine Zq ?_;with_reducible repeat' first|intro _|apply aI)
 ·have hi2:i < L.length:=by omega
  have e:L[i].1=nm:=‹_›
  unfold a56
  rw [← he,d5e hi2 e]
  exact l6 ⟨.ret _ _ (.t _ _ (.cons _ _ _ _ (.a _ _ _ rfl (by assumption)) (.cons _ _ _ _ (.kn _) .nil))),.nil⟩
 ·have hi2:i < L.length:=by omega
  have e:¬L[i].1=nm:=‹_›
  exact ih (i+1) _ _ ⟨_,_,rfl,rfl,ht,by omega,by rw [← he,e11 hi2 e]⟩ (by omega)
 ·unfold a56
  rw [← he,d5b (by omega)]
  exact l6 ⟨.ret _ _ (.t _ _ (.cons _ _ _ _ (.ag _ _ j9) (.cons _ _ _ _ (.kn _) .nil))),.nil⟩
def b12 (L:List Pk) (c n:i7):GV:=.t [.a (sg (F3 L c n).1),.c (.i .i64 (F3 L c n).2)]
theorem e18 {l:List Sy} {n:i7} {i:Nat} (h:i < l.length) (hn:l[i].2=n):a3o (l.drop i) n=some l[i]:=by
 rw [List.drop_eq_getElem_cons h,a3o,if_pos hn]
theorem e6y {l:List Sy} {n:i7} {i:Nat} (h:i < l.length) (hn:¬l[i].2=n):a3o (l.drop i) n=a3o (l.drop (i+1)) n:=by
 rw [List.drop_eq_getElem_cons h,a3o,if_neg hn]
theorem e1g {l:List Sy} {n:i7} {i:Nat} (h:¬i < l.length):a3o (l.drop i) n=none:=by
 rw [List.drop_eq_nil_of_le (by omega)];rfl
theorem d18 {L:List Pk} {n:i7} {p:Pk} (h:P6 L n=some p):p ∈ L∧p.1=n:=by
 induction L with
 | nil=>cases h
 | cons q L ih =>
  rw [P6] at h
  split at h
  ·rename_i e;injection h with h;subst h;exact ⟨by simp,e⟩
  ·have:=ih h;exact ⟨by simp [this.1],this.2⟩
theorem d0x (s:Sy):(sg s).length=2:=rfl
theorem c43 {L:List Pk} {c n:i7} (h:P6 L c=none):F3 L c n=(([],[]),13):=by unfold F3;rw [h]
theorem b42 {L:List Pk} {c n:i7} {p:Pk} (h:P6 L c=some p) (hn:n.length < 1∨40 < n.length):F3 L c n=(([],[]),3):=by unfold F3;rw [h];simp only [];rw [if_pos hn]
theorem c7t {L:List Pk} {c n:i7} {p:Pk} {s:Sy} (h:P6 L c=some p) (hn:¬(n.length < 1∨40 < n.length)) (hi:a3o p.2 n=some s):F3 L c n=(s,0):=by unfold F3;rw [h];simp only [];rw [if_neg hn,hi]
theorem c7j {L:List Pk} {c n:i7} {p:Pk} (h:P6 L c=some p) (hn:¬(n.length < 1∨40 < n.length)) (hi:a3o p.2 n=none):F3 L c n=((c,n),0):=by unfold F3;rw [h];simp only [];rw [if_neg hn,hi]
theorem a1u {L:List Pk} {c n:i7} {r:Sy × Int} (h:F3 L c n=r):b12 L c n=.t [.a (sg r.1),.c (.i .i64 r.2)]:=by unfold b12;rw [h]
theorem d58:l5 106 (e8c b12):=v7 (fun fn h=>e1w h) [(60,_)] (.cons e6t .nil) fun U fn hfn ⟨(L,cur,nm),hL⟩ vs bs hv hb=>by
 have hf:=hfn 60 _ rfl
 have hL:a49 L:=hL
 have hv:l9 [.sl 2 (L.map pg),.c (.s cur),.c (.s nm)] vs:=hv
 have hb:RBs [] bs:=hb
 show j3 U _ fun v bs'=>m8 (.ret (b12 L cur nm)) v∧RBs [] bs'
 unfold d3t
 (refine Zq ?_;with_reducible repeat' first|intro _|apply aI)
 cases hp:P6 L cur with
 | none =>
  refine j4 hf ⟨(L,cur),hL⟩ (r:=.t [.a [.s [],.l []],.c (.b false)]) (by show y4.ret (a56 L cur)=_;unfold a56;rw [hp]) (.cons _ _ _ _ (.sl _ _ _ _ _ (by simp) (by assumption)) j9) .nil fun _ _ _ _=>?_
  (refine Zq ?_;with_reducible repeat' first|intro _|apply aI)
  rw [a1u (c43 hp)]
  exact l6 ⟨.ret _ _ (.t _ _ (.cons _ _ _ _ (.ag _ _ j9) (.cons _ _ _ _ (.i _ _) .nil))),.nil⟩
 | some p =>
  refine j4 hf ⟨(L,cur),hL⟩ (r:=.t [.a (pg p),.c (.b true)]) (by show y4.ret (a56 L cur)=_;unfold a56;rw [hp]) (.cons _ _ _ _ (.sl _ _ _ _ _ (by simp) (by assumption)) j9) .nil fun _ _ hv9 _=>?_
  have hv9:RV (.t [.a [.s p.1,.l (p.2.map sg)],.c (.b true)]) _:=hv9
  have hpl:=hL.2 p (d18 hp).1
  (refine Zq ?_;with_reducible repeat' first|intro _|apply aI)
  all_goals
   refine a1f (gs:=[.s [],.s []]) (.cells _ _ j9) rfl fun _ _=>?_
   (refine Zq ?_;with_reducible repeat' first|intro _|apply aI)
  ·rw [a1u (b42 hp (.inl (by omega)))]
   exact l6 ⟨.ret _ _ (.t _ _ (.cons _ _ _ _ (.ag _ _ j9) (.cons _ _ _ _ (.i _ _) .nil))),.nil⟩
  ·rw [a1u (b42 hp (.inr (by omega)))]
   exact l6 ⟨.ret _ _ (.t _ _ (.cons _ _ _ _ (.ag _ _ j9) (.cons _ _ _ _ (.i _ _) .nil))),.nil⟩
  (refine M3 (f:=sg) (by assumption) (C7 d0x) fun _ _ _=>?_)
  (refine Zq ?_;with_reducible repeat' first|intro _|apply aI)
  have hnm:¬(nm.length < 1∨40 < nm.length):=by omega
  refine F8 (fun (i:Nat) vs bs=>∃ (x q:Q),vs=[.str cur.length (n6 cur),.str nm.length (n6 nm),.ptr 0 0,.q x,.int .i64 p.2.length,.int .i64 i]∧bs=[.opa q 2]∧RG (.l (p.2.map sg)) x∧B6 [.s [],.s []] q 0∧i≤p.2.length∧a3o (p.2.drop i) nm=a3o p.2 nm) (fun i=>p.2.length - i) 0 ⟨_,_,rfl,rfl,by assumption,by assumption,Nat.zero_le _,rfl⟩ (by simp only [B8];omega) ?_
  rintro self i _ _ ⟨x,q,rfl,rfl,hx,hq,hi,he⟩ ih
  (refine Zq ?_;with_reducible repeat' first|intro _|apply aI)
  refine sQV ?_
  (refine Zq ?_;with_reducible repeat' first|intro _|apply aI)
  ·(refine M3 (f:=sg) (by assumption) (C7 d0x) fun _ _ _=>?_)
   (refine Zq ?_;with_reducible repeat' first|intro _|apply aI)
   ·have hi2:i < p.2.length:=by omega
    have e:p.2[i].2=nm:=‹_›
    rw [a1u (c7t hp hnm (by rw [← he,e18 hi2 e]))]
    exact l6 ⟨.ret _ _ (.t _ _ (.cons _ _ _ _ (.a _ _ _ rfl (by assumption)) (.cons _ _ _ _ (.i _ _) .nil))),.nil⟩
   ·have hi2:i < p.2.length:=by omega
    have e:¬p.2[i].2=nm:=‹_›
    exact ih (i+1) _ _ ⟨_,_,rfl,rfl,hx,by assumption,by omega,by rw [← he,e6y hi2 e]⟩ (by omega)
  ·rw [a1u (c7j hp hnm (by rw [← he,e1g (by omega)]))]
   exact l6 ⟨.ret _ _ (.t _ _ (.cons _ _ _ _ (.ag _ _ j9) (.cons _ _ _ _ (.i _ _) .nil))),.nil⟩
theorem b7y:l5 90 (sp1 fun s=>.ret (.c (.b (A4 s)))):=v7 (fun fn h=>e4s h) [(133,_)] (.cons d31 .nil) fun U fn hfn ⟨s,hs⟩ vs bs hv hb=>by
 have hn:=hfn 133 _ rfl
 have hv:l9 [.c (.s s)] vs:=hv
 have hb:RBs [] bs:=hb
 show j3 U _ fun v bs'=>m8 (.ret (.c (.b (A4 s)))) v∧RBs [] bs'
 unfold r90
 (refine Zq ?_;with_reducible repeat' first|intro _|apply aI)
 refine j4 hn ⟨s,hs⟩ (r:=.c (.b (A4 s))) rfl j9 .nil fun _ _ _ _=>?_
 (refine Zq ?_;with_reducible repeat' first|intro _|apply aI)
 exact l6 ⟨.ret _ _ (.b _),.nil⟩
end
end Go.Proofs.YtffaodopiifbkaaGreatDoor
namespace Go.Proofs.YtffaodopiifbkaaGreatDoor
open Go.Abs LQ
set_option maxRecDepth 100000
set_option maxHeartbeats 4000000
noncomputable section
def x3 (t:B5):List G:=[.i .i64 t.kind,.i .i64 (t.pos:Int),.s t.pkg,.s t.text,.s t.den]
theorem V5 (t:B5):(x3 t).length=5:=rfl
theorem a4r {a b:B5} (h:x3 a=x3 b):a=b:=by
 obtain ⟨k,p,g,t,d⟩:=a
 obtain ⟨k',p',g',t',d'⟩:=b
 simp only [x3,List.cons.injEq,G.i.injEq,G.s.injEq,true_and,and_true] at h
 obtain ⟨h1,h2,h3,h4,h5⟩:=h
 have:p=p':=by omega
 rw [h1,this,h3,h4,h5]
theorem c6h:∀ {l m:List B5},l.map x3=m.map x3→l=m
 | [],[],_=>rfl
 | [],_ :: _,h=>by simp at h
 | _ :: _,[],h=>by simp at h
 | a :: l,b :: m,h=>by simp only [List.map_cons,List.cons.injEq] at h;rw [a4r h.1,c6h h.2]
def K9 (t:B5):y4:=if p9 t.text t.pkg true=0 then .ret (.t []) else P4 (p9 t.text t.pkg true) t.pos
theorem c5f (hst:l5 203 T7):l5 137 { ι:={ t:B5 // t.pkg.length < 90000 },A:=fun t=>[.a (x3 t.1)],B:=fun _=>[],R:=fun t=>K9 t.1,B':=fun _=>[],inj:=fun i j vs bs h k _ _=>(by
  obtain ⟨_,_,h1,k1,h,k⟩:=h.two k
  rw [a4r (h1.a_inj k1)];exact ⟨rfl,rfl⟩) }:=v7 (fun fn h=>e1a h) [(51,_),(163,_)] (.cons b1s (.cons (b7x hst) .nil)) fun U fn hfn ⟨t,ht⟩ vs bs hv hb=>by
 have hf:=hfn 51 _ rfl
 have hvp:=hfn 163 _ rfl
 have hv:l9 [.a [.i .i64 t.kind,.i .i64 (t.pos:Int),.s t.pkg,.s t.text,.s t.den]] vs:=hv
 have hb:RBs [] bs:=hb
 show j3 U _ fun v bs'=>m8 (K9 t) v∧RBs [] bs'
 unfold d5m
 have bad:∀ {e:Int} {vs:List V} {bs:List Bx} {K:V→List Bx→Om} ,e ≠ 0→p9 t.text t.pkg true=e→l9 [.c (.i .i64 e),.c (.i .i64 (t.pos:Int))] vs→RBs [] bs→j3 U (U.bind (fn 51 vs bs) K fun v=>some (.pan (U.rn0 v),[])) fun v bs'=>m8 (K9 t) v∧RBs [] bs':=fun {e vs bs K} h0 he hv hb=>by
  have e1:K9 t=P4 e t.pos:=by unfold K9;rw [he,if_neg h0]
  rw [e1]
  exact G1 hf (e,(t.pos:Int)) (r:=.fl 122 e t.pos) rfl hv hb fun _ hv=>N6 hv .nil
 have ok:∀ {bs:List Bx},p9 t.text t.pkg true=0→RBs [] bs→j3 U (some (.ret (.tuple []),bs)) fun v bs'=>m8 (K9 t) v∧RBs [] bs':=fun {bs} he hb=>by
  have e1:K9 t=.ret (.t []):=by unfold K9;rw [if_pos he]
  rw [e1]
  exact l6 ⟨.ret _ _ (.t _ _ .nil),hb⟩
 (refine Zy ?_;with_reducible repeat' first|intro _|apply aI)
 ·exact bad (by decide) (by unfold p9;rw [if_pos (by omega)]) (.cons _ _ _ _ (.i _ _) (.cons _ _ _ _ (.q _ _ (by assumption)) .nil)) .nil
 ·have hl:¬40 < t.text.length:=by omega
  refine H6 (fun vs bs=>∃ b:Bool,l9 [.p 0 0,.c (.b b)] vs∧RBs [[.i .i64 t.kind,.i .i64 (t.pos:Int),.s t.pkg,.s t.text,.s t.den]] bs∧(b=true↔(t.text.length=0∨(t.pkg.length ≠ 0∧A4 t.pkg=false)))) ?_ ?_
  ·rintro vs' bs' ⟨b,hv',hb',hbe⟩
   (refine Zq ?_;with_reducible repeat' first|intro _|apply aI)
   ·exact bad (by decide) (by
     unfold p9
     rw [if_neg hl,if_pos]
     have:=hbe.1 ‹_›
     simpa using this) (.cons _ _ _ _ (.i _ _) (.cons _ _ _ _ (.q _ _ (by assumption)) .nil)) .nil
   ·exact ok (by
     unfold p9
     rw [if_neg hl,if_neg]
     intro h
     exact ‹¬b=true› (hbe.2 (by simpa using h))) .nil
  ·intro c hc
   (refine Zq ?_;with_reducible repeat' first|intro _|apply aI)
   ·have e:t.text=[]:=‹_›
    exact hc _ _ ⟨true,by (exact j9),RB.bx (by assumption) rfl,by simp [e]⟩
   ·have e:¬t.text=[]:=‹_›
    have e2:t.pkg=[]:=‹_›
    exact hc _ _ ⟨false,by (exact j9),RB.bx (by assumption) rfl,by simp [e,e2]⟩
   ·have e:¬t.text=[]:=‹_›
    have e2:¬t.pkg=[]:=‹_›
    refine j4 hvp ⟨t.pkg,ht⟩ (r:=.c (.b (A4 t.pkg))) rfl (.cons _ _ _ _ (.q _ _ (by assumption)) .nil) .nil fun _ _ _ _=>?_
    (refine Zq ?_;with_reducible repeat' first|intro _|apply aI)
    refine fun e9=>?_
    subst e9
    exact hc _ _ ⟨!A4 t.pkg,.cons _ _ _ _ (.p _ _) (.cons _ _ _ _ (Q1 (a4k _).symm) .nil),RB.bx (by assumption) rfl,by simp [e,e2]⟩ rfl
def a3i:Except (Int × Nat) (B5 × Nat)→y4
 | .ok (t,_)=>.ret (.a (x3 t))
 | .error (e,p)=>P4 e p
def tokB (k:Nat):Except (Int × Nat) (B5 × Nat)→Nat
 | .ok (_,j)=>j
 | .error _=>k
def wdS (s:i7) (i:Nat) (w:i7) (k:Nat):Except (Int × Nat) (B5 × Nat):=if has s k 58 58 then H4 s i w k else F4 i w k
def S4 (s:i7) (i:Nat) (by_:Int):Except (Int × Nat) (List Int × Nat):=encl s by_ (i+1) []
def b0z:Except (Int × Nat) (List Int × Nat)→y4
 | .ok (l,_)=>.ret (.c (.s (F1 l)))
 | .error (e,p)=>P4 e p
def c2s (i:Nat):Except (Int × Nat) (List Int × Nat)→Nat
 | .ok (_,j)=>j
 | .error _=>i
def b47:Sp where
 ι:={ p:ScI × Int // (p.2=34∨p.2=124)∧p.1.1.2 < p.1.1.1.length∧p.1.1.1.length < 8000 }
 A p:=[.p 0 0,.c (.i .u8 p.1.2)]
 B p:=[H7 p.1.1.1.1 p.1.1.1.2]
 R p:=b0z (S4 p.1.1.1.1 p.1.1.1.2 p.1.2)
 B' p:=[H7 p.1.1.1.1 (c2s p.1.1.1.2 (S4 p.1.1.1.1 p.1.1.1.2 p.1.2))]
 inj i j vs bs hv kv h k:=by
  have:=a4p (RBs.one_inj h k)
  obtain ⟨_,_,_,_,hv,kv⟩:=hv.two kv
  obtain ⟨_,_,h2,k2,_,_⟩:=hv.two kv
  rw [this.1,this.2,M7 h2 k2];exact ⟨rfl,rfl⟩
theorem scB {s:i7} {k:Nat} {n:Int} (hn:n=(k:Int)):RB (H7 s k) (.cells [.str s.length (n6 s),.int .i64 n]):=by
 subst hn
 exact .cells _ _ (.cons _ _ _ _ (.s _ _ _ rfl rfl) (.cons _ _ _ _ (.i _ _) .nil))
def z5:List G:=[.i .i64 0,.i .i64 0,.s [],.s [],.s []]
theorem z5B:RB z5 (.cells [.int .i64 0,.int .i64 0,.str 0 0,.str 0 0,.str 0 0]):=.cells _ _ j9
theorem b0b (s:i7):G4 s=S3 s:=by
 unfold G4 S3
 by_cases h:(i6 s).natAbs=0
 ·rw [h,B4];rfl
 ·rw [P1 _ h,G9 h];simp
theorem d5y (l:i7):Lib.trimS l [48]=[]↔∀ j,j < l.length→bt l j=48:=by
 rw [c0u]
 constructor
 ·intro h j hj
  have:=h l[j] (List.getElem_mem hj)
  simp only [List.contains_cons,List.contains_nil,Bool.or_false,beq_iff_eq] at this
  unfold bt;simp [List.getD,List.getElem?_eq_getElem hj,this]
 ·intro h b hb
  obtain ⟨j,hj,rfl⟩:=List.getElem_of_mem hb
  have:=h j hj
  unfold bt at this
  simp only [List.getD,List.getElem?_eq_getElem hj,Option.getD_some] at this
  simp only [List.contains_cons,List.contains_nil,Bool.or_false,beq_iff_eq]
  exact UInt8.toNat_inj.1 (by show _=48;omega)
theorem c4l {s:i7} {a:Nat} (ha:a≤s.length):C5 s a=s.length↔∀ j,a≤j→j < s.length→bt s j=48:=by
 fun_induction C5 s a with
 | case1 a h1 h2 ih =>
  rw [ih (by omega)]
  constructor
  ·intro h j h3 h4
   by_cases hj:j=a
   ·subst hj;exact h2
   ·exact h j (by omega) h4
  ·intro h j h3 h4;exact h j (by omega) h4
 | case2 a h1 h2=>exact ⟨fun h=>by omega,fun h=>absurd (h a (Nat.le_refl _) h1) h2⟩
 | case3 a h1=>exact ⟨fun _ j h3 h4=>by omega,fun _=>by omega⟩
theorem b5y {l:i7} (h:G5 l=true):Lib.trimS l [48]=[]↔plain l=A5:=by
 unfold G5 at h
 obtain ⟨h0,h1⟩:=of_decide_eq_true h
 rw [a8u (Nat.zero_le _)] at h1
 have hl:=List.length_pos_iff.2 h0
 have hs:j0 l=0:=by
  unfold j0;rw [if_neg];rintro ⟨_,h2⟩;have:=h1 0 (Nat.le_refl _) hl;omega
 have hz:=a89 l 0 (Nat.zero_le _)
 rw [d5y]
 unfold plain
 simp only [hs,List.take_length]
 rw [show (∀ j,j < l.length→bt l j=48)↔C5 l 0=l.length by rw [c4l (Nat.zero_le _)];exact ⟨fun h j _=>h j,fun h j=>h j (Nat.zero_le _)⟩]
 by_cases he:C5 l 0=l.length
 ·rw [if_pos he];exact ⟨fun _=>rfl,fun _=>he⟩
 ·rw [if_neg he,if_neg (by decide)]
  refine ⟨fun h=>absurd h he,fun h=>?_⟩
  exfalso
  have hst:∀ a,C5 l a < l.length→bt l (C5 l a) ≠ 48:=by
   intro a
   fun_induction C5 l a with
   | case1 a h1 h2 ih=>exact ih
   | case2 a h1 h2=>intro _ h;exact h2 h
   | case3 a h1=>intro h;exact absurd h h1
  have h2:=hst 0 (by omega)
  have h3:bt (l.drop (C5 l 0)) 0=bt A5 0:=by rw [h]
  rw [a14] at h3
  exact h2 h3
theorem a74 {w:i7} (h:(l8 w).2.2=true):(l8 w).1=(A8 w).1∧(l8 w).2.1=(A8 w).2∧G5 (A8 w).2=true:=by
 obtain ⟨h1,h2⟩:=b5d w
 obtain ⟨a,b⟩:=h2 h
 rw [h] at h1
 simp only [Bool.and_eq_true] at h1
 exact ⟨a,b,h1.2⟩
end
end Go.Proofs.YtffaodopiifbkaaGreatDoor
