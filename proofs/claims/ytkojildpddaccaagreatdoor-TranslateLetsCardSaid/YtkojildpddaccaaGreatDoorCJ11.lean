/- The program's objects: formed, Valid; valid symbols. -/
import Derived.Test.YtkojildpddaccaaGreatDoorCJ10
set_option linter.all false
namespace Go.Proofs.YtkojildpddaccaaGreatDoor
open Go.Abs LQ
set_option maxRecDepth 100000
set_option maxHeartbeats 4000000
noncomputable section
theorem b4l:s9 177 (b46 fun s=>.a (O.sy s).g):=u2 (fun fn h=>c86 h) [] .nil fun U fn hfn s vs bs hv hb=>by
 have hv:t7 [.a [.s s.1,.s s.2]] vs:=hv
 have hb:s5 [] bs:=hb
 show s4 U _ fun v bs'=>u0 (.ret (.a (O.sy s).g)) v∧s5 [] bs'
 unfold d21
 (refine Zq ?_;intros)
 exact E9 fun e=>by
  subst e
  exact ⟨.ret _ _ (.ag _ _ (by (exact Zru))),.nil⟩
end
end Go.Proofs.YtkojildpddaccaaGreatDoor
namespace Go.Proofs.YtkojildpddaccaaGreatDoor
open Go.Abs LQ
def t0:Tok:=⟨0,0,[],[],[]⟩
end Go.Proofs.YtkojildpddaccaaGreatDoor
namespace Go.Proofs.YtkojildpddaccaaGreatDoor
open Go.Abs LQ
noncomputable section
open Classical
structure NT where
 kind:Int
 pkg:u4
 text:u4
 den:u4
def nt (t:Tok):NT:=⟨t.kind,t.pkg,t.text,t.den⟩
def Lex (w:u4) (N:List NT):Prop:=∀ s i r,At s i w r→Del r→∃ T:List Tok,T.map nt=N∧∀ acc,b5c s i acc=b5c s (i+w.length) (acc ++ T)
open Classical
def eT (w:u4):Tok:=⟨0,w.length,[],[],[]⟩
open Classical
def Q4:O→Option (List O)
 | .co a d=>(Q4 d).map (a :: ·)
 | .sy s=>if s=(s8,[110,105,108]) then some [] else none
 | _=>none
inductive d9e:List u4→List NT→Prop
 | nil:d9e [] []
 | cons {l:u4} {N:List NT} {ls:List u4} {M:List NT}:Lex l N→d9e ls M→d9e (l :: ls) (N ++ M)
set_option maxRecDepth 100000
set_option maxHeartbeats 4000000
theorem g4b:s9 160 (sp0 (.a C8.g)):=u2 (fun fn h=>c83 h) [(177,_)] (.cons b4l .nil) fun U fn hfn _ vs bs hv hb=>by
 have hs:=hfn 177 _ rfl
 have hv:t7 [] vs:=hv
 have hb:s5 [] bs:=hb
 show s4 U _ fun v bs'=>u0 (.ret (.a C8.g)) v∧s5 [] bs'
 unfold d2y
 (refine Zq ?_;intros)
 refine o7 hs (o8 4 1886611820,o8 3 7104878) (r:=.a C8.g) rfl (.k (.ag _ _ u5) .nil) .nil fun _ _ _ _=>?_
 refine oR fun _ _=>?_
 (refine Zq ?_;intros)
 exact p9 ⟨.ret _ _ (.a _ _ _ rfl aS),.nil⟩
theorem c7s:s9 103 (spO fun a=>.c (.b (O.eqb a C8))):=u2 (fun fn h=>c8a h) [] .nil fun U fn hfn (a:O) vs bs hv hb=>by
 have hv:t7 [.a a.g] vs:=hv
 have hb:s5 [] bs:=hb
 show s4 U _ fun v bs'=>u0 (.ret (.c (.b (O.eqb a C8)))) v∧s5 [] bs'
 unfold d15
 rw [a.g_eq] at hv
 have hsy:a.k=2→a=.sy a.sym:=by
  intro h
  cases a with
  | sy s=>rfl
  | num=>exact absurd h (by show ¬(1:Int)=2;decide)
  | tx=>exact absurd h (by show ¬(3:Int)=2;decide)
  | co=>exact absurd h (by show ¬(4:Int)=2;decide)
  | no=>exact absurd h (by show ¬(0:Int)=2;decide)
 (refine Zq ?_;with_reducible repeat' first|intro _|apply aI)
 ·have e:=hsy ‹_›
  refine fun e2=>?_
  subst e2
  refine ⟨_,_,rfl,.ret _ _ (N7 ?_),.nil⟩
  rw [Bool.eq_iff_iff,O.eqb_t,a2x,a2x,b74,b74]
  simp only [Bool.and_true,Bool.and_eq_true,decide_eq_true_iff]
  rw [e]
  constructor
  ·intro h;injection h with h;rw [h];exact ⟨rfl,rfl⟩
  ·rintro ⟨h1,h2⟩;exact congrArg O.sy (Prod.ext h1 h2)
 ·exact p9 ⟨.ret _ _ (H8 (O.eqb_f.2 fun e=>by subst e;exact absurd rfl ‹¬_›)),.nil⟩
theorem f58:s9 114 (spO fun a=>.c (.b a.isCo)):=u2 (fun fn h=>c8f h) [] .nil fun U fn hfn (a:O) vs bs hv hb=>by
 have hv:t7 [.a a.g] vs:=hv
 have hb:s5 [] bs:=hb
 show s4 U _ fun v bs'=>u0 (.ret (.c (.b a.isCo))) v∧s5 [] bs'
 unfold d2a
 rw [a.g_eq] at hv
 (refine Zq ?_;with_reducible repeat' first|intro _|apply aI)
 ·refine E9 fun e=>?_
  subst e
  refine ⟨.ret _ _ (N7 ?_),.nil⟩
  rw [a5c]
  have hk:=‹a.k=4›
  cases a <;> simp [O.k] at hk
  rfl
 ·exact p9 ⟨.ret _ _ (H8 (by have hk:=‹¬a.k=4›;cases a <;> simp [O.k] at hk <;> rfl)),.nil⟩
def W1 (o:O):GV:=match Q4 o with
 | some l=>.t [.sl 7 (l.map O.g),.c (.b true)]
 | none=>.t [.sl 7 [],.c (.b false)]
def g96 (g:O→GV):Sp where
 ι:={ o:O // o.size < 90000 }
 A o:=[.a o.1.g]
 B _:=[]
 R o:=.ret (g o.1)
 B' _:=[]
 inj i j vs bs h k _ _:=by rw [b0u h k];exact ⟨rfl,rfl⟩
theorem d1c {o:O} (h:o.isCo=false) (hn:O.eqb o C8=false):Q4 o=none:=by
 cases o with
 | sy s=>simp only [Q4];rw [if_neg];intro e;subst e;exact O.eqb_f.1 hn rfl
 | co=>cases h
 | _=>rfl
theorem b6f:s9 75 (g96 W1):=u2 (fun fn h=>d60 h) [(114,_),(103,_)] (.cons f58 (.cons c7s .nil)) fun U fn hfn ⟨o,hz⟩ vs bs hv hb=>by
 have hc:=hfn 114 _ rfl
 have hn:=hfn 103 _ rfl
 have hz:o.size < 90000:=hz
 have hv:t7 [.a o.g] vs:=hv
 have hb:s5 [] bs:=hb
 show s4 U _ fun v bs'=>u0 (.ret (W1 o)) v∧s5 [] bs'
 unfold r75
 refine M3 hv fun _ _ hv1 hv2=>?_
 refine C4 hv1 o.g_len fun q hq=>?_
 (refine Zq ?_;intros)
 refine F9 (fun (p:O × List O) vs bs=>∃ (x:O) (acc:List O) (v:V) (q:Q),p=(x,acc)∧vs=[.ptr 0 0,v]∧bs=[.opa q 7,.tok acc.length 7]∧u3 x.g q 0∧R7 1 7 (acc.map O.g) v∧Q4 o=(Q4 x).map (acc ++ ·)∧acc.length+x.size≤o.size) (fun p=>p.1.size) (o,[]) ⟨o,[],_,_,rfl,rfl,rfl,aS,.b rfl,by simp,by simp⟩ (show o.size < C9 by simp only [C9];omega) ?_
 rintro self _ _ _ ⟨x,acc,v,q,rfl,rfl,rfl,hq,htok,hit,hsz⟩ ih
 have hpos:=x.size_pos
 (refine Zq ?_;intros)
 refine o7 hc x (r:=.c (.b x.isCo)) rfl (.k (oV aS) .nil) .nil fun _ _ _ _=>?_
 (refine Zq ?_;with_reducible repeat' first|intro _|apply aI)
 ·cases x with
  | co a d =>
   have hq:u3 [.i .i64 4,.s [],.s [],.s [],.s [],.s [],.l ([a,d].map O.g)] q 0:=hq
   have hs:(O.co a d).size=1+a.size+d.size:=rfl
   rw [hs] at hsz
   have hl2:([a,d]:List O).length=2:=rfl
   (refine Zq ?_;intros)
   refine N8 (xs:=acc.map O.g) (n:=7) (off:=0) aS (fun _=>Q9 (by rw [O.g_len];decide) aS) (O.g_len _) (by simp) (by simp;omega) fun _ _=>?_
   (refine Zq ?_;intros)
   refine ih (d,acc ++ [a]) _ _ ⟨d,acc ++ [a],_,_,rfl,rfl,by rw [List.length_append];rfl,aS,.a _ _ (by simp) (by rw [List.map_append];assumption),?_,by simp;omega⟩ (by show d.size < 1+a.size+d.size;omega)
   rw [hit]
   simp only [Q4,Option.map_map]
   congr 1
   funext l
   simp
  | _=>exact absurd ‹_› (by simp [O.isCo])
 ·refine o7 hn x (r:=.c (.b (O.eqb x C8))) rfl (.k (oV aS) .nil) .nil fun _ _ _ _=>?_
  (refine Zq ?_;with_reducible repeat' first|intro _|apply aI)
  ·have e:x=C8:=O.eqb_t.1 ‹_›
   subst e
   have e2:Q4 o=some acc:=by rw [hit];simp [Q4,C8]
   unfold W1
   rw [e2]
   exact p9 ⟨.ret _ _ (.t _ _ (.k (.sl _ _ _ _ _ (by simp) aS) (.k (.kn _) .nil))),.nil⟩
  ·have e2:Q4 o=none:=by
    rw [hit,d1c (by simpa using ‹¬x.isCo=true›) (by simpa using ‹¬O.eqb x C8=true›)];rfl
   unfold W1
   rw [e2]
   exact p9 ⟨.ret _ _ (.t _ _ (.k (.sl0 _ _ _) (.k (.kn _) .nil))),.nil⟩
end
end Go.Proofs.YtkojildpddaccaaGreatDoor
