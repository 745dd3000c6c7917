/- The program's worlds: functions, arities, no macros. -/
import Derived.Test.YtkojildpddaccaaGreatDoorCJ11
set_option linter.all false
namespace Go.Proofs.YtkojildpddaccaaGreatDoor
open Go.Abs LQ
set_option maxRecDepth 100000
set_option maxHeartbeats 8000000
noncomputable section
theorem a5o {g g':List G} {bs:List Bx} (h:s5 [g] bs) (k:s5 [g'] bs):g=g':=by
 cases h with
 | cons _ _ b bs h1 _=>cases k with | cons _ _ _ _ k1 _=>exact h1.inj k1
theorem rbQ {g:List G} {q:Q} {m:Nat} (h:u3 g q 0) (hm:m=g.length):s5 [g] [.opa q m]:=.k (.opa _ _ _ hm h) .nil
theorem b3w:s9 214 (g0b fun l=>.sl 37 (l.map F.g)):=u2 (fun fn h=>f1o h) [] .nil fun U fn hfn (e:Et) vs bs hv hb=>by
 change t7 [.a e.g] vs at hv
 change s5 [] bs at hb
 show s4 U _ fun v bs'=>u0 (.ret (.sl 37 (e.fl.map F.g))) v∧s5 [] bs'
 unfold e2t
 unfold Et.g at hv
 (refine Zz ?_;with_reducible repeat' first|intro _|apply aI)
 ·have e1:e.fl=e.fns:=if_pos (by simp [Et.has, *])
  rw [e1]
  exact p9 ⟨.ret _ _ (.slq _ _ _ aS (v6 F.g_len)),.nil⟩
 ·have e1:e.fl=e.fns:=if_pos (by simp [Et.has, *])
  rw [e1]
  exact p9 ⟨.ret _ _ (.slq _ _ _ aS (v6 F.g_len)),.nil⟩
 ·have e1:e.fl=e.fns:=if_pos (by simp [Et.has, *])
  rw [e1]
  exact p9 ⟨.ret _ _ (.slq _ _ _ aS (v6 F.g_len)),.nil⟩
 ·have e1:e.fl=e.fns:=if_pos (by simp [Et.has, *])
  rw [e1]
  exact p9 ⟨.ret _ _ (.slq _ _ _ aS (v6 F.g_len)),.nil⟩
 ·have e1:e.fl=[]:=if_neg (by simp [Et.has, *])
  rw [e1]
  exact p9 ⟨.ret _ _ (.sl0 _ _ _),.nil⟩
def g9v:Sp where
 ι:=F × Sy
 A p:=[.a p.1.g,.p 0 0]
 B p:=[sg p.2]
 R p:=.ret (.c (.b (decide (p.1.nm=p.2))))
 B' p:=[sg p.2]
 inj i j vs bs h k hb kb:=by
  obtain ⟨_,_,h1,k1,h,k⟩:=h.two k
  rw [F.g_inj (h1.a_inj k1),W3 (a5o hb kb)];exact ⟨rfl,rfl⟩
theorem e0n:s9 252 g9v:=u2 (fun fn h=>f13 h) [] .nil fun U fn hfn ⟨f,s⟩ vs bs hv hb=>by
 change t7 [.a f.g,.p 0 0] vs at hv
 change s5 [[.s s.1,.s s.2]] bs at hb
 show s4 U _ fun v bs'=>u0 (.ret (.c (.b (decide (f.nm=s))))) v∧s5 [sg s] bs'
 unfold e28
 refine M3 hv fun _ _ h1 h2=>?_
 refine C4 h1 (F.g_len _) fun _ hc=>?_
 unfold F.g at hc
 (refine Zz ?_;intros)
 refine E9 fun e=>?_
 subst e
 refine ⟨.ret _ _ (N7 ?_),rbQ aS rfl⟩
 rw [a2x,a2x,b03,b03,Bool.and_true,← Bool.decide_and]
 exact decide_eq_decide.2 ⟨fun e=>⟨congrArg Prod.fst e,congrArg Prod.snd e⟩,fun e=>Prod.ext e.1 e.2⟩
def d0q:V:=.func (.func 252) [] [.ptr 0 0]
def okN (o:Option Nat):GV:=match o with
 | some k=>.t [.c (.i .i64 k),.c (.b true)]
 | none=>.t [.c (.i .i64 0),.c (.b false)]
def g5a:Sp where
 ι:={ p:List F × Sy // p.1.length < 90000 }
 A p:=[.sl 37 (p.1.1.map F.g),.raw d0q]
 B p:=[sg p.1.2]
 R p:=.ret (okN (plF p.1.1 p.1.2))
 B' p:=[sg p.1.2]
 inj i j vs bs h k hb kb:=by
  obtain ⟨_,_,h1,k1,h,k⟩:=h.two k
  rw [b4n (h1.sl_inj k1),W3 (a5o hb kb)];exact ⟨rfl,rfl⟩
theorem e9b:s9 251 g5a:=u2 (fun fn h=>c9n h) [(252,_)] (.cons e0n .nil) fun U fn hfn ⟨(l,s),hl⟩ vs bs hv hb=>by
 have hf:=hfn 252 _ rfl
 change t7 [.sl 37 (l.map F.g),.raw d0q] vs at hv
 change s5 [[.s s.1,.s s.2]] bs at hb
 have hl:l.length < 90000:=hl
 show s4 U _ fun v bs'=>u0 (.ret (okN (plF l s))) v∧s5 [sg s] bs'
 unfold d3j
 (refine Zz ?_;intros)
 refine a33 aS ?_
 (refine Zz ?_;intros)
 refine F9 (fun (i:Nat) vs bs=>∃ (t:s6 Q) (off:Nat) (q:Q),vs=[d0q,.slice t 37 off l.length .no,.int .i64 (l.length:Nat),.int .i64 (i:Nat)]∧bs=[.opa q 2]∧u3 [.s s.1,.s s.2] q 0∧u6 37 (l.map F.g) t off∧i≤l.length∧plF l s=(plF (l.drop i) s).map (·+i)) (fun i=>l.length - i) 0
  ⟨_,_,_,rfl,rfl,aS,aS,oM,by simp⟩ (by simp only [C9];omega) ?_
 rintro self i _ _ ⟨t,off,q,rfl,rfl,hq,ht,hi,he⟩ ih
 unfold d0q
 (refine Zz ?_;intros)
 refine b8w ?_
 (refine Zz ?_;with_reducible repeat' first|intro _|apply aI)
 ·have hil:i < l.length:=oM
  rw [List.drop_eq_getElem_cons hil,plF] at he
  refine o7 hf (l[i],s) (r:=.c (.b (decide (l[i].nm=s)))) rfl (.k (.a _ _ _ (F.g_len _).symm aS) (.k (.p _ _) .nil)) (rbQ hq rfl) fun _ _ _ hb2=>?_
  change s5 [[.s s.1,.s s.2]] _ at hb2
  (refine Zz ?_;with_reducible repeat' first|intro _|apply aI)
  ·rw [if_pos (of_decide_eq_true ‹_›)] at he
   have he:plF l s=some i:=by rw [he];simp
   rw [he]
   exact p9 ⟨.ret _ _ (.t _ _ (.k (.i _ _) (.k (.kn _) .nil))),rbQ aS rfl⟩
  ·rw [if_neg (fun h=>‹¬_› (decide_eq_true h)),Option.map_map] at he
   exact ih (i+1) _ _ ⟨_,_,_,rfl,rfl,aS,ht,oM,by rw [he];exact congrArg (fun f=>Option.map f _) (funext fun x=>by simp only [Function.comp];omega)⟩ oM
 ·have ei:i=l.length:=oM
  rw [ei,List.drop_length] at he
  have he:plF l s=none:=by rw [he];rfl
  rw [he]
  exact p9 ⟨.ret _ _ (.t _ _ (.k (.i _ _) (.k (.kn _) .nil))),rbQ hq rfl⟩
theorem e9g:s9 213 (b84 fun L s=>okP (V1 L s)):=u2 (fun fn h=>f1n h) [(214,_),(251,_)] (.cons b3w (.cons e9b .nil)) fun U fn hfn ⟨⟨w,hw,hwl⟩,s⟩ vs bs hv hb=>by
 have hf:=hfn 214 _ rfl
 have hF:=hfn 251 _ rfl
 change t7 [.sl 32 (w.map Et.g),.a [.s s.1,.s s.2]] vs at hv
 change s5 [] bs at hb
 show s4 U _ fun v bs'=>u0 (.ret (okP (V1 (w.map Et.fl) s))) v∧s5 [] bs'
 unfold e2s
 (refine Zz ?_;intros)
 refine F9 (fun (i:Nat) vs bs=>∃ (t:s6 Q) (off:Nat) (q:Q),vs=[.ptr 0 0,.slice t 32 off w.length .no,.int .i64 (w.length:Nat),.int .i64 (i:Nat)]∧bs=[.opa q 2]∧u3 [.s s.1,.s s.2] q 0∧u6 32 (w.map Et.g) t off∧i≤w.length∧V1 (w.map Et.fl) s=(V1 ((w.drop i).map Et.fl) s).map fun p=>(p.1+i,p.2)) (fun i=>w.length - i) 0
  ⟨_,_,_,rfl,rfl,aS,aS,oM,by simp⟩ (by simp only [C9];omega) ?_
 rintro self i _ _ ⟨t,off,q,rfl,rfl,hq,ht,hi,he⟩ ih
 (refine Zz ?_;with_reducible repeat' first|intro _|apply aI)
 ·have hiw:i < w.length:=oM
  refine o7 hf w[i] (r:=.sl 37 (w[i].fl.map F.g)) rfl (.k (.a _ _ _ (Et.g_len _).symm aS) .nil) .nil fun _ _ _ _=>?_
  have hl:w[i].fl.length < 90000:=hwl _ (List.getElem_mem _)
  have hd:=List.drop_eq_getElem_cons hiw
  rw [hd,List.map_cons,V1] at he
  generalize w[i]=e at *
  (refine Zz ?_;with_reducible repeat' first|intro _|apply aI)
  cases hk:plF e.fl s with
  | some k =>
   rw [hk] at he
   refine o7 hF ⟨(e.fl,s),hl⟩ (r:=.t [.c (.i .i64 k),.c (.b true)]) (by show u9.ret (okN (plF e.fl s))=_;rw [hk];rfl) (.k (.sl _ _ _ _ _ (by simp) aS) (.k (.raw _) .nil)) (rbQ hq rfl) fun _ _ _ hb2=>?_
   change s5 [[.s s.1,.s s.2]] _ at hb2
   (refine Zz ?_;intros)
   have he:V1 (w.map Et.fl) s=some (i,k):=by rw [he];simp
   rw [he]
   exact p9 ⟨.ret _ _ (.t _ _ (.k (.i _ _) (.k (.i _ _) (.k (.kn _) .nil)))),.nil⟩
  | none =>
   rw [hk] at he
   refine o7 hF ⟨(e.fl,s),hl⟩ (r:=.t [.c (.i .i64 0),.c (.b false)]) (by show u9.ret (okN (plF e.fl s))=_;rw [hk];rfl) (.k (.sl _ _ _ _ _ (by simp) aS) (.k (.raw _) .nil)) (rbQ hq rfl) fun _ _ _ hb2=>?_
   change s5 [[.s s.1,.s s.2]] _ at hb2
   (refine Zz ?_;intros)
   refine ih (i+1) _ _ ⟨_,_,_,rfl,rfl,aS,ht,oM,?_⟩ oM
   rw [he]
   simp only [Option.map_map]
   congr
   funext x
   simp;omega
 ·have ei:i=w.length:=oM
  rw [ei,List.drop_length] at he
  have he2:V1 (w.map Et.fl) s=none:=by rw [he];rfl
  rw [he2]
  exact p9 ⟨.ret _ _ (.t _ _ (.k (.i _ _) (.k (.i _ _) (.k (.kn _) .nil)))),.nil⟩
theorem kTP:s9 111 (sp0 (.a tO.g)):=u2 (fun fn h=>c8d h) [(177,_)] (.cons b4l .nil) fun U fn hfn _ vs bs hv hb=>by
 have hs:=hfn 177 _ rfl
 change t7 [] vs at hv
 change s5 [] bs at hb
 show s4 U _ fun v bs'=>u0 (.ret (.a tO.g)) v∧s5 [] bs'
 unfold d18
 (refine Zz ?_;intros)
 refine o7 hs (o8 4 1886611820,o8 1 116) (r:=.a tO.g) rfl (.k (.ag _ _ u5) .nil) .nil fun _ _ _ _=>?_
 refine oR fun _ _=>?_
 (refine Zz ?_;intros)
 exact p9 ⟨.ret _ _ (.a _ _ _ rfl aS),.nil⟩
theorem e57 {x:O} (h:¬((x.ps.length:Nat):Int)=0):∃ a d,x=.co a d:=by
 cases x with
 | co a d=>exact ⟨a,d,rfl⟩
 | _=>exact absurd rfl h
def e7p:Sp where
 ι:={ p:O × O // p.1.size < 90000 }
 A p:=[.a p.1.1.g,.a p.1.2.g]
 B _:=[]
 R p:=.ret (.c (.b (O.eqb p.1.1 p.1.2)))
 B' _:=[]
 inj i j vs bs h k _ _:=by obtain ⟨e1,e2⟩:=b0v h k;rw [e1,e2];exact ⟨rfl,rfl⟩
theorem f6b:s9 110 e7p:=J4 (fun p=>p.1.1.size) fun n ih=>u2 (fun fn h=>c8c h) [(110,e7p.lt _ n)] (.cons ih .nil) fun U fn hfn ⟨⟨(a,b),hsz0⟩,hn⟩ vs bs hv hb=>by
 have hsz0:a.size < 90000:=hsz0
 have hr:=hfn 110 _ rfl
 have hn:a.size < n+1:=hn
 change t7 [.a a.g,.a b.g] vs at hv
 change s5 [] bs at hb
 show s4 U _ fun v bs'=>u0 (.ret (.c (.b (O.eqb a b)))) v∧s5 [] bs'
 unfold d17
 refine M3 hv fun _ _ hv1 hv2=>?_
 refine C4 hv1 (O.g_len _) fun _ ha=>?_
 refine M3 hv2 fun _ _ hv3 hv4=>?_
 refine C4 hv3 (O.g_len _) fun _ hb0=>?_
 (refine Zz ?_;intros)
 refine F9 (fun (x:O) vs bs=>∃ (y:O) (q1 q2:Q),vs=[.ptr 0 0,.ptr 1 0]∧bs=[.opa q1 7,.opa q2 7]∧u3 x.g q1 0∧u3 y.g q2 0∧O.eqb x y=O.eqb a b∧x.size≤a.size) (fun x=>x.size) a ⟨b,_,_,rfl,rfl,ha,hb0,rfl,Nat.le_refl _⟩ (show a.size < C9 by simp only [C9];omega) ?_
 rintro self x _ _ ⟨y,q1,q2,rfl,rfl,h1,h2,he,hsz⟩ ih2
 rw [← he]
 by_cases hco:∃ p d p' d',x=.co p d∧y=.co p' d'
 ·obtain ⟨p,d,p',d',rfl,rfl⟩:=hco
  have hs:(O.co p d).size=1+p.size+d.size:=rfl
  rw [hs] at hsz
  have h1:u3 [.i .i64 4,.s [],.s [],.s [],.s [],.s [],.l ([p,d].map O.g)] q1 0:=h1
  have h2:u3 [.i .i64 4,.s [],.s [],.s [],.s [],.s [],.l ([p',d'].map O.g)] q2 0:=h2
  have hl1:([p,d]:List O).length=2:=rfl
  have hl2:([p',d']:List O).length=2:=rfl
  (refine Zz ?_;with_reducible repeat' first|intro _|apply aI)
  ·exact absurd ‹(([p,d].length:Nat):Int)=0› (by simp)
  ·refine F9 (fun (i:Nat) vs bs=>∃ (q1 q2:Q),vs=[.ptr 0 0,.ptr 1 0,.int .i64 2,.int .i64 1,.int .i64 (i:Nat)]∧bs=[.opa q1 7,.opa q2 7]∧u3 [.i .i64 4,.s [],.s [],.s [],.s [],.s [],.l ([p,d].map O.g)] q1 0∧u3 [.i .i64 4,.s [],.s [],.s [],.s [],.s [],.l ([p',d'].map O.g)] q2 0∧(i=0∨i=1∧p=p')) (fun i=>1 - i) 0 ⟨_,_,rfl,rfl,h1,h2,.inl rfl⟩ (by simp only [C9];omega) ?_
   rintro self2 i _ _ ⟨q1,q2,rfl,rfl,h1,h2,hi⟩ ih3
   rcases hi with rfl | ⟨rfl,rfl⟩
   ·(refine Zz ?_;with_reducible repeat' first|intro _|apply aI)
    ·have hp:p.size < n:=oM
     refine o7 hr ⟨⟨(p,p'),by show p.size < 90000;omega⟩,hp⟩ (r:=.c (.b (O.eqb p p'))) rfl (.k (.a _ _ _ (O.g_len _).symm (show u3 p.g _ 0 by assumption)) (.k (.a _ _ _ (O.g_len _).symm (show u3 p'.g _ 0 by assumption)) .nil)) .nil fun _ _ _ _=>?_
     (refine Zz ?_;with_reducible repeat' first|intro _|apply aI)
     all_goals first
      | exact p9 ⟨.ret _ _ (H8 (O.eqb_f.2 fun e=>‹¬O.eqb p p'=true› (O.eqb_t.2 (by injection e)))),.nil⟩
      | (refine ih3 1 _ _ ⟨_,_,rfl,rfl,h1,h2,.inr ⟨rfl,O.eqb_t.1 ‹_›⟩⟩ oM)
    ·exact absurd (show (0:Int) < 1 by decide) ‹_›
   ·(refine Zz ?_;with_reducible repeat' first|intro _|apply aI)
    ·exact absurd ‹_ < _› (show ¬(1:Int) < 1 by decide)
    ·rw [he]
     refine ih2 d _ _ ⟨d',_,_,rfl,rfl,show u3 d.g _ 0 by assumption,show u3 d'.g _ 0 by assumption,?_,oM⟩ (by rw [hs];omega)
     rw [← he]
     by_cases e:d=d'
     ·rw [O.eqb_t.2 e,O.eqb_t.2 (by rw [e])]
     ·rw [O.eqb_f.2 e,O.eqb_f.2 (fun h=>e (by injection h))]
  ·exact absurd rfl ‹¬(([p,d].length:Nat):Int)=(([p',d'].length:Nat):Int)›
 ·have hne:¬((x.ps.length:Nat):Int)=0→¬((x.ps.length:Nat):Int)=y.ps.length:=fun h e=>by
   obtain ⟨p,d,rfl⟩:=e57 h
   obtain ⟨p',d',rfl⟩:=e57 (x:=y) (by rw [← e];exact h)
   exact hco ⟨p,d,p',d',rfl,rfl⟩
  rw [x.g_eq] at h1
  rw [y.g_eq] at h2
  (refine Zz ?_;with_reducible repeat' first|intro _|apply aI)
  all_goals first
   | exact p9 ⟨.ret _ _ (H8 (O.eqb_f.2 fun e=>by subst e;first | exact absurd rfl ‹¬_› | exact absurd (⟨rfl,rfl,trivial⟩:x.sym.1=x.sym.1∧x.sym.2=x.sym.2∧True) ‹¬_›)),.nil⟩
   | skip
  ·have h:=‹((x.ps.length:Nat):Int)=0›
   have e5:x.ps=[]:=List.length_eq_zero_iff.1 oM
   have e6:y.ps=[]:=List.length_eq_zero_iff.1 (by have:=‹((x.ps.length:Nat):Int)=((y.ps.length:Nat):Int)›;omega)
   have e4:=‹x.sym.1=y.sym.1∧_›
   have e:x=y:=O.ext ‹_› ‹_› ‹_› (Prod.ext e4.1 e4.2.1) ‹_› (e5.trans e6.symm)
   exact p9 ⟨.ret _ _ (H8 (O.eqb_t.2 e)),.nil⟩
  ·exact absurd ‹((x.ps.length:Nat):Int)=((y.ps.length:Nat):Int)› (hne ‹¬((x.ps.length:Nat):Int)=0›)
theorem e87:s9 72 (spO fun a=>.a (T.c a).g):=u2 (fun fn h=>d6x h) [] .nil fun U fn hfn a vs bs hv hb=>by
 change t7 [.a a.g] vs at hv
 change s5 [] bs at hb
 show s4 U _ fun v bs'=>u0 (.ret (.a (T.c a).g)) v∧s5 [] bs'
 unfold r72
 rw [a.g_eq] at hv
 (refine Zz ?_;intros)
 exact E9 fun e=>by subst e;exact ⟨.ret _ _ (by (exact Zru)),.nil⟩
theorem g4j:s9 74 (b46 fun s=>.a (T.v s).g):=u2 (fun fn h=>d6z h) [] .nil fun U fn hfn s vs bs hv hb=>by
 change t7 [.a [.s s.1,.s s.2]] vs at hv
 change s5 [] bs at hb
 show s4 U _ fun v bs'=>u0 (.ret (.a (T.v s).g)) v∧s5 [] bs'
 unfold r74
 (refine Zz ?_;intros)
 exact E9 fun e=>by subst e;exact ⟨.ret _ _ (by (exact Zru)),.nil⟩
theorem g31:s9 82 e7n:=u2 (fun fn h=>d64 h) [] .nil fun U fn hfn ⟨f,l⟩ vs bs hv hb=>by
 change t7 [.a [.s f.1,.s f.2],.sl 11 (l.map T.g)] vs at hv
 change s5 [] bs at hb
 show s4 U _ fun v bs'=>u0 (.ret (.a (T.call f l).g)) v∧s5 [] bs'
 unfold r82
 (refine Zz ?_;intros)
 refine E9 fun e=>?_
 subst e
 refine ⟨.ret _ _ (.ag _ _ ?_),.nil⟩
 simp only [T.g,T.gs_eq,List.map_cons,List.map_nil]
 refine .k (.i _ _) (.k (.q _ _ (u3.at aS rfl)) (.k (.q _ _ (u3.at aS rfl)) (.k (.i _ _) (.k (.s _ _ _ rfl rfl) (.k (.s _ _ _ rfl rfl) (.k (.s _ _ _ rfl rfl) (.k (.s _ _ _ rfl rfl) (.k (.s _ _ _ rfl rfl) (.k (.cl _ _ _ _ _ rfl (u6.nil _ _ _)) (.k (.cl _ _ _ _ _ (by simp) aS) .nil))))))))))
def a3j:O→Bool
 | .num _ _ | .tx _=>true
 | .sy s=>O.eqb (.sy s) C8 || O.eqb (.sy s) tO
 | _=>false
theorem a9m:s9 71 (spO fun a=>.c (.b (a3j a))):=u2 (fun fn h=>d6w h) [(103,_),(111,_),(110,_)] (.cons c7s (.cons kTP (.cons f6b .nil))) fun U fn hfn (a:O) vs bs hv hb=>by
 have hn:=hfn 103 _ rfl
 have ht:=hfn 111 _ rfl
 have he:=hfn 110 _ rfl
 change t7 [.a a.g] vs at hv
 change s5 [] bs at hb
 show s4 U _ fun v bs'=>u0 (.ret (.c (.b (a3j a)))) v∧s5 [] bs'
 unfold r71
 rw [a.g_eq] at hv
 cases a with
 | sy s =>
  simp only [O.k,O.nu,O.de,O.sym,O.txt,O.ps] at hv
  (refine Zz ?_;intros)
  refine o7 hn (.sy s) (r:=.c (.b (O.eqb (.sy s) C8))) rfl (.k (.a _ _ _ rfl aS) .nil) .nil fun _ _ _ _=>?_
  (refine Zz ?_;with_reducible repeat' first|intro _|apply aI)
  ·exact p9 ⟨.ret _ _ (H8 (by show (O.eqb (.sy s) C8 || O.eqb (.sy s) tO)=true;rw [‹O.eqb (.sy s) C8=true›];rfl)),.nil⟩
  ·refine o7 ht () (r:=.a tO.g) rfl .nil .nil fun _ _ h1 _=>?_
   refine C4 h1 (O.g_len _) fun _ k1=>?_
   (refine Zz ?_;intros)
   refine o7 he ⟨(.sy s,tO),by show 1 < 90000;decide⟩ (r:=.c (.b (O.eqb (.sy s) tO))) rfl (.k (.a _ _ _ rfl aS) (.k (.a _ _ _ (O.g_len _).symm k1) .nil)) .nil fun _ _ _ _=>?_
   (refine Zz ?_;intros)
   rw [show a3j (.sy s)=(O.eqb (.sy s) C8 || O.eqb (.sy s) tO) from rfl,Bool.eq_false_iff.2 ‹¬O.eqb (.sy s) C8=true›,Bool.false_or]
   exact p9 ⟨.ret _ _ (.b _),.nil⟩
 | _ =>
  simp only [O.k,O.nu,O.de,O.sym,O.txt,O.ps] at hv
  (refine Zz ?_;with_reducible repeat' first|intro _|apply aI)
  all_goals exact p9 ⟨.ret _ _ (H8 rfl),.nil⟩
def Q3 (p:Sy × T):List G:=.s p.1.1 :: .s p.1.2 :: p.2.g
theorem b2f (p:Sy × T):(Q3 p).length=13:=by simp [Q3,T.g_len]
theorem e8h {a b:Sy × T} (h:Q3 a=Q3 b):a=b:=by
 simp only [Q3,List.cons.injEq,G.s.injEq] at h
 exact Prod.ext (Prod.ext h.1 h.2.1) (T.g_inj h.2.2)
theorem a6l:∀ {l m:List (Sy × T)},l.map Q3=m.map Q3→l=m
 | [],[],_=>rfl
 | [],_ :: _,h=>by simp at h
 | _ :: _,[],h=>by simp at h
 | a :: l,b :: m,h=>by simp only [List.map_cons,List.cons.injEq] at h;exact congr (congrArg List.cons (e8h h.1)) (a6l h.2)
def f41:V:=.func (.func 113) [] [.ptr 0 0]
def g0o:Sp where
 ι:=Sy × List (Sy × T)
 A p:=[.a (T.v p.1).g,.raw f41]
 B p:=[[.l (p.2.map Q3)]]
 R p:=.ret (.a (T.v p.1).g)
 B' p:=[[.l (p.2.map Q3)]]
 inj i j vs bs h k hb kb:=by
  obtain ⟨_,_,h1,k1,h,k⟩:=h.two k
  have e1:=a5o hb kb
  injection e1 with e1
  injection e1 with e1
  rw [T.g_inj (h1.a_inj k1),a6l e1];exact ⟨rfl,rfl⟩
theorem g4k:s9 112 g0o:=u2 (fun fn h=>c8e h) [] .nil fun U fn hfn ⟨s,e⟩ vs bs hv hb=>by
 change t7 [.a (T.v s).g,.raw f41] vs at hv
 change s5 [[.l (e.map Q3)]] bs at hb
 show s4 U _ fun v bs'=>u0 (.ret (.a (T.v s).g)) v∧s5 [[.l (e.map Q3)]] bs'
 unfold d19
 simp only [T.g] at hv
 (refine Zz ?_;intros)
 refine a33 aS ?_
 (refine Zz ?_;intros)
 refine a35 aS (v6 b2f) fun _ _ hr=>?_
 (refine Zz ?_;intros)
 exact p9 ⟨.ret _ _ (.a _ _ _ (T.g_len _).symm aS),.k (.cells _ _ (.k (.cl _ _ _ _ _ (by simp) hr) .nil)) .nil⟩
theorem c17 (p:Sy × T) (l:List (Sy × T)) (s:Sy):asg (p :: l) s=if p.1=s then some p.2 else asg l s:=by cases p;rfl
def g0k:Sp where
 ι:={ p:Sy × List (Sy × T) // p.2.length < 90000 }
 A p:=[.a (T.v p.1.1).g,.sl 13 (p.1.2.map Q3)]
 B _:=[]
 R p:=.ret (.a (C7 p.1.2 (.v p.1.1)).g)
 B' _:=[]
 inj i j vs bs h k _ _:=by
  obtain ⟨_,_,h1,k1,h,k⟩:=h.two k
  obtain ⟨_,_,h2,k2,h,k⟩:=h.two k
  have e1:=T.g_inj (h1.a_inj k1)
  injection e1 with e1
  rw [e1,a6l (h2.sl_inj k2)];exact ⟨rfl,rfl⟩
theorem g4e:s9 73 g0k:=u2 (fun fn h=>d6y h) [(112,_)] (.cons g4k .nil) fun U fn hfn ⟨(s,env),hl⟩ vs bs hv hb=>by
 have hw:=hfn 112 _ rfl
 have hl:env.length < 90000:=hl
 change t7 [.a (T.v s).g,.sl 13 (env.map Q3)] vs at hv
 change s5 [] bs at hb
 show s4 U _ fun v bs'=>u0 (.ret (.a (C7 env (.v s)).g)) v∧s5 [] bs'
 have e0:C7 env (.v s)=match asg env s with | none=>.v s | some t=>t:=by rw [C7];cases asg env s <;> rfl
 unfold r73
 simp only [T.g] at hv
 (refine Zz ?_;intros)
 refine F9 (fun (i:Nat) vs bs=>∃ (t:s6 Q) (off:Nat) (t2:s6 Q) (off2:Nat) (q:Q),vs=[.ptr 0 0,.ptr 1 0,.ptr 2 0,.slice t 13 off env.length .no,.int .i64 (env.length:Nat),.int .i64 (i:Nat)]∧bs=[.opa q 11,.cells [.slice t2 13 off2 env.length .no],.cells [.int .i64 0,.str 0 0,.str 0 0,.int .i64 0,.str 0 0,.str 0 0,.str 0 0,.str 0 0,.str 0 0,.slice .nil 0 0 0 .exact,.slice .nil 0 0 0 .exact]]∧u3 [.i .i64 1,.s s.1,.s s.2,.i .i64 0,.s [],.s [],.s [],.s [],.s [],.l [],.l []] q 0∧u6 13 (env.map Q3) t off∧u6 13 (env.map Q3) t2 off2∧i≤env.length∧asg env s=asg (env.drop i) s) (fun i=>env.length - i) 0
  ⟨_,_,_,_,_,rfl,rfl,aS,aS,aS,oM,by rw [List.drop_zero]⟩ (by simp only [C9];omega) ?_
 rintro self i _ _ ⟨t,off,t2,off2,q,rfl,rfl,hq,ht,ht2,hi,he⟩ ih
 (refine Zz ?_;with_reducible repeat' first|intro _|apply aI)
 ·have hil:i < env.length:=oM
  rw [List.drop_eq_getElem_cons hil,c17,if_pos (Prod.ext (‹_∧_∧True›).1 (‹_∧_∧True›).2.1)] at he
  rw [e0,he]
  exact p9 ⟨.ret _ _ (.a _ _ _ (T.g_len _).symm (show u3 (List.drop 2 (Q3 env[i])) _ 0 by assumption)),.nil⟩
 ·have hil:i < env.length:=oM
  rw [List.drop_eq_getElem_cons hil,c17,if_neg (fun h=>‹¬(_∧_∧True)› ⟨congrArg Prod.fst h,congrArg Prod.snd h,trivial⟩)] at he
  exact ih (i+1) _ _ ⟨_,_,_,_,_,rfl,rfl,hq,ht,ht2,oM,he⟩ oM
 ·have ei:i=env.length:=oM
  rw [ei,List.drop_length] at he
  have he:asg env s=none:=he
  refine o7 hw (s,env) (r:=.a (T.v s).g) rfl (.k (.a _ _ _ rfl aS) (.k (.raw _) .nil)) (.k (.cells _ _ (.k (.cl _ _ _ _ _ (by simp) ht2) .nil)) .nil) fun _ _ h1 hb2=>?_
  change s5 [[.l (env.map Q3)]] _ at hb2
  refine C4 h1 (T.g_len _) fun _ _=>?_
  (refine Zz ?_;intros)
  refine a35 aS (v6 b2f) fun _ _ _=>?_
  (refine Zz ?_;intros)
  rw [e0,he]
  exact p9 ⟨.ret _ _ (.a _ _ _ (T.g_len _).symm aS),.nil⟩
set_option maxHeartbeats 4000000
theorem a28:∀ l:List O,Q4 (u7 l)=some l
 | []=>by show Q4 C8=_;simp [Q4,C8]
 | a :: l=>by show Q4 (.co a (u7 l))=_;simp [Q4,a28 l]
theorem P6 {l m:List O} (h:u7 l=u7 m):l=m:=by
 have h1:=a28 l
 rw [h,a28 m] at h1
 injection h1 with h1;exact h1.symm
section
variable {nm:List Sy} {ar:Sy→Nat}
mutual
theorem b4k (hq:∀ f ∈ nm,f.1=s8∧f.2 ∉ b47):∀ {t t':T},Gt nm ar t→Gt nm ar t'→z6 t=z6 t'→t=t'
 | .v s,t',h,h',e=>by
  have hs:R8 s=true:=by cases h with | v _ hs=>exact a4n hs
  rw [z6] at e
  cases t' with
  | v s'=>rw [z6] at e;injection e with e;rw [e]
  | c o =>
   rw [z6] at e
   split at e
   ·rename_i hso
    subst e
    rw [show a0z (.sy s)=!(R8 s) from rfl,hs] at hso;cases hso
   ·cases e
  | call f xs=>rw [z6] at e;cases e
 | .c o,t',h,h',e=>by
  cases t' with
  | v s =>
   have hs:R8 s=true:=by cases h' with | v _ hs=>exact a4n hs
   rw [z6,z6] at e
   split at e
   ·rename_i hso
    subst e
    rw [show a0z (.sy s)=!(R8 s) from rfl,hs] at hso;cases hso
   ·cases e
  | c o' =>
   rw [z6,z6] at e
   split at e
   ·rename_i h1
    split at e
    ·rw [e]
    ·subst e;cases h1
   ·rename_i h1
    split at e
    ·rename_i h2
     subst e;cases h2
    ·have:=P6 (l:=[_,o]) (m:=[_,o']) e
     injection this with _ this;injection this with this;rw [this]
  | call f xs =>
   have hf:f ∈ nm:=by cases h' with | call _ _ hf=>exact hf
   rw [z6,z6] at e
   split at e
   ·rename_i h1
    subst e;cases h1
   ·have e:O.co (.sy (s8,o8 5 435745158513)) (u7 [o])=.co (.sy f) (u7 (L8 xs)):=e
    injection e with e _
    injection e with e
    exact absurd (show f.2 ∈ b47 by rw [← e];decide) (hq f hf).2
 | .call f xs,t',h,h',e=>by
  have hf:f ∈ nm:=by cases h with | call _ _ hf=>exact hf
  cases t' with
  | v s=>rw [z6,z6] at e;cases e
  | c o =>
   rw [z6,z6] at e
   split at e
   ·rename_i h1
    subst e;cases h1
   ·have e:O.co (.sy f) (u7 (L8 xs))=.co (.sy (s8,o8 5 435745158513)) (u7 [o]):=e
    injection e with e _
    injection e with e
    exact absurd (show f.2 ∈ b47 by rw [e];decide) (hq f hf).2
  | call f' ys =>
   rw [z6,z6] at e
   injection e with e1 e2
   injection e1 with e1
   have e3:=P6 e2
   have hx:∀ x ∈ xs,Gt nm ar x:=by cases h with | call _ _ _ _ hx=>exact hx
   have hy:∀ x ∈ ys,Gt nm ar x:=by cases h' with | call _ _ _ _ hx=>exact hx
   rw [e1,b9v hq hx hy e3]
theorem b9v (hq:∀ f ∈ nm,f.1=s8∧f.2 ∉ b47):∀ {xs ys:List T},(∀ x ∈ xs,Gt nm ar x)→(∀ x ∈ ys,Gt nm ar x)→L8 xs=L8 ys→xs=ys
 | [],[],_,_,_=>rfl
 | [],_ :: _,_,_,e=>by rw [L8,L8] at e;cases e
 | _ :: _,[],_,_,e=>by rw [L8,L8] at e;cases e
 | x :: xs,y :: ys,hx,hy,e=>by
  rw [L8,L8] at e
  injection e with e1 e2
  rw [b4k hq (hx x (by simp)) (hy y (by simp)) e1,b9v hq (fun z hz=>hx z (by simp [hz])) (fun z hz=>hy z (by simp [hz])) e2]
end
end
set_option maxHeartbeats 8000000
theorem d1e:s9 153 (b84 fun L s=>okF (K1 L s)):=u2 (fun fn h=>f0t h) [(214,_),(213,_)] (.cons b3w (.cons e9g .nil)) fun U fn hfn ⟨⟨w,hw,hwl⟩,s⟩ vs bs hv hb=>by
 have hf:=hfn 214 _ rfl
 have hp:=hfn 213 _ rfl
 change t7 [.sl 32 (w.map Et.g),.a [.s s.1,.s s.2]] vs at hv
 change s5 [] bs at hb
 show s4 U _ fun v bs'=>u0 (.ret (okF (K1 (w.map Et.fl) s))) v∧s5 [] bs'
 unfold e1w
 (refine Zz ?_;with_reducible repeat' first|intro _|apply aI)
 cases e:V1 (w.map Et.fl) s with
 | none =>
  rw [(by rw [K1,e]:K1 (w.map Et.fl) s=none)]
  refine o7 hp (⟨w,hw,hwl⟩,s) (r:=.t [.c (.i .i64 0),.c (.i .i64 0),.c (.b false)]) (by show u9.ret (okP (V1 (w.map Et.fl) s))=_;rw [e];rfl) (.k (.sl _ _ _ _ _ (by simp) aS) (.k (.a _ _ _ rfl aS) .nil)) .nil fun _ _ _ _=>?_
  (refine Zz ?_;with_reducible repeat' first|intro _|apply aI)
  all_goals first
   | exact p9 ⟨.ret _ _ (.t _ _ (.k (.ag _ _ (by (exact Zru))) (.k (.kn _) .nil))),.nil⟩
   | exact absurd ‹false=true› dE
 | some p =>
  obtain ⟨i,k⟩:=p
  obtain ⟨k1,k2⟩:=c4w e
  simp only [List.getElem_map] at k2
  rw [List.length_map] at k1
  rw [(by rw [K1,e];simp [k1,k2]:K1 (w.map Et.fl) s=some (w[i].fl)[k])]
  refine o7 hp (⟨w,hw,hwl⟩,s) (r:=.t [.c (.i .i64 i),.c (.i .i64 k),.c (.b true)]) (by show u9.ret (okP (V1 (w.map Et.fl) s))=_;rw [e];rfl) (.k (.sl _ _ _ _ _ (by simp) aS) (.k (.a _ _ _ rfl aS) .nil)) .nil fun _ _ _ _=>?_
  (refine Zz ?_;with_reducible repeat' first|intro _|apply aI)
  all_goals try exact absurd rfl ‹¬true=true›
  refine o7 hf w[i] (r:=.sl 37 (w[i].fl.map F.g)) rfl (.k (.a _ _ _ (Et.g_len _).symm aS) .nil) .nil fun _ _ _ _=>?_
  generalize w[i]=e at *
  (refine Zz ?_;intros)
  exact p9 ⟨.ret _ _ (.t _ _ (.k (.a _ _ _ (F.g_len _).symm aS) (.k (.kn _) .nil))),.nil⟩
theorem a9p:o8 4 1886611820=s8:=kR
theorem b8o {s:Sy} (h:s.1=o8 4 1886611820) {x:u4} {n:Int} (e:s.2=x) (k:a0y X8 x=some n):V0 (D5 s)=.t [.c (.i .i64 n),.c (.b true)]:=by
 unfold D5;rw [if_pos (h.trans a9p),e,k];rfl
theorem c48:∀ {l:List (u4 × Int)} {s:u4},(∀ p ∈ l,¬s=p.1)→a0y l s=none
 | [],_,_=>rfl
 | p :: l,s,h=>by
  rw [a0y,if_neg (fun e=>h p (by simp) e.symm)]
  exact c48 fun q hq=>h q (by simp [hq])
theorem e84:s9 101 (b46 fun s=>V0 (D5 s)):=u2 (fun fn h=>c79 h) [] .nil fun U fn hfn s vs bs hv hb=>by
 change t7 [.a [.s s.1,.s s.2]] vs at hv
 change s5 [] bs at hb
 show s4 U _ fun v bs'=>u0 (.ret (V0 (D5 s))) v∧s5 [] bs'
 unfold d14
 (refine Zz ?_;with_reducible repeat' first|intro _|apply aI)
 all_goals try (refine sQV ?_;(refine Zz ?_;with_reducible repeat' first|intro _|apply aI))
 all_goals first
  | (rw [b8o (n:=3) (s:=s) aS aS kR];exact p9 ⟨.ret _ _ (.t _ _ (.k (.i _ _) (.k (.kn _) .nil))),.nil⟩)
  | (rw [b8o (n:=2) (s:=s) aS aS kR];exact p9 ⟨.ret _ _ (.t _ _ (.k (.i _ _) (.k (.kn _) .nil))),.nil⟩)
  | (rw [b8o (n:=1) (s:=s) aS aS kR];exact p9 ⟨.ret _ _ (.t _ _ (.k (.i _ _) (.k (.kn _) .nil))),.nil⟩)
  | (rw [show D5 s=none from if_neg (by rw [← a9p];assumption)];exact p9 ⟨.ret _ _ (.t _ _ (.k (.i _ _) (.k (.kn _) .nil))),.nil⟩)
  | skip
 have hn:D5 s=none:=by
  unfold D5
  rw [if_pos (by rw [← a9p];assumption)]
  refine c48 fun p hp=>?_
  simp only [X8,List.mem_cons,List.not_mem_nil,or_false] at hp
  rcases hp with rfl | rfl | rfl | rfl | rfl | rfl | rfl | rfl | rfl | rfl | rfl | rfl | rfl | rfl | rfl | rfl | rfl | rfl | rfl | rfl | rfl | rfl | rfl | rfl | rfl <;> assumption
 rw [hn]
 exact p9 ⟨.ret _ _ (.t _ _ (.k (.i _ _) (.k (.kn _) .nil))),.nil⟩
theorem e85:s9 124 (b84 Q5):=u2 (fun fn h=>c8n h) [(101,_),(153,_)] (.cons e84 (.cons d1e .nil)) fun U fn hfn ⟨⟨w,hw,hwl⟩,s⟩ vs bs hv hb=>by
 have ha:=hfn 101 _ rfl
 have hf:=hfn 153 _ rfl
 change t7 [.sl 32 (w.map Et.g),.a [.s s.1,.s s.2]] vs at hv
 change s5 [] bs at hb
 show s4 U _ fun v bs'=>u0 (.ret (Q5 (w.map Et.fl) s)) v∧s5 [] bs'
 unfold d2i
 (refine Zz ?_;with_reducible repeat' first|intro _|apply aI)
 cases e:D5 s with
 | some n =>
  rw [(by rw [Q5,e];rfl:Q5 (w.map Et.fl) s=.t [.c (.i .i64 n),.c (.b true)])]
  refine o7 ha s (r:=.t [.c (.i .i64 n),.c (.b true)]) (by show u9.ret (V0 (D5 s))=_;rw [e];rfl) (.k (.a _ _ _ rfl aS) .nil) .nil fun _ _ _ _=>?_
  (refine Zz ?_;with_reducible repeat' first|intro _|apply aI)
  all_goals first
   | exact p9 ⟨.ret _ _ (.t _ _ (.k (.i _ _) (.k (.kn _) .nil))),.nil⟩
   | exact absurd rfl ‹¬true=true›
 | none =>
  refine o7 ha s (r:=.t [.c (.i .i64 0),.c (.b false)]) (by show u9.ret (V0 (D5 s))=_;rw [e];rfl) (.k (.a _ _ _ rfl aS) .nil) .nil fun _ _ _ _=>?_
  (refine Zz ?_;with_reducible repeat' first|intro _|apply aI)
  all_goals try exact absurd ‹false=true› dE
  cases e2:K1 (w.map Et.fl) s with
  | none =>
   rw [(by rw [Q5,e];show V0 ((K1 (w.map Et.fl) s).map _)=_;rw [e2];rfl:Q5 (w.map Et.fl) s=.t [.c (.i .i64 0),.c (.b false)])]
   refine o7 hf (⟨w,hw,hwl⟩,s) (r:=.t [.a zF,.c (.b false)]) (by show u9.ret (okF (K1 (w.map Et.fl) s))=_;rw [e2];rfl) (.k (.sl _ _ _ _ _ (by simp) aS) (.k (.a _ _ _ rfl aS) .nil)) .nil fun _ _ _ _=>?_
   (refine Zz ?_;intros)
   refine E5 (ys:=([]:List Sy)) (f:=sg) aS (v6 a8w) fun _ _ _=>?_
   (refine Zz ?_;intros)
   exact p9 ⟨.ret _ _ (.t _ _ (.k (.i _ _) (.k (.b _) .nil))),.nil⟩
  | some f =>
   rw [(by rw [Q5,e];show V0 ((K1 (w.map Et.fl) s).map _)=_;rw [e2];rfl:Q5 (w.map Et.fl) s=.t [.c (.i .i64 f.ps.length),.c (.b true)])]
   refine o7 hf (⟨w,hw,hwl⟩,s) (r:=.t [.a f.g,.c (.b true)]) (by show u9.ret (okF (K1 (w.map Et.fl) s))=_;rw [e2];rfl) (.k (.sl _ _ _ _ _ (by simp) aS) (.k (.a _ _ _ rfl aS) .nil)) .nil fun _ _ _ _=>?_
   (refine Zz ?_;intros)
   refine C4 aS (by first | exact (F.g_len _).symm | exact F.g_len _) fun _ _=>?_
   (refine Zz ?_;intros)
   refine E5 aS (v6 a8w) fun _ _ _=>?_
   (refine Zz ?_;intros)
   exact p9 ⟨.ret _ _ (.t _ _ (.k (.i _ _) (.k (.b _) .nil))),.nil⟩
abbrev Wm:={ w:Wd // ∀ e ∈ w.1,¬e.kd=2 }
def g0f:Sp where
 ι:={ p:Et × Sy // ¬p.1.kd=2 }
 A p:=[.a p.1.1.g,.p 0 0]
 B p:=[sg p.1.2]
 R _:=.ret (.c (.b false))
 B' p:=[sg p.1.2]
 inj i j vs bs h k hb kb:=by rw [W3 (a5o hb kb)];exact ⟨rfl,rfl⟩
theorem g4a:s9 180 g0f:=u2 (fun fn h=>c89 h) [] .nil fun U fn hfn ⟨(e,s),hk⟩ vs bs hv hb=>by
 change t7 [.a e.g,.p 0 0] vs at hv
 change s5 [[.s s.1,.s s.2]] bs at hb
 have hk:¬e.kd=2:=hk
 show s4 U _ fun v bs'=>u0 (.ret (.c (.b false))) v∧s5 [sg s] bs'
 unfold d25
 unfold Et.g at hv
 (refine Zz ?_;with_reducible repeat' first|intro _|apply aI)
 all_goals first
  | exact absurd ‹_› hk
  | exact p9 ⟨.ret _ _ (.kn _),rbQ aS rfl⟩
def d0r:V:=.func (.func 180) [] [.ptr 0 0]
def g0c:Sp where
 ι:=Wm × Sy
 A p:=[.sl 32 (p.1.1.1.map Et.g),.raw d0r]
 B p:=[sg p.2]
 R _:=.ret (.t [.c (.i .i64 0),.c (.b false)])
 B' p:=[sg p.2]
 inj i j vs bs h k hb kb:=by rw [W3 (a5o hb kb)];exact ⟨rfl,rfl⟩
theorem e9c:s9 179 g0c:=u2 (fun fn h=>c88 h) [(180,_)] (.cons g4a .nil) fun U fn hfn ⟨⟨⟨w,hw,hwl⟩,hm⟩,s⟩ vs bs hv hb=>by
 have hf:=hfn 180 _ rfl
 change t7 [.sl 32 (w.map Et.g),.raw d0r] vs at hv
 change s5 [[.s s.1,.s s.2]] bs at hb
 show s4 U _ fun v bs'=>u0 (.ret (.t [.c (.i .i64 0),.c (.b false)])) v∧s5 [sg s] bs'
 unfold d23
 (refine Zz ?_;intros)
 refine a33 aS ?_
 (refine Zz ?_;intros)
 refine F9 (fun (i:Nat) vs bs=>∃ (t:s6 Q) (off:Nat) (q:Q),vs=[d0r,.slice t 32 off w.length .no,.int .i64 (w.length:Nat),.int .i64 (i:Nat)]∧bs=[.opa q 2]∧u3 [.s s.1,.s s.2] q 0∧u6 32 (w.map Et.g) t off∧i≤w.length) (fun i=>w.length - i) 0
  ⟨_,_,_,rfl,rfl,aS,aS,oM⟩ (by simp only [C9];omega) ?_
 rintro self i _ _ ⟨t,off,q,rfl,rfl,hq,ht,hi⟩ ih
 unfold d0r
 (refine Zz ?_;intros)
 refine b8w ?_
 (refine Zz ?_;with_reducible repeat' first|intro _|apply aI)
 ·have hil:i < w.length:=oM
  refine o7 hf ⟨(w[i],s),hm _ (List.getElem_mem _)⟩ (r:=.c (.b false)) rfl (.k (.a _ _ _ (Et.g_len _).symm aS) (.k (.p _ _) .nil)) (rbQ hq rfl) fun _ _ _ hb2=>?_
  change s5 [[.s s.1,.s s.2]] _ at hb2
  (refine Zz ?_;with_reducible repeat' first|intro _|apply aI)
  all_goals try exact absurd ‹false=true› dE
  exact ih (i+1) _ _ ⟨_,_,_,rfl,rfl,aS,ht,oM⟩ oM
 ·exact p9 ⟨.ret _ _ (.t _ _ (.k (.i _ _) (.k (.kn _) .nil))),rbQ hq rfl⟩
def zM:List G:=[.s [],.s [],.l [],.b false,.i .i64 0,.s [],.s [],.i .i64 0,.s [],.s [],.s [],.s [],.s [],.l [],.l []]
def g5f:Sp where
 ι:=Wm × Sy
 A p:=[.sl 32 (p.1.1.1.map Et.g),.a (sg p.2)]
 B _:=[]
 R _:=.ret (.t [.a zM,.c (.b false)])
 B' _:=[]
 inj _ _ _ _ _ _ _ _:=⟨rfl,rfl⟩
theorem e9h:s9 120 g5f:=u2 (fun fn h=>c8l h) [(179,_)] (.cons e9c .nil) fun U fn hfn ⟨⟨⟨w,hw,hwl⟩,hm⟩,s⟩ vs bs hv hb=>by
 have hf:=hfn 179 _ rfl
 change t7 [.sl 32 (w.map Et.g),.a [.s s.1,.s s.2]] vs at hv
 change s5 [] bs at hb
 show s4 U _ fun v bs'=>u0 (.ret (.t [.a zM,.c (.b false)])) v∧s5 [] bs'
 unfold d2g
 (refine Zz ?_;intros)
 refine o7 hf (⟨⟨w,hw,hwl⟩,hm⟩,s) (r:=.t [.c (.i .i64 0),.c (.b false)]) rfl (.k (.sl _ _ _ _ _ (by simp) aS) (.k (.raw _) .nil)) (rbQ aS rfl) fun _ _ _ hb2=>?_
 change s5 [[.s s.1,.s s.2]] _ at hb2
 (refine Zz ?_;with_reducible repeat' first|intro _|apply aI)
 all_goals try exact absurd ‹false=true› dE
 exact p9 ⟨.ret _ _ (.t _ _ (.k (.ag _ _ (by unfold zM;(exact Zru))) (.k (.kn _) .nil))),.nil⟩
def a5i:List u4→u4→Nat→Int
 | [],_,_=>-1
 | x :: l,s,i=>if s=x then i else a5i l s (i+1)
theorem c3u:∀ (l:List u4) (s:u4) (i:Nat),decide ((0:Int)≤a5i l s i)=decide (s ∈ l)
 | [],s,i=>by simp [a5i]
 | x :: l,s,i=>by
  rw [a5i]
  by_cases h:s=x
  ·rw [if_pos h];simp [h]
  ·rw [if_neg h,c3u l s (i+1)];simp [h]
def stg (x:u4):List G:=[.s x]
theorem c95:∀ {l m:List u4},l.map stg=m.map stg→l=m
 | [],[],_=>rfl
 | [],_ :: _,h=>by simp at h
 | _ :: _,[],h=>by simp at h
 | a :: l,b :: m,h=>by simp only [List.map_cons,List.cons.injEq,stg,G.s.injEq,and_true] at h;rw [h.1,c95 h.2]
def e7u (g:List u4→u4→GV):Sp where
 ι:={ p:List u4 × u4 // p.1.length < 90000 }
 A p:=[.sl 1 (p.1.1.map stg),.c (.s p.1.2)]
 B _:=[]
 R p:=.ret (g p.1.1 p.1.2)
 B' _:=[]
 inj i j vs bs h k _ _:=by
  obtain ⟨_,_,h1,k1,h,k⟩:=h.two k
  obtain ⟨_,_,h2,k2,h,k⟩:=h.two k
  rw [c95 (h1.sl_inj k1),a4l h2 k2];exact ⟨rfl,rfl⟩
theorem e9e:s9 231 (e7u fun l s=>.c (.i .i64 (a5i l s 0))):=u2 (fun fn h=>c9j h) [] .nil fun U fn hfn ⟨(l,s),hl⟩ vs bs hv hb=>by
 change t7 [.sl 1 (l.map stg),.c (.s s)] vs at hv
 change s5 [] bs at hb
 have hl:l.length < 90000:=hl
 show s4 U _ fun v bs'=>u0 (.ret (.c (.i .i64 (a5i l s 0)))) v∧s5 [] bs'
 unfold d3f
 (refine Zz ?_;intros)
 refine F9 (fun (i:Nat) vs bs=>∃ (t:s6 Q) (off:Nat),vs=[.slice t 1 off l.length .no,.str s.length (C6 s),.int .i64 (l.length:Nat),.int .i64 (i:Nat)]∧bs=[]∧u6 1 (l.map stg) t off∧i≤l.length∧a5i l s 0=a5i (l.drop i) s i) (fun i=>l.length - i) 0
  ⟨_,_,rfl,rfl,aS,oM,by rw [List.drop_zero]⟩ (by simp only [C9];omega) ?_
 rintro self i _ _ ⟨t,off,rfl,rfl,ht,hi,he⟩ ih
 (refine Zz ?_;with_reducible repeat' first|intro _|apply aI)
 ·have hil:i < l.length:=oM
  rw [List.drop_eq_getElem_cons hil,a5i,if_pos aS] at he
  rw [he]
  exact p9 ⟨.ret _ _ (.i _ _),.nil⟩
 ·have hil:i < l.length:=oM
  rw [List.drop_eq_getElem_cons hil,a5i,if_neg aS] at he
  exact ih (i+1) _ _ ⟨_,_,rfl,rfl,ht,oM,he⟩ oM
 ·have ei:i=l.length:=oM
  rw [ei,List.drop_length] at he
  rw [he]
  exact p9 ⟨.ret _ _ (.i _ _),.nil⟩
theorem d1d:s9 181 (e7u fun l s=>.c (.b (decide (s ∈ l)))):=u2 (fun fn h=>c9a h) [(231,_)] (.cons e9e .nil) fun U fn hfn ⟨(l,s),hl⟩ vs bs hv hb=>by
 have hf:=hfn 231 _ rfl
 change t7 [.sl 1 (l.map stg),.c (.s s)] vs at hv
 change s5 [] bs at hb
 have hl:l.length < 90000:=hl
 show s4 U _ fun v bs'=>u0 (.ret (.c (.b (decide (s ∈ l))))) v∧s5 [] bs'
 unfold d26
 (refine Zz ?_;intros)
 refine o7 hf ⟨(l,s),hl⟩ (r:=.c (.i .i64 (a5i l s 0))) rfl (.k (.sl _ _ _ _ _ (by simp) aS) (.k (.s _ _ _ rfl rfl) .nil)) .nil fun _ _ _ _=>?_
 (refine Zz ?_;intros)
 refine E9 fun e=>?_
 subst e
 exact ⟨.ret _ _ (N7 (by rw [← c3u l s 0,c2l])),.nil⟩
theorem d9k:u6 1 (b7y.map stg) (.node (.str 4 1953720684) (.node (.str 5 182342347116) (.node (.str 2 29295) (.node (.str 1 45) .nil .nil) (.node (.str 2 15678) .nil .nil)) (.node (.str 1 43) (.node (.str 2 15676) .nil .nil) .nil)) (.node (.str 3 6581857) (.node (.str 4 1684959075) (.node (.str 1 47) .nil .nil) (.node (.str 6 110425311047777) .nil .nil)) (.node (.str 1 42) (.node (.str 1 62) .nil .nil) .nil))) 0:=Z7 (a71 2) kR
theorem e0h:s9 121 (b46 fun s=>.c (.b (a3v s))):=u2 (fun fn h=>c8m h) [(181,_)] (.cons d1d .nil) fun U fn hfn s vs bs hv hb=>by
 have hf:=hfn 181 _ rfl
 change t7 [.a [.s s.1,.s s.2]] vs at hv
 change s5 [] bs at hb
 show s4 U _ fun v bs'=>u0 (.ret (.c (.b (a3v s)))) v∧s5 [] bs'
 unfold d2h
 (refine Zz ?_;with_reducible repeat' first|intro _|apply aI)
 ·rw [show a3v s=decide (s.2 ∈ b7y) by unfold a3v;rw [decide_eq_true (by rw [← a9p];assumption),Bool.true_and]]
  refine o7 hf ⟨(b7y,s.2),by show 13 < 90000;decide⟩ (r:=.c (.b (decide (s.2 ∈ b7y)))) rfl (.k (.sl _ _ _ _ _ rfl d9k) (.k (.q _ _ aS) .nil)) .nil fun _ _ _ _=>?_
  (refine Zz ?_;intros)
  exact p9 ⟨.ret _ _ (.b _),.nil⟩
 ·rw [show a3v s=false by unfold a3v;rw [decide_eq_false (by rw [← a9p];assumption),Bool.false_and]]
  exact p9 ⟨.ret _ _ (.kn _),.nil⟩
theorem b42 {U:B0} {P:H4→List Bx→Prop} {n:Nat} {gs:List G} {b:Bx} {K:Q→Om} (hb:U=CU→RB gs b) (hn:gs.length=n) (h:∀ q,u3 gs q 0→s4 U (K q) P):s4 U (U.uBo n b K) P:=fun e=>a32 (hb e) hn h e
theorem f4y {s:Sy} {o:O} {x y:Q} (h:u3 (sg s) x 0) (k:u3 o.g y 0):RB (bd (s,o)) (.cells [.q (CU.celQ x 0),.q (CU.celQ x 1),.q (CU.celQ y 0),.q (CU.celQ y 1),.q (CU.celQ y 2),.q (CU.celQ y 3),.q (CU.celQ y 4),.q (CU.celQ y 5),.q (CU.celQ y 6)]):=by
 rw [o.g_eq] at k
 exact .cells _ _ (.k (.q _ _ (u3.at h rfl)) (.k (.q _ _ (u3.at h rfl)) (.k (.q _ _ (u3.at k rfl)) (.k (.q _ _ (u3.at k rfl)) (.k (.q _ _ (u3.at k rfl)) (.k (.q _ _ (u3.at k rfl)) (.k (.q _ _ (u3.at k rfl)) (.k (.q _ _ (u3.at k rfl)) (.k (.q _ _ (u3.at k rfl)) .nil)))))))))
def evN (l:List Raw) (i:Nat):Sy × O:=(B6.getD i (H9,[120]),match l[i]? with
 | some r=>E2 r
 | none=>C8)
def X3 (l:List Raw):Q1:=(List.range 4).map (evN l)
def g48:Sp where
 ι:={ l:List Raw // l.length≤1000∧∀ r ∈ l,r.okR }
 A l:=[.sl 4 (l.1.map Raw.g)]
 B _:=[]
 R l:=.ret (.sl 9 ((X3 l.1).map bd))
 B' _:=[]
 inj i j vs bs h k _ _:=by
  obtain ⟨_,_,h1,k1,h,k⟩:=h.two k
  rw [Raw.map_inj (h1.sl_inj k1)];exact ⟨rfl,rfl⟩
theorem g33 (hItoa:a0j):s9 12 g48:=u2 (fun fn h=>f7j h) [(9,_),(35,_),(36,_)] (.cons e54 (.cons b8g (.cons (c7u hItoa) .nil))) fun U fn hfn ⟨l,hl,hok⟩ vs bs hv hb=>by
 have hV:=hfn 9 _ rfl
 have hN:=hfn 35 _ rfl
 have hO:=hfn 36 _ rfl
 change t7 [.sl 4 (l.map Raw.g)] vs at hv
 change s5 [] bs at hb
 have hl:l.length≤1000:=hl
 have hvl:B6.length=4:=rfl
 show s4 U _ fun v bs'=>u0 (.ret (.sl 9 ((X3 l).map bd))) v∧s5 [] bs'
 unfold r12
 (refine Zz ?_;intros)
 refine o7 hV () (r:=.sl 2 (B6.map sg)) rfl (.k (.i _ _) .nil) .nil fun _ _ _ _=>?_
 (refine Zz ?_;intros)
 refine F9 (fun (i:Nat) vs bs=>∃ (t:s6 Q) (off:Nat) (t2:s6 Q) (off2:Nat) (v:V) (acc:Q1),vs=[.slice t 4 off l.length .no,.slice t2 2 off2 B6.length .no,.int .i64 (i:Nat),v]∧bs=[.tok acc.length 9]∧R7 0 9 (acc.map bd) v∧u6 4 (l.map Raw.g) t off∧u6 2 (B6.map sg) t2 off2∧acc=(List.range i).map (evN l)∧acc.length=i∧i≤4) (fun i=>4 - i) 0
  ⟨_,_,_,_,_,[],rfl,rfl,.b rfl,aS,aS,rfl,rfl,oM⟩ (by simp only [C9];omega) ?_
 rintro self i _ _ ⟨t,off,t2,off2,v,acc,rfl,rfl,htk,ht,ht2,hacc,hlen,hi⟩ ih
 (refine Zz ?_;with_reducible repeat' first|intro _|apply aI)
 ·have hi4:i < B6.length:=oM
  have hgd:B6.getD i (H9,[120])=B6[i]:=by simp [List.getD,List.getElem?_eq_getElem hi4]
  refine o7 hN () (r:=.a C8.g) rfl .nil .nil fun _ _ h0 _=>?_
  refine C4 h0 (O.g_len _) fun _ k0=>?_
  (refine Zz ?_;with_reducible repeat' first|intro _|apply aI)
  ·have hil:i < l.length:=oM
   have he:evN l i=(B6[i],E2 l[i]):=by unfold evN;rw [hgd,List.getElem?_eq_getElem hil]
   refine o7 hO ⟨l[i],hok _ (List.getElem_mem hil)⟩ (r:=.a (E2 l[i]).g) rfl (.k (.a _ _ _ (Raw.g_len _).symm aS) .nil) .nil fun _ _ h1 _=>?_
   refine C4 h1 (O.g_len _) fun _ k1=>?_
   (refine Zz ?_;intros)
   refine b42 (gs:=bd (B6[i],E2 l[i])) (fun e=>by subst e;exact f4y aS k1) (b0y _) fun _ _=>?_
   (refine Zz ?_;intros)
   refine N8 aS (r:=bd (B6[i],E2 l[i])) (fun _=>Q9 (by rw [b0y];decide) aS) rfl (by simp) (by simp only [List.length_map];omega) fun _ _=>?_
   (refine Zz ?_;intros)
   exact ih (i+1) _ _ ⟨_,_,_,_,_,acc ++ [(B6[i],E2 l[i])],rfl,(by rw [List.length_append];rfl),.a _ _ (by simp) (by rw [List.map_append];assumption),ht,ht2,(by rw [hacc,List.range_succ,List.map_append,← he];rfl),by simp [hlen],oM⟩ oM
  ·have hil:l[i]?=none:=List.getElem?_eq_none oM
   have he:evN l i=(B6[i],C8):=by unfold evN;rw [hgd,hil]
   refine b42 (gs:=bd (B6[i],C8)) (fun e=>by subst e;exact f4y aS k0) (b0y _) fun _ _=>?_
   (refine Zz ?_;intros)
   refine N8 aS (r:=bd (B6[i],C8)) (fun _=>Q9 (by rw [b0y];decide) aS) rfl (by simp) (by simp only [List.length_map];omega) fun _ _=>?_
   (refine Zz ?_;intros)
   exact ih (i+1) _ _ ⟨_,_,_,_,_,acc ++ [(B6[i],C8)],rfl,(by rw [List.length_append];rfl),.a _ _ (by simp) (by rw [List.map_append];assumption),ht,ht2,(by rw [hacc,List.range_succ,List.map_append,← he];rfl),by simp [hlen],oM⟩ oM
 ·have e9:acc=X3 l:=by rw [hacc,show i=4 by omega];rfl
  rw [← e9]
  exact p9 ⟨.ret _ _ (.sl _ _ _ _ _ (by simp) aS),.nil⟩
theorem d3n {U:B0} {P:H4→List Bx→Prop} {n m off:Nat} {K:Nat→Nat→Om} (hn:n=m+1) (k:s4 U (K (off+1) m) P):s4 U (U.chk (U.band (U.iLe 0 1) (U.band (U.iLe 1 (U.iOfN n)) (U.iLe (U.iOfN n) (U.iOfN n)))) (U.fN (U.nAdd off (U.iNat 1)) fun a=>U.fN (U.nSub (U.iNat (U.iOfN n)) (U.iNat 1)) fun b=>K a b)) P:=by
 subst hn
 refine d3m (p:=True) (fun e=>by subst e;exact ⟨fun _=>trivial,fun _=>(V7 a0l (V7 Y2 c5p) (U:=CU) rfl).2 ⟨dE,oM,Nat.le_refl _⟩⟩) trivial ?_
 refine f92 (b:=off+1) (fun e=>by subst e;rfl) ?_
 exact f92 (b:=m) (fun e=>by subst e;rfl) k
theorem W8 (l:List O):W1 (u7 l)=.t [.sl 7 (l.map O.g),.c (.b true)]:=by unfold W1;rw [a28]
def f2z:Sp where
 ι:={ p:Wm × Sy × List O // (u7 (.sy p.2.1 :: p.2.2)).size < 90000 }
 A p:=[.sl 32 (p.1.1.1.1.map Et.g),.a (u7 (.sy p.1.2.1 :: p.1.2.2)).g]
 B _:=[]
 R p:=.ret (.t [.a (sg p.1.2.1),.sl 7 (p.1.2.2.map O.g),.c (.b (a3v p.1.2.1))])
 B' _:=[]
 inj i j vs bs h k _ _:=by
  obtain ⟨_,_,h1,k1,h,k⟩:=h.two k
  obtain ⟨_,_,h2,k2,h,k⟩:=h.two k
  have e:=P6 (O.g_inj (h2.a_inj k2))
  injection e with e1 e2
  injection e1 with e1
  rw [e1,e2];exact ⟨rfl,rfl⟩
theorem a6f:∀ l:List O,l.length < (u7 l).size
 | []=>Nat.one_pos
 | a :: l=>by
  have:=a6f l
  have h:(u7 (a :: l)).size=1+a.size+(u7 l).size:=rfl
  rw [h,List.length_cons]
  have:=a.size_pos;omega
theorem f53:s9 78 f2z:=u2 (fun fn h=>d62 h) [(75,_),(120,_),(121,_)] (.cons b6f (.cons e9h (.cons e0h .nil))) fun U fn hfn ⟨(w,s,l),hz⟩ vs bs hv hb=>by
 have hI:=hfn 75 _ rfl
 have hM:=hfn 120 _ rfl
 have hB:=hfn 121 _ rfl
 have hz:(u7 (.sy s :: l)).size < 90000:=hz
 have hlen:=a6f (.sy s :: l)
 rw [List.length_cons] at hlen
 change t7 [.sl 32 (w.1.1.map Et.g),.a (u7 (.sy s :: l)).g] vs at hv
 change s5 [] bs at hb
 show s4 U _ fun v bs'=>u0 (.ret (.t [.a (sg s),.sl 7 (l.map O.g),.c (.b (a3v s))])) v∧s5 [] bs'
 have hl1:(O.sy s :: l).length=l.length+1:=rfl
 unfold r78
 obtain ⟨⟨w,hw,hwl⟩,hm⟩:=w
 change t7 [.sl 32 (w.map Et.g),.a (u7 (.sy s :: l)).g] vs at hv
 (refine Zz ?_;intros)
 refine o7 hI ⟨u7 (.sy s :: l),hz⟩ (by show u9.ret (W1 _)=_;rw [W8]) oA .nil fun _ _ _ _=>?_
 (refine Zz ?_;with_reducible repeat' first|intro _|apply aI)
 ·exact absurd ‹(((O.sy s :: l).length:Nat):Int)=0› (by rw [hl1];omega)
 ·refine b42 (gs:=[.s [],.s []]) (fun _=>.cells _ _ (.k (.s _ _ _ rfl rfl) (.k (.s _ _ _ rfl rfl) .nil))) rfl fun _ _=>?_
  (refine Zz ?_;intros)
  refine o7 hM (⟨⟨w,hw,hwl⟩,hm⟩,s) (r:=.t [.a zM,.c (.b false)]) rfl (.k (.sl _ _ _ _ _ (by simp) aS) (.k (O0 (gs:=List.drop 3 (O.sy s).g) aS (by rfl) rfl) .nil)) .nil fun _ _ _ _=>?_
  (refine Zz ?_;with_reducible repeat' first|intro _|apply aI)
  all_goals try exact absurd ‹false=true› dE
  refine d3n hl1 ?_
  (refine Zz ?_;with_reducible repeat' first|intro _|apply aI)
  all_goals try exact absurd ‹false=true› dE
  refine o7 hB s (r:=.c (.b (a3v s))) rfl (.k (O0 (gs:=List.drop 3 (O.sy s).g) aS (by rfl) rfl) .nil) .nil fun _ _ _ _=>?_
  (refine Zz ?_;intros)
  exact p9 ⟨.ret _ _ (.t _ _ (.k (O0 (gs:=List.drop 3 (O.sy s).g) aS (by rfl) rfl) (.k (.sl _ _ _ _ _ (by simp) (u6.drop (xs:=(O.sy s :: l).map O.g) aS 1)) (.k (.b _) .nil)))),.nil⟩
def Z5 (w:List Et):List G:=[.l (w.map Et.g),.l [],.i .i64 0]
def g46:Sp where
 ι:=Wd × Sy
 A p:=[.p 0 0,.a (sg p.2)]
 B p:=[Z5 p.1.1]
 R p:=.ret (Q5 p.1.L p.2)
 B' p:=[Z5 p.1.1]
 inj i j vs bs h k hb kb:=by
  obtain ⟨_,_,h1,k1,h,k⟩:=h.two k
  obtain ⟨_,_,h2,k2,h,k⟩:=h.two k
  have e:=a5o hb kb
  simp only [Z5,List.cons.injEq,G.l.injEq] at e
  rw [Wd.L,Wd.L,Z0 e.1,W3 (h2.a_inj k2),Z5,Z5,e.1];exact ⟨rfl,rfl⟩
theorem g8p:s9 81 g46:=u2 (fun fn h=>d63 h) [(124,_)] (.cons e85 .nil) fun U fn hfn ⟨⟨w,hw,hwl⟩,s⟩ vs bs hv hb=>by
 have hA:=hfn 124 _ rfl
 change t7 [.p 0 0,.a [.s s.1,.s s.2]] vs at hv
 change s5 [[.l (w.map Et.g),.l (([]:List F).map F.g),.i .i64 0]] bs at hb
 show s4 U _ fun v bs'=>u0 (.ret (Q5 (w.map Et.fl) s)) v∧s5 [Z5 w] bs'
 unfold r81
 (refine Zz ?_;intros)
 refine a35 aS (v6 Et.g_len) fun _ _ _=>?_
 (refine Zz ?_;intros)
 refine a35 aS (v6 F.g_len) fun _ _ _=>?_
 (refine Zz ?_;intros)
 refine F9 (fun (_:Unit) vs bs=>∃ (t:s6 Q) (off:Nat),vs=[.ptr 0 0,.ptr 1 0,.slice t 37 off 0 .no,.int .i64 0,.int .i64 0]∧s5 [Z5 w,[.s s.1,.s s.2]] bs) (fun _=>0) () ⟨_,_,rfl,.k (.cells _ _ (.k (.cl _ _ _ _ _ (by simp) aS) (.k (.cl _ _ _ _ _ (by simp) aS) (.k (.i _ _) .nil)))) (rbQ aS rfl)⟩ (by simp only [C9];omega) ?_
 rintro self _ _ _ ⟨t,off,rfl,hb2⟩ _
 unfold Z5 at hb2
 (refine Zz ?_;with_reducible repeat' first|intro _|apply aI)
 ·exact absurd ‹_ < _› (show ¬(0:Int) < 0 by decide)
 ·cases e:K9 (w.map Et.fl) s with
  | none =>
   rw [show Q5 (w.map Et.fl) s=V0 (K9 (w.map Et.fl) s) from rfl,e]
   refine o7 hA (⟨w,hw,hwl⟩,s) (r:=.t [.c (.i .i64 0),.c (.b false)]) (by show u9.ret (V0 (K9 (w.map Et.fl) s))=_;rw [e];rfl) (.k (.slq _ _ _ aS (v6 Et.g_len)) (.k (.a _ _ _ rfl aS) .nil)) .nil fun _ _ _ _=>?_
   (refine Zz ?_;intros)
   exact p9 ⟨.ret _ _ (.t _ _ (.k (.i _ _) (.k (.b _) .nil))),.k (.opa _ _ _ rfl aS) .nil⟩
  | some n =>
   rw [show Q5 (w.map Et.fl) s=V0 (K9 (w.map Et.fl) s) from rfl,e]
   refine o7 hA (⟨w,hw,hwl⟩,s) (r:=.t [.c (.i .i64 n),.c (.b true)]) (by show u9.ret (V0 (K9 (w.map Et.fl) s))=_;rw [e];rfl) (.k (.slq _ _ _ aS (v6 Et.g_len)) (.k (.a _ _ _ rfl aS) .nil)) .nil fun _ _ _ _=>?_
   (refine Zz ?_;intros)
   exact p9 ⟨.ret _ _ (.t _ _ (.k (.i _ _) (.k (.b _) .nil))),.k (.opa _ _ _ rfl aS) .nil⟩
set_option maxHeartbeats 16000000
theorem b5m {s:Sy} (h:s ∈ B6):a3j (.sy s)=false:=by
 show (O.eqb (.sy s) C8 || O.eqb (.sy s) tO)=false
 rw [(d8o h).1,(d8o h).2];rfl
theorem c57 {o:O} (h:ok o) (hs:a0z o=true):a3j o=true:=by
 cases o with
 | sy s =>
  show (O.eqb (.sy s) C8 || O.eqb (.sy s) tO)=true
  rcases f2w h hs with e | e
  ·rw [O.eqb_t.2 e];rfl
  ·rw [O.eqb_t.2 e,Bool.or_true]
 | num=>rfl
 | tx=>rfl
 | co=>cases hs
 | no=>cases hs
theorem g7l {s:Sy} {q:Q} (h:u3 (List.drop 3 (O.sy s).g) q 0):u3 [.s s.1,.s s.2] q 0:=h.take 2
theorem b3n (a:O) (l:List O):a3j (u7 (a :: l))=false:=rfl
def c94:Sp where
 ι:={ p:Wm × T × List (Sy × T) // Gt NM AR p.2.1∧p.2.1.nd≤10000∧p.2.2.length < 90000∧p.1.1.L=PL }
 A p:=[.p 0 0,.a (z6 p.1.2.1).g,.sl 13 (p.1.2.2.map Q3)]
 B p:=[Z5 p.1.1.1.1]
 R p:=.ret (.t [.a (C7 p.1.2.2 p.1.2.1).g,.c (.i .i64 0)])
 B' p:=[Z5 p.1.1.1.1]
 inj i j vs bs h k hb kb:=by
  obtain ⟨⟨w,t,e⟩,ht,_⟩:=i
  obtain ⟨⟨w',t',e'⟩,ht',_⟩:=j
  obtain ⟨_,_,h1,k1,h,k⟩:=h.two k
  obtain ⟨_,_,h2,k2,h,k⟩:=h.two k
  obtain ⟨_,_,h3,k3,h,k⟩:=h.two k
  have e1:=b4k (nm:=NM) (ar:=AR) (fun f hf=>⟨(a4o hf).1,(a4o hf).2.2.2.1⟩) ht ht' (O.g_inj (h2.a_inj k2))
  have e2:=a6l (h3.sl_inj k3)
  have e1:t=t':=e1
  have e2:e=e':=e2
  have e3:=a5o hb kb
  refine ⟨?_,?_⟩
  ·show u9.ret (.t [.a (C7 e t).g,_])=.ret (.t [.a (C7 e' t').g,_]);rw [e1,e2]
  ·show [Z5 w.1.1]=[Z5 w'.1.1];rw [e3]
theorem f6n:s9 47 c94:=J4 (fun p=>p.1.2.1.nd) fun z ih=>u2 (fun fn h=>c40 h) [(47,c94.lt (fun p=>p.1.2.1.nd) z),(71,_),(72,_),(74,_),(73,_),(75,_),(78,_),(81,_),(82,_)] (.cons ih (.cons a9m (.cons e87 (.cons g4j (.cons g4e (.cons b6f (.cons f53 (.cons g8p (.cons g31 .nil))))))))) fun U fn hfn ⟨⟨⟨wm,t,env⟩,ht,hnd,henv,hL⟩,hn⟩ vs bs hv hb=>by
 have hT:=hfn 47 _ rfl
 have hK:=hfn 71 _ rfl
 have hC:=hfn 72 _ rfl
 have hV:=hfn 74 _ rfl
 have hS:=hfn 73 _ rfl
 have hI:=hfn 75 _ rfl
 have hM:=hfn 78 _ rfl
 have hA:=hfn 81 _ rfl
 have hP:=hfn 82 _ rfl
 have hnd:t.nd≤10000:=hnd
 have henv:env.length < 90000:=henv
 have hn:t.nd < z+1:=hn
 have hL:wm.1.L=PL:=hL
 have hsz:(z6 t).size < 90000:=by have:=a3q t;omega
 obtain ⟨⟨w,hw,hwl⟩,hm⟩:=wm
 change t7 [.p 0 0,.a (z6 t).g,.sl 13 (env.map Q3)] vs at hv
 change s5 [[.l (w.map Et.g),.l (([]:List F).map F.g),.i .i64 0]] bs at hb
 show s4 U _ fun v bs'=>u0 (.ret (.t [.a (C7 env t).g,.c (.i .i64 0)])) v∧s5 [Z5 w] bs'
 generalize ho0:z6 t=o at hv hsz
 unfold r47
 (refine Zz ?_;intros)
 refine C4 aS (O.g_len _) fun _ _=>?_
 (refine Zz ?_;intros)
 refine a35 aS (v6 Et.g_len) fun _ _ _=>?_
 (refine Zz ?_;intros)
 refine a35 aS (v6 F.g_len) fun _ _ _=>?_
 (refine Zz ?_;intros)
 refine o7 hK o (r:=.c (.b (a3j o))) rfl oA .nil fun _ _ hk _=>?_
 cases ht with
 | v s hs =>
  rw [z6] at ho0
  subst ho0
  rw [b5m hs] at hk
  (refine Zz ?_;with_reducible repeat' first|intro _|apply aI)
  all_goals try exact absurd ‹false=true› dE
  refine o7 hV s (r:=.a (T.v s).g) rfl (.k (O0 (gs:=List.drop 3 (O.sy s).g) aS (by rfl) rfl) .nil) .nil fun _ _ _ _=>?_
  refine C4 aS (T.g_len _) fun _ _=>?_
  (refine Zz ?_;intros)
  refine o7 hS ⟨(s,env),henv⟩ (r:=.a (C7 env (.v s)).g) rfl (.k (.a _ _ _ (T.g_len _).symm aS) (.k (.sl _ _ _ _ _ (by simp) aS) .nil)) .nil fun _ _ _ _=>?_
  refine C4 aS (T.g_len _) fun _ _=>?_
  (refine Zz ?_;intros)
  exact p9 ⟨.ret _ _ (.t _ _ (.k (.a _ _ _ (T.g_len _).symm aS) (.k (.i _ _) .nil))),.k (.cells _ _ (.k (.cl _ _ _ _ _ (by simp) aS) (.k (.cl _ _ _ _ _ (by simp) aS) (.k (.i _ _) .nil)))) .nil⟩
 | c o' ho =>
  have es:C7 env (.c o')=.c o':=by rw [C7]
  rw [es]
  cases hso:a0z o' with
  | true =>
   rw [z6,hso] at ho0
   have ho0:o'=o:=ho0
   subst ho0
   rw [c57 ho.1 hso] at hk
   (refine Zz ?_;with_reducible repeat' first|intro _|apply aI)
   all_goals try exact absurd rfl ‹¬true=true›
   refine o7 hC o' (r:=.a (T.c o').g) rfl oA .nil fun _ _ _ _=>?_
   refine C4 aS (T.g_len _) fun _ _=>?_
   (refine Zz ?_;intros)
   exact p9 ⟨.ret _ _ (.t _ _ (.k (.a _ _ _ (T.g_len _).symm aS) (.k (.i _ _) .nil))),.k (.cells _ _ (.k (.cl _ _ _ _ _ (by simp) aS) (.k (.cl _ _ _ _ _ (by simp) aS) (.k (.i _ _) .nil)))) .nil⟩
  | false =>
   rw [z6,hso] at ho0
   have ho0:u7 [.sy (s8,o8 5 435745158513),o']=o:=ho0
   subst ho0
   rw [b3n] at hk
   (refine Zz ?_;with_reducible repeat' first|intro _|apply aI)
   all_goals try exact absurd ‹false=true› dE
   refine o7 hI ⟨_,hsz⟩ (by show u9.ret (W1 (u7 _))=_;rw [W8]) oA .nil fun _ _ _ _=>?_
   (refine Zz ?_;with_reducible repeat' first|intro _|apply aI)
   ·exact absurd ‹(([_,o'].length:Nat):Int)=0› (by simp)
   ·refine b42 (gs:=[.l (w.map Et.g),.l (([]:List F).map F.g),.i .i64 0]) (fun _=>.cells _ _ (.k (.cl _ _ _ _ _ (by simp) aS) (.k (.cl _ _ _ _ _ (by simp) aS) (.k (.i _ _) .nil)))) rfl fun _ _=>?_
    (refine Zz ?_;intros)
    have hr1:=u6.drop (n:=6+1) (xs:=([.sy (s8,o8 5 435745158513),o']:List O).map O.g) aS 1
    change u6 (6+1) (([o']:List O).map O.g) _ _ at hr1
    refine d3n (m:=([o']:List O).length) rfl ?_
    (refine Zz ?_;with_reducible repeat' first|intro _|apply aI)
    all_goals try exact absurd rfl ‹¬((([o']:List O).length:Nat):Int)=1›
    refine o7 hC o' (r:=.a (T.c o').g) rfl oA .nil fun _ _ _ _=>?_
    refine C4 aS (T.g_len _) fun _ _=>?_
    (refine Zz ?_;intros)
    exact p9 ⟨.ret _ _ (.t _ _ (.k (.a _ _ _ (T.g_len _).symm aS) (.k (.i _ _) .nil))),.k (.opa _ _ _ rfl aS) .nil⟩
 | call f xs hf hxl hx =>
  obtain ⟨hf1,hf2,hf3,hf4,hf5⟩:=a4o hf
  simp only [b47,List.mem_cons,List.not_mem_nil,or_false,not_or] at hf4
  rw [z6,b1b] at ho0
  have ho0:u7 (.sy f :: xs.map z6)=o:=ho0
  subst ho0
  rw [b3n] at hk
  rw [C7,a98]
  have hl1:(O.sy f :: xs.map z6).length=xs.length+1:=by simp
  have hnds:1+T.nds xs < z+1:=by have:(T.call f xs).nd=1+T.nds xs:=by rw [T.nd]
                                 rw [← this];exact hn
  have hnd2:1+T.nds xs≤10000:=by have:(T.call f xs).nd=1+T.nds xs:=by rw [T.nd]
                                 rw [← this];exact hnd
  have hxn:=a8e xs
  (refine Zz ?_;with_reducible repeat' first|intro _|apply aI)
  all_goals try exact absurd ‹false=true› dE
  refine o7 hI ⟨_,hsz⟩ (by show u9.ret (W1 (u7 _))=_;rw [W8]) oA .nil fun _ _ _ _=>?_
  (refine Zz ?_;with_reducible repeat' first|intro _|apply aI)
  ·exact absurd ‹(((O.sy f :: xs.map z6).length:Nat):Int)=0› (by rw [hl1];omega)
  ·refine b42 (gs:=[.l (w.map Et.g),.l (([]:List F).map F.g),.i .i64 0]) (fun _=>.cells _ _ (.k (.cl _ _ _ _ _ (by simp) aS) (.k (.cl _ _ _ _ _ (by simp) aS) (.k (.i _ _) .nil)))) rfl fun _ _=>?_
   (refine Zz ?_;intros)
   have hr1:=u6.drop (n:=6+1) (xs:=(O.sy f :: xs.map z6).map O.g) aS 1
   change u6 (6+1) ((xs.map z6).map O.g) _ _ at hr1
   refine d3n (m:=(xs.map z6).length) rfl ?_
   (refine Zz ?_;with_reducible repeat' first|intro _|apply aI)
   all_goals try exact absurd ‹f.2=o8 5 435745158513› hf4.1
   all_goals try exact absurd ‹f.2=o8 3 7628140› hf4.2.1
   all_goals try exact absurd ‹f.2=o8 4 712271212› hf4.2.2
   all_goals try exact absurd (hf1.trans a9p.symm) ‹¬f.1=o8 4 1886611820›
   refine o7 hM ⟨(⟨⟨w,hw,hwl⟩,hm⟩,f,xs.map z6),hsz⟩ (r:=.t [.a (sg f),.sl 7 ((xs.map z6).map O.g),.c (.b false)]) (by show u9.ret (.t [_,_,.c (.b (a3v f))])=_;rw [hf3]) (.k (.slq _ _ _ aS (v6 Et.g_len)) oA) .nil fun _ _ _ _=>?_
   (refine Zz ?_;with_reducible repeat' first|intro _|apply aI)
   all_goals try exact absurd ‹false=true› dE
   refine F9 (fun (i:Nat) vs bs=>∃ (t1:s6 Q) (o1:Nat) (t2:s6 Q) (o2:Nat) (q q2:Q) (v:V) (acc:List T),vs=[.ptr 0 0,.slice t1 13 o1 env.length .no,.ptr 1 0,.ptr 2 0,.slice t2 7 o2 (xs.map z6).length .no,.int .i64 ((xs.map z6).length:Nat),.int .i64 (i:Nat),v]∧bs=[.opa q 3,.cells [.int .i64 0,.str 0 0,.str 0 0,.int .i64 0,.str 0 0,.str 0 0,.str 0 0,.str 0 0,.str 0 0,.slice .nil 0 0 0 .exact,.slice .nil 0 0 0 .exact],.opa q2 2,.tok acc.length 11]∧u6 13 (env.map Q3) t1 o1∧u6 7 ((xs.map z6).map O.g) t2 o2∧u3 [.l (w.map Et.g),.l (([]:List F).map F.g),.i .i64 0] q 0∧u3 [.s f.1,.s f.2] q2 0∧R7 3 11 (acc.map T.g) v∧acc=(xs.take i).map (C7 env)∧acc.length=i∧i≤xs.length) (fun i=>xs.length - i) 0
    ⟨_,_,_,_,_,_,_,[],rfl,rfl,aS,hr1,aS,g7l aS,.b rfl,by simp,rfl,oM⟩ (by simp only [C9];omega) ?_
   rintro self i _ _ ⟨t1,o1,t2,o2,q,q2,v,acc,rfl,rfl,ht1,ht2,hq,hq2,htk,hacc,hlen,hi⟩ ih2
   have hml:(xs.map z6).length=xs.length:=by simp
   (refine Zz ?_;with_reducible repeat' first|intro _|apply aI)
   ·have hil:i < xs.length:=oM
    have eg:(xs.map z6)[i]=z6 xs[i]:=by simp
    have hxi:=a8f (List.getElem_mem hil)
    refine o7 hT ⟨⟨(⟨⟨w,hw,hwl⟩,hm⟩,xs[i],env),hx _ (List.getElem_mem hil),(by show xs[i].nd≤10000;omega),henv,hL⟩,(by show xs[i].nd < z;omega)⟩ (r:=.t [.a (C7 env xs[i]).g,.c (.i .i64 0)]) rfl (.k (.p _ _) (.k (.a _ _ _ (O.g_len _).symm (by rw [← eg];assumption)) (.k (.sl _ _ _ _ _ (by simp) ht1) .nil))) (.k (.opa _ _ _ rfl hq) .nil) fun _ _ _ hb2=>?_
    change s5 [[.l (w.map Et.g),.l (([]:List F).map F.g),.i .i64 0]] _ at hb2
    (refine Zz ?_;intros)
    refine C4 aS (T.g_len _) fun _ _=>?_
    (refine Zz ?_;intros)
    refine N8 aS (r:=(C7 env xs[i]).g) (fun _=>Q9 (by rw [T.g_len];decide) aS) (T.g_len _) (by simp) (by simp only [List.length_map];omega) fun _ _=>?_
    (refine Zz ?_;intros)
    exact ih2 (i+1) _ _ ⟨_,_,_,_,_,_,_,acc ++ [C7 env xs[i]],rfl,(by rw [List.length_append];rfl),ht1,ht2,aS,hq2,.a _ _ (by simp) (by rw [List.map_append];assumption),(by rw [hacc,List.take_succ_eq_append_getElem hil,List.map_append];rfl),by simp [hlen],oM⟩ oM
   ·have ei:i=xs.length:=oM
    have hacc2:acc=xs.map (C7 env):=by rw [hacc,ei,List.take_length]
    have hLw:w.map Et.fl=PL:=hL
    refine o7 hA (⟨w,hw,hwl⟩,f) (r:=.t [.c (.i .i64 (AR f:Nat)),.c (.b true)]) (by show u9.ret (V0 (K9 (w.map Et.fl) f))=_;rw [hLw,hf5];rfl) (.k (.p _ _) (.k (.a _ _ _ rfl aS) .nil)) (.k (.opa _ _ _ rfl hq) .nil) fun _ _ _ hb2=>?_
    change s5 [[.l (w.map Et.g),.l (([]:List F).map F.g),.i .i64 0]] _ at hb2
    (refine Zz ?_;with_reducible repeat' first|intro _|apply aI)
    ·refine o7 hP (f,acc) (r:=.a (T.call f acc).g) rfl (.k (.a _ _ _ rfl aS) (.k (.sl _ _ _ _ _ (by simp) aS) .nil)) .nil fun _ _ _ _=>?_
     refine C4 aS (T.g_len _) fun _ _=>?_
     (refine Zz ?_;intros)
     rw [← hacc2]
     exact p9 ⟨.ret _ _ (.t _ _ (.k (.a _ _ _ (T.g_len _).symm aS) (.k (.i _ _) .nil))),.k (.opa _ _ _ rfl aS) .nil⟩
    ·exact absurd (by rw [hlen,ei,hxl]) ‹¬((AR f:Nat):Int)=(acc.length:Nat)›
end
end Go.Proofs.YtkojildpddaccaaGreatDoor
