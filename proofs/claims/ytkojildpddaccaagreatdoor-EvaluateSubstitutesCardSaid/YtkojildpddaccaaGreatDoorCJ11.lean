/- Packages and the reading of objects from tokens: what they compute. No program in sight. -/
import Derived.Test.YtkojildpddaccaaGreatDoorCJ10
import Derived.Test.YtkojildpddaccaaGreatDoorCJ7
set_option linter.all false
namespace Go.Proofs.YtkojildpddaccaaGreatDoor
open Go.Abs LQ
def t0:Tok:=⟨0,0,[],[],[]⟩
end Go.Proofs.YtkojildpddaccaaGreatDoor
namespace Go.Proofs.YtkojildpddaccaaGreatDoor
open Go.Abs LQ
noncomputable section
open Classical
open Classical
def eT (w:u5):Tok:=⟨0,w.length,[],[],[]⟩
open Classical
set_option maxRecDepth 100000
set_option maxHeartbeats 4000000
theorem c4o:v8 160 (sp0 (.a F6.g)):=A8 (fun fn h=>e9j h) [(177,_)] (.cons b0x .nil) fun U fn hfn _ vs bs hv hb=>by
 have hv:z7 [] vs:=hv;have hb:u0 [] bs:=hb;show t6 U _ fun v bs'=>A3 (.ret (.a F6.g)) v∧u0 [] bs';unfold f6w;refine Zq ?_;intros;refine s6 (hfn 177 _ rfl) (s5 4 1886611820,s5 3 7104878) (r:=.a F6.g) rfl (.k (.ag _ _ z6) .nil) .nil fun _ _ _ _=>?_;refine oR fun _ _=>?_;refine Zq ?_;intros;exact s9 ⟨.ret _ _ (.a _ _ _ rfl aS),.nil⟩
theorem d7c:v8 157 (c4y fun s=>.a (O.tx s).g):=A8 (fun fn h=>e9g h) [] .nil fun U fn hfn s vs bs hv hb=>by
 have hv:z7 [.c (.s s)] vs:=hv;have hb:u0 [] bs:=hb;show t6 U _ fun v bs'=>A3 (.ret (.a (O.tx s).g)) v∧u0 [] bs';unfold f6t;refine Zq ?_;intros;exact s9 ⟨.ret _ _ (.ag _ _ z6),.nil⟩
theorem f4p:v8 154 (g02 fun a d=>.a (O.co a d).g):=A8 (fun fn h=>e9d h) [] .nil fun U fn hfn ⟨a,d⟩ vs bs hv hb=>by
 have hv:z7 [.a a.g,.a d.g] vs:=hv;have hb:u0 [] bs:=hb;show t6 U _ fun v bs'=>A3 (.ret (.a (O.co a d).g)) v∧u0 [] bs';unfold f6q;refine Z4 hv fun v l hv1 hv2=>?_;refine H3 hv1 a.g_len fun qa ha=>?_;refine Z4 hv2 fun v l hv3 hv4=>?_;refine H3 hv3 d.g_len fun qd hd=>?_;refine b1g hv4 (a4q hb ?_);refine a2u ha fun xa ha=>?_;refine a2u hd fun xd hd=>?_;refine s9 ⟨.ret _ _ (.ag _ _ ?_),.nil⟩;refine .k (.i _ _) (.k (.s _ _ _ rfl rfl) (.k (.s _ _ _ rfl rfl) (.k (.s _ _ _ rfl rfl) (.k (.s _ _ _ rfl rfl) (.k (.s _ _ _ rfl rfl) (.k (.cl _ _ _ _ _ rfl ?_) .nil))))));have r1:=a06 (by rw [O.g_len];decide) ha;have r2:=a06 (by rw [O.g_len];decide) hd;exact .cons _ _ _ _ _ a.g_len r1.1 r1.2 (.cons _ _ _ _ _ d.g_len r2.1 r2.2 (.nil _ _ _))
theorem a5j (hst:v8 257 b1m):v8 218 (c1u fun a b=>.ret (.a (K2 (qn (s3 a) (s3 b))).g)):=A8 (fun fn h=>f0b h) [(258,_)] (.cons (c62 hst) .nil) fun U fn hfn ⟨(a,b),ha,hbl⟩ vs bs hv hb=>by
 have hv:z7 [.c (.s a),.c (.s b)] vs:=hv;have hb:u0 [] bs:=hb;show t6 U _ fun v bs'=>A3 (.ret (.a (K2 (qn (s3 a) (s3 b))).g)) v∧u0 [] bs';unfold f7r;refine Zq ?_;intros;refine s6 (hfn 258 _ rfl) ⟨(a,b),ha,hbl⟩ (r:=.t [.c (.s (s4 (qn (s3 a) (s3 b)).1)),.c (.s (s8 (qn (s3 a) (s3 b)).2))]) (by show z8.ret (.t [.c (.s (D6 a b).1),.c (.s (D6 a b).2)])=_;rw [O9]) z6 .nil fun _ _ _ _=>?_;refine Zq ?_;intros;exact s9 ⟨.ret _ _ (.ag _ _ z6),.nil⟩
theorem d01:v8 103 (spO fun a=>.c (.b (O.eqb a F6))):=A8 (fun fn h=>d1r h) [] .nil fun U fn hfn (a:O) vs bs hv hb=>by
 have hv:z7 [.a a.g] vs:=hv;have hb:u0 [] bs:=hb;show t6 U _ fun v bs'=>A3 (.ret (.c (.b (O.eqb a F6)))) v∧u0 [] bs';unfold e3d;rw [a.g_eq] at hv;have hsy:a.k=2→a=.sy a.sym:=by
  intro h;cases a with
  | sy s=>rfl
  | num=>exact absurd h (by show ¬(1:Int)=2;decide)
  | tx=>exact absurd h (by show ¬(3:Int)=2;decide)
  | co=>exact absurd h (by show ¬(4:Int)=2;decide)
  | no=>exact absurd h (by show ¬(0:Int)=2;decide)
 (refine Zq ?_;with_reducible repeat' first|intro _|apply aI)
 ·have e:=hsy ‹_›;refine fun e2=>?_;subst e2;refine ⟨_,_,rfl,.ret _ _ (rvB ?_),.nil⟩;rw [Bool.eq_iff_iff,O.eqb_t,c4c,c4c,b2m,b2m];simp only [Bool.and_true,Bool.and_eq_true,decide_eq_true_iff];rw [e];constructor
  ·intro h;injection h with h;rw [h];exact ⟨rfl,rfl⟩
  ·rintro ⟨h1,h2⟩;exact congrArg O.sy (Prod.ext h1 h2)
 ·exact s9 ⟨.ret _ _ (T6 (O.eqb_f.2 fun e=>by subst e;exact absurd rfl ‹¬_›)),.nil⟩
set_option maxHeartbeats 8000000
theorem f99 {g g':List G} [NX g] {bs:List Bx} (h:u0 [g] bs) (k:u0 [g'] bs):g=g':=by
 cases h with
 | cons _ _ b bs h1 _=>cases k with | cons _ _ _ _ k1 _=>exact h1.inj k1
theorem rbQ {g:List G} {q:Q} {m:Nat} (h:A7 g q 0) (hm:m=g.length):u0 [g] [.opa q m]:=.k (.opa _ _ _ hm h) .nil
theorem b5r:v8 214 (g0z fun l=>.sl 37 (l.map F.g)):=A8 (fun fn h=>e97 h) [] .nil fun U fn hfn (e:Et) vs bs hv hb=>by
 change z7 [.a e.g] vs at hv;change u0 [] bs at hb;show t6 U _ fun v bs'=>A3 (.ret (.sl 37 (e.fl.map F.g))) v∧u0 [] bs';unfold f7n;unfold Et.g at hv;(refine Zz ?_;with_reducible repeat' first|intro _|apply aI)
 ·have e1:e.fl=e.fns:=if_pos (by simp [Et.has, *]);rw [e1];exact s9 ⟨.ret _ _ (.slq _ _ _ aS (B7 F.g_len)),.nil⟩
 ·have e1:e.fl=e.fns:=if_pos (by simp [Et.has, *]);rw [e1];exact s9 ⟨.ret _ _ (.slq _ _ _ aS (B7 F.g_len)),.nil⟩
 ·have e1:e.fl=e.fns:=if_pos (by simp [Et.has, *]);rw [e1];exact s9 ⟨.ret _ _ (.slq _ _ _ aS (B7 F.g_len)),.nil⟩
 ·have e1:e.fl=e.fns:=if_pos (by simp [Et.has, *]);rw [e1];exact s9 ⟨.ret _ _ (.slq _ _ _ aS (B7 F.g_len)),.nil⟩
 ·have e1:e.fl=[]:=if_neg (by simp [Et.has, *]);rw [e1];exact s9 ⟨.ret _ _ (.sl0 _ _ _),.nil⟩
def h0j:Sp where
 ι:=F × Sy
 A p:=[.a p.1.g,.p 0 0]
 B p:=[sg p.2]
 R p:=.ret (.c (.b (decide (p.1.nm=p.2))))
 B' p:=[sg p.2]
 inj i j vs bs h k hb kb:=by
  obtain ⟨_,_,h1,k1,h,k⟩:=h.two k;rw [F.g_inj (h1.a_inj k1),a1f (f99 hb kb)];exact ⟨rfl,rfl⟩
theorem e2e:v8 252 h0j:=A8 (fun fn h=>f0v h) [] .nil fun U fn hfn ⟨f,s⟩ vs bs hv hb=>by
 change z7 [.a f.g,.p 0 0] vs at hv;change u0 [[.s s.1,.s s.2]] bs at hb;show t6 U _ fun v bs'=>A3 (.ret (.c (.b (decide (f.nm=s))))) v∧u0 [sg s] bs';unfold f8d;refine Z4 hv fun _ _ h1 h2=>?_;refine H3 h1 (F.g_len _) fun _ hc=>?_;unfold F.g at hc;refine Zz ?_;intros;refine P0 fun e=>?_;subst e;refine ⟨.ret _ _ (rvB ?_),rbQ aS rfl⟩;rw [c4c,c4c,f2y,f2y,Bool.and_true,← Bool.decide_and];exact decide_eq_decide.2 ⟨fun e=>⟨congrArg Prod.fst e,congrArg Prod.snd e⟩,fun e=>Prod.ext e.1 e.2⟩
def d27:V:=.func (.func 252) [] [.ptr 0 0]
def okN (o:Option Nat):GV:=match o with
 | some k=>.t [.c (.i .i64 k),.c (.b true)]
 | none=>.t [.c (.i .i64 0),.c (.b false)]
def g5n:Sp where
 ι:={ p:List F × Sy // p.1.length < 90000 }
 A p:=[.sl 37 (p.1.1.map F.g),.raw d27]
 B p:=[sg p.1.2]
 R p:=.ret (okN (plF p.1.1 p.1.2))
 B' p:=[sg p.1.2]
 inj i j vs bs h k hb kb:=by
  obtain ⟨_,_,h1,k1,h,k⟩:=h.two k;rw [b6w (h1.sl_inj k1),a1f (f99 hb kb)];exact ⟨rfl,rfl⟩
theorem e7s:v8 251 g5n:=A8 (fun fn h=>f0u h) [(252,_)] (.cons e2e .nil) fun U fn hfn ⟨(l,s),hl⟩ vs bs hv hb=>by
 change z7 [.sl 37 (l.map F.g),.raw d27] vs at hv;change u0 [[.s s.1,.s s.2]] bs at hb;have hl:l.length < 90000:=hl;show t6 U _ fun v bs'=>A3 (.ret (okN (plF l s))) v∧u0 [sg s] bs';unfold f8c;refine Zz ?_;intros;refine e3z aS ?_;refine Zz ?_;intros;refine I7 (fun (i:Nat) vs bs=>∃ (t:u1 Q) (off:Nat) (q:Q),vs=[d27,.slice t 37 off l.length .no,.int .i64 (l.length:Nat),.int .i64 (i:Nat)]∧bs=[.opa q 2]∧A7 [.s s.1,.s s.2] q 0∧A5 37 (l.map F.g) t off∧i≤l.length∧plF l s=(plF (l.drop i) s).map (·+i)) (fun i=>l.length - i) 0
  ⟨_,_,_,rfl,rfl,aS,aS,oM,by simp⟩ (by simp only [E3];omega) ?_
 rintro self i _ _ ⟨t,off,q,rfl,rfl,hq,ht,hi,he⟩ ih;unfold d27;refine Zz ?_;intros;refine g0g ?_;(refine Zz ?_;with_reducible repeat' first|intro _|apply aI)
 ·have hil:i < l.length:=oM;rw [List.drop_eq_getElem_cons hil,plF] at he;refine s6 (hfn 252 _ rfl) (l[i],s) (r:=.c (.b (decide (l[i].nm=s)))) rfl (.k (.a _ _ _ (F.g_len _).symm aS) (.k (.p _ _) .nil)) (rbQ hq rfl) fun _ _ _ hb2=>?_;change u0 [[.s s.1,.s s.2]] _ at hb2;(refine Zz ?_;with_reducible repeat' first|intro _|apply aI)
  ·rw [if_pos (of_decide_eq_true ‹_›)] at he;have he:plF l s=some i:=by rw [he];simp
   rw [he];exact s9 ⟨.ret _ _ (.t _ _ (.k (.i _ _) (.k (.kn _) .nil))),rbQ aS rfl⟩
  ·rw [if_neg (fun h=>‹¬_› (decide_eq_true h)),Option.map_map] at he;exact ih (i+1) _ _ ⟨_,_,_,rfl,rfl,aS,ht,oM,by rw [he];exact congrArg (fun f=>Option.map f _) (funext fun x=>by simp only [Function.comp];omega)⟩ oM
 ·have ei:i=l.length:=oM;rw [ei,List.drop_length] at he;have he:plF l s=none:=by rw [he];rfl
  rw [he];exact s9 ⟨.ret _ _ (.t _ _ (.k (.i _ _) (.k (.kn _) .nil))),rbQ hq rfl⟩
theorem e7u:v8 213 (c8s fun L s=>okP (X8 L s)):=A8 (fun fn h=>e96 h) [(214,_),(251,_)] (.cons b5r (.cons e7s .nil)) fun U fn hfn ⟨⟨w,hw,hwl⟩,s⟩ vs bs hv hb=>by
 have hF:=hfn 251 _ rfl;change z7 [.sl 32 (w.map Et.g),.a [.s s.1,.s s.2]] vs at hv;change u0 [] bs at hb;show t6 U _ fun v bs'=>A3 (.ret (okP (X8 (w.map Et.fl) s))) v∧u0 [] bs';unfold f7m;refine Zz ?_;intros;refine I7 (fun (i:Nat) vs bs=>∃ (t:u1 Q) (off:Nat) (q:Q),vs=[.ptr 0 0,.slice t 32 off w.length .no,.int .i64 (w.length:Nat),.int .i64 (i:Nat)]∧bs=[.opa q 2]∧A7 [.s s.1,.s s.2] q 0∧A5 32 (w.map Et.g) t off∧i≤w.length∧X8 (w.map Et.fl) s=(X8 ((w.drop i).map Et.fl) s).map fun p=>(p.1+i,p.2)) (fun i=>w.length - i) 0
  ⟨_,_,_,rfl,rfl,aS,aS,oM,by simp⟩ (by simp only [E3];omega) ?_
 rintro self i _ _ ⟨t,off,q,rfl,rfl,hq,ht,hi,he⟩ ih;(refine Zz ?_;with_reducible repeat' first|intro _|apply aI)
 ·have hiw:i < w.length:=oM;refine s6 (hfn 214 _ rfl) w[i] (r:=.sl 37 (w[i].fl.map F.g)) rfl (.k (.a _ _ _ (Et.g_len _).symm aS) .nil) .nil fun _ _ _ _=>?_;have hl:w[i].fl.length < 90000:=hwl _ (List.getElem_mem _);have hd:=List.drop_eq_getElem_cons hiw;rw [hd,List.map_cons,X8] at he;generalize w[i]=e at *;(refine Zz ?_;with_reducible repeat' first|intro _|apply aI);cases hk:plF e.fl s with
  | some k =>
   rw [hk] at he;refine s6 hF ⟨(e.fl,s),hl⟩ (r:=.t [.c (.i .i64 k),.c (.b true)]) (by show z8.ret (okN (plF e.fl s))=_;rw [hk];rfl) (.k (.sl _ _ _ _ _ (by simp) aS) (.k (.raw _) .nil)) (rbQ hq rfl) fun _ _ _ hb2=>?_;change u0 [[.s s.1,.s s.2]] _ at hb2;refine Zz ?_;intros;have he:X8 (w.map Et.fl) s=some (i,k):=by rw [he];simp
   rw [he];exact s9 ⟨.ret _ _ (.t _ _ (.k (.i _ _) (.k (.i _ _) (.k (.kn _) .nil)))),.nil⟩
  | none =>
   rw [hk] at he;refine s6 hF ⟨(e.fl,s),hl⟩ (r:=.t [.c (.i .i64 0),.c (.b false)]) (by show z8.ret (okN (plF e.fl s))=_;rw [hk];rfl) (.k (.sl _ _ _ _ _ (by simp) aS) (.k (.raw _) .nil)) (rbQ hq rfl) fun _ _ _ hb2=>?_;change u0 [[.s s.1,.s s.2]] _ at hb2;refine Zz ?_;intros;refine ih (i+1) _ _ ⟨_,_,_,rfl,rfl,aS,ht,oM,?_⟩ oM;rw [he];simp only [Option.map_map];congr;funext x;simp;omega
 ·have ei:i=w.length:=oM;rw [ei,List.drop_length] at he;have he2:X8 (w.map Et.fl) s=none:=by rw [he];rfl
  rw [he2];exact s9 ⟨.ret _ _ (.t _ _ (.k (.i _ _) (.k (.i _ _) (.k (.kn _) .nil)))),.nil⟩
theorem kTP:v8 111 (sp0 (.a tO.g)):=A8 (fun fn h=>e8y h) [(177,_)] (.cons b0x .nil) fun U fn hfn _ vs bs hv hb=>by
 change z7 [] vs at hv;change u0 [] bs at hb;show t6 U _ fun v bs'=>A3 (.ret (.a tO.g)) v∧u0 [] bs';unfold f53;refine Zz ?_;intros;refine s6 (hfn 177 _ rfl) (s5 4 1886611820,s5 1 116) (r:=.a tO.g) rfl (.k (.ag _ _ z6) .nil) .nil fun _ _ _ _=>?_;refine oR fun _ _=>?_;refine Zz ?_;intros;exact s9 ⟨.ret _ _ (.a _ _ _ rfl aS),.nil⟩
theorem e5w {x:O} (h:¬((x.ps.length:Nat):Int)=0):∃ a d,x=.co a d:=by
 cases x with
 | co a d=>exact ⟨a,d,rfl⟩
 | _=>exact absurd rfl h
def e6a:Sp where
 ι:={ p:O × O // p.1.size < 90000 }
 A p:=[.a p.1.1.g,.a p.1.2.g]
 B _:=[]
 R p:=.ret (.c (.b (O.eqb p.1.1 p.1.2)))
 B' _:=[]
 inj i j vs bs h k _ _:=by obtain ⟨e1,e2⟩:=b7v h k;rw [e1,e2];exact ⟨rfl,rfl⟩
theorem g9j:v8 110 e6a:=Y2 (fun p=>p.1.1.size) fun n ih=>A8 (fun fn h=>e8x h) [(110,e6a.lt _ n)] (.cons ih .nil) fun U fn hfn ⟨⟨(a,b),hsz0⟩,hn⟩ vs bs hv hb=>by
 have hsz0:a.size < 90000:=hsz0;have hn:a.size < n+1:=hn;change z7 [.a a.g,.a b.g] vs at hv;change u0 [] bs at hb;show t6 U _ fun v bs'=>A3 (.ret (.c (.b (O.eqb a b)))) v∧u0 [] bs';unfold f52;refine Z4 hv fun _ _ hv1 hv2=>?_;refine H3 hv1 (O.g_len _) fun _ ha=>?_;refine Z4 hv2 fun _ _ hv3 hv4=>?_;refine H3 hv3 (O.g_len _) fun _ hb0=>?_;refine Zz ?_;intros;refine I7 (fun (x:O) vs bs=>∃ (y:O) (q1 q2:Q),vs=[.ptr 0 0,.ptr 1 0]∧bs=[.opa q1 7,.opa q2 7]∧A7 x.g q1 0∧A7 y.g q2 0∧O.eqb x y=O.eqb a b∧x.size≤a.size) (fun x=>x.size) a ⟨b,_,_,rfl,rfl,ha,hb0,rfl,Nat.le_refl _⟩ (show a.size < E3 by simp only [E3];omega) ?_;rintro self x _ _ ⟨y,q1,q2,rfl,rfl,h1,h2,he,hsz⟩ ih2;rw [← he];by_cases hco:∃ p d p' d',x=.co p d∧y=.co p' d'
 ·obtain ⟨p,d,p',d',rfl,rfl⟩:=hco;have hs:(O.co p d).size=1+p.size+d.size:=rfl;rw [hs] at hsz;have h1:A7 [.i .i64 4,.s [],.s [],.s [],.s [],.s [],.l ([p,d].map O.g)] q1 0:=h1;have h2:A7 [.i .i64 4,.s [],.s [],.s [],.s [],.s [],.l ([p',d'].map O.g)] q2 0:=h2;have hl1:([p,d]:List O).length=2:=rfl;have hl2:([p',d']:List O).length=2:=rfl;(refine Zz ?_;with_reducible repeat' first|intro _|apply aI)
  ·exact absurd ‹(([p,d].length:Nat):Int)=0› (by simp)
  ·refine I7 (fun (i:Nat) vs bs=>∃ (q1 q2:Q),vs=[.ptr 0 0,.ptr 1 0,.int .i64 2,.int .i64 1,.int .i64 (i:Nat)]∧bs=[.opa q1 7,.opa q2 7]∧A7 [.i .i64 4,.s [],.s [],.s [],.s [],.s [],.l ([p,d].map O.g)] q1 0∧A7 [.i .i64 4,.s [],.s [],.s [],.s [],.s [],.l ([p',d'].map O.g)] q2 0∧(i=0∨i=1∧p=p')) (fun i=>1 - i) 0 ⟨_,_,rfl,rfl,h1,h2,.inl rfl⟩ (by simp only [E3];omega) ?_;rintro self2 i _ _ ⟨q1,q2,rfl,rfl,h1,h2,hi⟩ ih3;rcases hi with rfl | ⟨rfl,rfl⟩
   ·(refine Zz ?_;with_reducible repeat' first|intro _|apply aI)
    ·have hp:p.size < n:=oM;refine s6 (hfn 110 _ rfl) ⟨⟨(p,p'),by show p.size < 90000;omega⟩,hp⟩ (r:=.c (.b (O.eqb p p'))) rfl (.k (.a _ _ _ (O.g_len _).symm (show A7 p.g _ 0 by assumption)) (.k (.a _ _ _ (O.g_len _).symm (show A7 p'.g _ 0 by assumption)) .nil)) .nil fun _ _ _ _=>?_;(refine Zz ?_;with_reducible repeat' first|intro _|apply aI)
     all_goals first
      | exact s9 ⟨.ret _ _ (T6 (O.eqb_f.2 fun e=>‹¬O.eqb p p'=true› (O.eqb_t.2 (by injection e)))),.nil⟩
      | (refine ih3 1 _ _ ⟨_,_,rfl,rfl,h1,h2,.inr ⟨rfl,O.eqb_t.1 ‹_›⟩⟩ oM)
    ·exact absurd (show (0:Int) < 1 by decide) ‹_›
   ·(refine Zz ?_;with_reducible repeat' first|intro _|apply aI)
    ·exact absurd ‹_ < _› (show ¬(1:Int) < 1 by decide)
    ·rw [he];refine ih2 d _ _ ⟨d',_,_,rfl,rfl,show A7 d.g _ 0 by assumption,show A7 d'.g _ 0 by assumption,?_,oM⟩ (by rw [hs];omega);rw [← he];by_cases e:d=d'
     ·rw [O.eqb_t.2 e,O.eqb_t.2 (by rw [e])]
     ·rw [O.eqb_f.2 e,O.eqb_f.2 (fun h=>e (by injection h))]
  ·exact absurd rfl ‹¬(([p,d].length:Nat):Int)=(([p',d'].length:Nat):Int)›
 ·have hne:¬((x.ps.length:Nat):Int)=0→¬((x.ps.length:Nat):Int)=y.ps.length:=fun h e=>by
   obtain ⟨p,d,rfl⟩:=e5w h;obtain ⟨p',d',rfl⟩:=e5w (x:=y) (by rw [← e];exact h);exact hco ⟨p,d,p',d',rfl,rfl⟩
  rw [x.g_eq] at h1;rw [y.g_eq] at h2;(refine Zz ?_;with_reducible repeat' first|intro _|apply aI)
  all_goals first
   | exact s9 ⟨.ret _ _ (T6 (O.eqb_f.2 fun e=>by subst e;first | exact absurd rfl ‹¬_› | exact absurd (⟨rfl,rfl,trivial⟩:x.sym.1=x.sym.1∧x.sym.2=x.sym.2∧True) ‹¬_›)),.nil⟩
   | skip
  ·have h:=‹((x.ps.length:Nat):Int)=0›;have e5:x.ps=[]:=List.length_eq_zero_iff.1 oM;have e6:y.ps=[]:=List.length_eq_zero_iff.1 (by have:=‹((x.ps.length:Nat):Int)=((y.ps.length:Nat):Int)›;omega);have e4:=‹x.sym.1=y.sym.1∧_›;have e:x=y:=O.ext ‹_› ‹_› ‹_› (Prod.ext e4.1 e4.2.1) ‹_› (e5.trans e6.symm);exact s9 ⟨.ret _ _ (T6 (O.eqb_t.2 e)),.nil⟩
  ·exact absurd ‹((x.ps.length:Nat):Int)=((y.ps.length:Nat):Int)› (hne ‹¬((x.ps.length:Nat):Int)=0›)
def X7 (p:Sy × T):List G:=.s p.1.1 :: .s p.1.2 :: p.2.g
theorem d0g (p:Sy × T):(X7 p).length=13:=by simp [X7,T.g_len]
theorem e6w {a b:Sy × T} (h:X7 a=X7 b):a=b:=by
 simp only [X7,List.cons.injEq,G.s.injEq] at h;exact Prod.ext (Prod.ext h.1 h.2.1) (T.g_inj h.2.2)
theorem a7v:∀ {l m:List (Sy × T)},l.map X7=m.map X7→l=m
 | [],[],_=>rfl
 | [],_ :: _,h=>by simp at h
 | _ :: _,[],h=>by simp at h
 | a :: l,b :: m,h=>by simp only [List.map_cons,List.cons.injEq] at h;exact congr (congrArg List.cons (e6w h.1)) (a7v h.2)
set_option maxHeartbeats 4000000
section
variable {nm:List Sy} {ar:Sy→Nat}
end
set_option maxHeartbeats 8000000
theorem d3u:v8 153 (c8s fun L s=>okF (L9 L s)):=A8 (fun fn h=>e9c h) [(214,_),(213,_)] (.cons b5r (.cons e7u .nil)) fun U fn hfn ⟨⟨w,hw,hwl⟩,s⟩ vs bs hv hb=>by
 have hp:=hfn 213 _ rfl;change z7 [.sl 32 (w.map Et.g),.a [.s s.1,.s s.2]] vs at hv;change u0 [] bs at hb;show t6 U _ fun v bs'=>A3 (.ret (okF (L9 (w.map Et.fl) s))) v∧u0 [] bs';unfold f6p;(refine Zz ?_;with_reducible repeat' first|intro _|apply aI);cases e:X8 (w.map Et.fl) s with
 | none =>
  rw [(by rw [L9,e]:L9 (w.map Et.fl) s=none)];refine s6 hp (⟨w,hw,hwl⟩,s) (r:=.t [.c (.i .i64 0),.c (.i .i64 0),.c (.b false)]) (by show z8.ret (okP (X8 (w.map Et.fl) s))=_;rw [e];rfl) (.k (.sl _ _ _ _ _ (by simp) aS) (.k (.a _ _ _ rfl aS) .nil)) .nil fun _ _ _ _=>?_;(refine Zz ?_;with_reducible repeat' first|intro _|apply aI)
  all_goals first
   | exact s9 ⟨.ret _ _ (.t _ _ (.k (.ag _ _ (by (exact Zru))) (.k (.kn _) .nil))),.nil⟩
   | exact absurd ‹false=true› dE
 | some p =>
  obtain ⟨i,k⟩:=p;obtain ⟨k1,k2⟩:=c7z e;simp only [List.getElem_map] at k2;rw [List.length_map] at k1;rw [(by rw [L9,e];simp [k1,k2]:L9 (w.map Et.fl) s=some (w[i].fl)[k])];refine s6 hp (⟨w,hw,hwl⟩,s) (r:=.t [.c (.i .i64 i),.c (.i .i64 k),.c (.b true)]) (by show z8.ret (okP (X8 (w.map Et.fl) s))=_;rw [e];rfl) (.k (.sl _ _ _ _ _ (by simp) aS) (.k (.a _ _ _ rfl aS) .nil)) .nil fun _ _ _ _=>?_;(refine Zz ?_;with_reducible repeat' first|intro _|apply aI)
  all_goals try exact absurd rfl ‹¬true=true›
  refine s6 (hfn 214 _ rfl) w[i] (r:=.sl 37 (w[i].fl.map F.g)) rfl (.k (.a _ _ _ (Et.g_len _).symm aS) .nil) .nil fun _ _ _ _=>?_;generalize w[i]=e at *;refine Zz ?_;intros;exact s9 ⟨.ret _ _ (.t _ _ (.k (.a _ _ _ (F.g_len _).symm aS) (.k (.kn _) .nil))),.nil⟩
theorem d3z:s5 4 1886611820=B0:=kR
theorem c1f {s:Sy} (h:s.1=s5 4 1886611820) {x:u5} {n:Int} (e:s.2=x) (k:N4 K5 x=some n):okI (D7 s)=.t [.c (.i .i64 n),.c (.b true)]:=by
 unfold D7;rw [if_pos (h.trans d3z),e,k];rfl
theorem c8f:∀ {l:List (u5 × Int)} {s:u5},(∀ p ∈ l,¬s=p.1)→N4 l s=none
 | [],_,_=>rfl
 | p :: l,s,h=>by
  rw [N4,if_neg (fun e=>h p (by simp) e.symm)];exact c8f fun q hq=>h q (by simp [hq])
theorem d0z:v8 101 (c8r fun s=>okI (D7 s)):=A8 (fun fn h=>d1q h) [] .nil fun U fn hfn s vs bs hv hb=>by
 change z7 [.a [.s s.1,.s s.2]] vs at hv;change u0 [] bs at hb;show t6 U _ fun v bs'=>A3 (.ret (okI (D7 s))) v∧u0 [] bs';unfold e3c;(refine Zz ?_;with_reducible repeat' first|intro _|apply aI)
 all_goals try (refine sQV ?_;(refine Zz ?_;with_reducible repeat' first|intro _|apply aI))
 all_goals first
  | (rw [c1f (n:=3) (s:=s) aS aS kR];exact s9 ⟨.ret _ _ (.t _ _ (.k (.i _ _) (.k (.kn _) .nil))),.nil⟩)
  | (rw [c1f (n:=2) (s:=s) aS aS kR];exact s9 ⟨.ret _ _ (.t _ _ (.k (.i _ _) (.k (.kn _) .nil))),.nil⟩)
  | (rw [c1f (n:=1) (s:=s) aS aS kR];exact s9 ⟨.ret _ _ (.t _ _ (.k (.i _ _) (.k (.kn _) .nil))),.nil⟩)
  | (rw [show D7 s=none from if_neg (by rw [← d3z];assumption)];exact s9 ⟨.ret _ _ (.t _ _ (.k (.i _ _) (.k (.kn _) .nil))),.nil⟩)
  | skip
 have hn:D7 s=none:=by
  unfold D7;rw [if_pos (by rw [← d3z];assumption)];refine c8f fun p hp=>?_;simp only [K5,List.mem_cons,List.not_mem_nil,or_false] at hp;rcases hp with rfl | rfl | rfl | rfl | rfl | rfl | rfl | rfl | rfl | rfl | rfl | rfl | rfl | rfl | rfl | rfl | rfl | rfl | rfl | rfl | rfl | rfl | rfl | rfl | rfl <;> assumption
 rw [hn];exact s9 ⟨.ret _ _ (.t _ _ (.k (.i _ _) (.k (.kn _) .nil))),.nil⟩
end
end Go.Proofs.YtkojildpddaccaaGreatDoor
