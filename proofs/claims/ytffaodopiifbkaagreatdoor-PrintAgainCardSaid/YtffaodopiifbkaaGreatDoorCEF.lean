/- The program's objects: formed, Valid; valid symbols. -/
import Derived.Test.YtffaodopiifbkaaGreatDoorCEE
import Derived.Test.YtffaodopiifbkaaGreatDoorCV
set_option linter.all false
namespace Go.Proofs.YtffaodopiifbkaaGreatDoor
open Go.Abs LQ
set_option maxRecDepth 100000
set_option maxHeartbeats 4000000
noncomputable section
def fmB (k:Int) (nu de:i6) (s:Sy) (t:i6) (ps:RT) (l:List Bool):Bool :=
 if k=4 then (match l with
  | [a,b]=>G5 ⟨k,nu,de,s,t,ps⟩ false false false && a && b
  | _=>false)
 else if k=1 then G5 ⟨k,nu,de,s,t,ps⟩ true false false && decide (ps.obs.length=0) && a2c nu de
 else if k=2 then G5 ⟨k,nu,de,s,t,ps⟩ false true false && decide (ps.obs.length=0) && named s
 else if k=3 then G5 ⟨k,nu,de,s,t,ps⟩ false false true && decide (ps.obs.length=0) && decide (t.length≤200)
 else false
def RT.fm:RT→List Bool
 | .nil=>[]
 | .node k nu de s t ps r=>fmB k nu de s t ps ps.fm :: r.fm
def Ob.fm (o:Ob):Bool:=fmB o.k o.nu o.de o.s o.t o.ps o.ps.fm
theorem RT.fm_eq:∀ p:RT,p.fm=p.obs.map Ob.fm
 | .nil=>rfl
 | .node _ _ _ _ _ _ r=>by simp only [RT.fm,RT.obs,List.map_cons,r.fm_eq];rfl
theorem b7x {o x y:Ob} (h:o.ps.obs=[x,y]) (hk:o.k=4):o.fm=(G5 o false false false && x.fm && y.fm):=by
 unfold Ob.fm fmB
 rw [if_pos hk,o.ps.fm_eq,h];rfl
theorem f84 {o:Ob} (h:∀ x y,o.ps.obs ≠ [x,y]) (hk:o.k=4):o.fm=false:=by
 unfold Ob.fm fmB
 rw [if_pos hk,o.ps.fm_eq]
 rcases e:o.ps.obs with _ | ⟨x,_ | ⟨y,_ | ⟨z,r⟩⟩⟩
 ·rfl
 ·rfl
 ·exact absurd e (h x y)
 ·rfl
theorem b94 {o:Ob} (hk:o.k=1):o.fm=(G5 o true false false && decide (o.ps.obs.length=0) && a2c o.nu o.de):=by
 unfold Ob.fm fmB;rw [if_neg oM,if_pos hk]
theorem b5y {o:Ob} (hk:o.k=2):o.fm=(G5 o false true false && decide (o.ps.obs.length=0) && named o.s):=by
 unfold Ob.fm fmB;rw [if_neg oM,if_neg oM,if_pos hk]
theorem c1c {o:Ob} (hk:o.k=3):o.fm=(G5 o false false true && decide (o.ps.obs.length=0) && decide (o.t.length≤200)):=by
 unfold Ob.fm fmB;rw [if_neg oM,if_neg oM,if_neg oM,if_pos hk]
theorem e13 {o:Ob} (h1:¬o.k=4) (h2:¬o.k=1) (h3:¬o.k=2) (h4:¬o.k=3):o.fm=false:=by
 unfold Ob.fm fmB;rw [if_neg h1,if_neg h2,if_neg h3,if_neg h4]
theorem f5w {o x y:Ob} (h:o.ps.obs=[x,y]):o.nd=1+x.nd+y.nd:=by rw [o.nd_eq,h]
theorem f5q {o x y:Ob} (h:o.ps.obs=[x,y]) (hs:o.sm):x.sm∧y.sm:=⟨RT.obs_sm hs.2 (by rw [h];simp),RT.obs_sm hs.2 (by rw [h];simp)⟩
def okF (o:Ob):Prop:=o.sm∧o.nd≤3000
theorem d9u (hst:l5 203 W7):l5 141 (d4v okF fun o=>.c (.b o.fm)):=a32 (fun p=>p.1.nd) fun n ih=>n6 (fun fn h=>d1q h) [(141,(d4v okF fun o=>.c (.b o.fm)).lt _ n),(168,_),(169,_),(170,_)] (.cons ih (.cons e5m (.cons (e9l hst) (.cons f9h .nil)))) fun U fn hfn ⟨⟨o,hs,hnd⟩,hn⟩ vs bs hv hb=>by
 have hf:=hfn 141 _ rfl
 have hba:=hfn 168 _ rfl
 have hlo:=hfn 169 _ rfl
 have hsy:=hfn 170 _ rfl
 have hv:l8 [.a o.g] vs:=hv
 have hb:j5 [] bs:=hb
 have hn:o.nd < n+1:=hn
 show j6 U _ fun v bs'=>l9 (.ret (.c (.b o.fm))) v∧j5 [] bs'
 unfold d5i
 (refine Zq ?_;intros)
 refine H0 (fun (x:Ob) vs bs=>vs=[.ptr 0 0]∧j5 [x.g] bs∧x.fm=o.fm∧x.sm∧x.nd≤o.nd) (fun x=>x.nd) o ⟨rfl,RB.bx aS rfl,rfl,hs,Nat.le_refl _⟩ (show o.nd < C2 by simp only [C2];omega) ?_
 rintro self x _ _ ⟨rfl,hb,he,hxs,hxn⟩ ih2
 rw [← he]
 rw [x.g_eq] at hb
 have gq:∀ q,A8 [G.i .i64 x.k,.s x.nu,.s x.de,.s x.s.1,.s x.s.2,.s x.t,.l (x.ps.obs.map Ob.g)] q 0→A8 x.g q 0:=fun q h=>by rw [x.g_eq];exact h
 have fin:∀ (b:Bool),x.fm=b→j6 U (some (.ret (.known b),[])) fun v bs'=>l9 (.ret (.c (.b x.fm))) v∧j5 [] bs':=fun b h=>k9 ⟨.ret _ _ (M5 h),.nil⟩
 rcases d1b x.ps with ⟨a,b,e⟩ | ⟨hne,hno⟩
 ·have hab:=f5q e hxs
  have hnd2:=f5w e
  have hp1:=a.nd_pos
  have hp2:=b.nd_pos
  rw [e] at hb gq
  have hlen:decide (x.ps.obs.length=0)=false:=by rw [e];rfl
  (refine Zq ?_;with_reducible repeat' first|intro _|apply aI)
  ·(refine E2 (f:=Ob.g) aS (A3 Ob.g_len) fun _ _ _=>?_)
   (refine Zq ?_;with_reducible repeat' first|intro _|apply aI)
   ·refine j3 hba (x,false,false,false) (r:=.c (.b (G5 x false false false))) rfl (.k (.a _ _ _ rfl (gq _ aS)) l6) .nil fun _ _ _ _=>?_
    (refine Zq ?_;with_reducible repeat' first|intro _|apply aI)
    ·(refine E2 (f:=Ob.g) aS (A3 Ob.g_len) fun _ _ _=>?_)
     (refine Zq ?_;intros)
     refine j3 hf ⟨⟨a,hab.1,oM⟩,show a.nd < n by omega⟩ (r:=.c (.b a.fm)) rfl l6 .nil fun _ _ _ _=>?_
     (refine Zq ?_;with_reducible repeat' first|intro _|apply aI)
     ·(refine E2 (f:=Ob.g) aS (A3 Ob.g_len) fun _ _ _=>?_)
      (refine Zq ?_;intros)
      rw [he]
      exact ih2 b _ _ ⟨rfl,RB.bx aS rfl,by rw [← he,b7x e ‹x.k=4›];simp [*],hab.2,oM⟩ oM
     ·exact fin false ((b7x e ‹x.k=4›).trans (by simp [*]))
    ·exact fin false ((b7x e ‹x.k=4›).trans (by simp [*]))
   ·exact absurd rfl ‹¬_›
  ·refine j3 hba (x,true,false,false) (r:=.c (.b (G5 x true false false))) rfl (.k (.a _ _ _ rfl (gq _ aS)) l6) .nil fun _ _ _ _=>?_
   (refine Zq ?_;with_reducible repeat' first|intro _|apply aI)
   ·(refine E2 (f:=Ob.g) aS (A3 Ob.g_len) fun _ _ _=>?_)
    (refine Zq ?_;with_reducible repeat' first|intro _|apply aI)
    ·exact absurd ‹((([a,b]:List Ob).length:Nat):Int)=0› (by simp)
    ·exact fin false ((b94 ‹x.k=1›).trans (by rw [hlen,Bool.and_false];rfl))
   ·exact fin false ((b94 ‹x.k=1›).trans (by simp [*]))
  ·refine j3 hba (x,false,true,false) (r:=.c (.b (G5 x false true false))) rfl (.k (.a _ _ _ rfl (gq _ aS)) l6) .nil fun _ _ _ _=>?_
   (refine Zq ?_;with_reducible repeat' first|intro _|apply aI)
   ·(refine E2 (f:=Ob.g) aS (A3 Ob.g_len) fun _ _ _=>?_)
    (refine Zq ?_;with_reducible repeat' first|intro _|apply aI)
    ·exact absurd ‹((([a,b]:List Ob).length:Nat):Int)=0› (by simp)
    ·exact fin false ((b5y ‹x.k=2›).trans (by rw [hlen,Bool.and_false];rfl))
   ·exact fin false ((b5y ‹x.k=2›).trans (by simp [*]))
  ·refine j3 hba (x,false,false,true) (r:=.c (.b (G5 x false false true))) rfl (.k (.a _ _ _ rfl (gq _ aS)) l6) .nil fun _ _ _ _=>?_
   (refine Zq ?_;with_reducible repeat' first|intro _|apply aI)
   ·(refine E2 (f:=Ob.g) aS (A3 Ob.g_len) fun _ _ _=>?_)
    (refine Zq ?_;with_reducible repeat' first|intro _|apply aI)
    ·exact absurd ‹((([a,b]:List Ob).length:Nat):Int)=0› (by simp)
    ·exact fin false ((c1c ‹x.k=3›).trans (by rw [hlen,Bool.and_false];rfl))
   ·exact fin false ((c1c ‹x.k=3›).trans (by simp [*]))
  ·exact fin false (e13 (o:=x) aS aS aS aS)
 ·(refine Zq ?_;with_reducible repeat' first|intro _|apply aI)
  ·(refine E2 (f:=Ob.g) aS (A3 Ob.g_len) fun _ _ _=>?_)
   (refine Zq ?_;with_reducible repeat' first|intro _|apply aI)
   ·exact absurd ‹_› hne
   ·exact fin false (f84 hno ‹x.k=4›)
  ·refine j3 hba (x,true,false,false) (r:=.c (.b (G5 x true false false))) rfl (.k (.a _ _ _ rfl (gq _ aS)) l6) .nil fun _ _ _ _=>?_
   (refine Zq ?_;with_reducible repeat' first|intro _|apply aI)
   ·(refine E2 (f:=Ob.g) aS (A3 Ob.g_len) fun _ _ _=>?_)
    (refine Zq ?_;with_reducible repeat' first|intro _|apply aI)
    ·have hl0:decide (x.ps.obs.length=0)=true:=decide_eq_true oM
     refine j3 hlo ⟨(x.nu,x.de),hxs.1.1,hxs.1.2.1⟩ (r:=.c (.b (a2c x.nu x.de))) rfl l6 .nil fun _ _ _ _=>?_
     (refine Zq ?_;intros)
     rw [b94 ‹x.k=1›,hl0,‹G5 x true false false=true›,Bool.true_and,Bool.true_and]
     exact k9 ⟨.ret _ _ (.b _),.nil⟩
    ·exact fin false ((b94 ‹x.k=1›).trans (by rw [show decide (x.ps.obs.length=0)=false from decide_eq_false oM,Bool.and_false];rfl))
   ·exact fin false ((b94 ‹x.k=1›).trans (by simp [*]))
  ·refine j3 hba (x,false,true,false) (r:=.c (.b (G5 x false true false))) rfl (.k (.a _ _ _ rfl (gq _ aS)) l6) .nil fun _ _ _ _=>?_
   (refine Zq ?_;with_reducible repeat' first|intro _|apply aI)
   ·(refine E2 (f:=Ob.g) aS (A3 Ob.g_len) fun _ _ _=>?_)
    (refine Zq ?_;with_reducible repeat' first|intro _|apply aI)
    ·have hl0:decide (x.ps.obs.length=0)=true:=decide_eq_true oM
     refine j3 hsy ⟨x.s,hxs.1.2.2.1,hxs.1.2.2.2⟩ (r:=.c (.b (named x.s))) rfl (.k (.a _ _ _ rfl (show A8 (List.take 2 [G.s x.s.1,.s x.s.2,.s x.t,.l (x.ps.obs.map Ob.g)]) _ 0 from A8.take 2 aS)) .nil) .nil fun _ _ _ _=>?_
     (refine Zq ?_;intros)
     rw [b5y ‹x.k=2›,hl0,‹G5 x false true false=true›,Bool.true_and,Bool.true_and]
     exact k9 ⟨.ret _ _ (.b _),.nil⟩
    ·exact fin false ((b5y ‹x.k=2›).trans (by rw [show decide (x.ps.obs.length=0)=false from decide_eq_false oM,Bool.and_false];rfl))
   ·exact fin false ((b5y ‹x.k=2›).trans (by simp [*]))
  ·refine j3 hba (x,false,false,true) (r:=.c (.b (G5 x false false true))) rfl (.k (.a _ _ _ rfl (gq _ aS)) l6) .nil fun _ _ _ _=>?_
   (refine Zq ?_;with_reducible repeat' first|intro _|apply aI)
   ·(refine E2 (f:=Ob.g) aS (A3 Ob.g_len) fun _ _ _=>?_)
    (refine Zq ?_;with_reducible repeat' first|intro _|apply aI)
    ·have hl0:decide (x.ps.obs.length=0)=true:=decide_eq_true oM
     rw [c1c ‹x.k=3›,hl0,‹G5 x false false true=true›,Bool.true_and,Bool.true_and]
     exact L7 fun e=>⟨.ret _ _ (V9 (by subst e;rw [e0c,Bool.eq_iff_iff,decide_eq_true_iff,decide_eq_true_iff];omega)),.nil⟩
    ·exact fin false ((c1c ‹x.k=3›).trans (by rw [show decide (x.ps.obs.length=0)=false from decide_eq_false oM,Bool.and_false];rfl))
   ·exact fin false ((c1c ‹x.k=3›).trans (by simp [*]))
  ·exact fin false (e13 (o:=x) aS aS aS aS)
def Ob.vd (o:Ob):Bool:=decide (o.nd≤3000) && o.fm
theorem d03 (hst:l5 203 W7):l5 104 (d4v Ob.sm fun o=>.c (.b o.vd)):=n6 (fun fn h=>d1r h) [(89,_),(141,_)] (.cons c0x (.cons (d9u hst) .nil)) fun U fn hfn ⟨o,hs⟩ vs bs hv hb=>by
 have hn:=hfn 89 _ rfl
 have hf:=hfn 141 _ rfl
 have hv:l8 [.a o.g] vs:=hv
 have hb:j5 [] bs:=hb
 show j6 U _ fun v bs'=>l9 (.ret (.c (.b o.vd))) v∧j5 [] bs'
 unfold d4t
 (refine Zq ?_;intros)
 refine j3 hn ⟨o,trivial⟩ (r:=.c (.i .i64 (min o.nd 3001:Nat))) rfl l6 .nil fun _ _ _ _=>?_
 (refine Zq ?_;with_reducible repeat' first|intro _|apply aI)
 ·have h:o.nd≤3000:=oM
  refine j3 hf ⟨o,hs,h⟩ (r:=.c (.b o.fm)) rfl l6 .nil fun _ _ _ _=>?_
  (refine Zq ?_;intros)
  unfold Ob.vd
  rw [decide_eq_true h,Bool.true_and]
  exact k9 ⟨.ret _ _ (.b _),.nil⟩
 ·exact k9 ⟨.ret _ _ (M5 (by unfold Ob.vd;rw [decide_eq_false oM];rfl)),.nil⟩
theorem a63:l5 105 (f1p fun s=>.a (O.sy s).g):=n6 (fun fn h=>f0c h) [] .nil fun U fn hfn s vs bs hv hb=>by
 have hv:l8 [.a [.s s.1,.s s.2]] vs:=hv
 have hb:j5 [] bs:=hb
 show j6 U _ fun v bs'=>l9 (.ret (.a (O.sy s).g)) v∧j5 [] bs'
 unfold e2p
 (refine Zq ?_;intros)
 exact L7 fun e=>by
  subst e
  exact ⟨.ret _ _ (.ag _ _ (by (exact Zru))),.nil⟩
def syB (s:Sy):Ob:=⟨2,[],[],s,[],.nil⟩
theorem f1j (s:Sy):(syB s).vd=named s:=by
 have h1:(syB s).nd=1:=rfl
 unfold Ob.vd
 rw [h1,b5y rfl]
 simp [G5,syB,RT.obs]
theorem d2q (hst:l5 203 W7):l5 59 (c4o fun s=>.c (.b (named s))):=n6 (fun fn h=>d61 h) [(105,_),(104,_)] (.cons a63 (.cons (d03 hst) .nil)) fun U fn hfn ⟨s,h1,h2⟩ vs bs hv hb=>by
 have hs:=hfn 105 _ rfl
 have ho:=hfn 104 _ rfl
 have hv:l8 [.a (sg s)] vs:=hv
 have hb:j5 [] bs:=hb
 show j6 U _ fun v bs'=>l9 (.ret (.c (.b (named s)))) v∧j5 [] bs'
 unfold r59
 (refine Zq ?_;intros)
 refine j3 hs s (r:=.a (syB s).g) rfl l6 .nil fun _ _ _ _=>?_
 (refine Zq ?_;intros)
 refine j3 ho ⟨syB s,⟨⟨by show 0 < 8000;omega,by show 0 < 8000;omega,h1,h2⟩,trivial⟩⟩ (r:=.c (.b (named s))) (by show s8.ret (.c (.b (syB s).vd))=_;rw [f1j]) (.k (.a _ _ _ rfl aS) .nil) .nil fun _ _ _ _=>?_
 (refine Zq ?_;intros)
 exact k9 ⟨.ret _ _ (.b _),.nil⟩
theorem c0v (hst:l5 203 W7):l5 163 (sp1 fun s=>.ret (.c (.b (r9 s)))):=n6 (fun fn h=>e6w h) [(59,_)] (.cons (d2q hst) .nil) fun U fn hfn ⟨s,hs⟩ vs bs hv hb=>by
 have hvd:=hfn 59 _ rfl
 have hv:l8 [.c (.s s)] vs:=hv
 have hb:j5 [] bs:=hb
 show j6 U _ fun v bs'=>l9 (.ret (.c (.b (r9 s)))) v∧j5 [] bs'
 unfold d95
 have e:named (s,n5 1 120)=r9 s:=by
  unfold named
  rw [show decide (1≤(s,n5 1 120).2.length∧(s,n5 1 120).2.length≤40)=true from (by decide:decide (1≤(n5 1 120).length∧(n5 1 120).length≤40)=true),Bool.and_true]
 (refine Zq ?_;intros)
 refine j3 hvd ⟨(s,n5 1 120),hs,by show (n5 1 120).length < 90000;decide⟩ (r:=.c (.b (r9 s))) (by show s8.ret (.c (.b (named (s,n5 1 120))))=_;rw [e]) (.k (.ag _ _ l6) .nil) .nil fun _ _ _ _=>?_
 (refine Zq ?_;intros)
 exact k9 ⟨.ret _ _ (.b _),.nil⟩
theorem e6e:l5 156 (sp0 (.a x8.g)):=n6 (fun fn h=>e9m h) [(105,_)] (.cons a63 .nil) fun U fn hfn _ vs bs hv hb=>by
 have hs:=hfn 105 _ rfl
 have hv:l8 [] vs:=hv
 have hb:j5 [] bs:=hb
 show j6 U _ fun v bs'=>l9 (.ret (.a x8.g)) v∧j5 [] bs'
 unfold e3a
 (refine Zq ?_;intros)
 refine j3 hs (n5 4 1886611820,n5 3 7104878) (r:=.a x8.g) rfl (.k (.ag _ _ l6) .nil) .nil fun _ _ _ _=>?_
 refine oR fun _ _=>?_
 (refine Zq ?_;intros)
 exact k9 ⟨.ret _ _ (.a _ _ _ rfl aS),.nil⟩
theorem f10:l5 129 (b8e fun s=>.a (O.tx s).g):=n6 (fun fn h=>f0q h) [] .nil fun U fn hfn s vs bs hv hb=>by
 have hv:l8 [.c (.s s)] vs:=hv
 have hb:j5 [] bs:=hb
 show j6 U _ fun v bs'=>l9 (.ret (.a (O.tx s).g)) v∧j5 [] bs'
 unfold e1g
 (refine Zq ?_;intros)
 exact k9 ⟨.ret _ _ (.ag _ _ l6),.nil⟩
theorem d8m:l5 157 (f3a fun a d=>.a (O.co a d).g):=n6 (fun fn h=>e9j h) [] .nil fun U fn hfn ⟨a,d⟩ vs bs hv hb=>by
 have hv:l8 [.a a.g,.a d.g] vs:=hv
 have hb:j5 [] bs:=hb
 show j6 U _ fun v bs'=>l9 (.ret (.a (O.co a d).g)) v∧j5 [] bs'
 unfold e1y
 refine a2x hv fun v l hv1 hv2=>?_
 refine L0 hv1 a.g_len fun qa ha=>?_
 refine a2x hv2 fun v l hv3 hv4=>?_
 refine L0 hv3 d.g_len fun qd hd=>?_
 refine b35 hv4 (a7d hb ?_)
 refine a2j ha fun xa ha=>?_
 refine a2j hd fun xd hd=>?_
 refine k9 ⟨.ret _ _ (.ag _ _ ?_),.nil⟩
 refine .k (.i _ _) (.k (.s _ _ _ rfl rfl) (.k (.s _ _ _ rfl rfl) (.k (.s _ _ _ rfl rfl) (.k (.s _ _ _ rfl rfl) (.k (.s _ _ _ rfl rfl) (.k (.cl _ _ _ _ _ rfl ?_) .nil))))))
 have r1:=a1a (by rw [O.g_len];decide) ha
 have r2:=a1a (by rw [O.g_len];decide) hd
 exact .cons _ _ _ _ _ a.g_len r1.1 r1.2 (.cons _ _ _ _ _ d.g_len r2.1 r2.2 (.nil _ _ _))
theorem f1l:l5 130 (f3p fun l=>.a (E7 l).g):=n6 (fun fn h=>e9e h) [(156,_),(157,_)] (.cons e6e (.cons d8m .nil)) fun U fn hfn ⟨l,hl⟩ vs bs hv hb=>by
 have hn:=hfn 156 _ rfl
 have hc:=hfn 157 _ rfl
 have hl:l.length < 90000:=hl
 have hv:l8 [.sl 7 (l.map O.g)] vs:=hv
 have hb:j5 [] bs:=hb
 show j6 U _ fun v bs'=>l9 (.ret (.a (E7 l).g)) v∧j5 [] bs'
 unfold e4l
 (refine Zz ?_;intros)
 refine j3 hn () (r:=.a x8.g) rfl .nil .nil fun _ _ _ _=>?_
 (refine Zz ?_;intros)
 refine H0 (fun (m:Nat) vs bs=>∃ (t:j9 Q) (off:Nat) (i:Int) (q:Q),vs=[.slice t 7 off l.length .no,.ptr 0 0,.ptr 1 0,.int .i64 i]∧bs=[.cells [.int .i64 0,.str 0 0,.str 0 0,.str 0 0,.str 0 0,.str 0 0,.slice .nil 0 0 0 .exact],.opa q 7]∧i=m - 1∧m≤l.length∧r7 7 (l.map O.g) t off∧A8 (E7 (l.drop m)).g q 0) (fun m=>m) l.length
  ⟨_,_,_,_,rfl,rfl,rfl,oM,aS,by rw [List.drop_length];assumption⟩ (by simp only [C2];omega) ?_
 rintro self m _ _ ⟨t,off,i,q,rfl,rfl,rfl,hm,ht,hq⟩ ih
 (refine Zz ?_;with_reducible repeat' first|intro _|apply aI)
 ·refine b93 (y:=l[m - 1]) aS (by rw [show ((m:Int) - 1).toNat=m - 1 by omega];exact List.getElem?_eq_getElem oM) fun _ _=>?_
  (refine Zz ?_;intros)
  refine j3 hc (l[m - 1],E7 (l.drop m)) (r:=.a (O.co l[m - 1] (E7 (l.drop m))).g) rfl l6 .nil fun _ _ _ _=>?_
  (refine Zz ?_;intros)
  refine ih (m - 1) _ _ ⟨_,_,_,_,rfl,rfl,oM,oM,ht,?_⟩ oM
  rw [List.drop_eq_getElem_cons (by omega:m - 1 < l.length),show m - 1+1=m by omega]
  assumption
 ·have em:m=0:=oM
  subst em
  rw [List.drop_zero] at *
  exact k9 ⟨.ret _ _ l6,.nil⟩
theorem d21 (hst:l5 203 W7):l5 128 (e2y fun a b=>.ret (.a (a3s (qn (j0 a) (j0 b))).g)):=n6 (fun fn h=>e72 h) [(155,_)] (.cons (b58 hst) .nil) fun U fn hfn ⟨(a,b),ha,hbl⟩ vs bs hv hb=>by
 have hr:=hfn 155 _ rfl
 have hv:l8 [.c (.s a),.c (.s b)] vs:=hv
 have hb:j5 [] bs:=hb
 show j6 U _ fun v bs'=>l9 (.ret (.a (a3s (qn (j0 a) (j0 b))).g)) v∧j5 [] bs'
 unfold e35
 (refine Zq ?_;intros)
 refine j3 hr ⟨(a,b),ha,hbl⟩ (r:=.t [.c (.s (j4 (qn (j0 a) (j0 b)).1)),.c (.s (i7 (qn (j0 a) (j0 b)).2))]) (by show s8.ret (.t [.c (.s (t7 a b).1),.c (.s (t7 a b).2)])=_;rw [P8]) l6 .nil fun _ _ _ _=>?_
 (refine Zq ?_;intros)
 exact k9 ⟨.ret _ _ (.ag _ _ l6),.nil⟩
theorem d1c:l5 115 (spO fun a=>.c (.b (O.eqb a x8))):=n6 (fun fn h=>e7l h) [] .nil fun U fn hfn (a:O) vs bs hv hb=>by
 have hv:l8 [.a a.g] vs:=hv
 have hb:j5 [] bs:=hb
 show j6 U _ fun v bs'=>l9 (.ret (.c (.b (O.eqb a x8)))) v∧j5 [] bs'
 unfold e4e
 rw [a.g_eq] at hv
 have hsy:a.k=2→a=.sy a.sym:=by
  intro h
  cases a with
  | sy s=>rfl
  | num=>exact absurd h (by show ¬(1:Int)=2;decide)
  | tx=>exact absurd h (by show ¬(3:Int)=2;decide)
  | co=>exact absurd h (by show ¬(4:Int)=2;decide)
  | no=>exact absurd h (by show ¬(0:Int)=2;decide)
 (refine Zq ?_;with_reducible repeat' first|intro _|apply aI)
 ·have e:=hsy ‹_›
  refine fun e2=>?_
  subst e2
  refine ⟨_,_,rfl,.ret _ _ (V9 ?_),.nil⟩
  rw [Bool.eq_iff_iff,O.eqb_t,b3x,b3x,b55,b55]
  simp only [Bool.and_true,Bool.and_eq_true,decide_eq_true_iff]
  rw [e]
  constructor
  ·intro h;injection h with h;rw [h];exact ⟨rfl,rfl⟩
  ·rintro ⟨h1,h2⟩;exact congrArg O.sy (Prod.ext h1 h2)
 ·exact k9 ⟨.ret _ _ (M5 (O.eqb_f.2 fun e=>by subst e;exact absurd rfl ‹¬_›)),.nil⟩
theorem f7k:l5 146 (spO fun a=>.c (.b a.isCo)):=n6 (fun fn h=>e87 h) [] .nil fun U fn hfn (a:O) vs bs hv hb=>by
 have hv:l8 [.a a.g] vs:=hv
 have hb:j5 [] bs:=hb
 show j6 U _ fun v bs'=>l9 (.ret (.c (.b a.isCo))) v∧j5 [] bs'
 unfold e00
 rw [a.g_eq] at hv
 (refine Zq ?_;with_reducible repeat' first|intro _|apply aI)
 ·refine L7 fun e=>?_
  subst e
  refine ⟨.ret _ _ (V9 ?_),.nil⟩
  rw [b3m]
  have hk:=‹a.k=4›
  cases a <;> simp [O.k] at hk
  rfl
 ·exact k9 ⟨.ret _ _ (M5 (by have hk:=‹¬a.k=4›;cases a <;> simp [O.k] at hk <;> rfl)),.nil⟩
theorem g1v:l5 144 { ι:=O,A:=fun a=>[.a a.g,.a z8.g],B:=fun _=>[],R:=fun a=>.ret (.c (.b (O.eqb a z8))),B':=fun _=>[],inj:=fun i j vs bs h k _ _=>(by rw [(c8q h k).1];exact ⟨rfl,rfl⟩) }:=n6 (fun fn h=>e9z h) [] .nil fun U fn hfn (a:O) vs bs hv hb=>by
 have hv:l8 [.a a.g,.a z8.g] vs:=hv
 have hb:j5 [] bs:=hb
 show j6 U _ fun v bs'=>l9 (.ret (.c (.b (O.eqb a z8)))) v∧j5 [] bs'
 unfold e2o
 rw [a.g_eq,z8.g_eq] at hv
 (refine Zq ?_;intros)
 refine H0 (fun (_:Unit) vs bs=>vs=[.ptr 0 0,.ptr 1 0]∧j5 [a.g,z8.g] bs) (fun _=>0) () ⟨rfl,by rw [a.g_eq,z8.g_eq];exact .k (.opa _ _ _ rfl aS) (.k (.opa _ _ _ rfl aS) .nil)⟩ (by simp only [C2];omega) ?_
 rintro self _ _ _ ⟨rfl,hb⟩ _
 rw [a.g_eq,z8.g_eq] at hb
 (refine Zq ?_;with_reducible repeat' first|intro _|apply aI)
 ·have e5:a.ps=[]:=by
   have h:=‹((a.ps.length:Nat):Int)=0›
   exact List.length_eq_zero_iff.1 oM
  have e4:=‹a.sym.1=z8.sym.1∧_›
  have e:a=z8:=O.ext ‹_› ‹_› ‹_› (Prod.ext e4.1 e4.2.1) ‹_› e5
  exact k9 ⟨.ret _ _ (M5 (O.eqb_t.2 e)),.nil⟩
 ·exfalso
  have h1:=‹((a.ps.length:Nat):Int)=((z8.ps.length:Nat):Int)›
  have h2:=‹¬((a.ps.length:Nat):Int)=0›
  exact h2 h1
 all_goals exact k9 ⟨.ret _ _ (M5 (O.eqb_f.2 fun e=>by subst e;first | exact absurd rfl ‹¬_› | exact absurd (⟨rfl,rfl,trivial⟩:z8.sym.1=z8.sym.1∧z8.sym.2=z8.sym.2∧True) ‹¬_›)),.nil⟩
def a4x (o:O):GV:=match E4 o with
 | some l=>.t [.sl 7 (l.map O.g),.c (.b true)]
 | none=>.t [.sl 7 [],.c (.b false)]
def f5t (g:O→GV):Sp where
 ι:={ o:O // o.size < 90000 }
 A o:=[.a o.1.g]
 B _:=[]
 R o:=.ret (g o.1)
 B' _:=[]
 inj i j vs bs h k _ _:=by rw [c5g h k];exact ⟨rfl,rfl⟩
theorem d30 {o:O} (h:o.isCo=false) (hn:O.eqb o x8=false):E4 o=none:=by
 cases o with
 | sy s=>simp only [E4];rw [if_neg];intro e;subst e;exact O.eqb_f.1 hn rfl
 | co=>cases h
 | _=>rfl
theorem f6w:l5 121 (f5t a4x):=n6 (fun fn h=>e9y h) [(146,_),(115,_)] (.cons f7k (.cons d1c .nil)) fun U fn hfn ⟨o,hz⟩ vs bs hv hb=>by
 have hc:=hfn 146 _ rfl
 have hn:=hfn 115 _ rfl
 have hz:o.size < 90000:=hz
 have hv:l8 [.a o.g] vs:=hv
 have hb:j5 [] bs:=hb
 show j6 U _ fun v bs'=>l9 (.ret (a4x o)) v∧j5 [] bs'
 unfold e39
 refine a2x hv fun _ _ hv1 hv2=>?_
 refine L0 hv1 o.g_len fun q hq=>?_
 (refine Zq ?_;intros)
 refine H0 (fun (p:O × List O) vs bs=>∃ (x:O) (acc:List O) (v:V) (q:Q),p=(x,acc)∧vs=[.ptr 0 0,v]∧bs=[.opa q 7,.tok acc.length 7]∧A8 x.g q 0∧a1c 1 7 (acc.map O.g) v∧E4 o=(E4 x).map (acc ++ ·)∧acc.length+x.size≤o.size) (fun p=>p.1.size) (o,[]) ⟨o,[],_,_,rfl,rfl,rfl,aS,.b rfl,by simp,by simp⟩ (show o.size < C2 by simp only [C2];omega) ?_
 rintro self _ _ _ ⟨x,acc,v,q,rfl,rfl,rfl,hq,htok,hit,hsz⟩ ih
 have hpos:=x.size_pos
 (refine Zq ?_;intros)
 refine j3 hc x (r:=.c (.b x.isCo)) rfl (.k (oV aS) .nil) .nil fun _ _ _ _=>?_
 (refine Zq ?_;with_reducible repeat' first|intro _|apply aI)
 ·cases x with
  | co a d =>
   have hq:A8 [.i .i64 4,.s [],.s [],.s [],.s [],.s [],.l ([a,d].map O.g)] q 0:=hq
   have hs:(O.co a d).size=1+a.size+d.size:=rfl
   rw [hs] at hsz
   have hl2:([a,d]:List O).length=2:=rfl
   (refine Zq ?_;intros)
   refine a12 (xs:=acc.map O.g) (n:=7) (off:=0) aS (fun _=>a1a (by rw [O.g_len];decide) aS) (O.g_len _) (by simp) (by simp;omega) fun _ _=>?_
   (refine Zq ?_;intros)
   refine ih (d,acc ++ [a]) _ _ ⟨d,acc ++ [a],_,_,rfl,rfl,by rw [List.length_append];rfl,aS,.a _ _ (by simp) (by rw [List.map_append];assumption),?_,by simp;omega⟩ (by show d.size < 1+a.size+d.size;omega)
   rw [hit]
   simp only [E4,Option.map_map]
   congr 1
   funext l
   simp
  | _=>exact absurd ‹_› (by simp [O.isCo])
 ·refine j3 hn x (r:=.c (.b (O.eqb x x8))) rfl (.k (oV aS) .nil) .nil fun _ _ _ _=>?_
  (refine Zq ?_;with_reducible repeat' first|intro _|apply aI)
  ·have e:x=x8:=O.eqb_t.1 ‹_›
   subst e
   have e2:E4 o=some acc:=by rw [hit];simp [E4,x8]
   unfold a4x
   rw [e2]
   exact k9 ⟨.ret _ _ (.t _ _ (.k (.sl _ _ _ _ _ (by simp) aS) (.k (.kn _) .nil))),.nil⟩
  ·have e2:E4 o=none:=by
    rw [hit,d30 (by simpa using ‹¬x.isCo=true›) (by simpa using ‹¬O.eqb x x8=true›)];rfl
   unfold a4x
   rw [e2]
   exact k9 ⟨.ret _ _ (.t _ _ (.k (.sl0 _ _ _) (.k (.kn _) .nil))),.nil⟩
end
end Go.Proofs.YtffaodopiifbkaaGreatDoor
