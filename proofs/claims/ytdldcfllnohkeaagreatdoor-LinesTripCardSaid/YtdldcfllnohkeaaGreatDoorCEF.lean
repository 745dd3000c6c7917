/- The program's objects: formed, Valid; valid symbols. -/
import Derived.Test.YtdldcfllnohkeaaGreatDoorCEE
import Derived.Test.YtdldcfllnohkeaaGreatDoorCV
set_option linter.all false
namespace Go.Proofs.YtdldcfllnohkeaaGreatDoor
open Go.Abs LQ
set_option maxRecDepth 100000
set_option maxHeartbeats 4000000
noncomputable section
def fmB (k:Int) (nu de:i6) (s:Sy) (t:i6) (ps:RT) (l:List Bool):Bool :=
 if k=4 then (match l with
  | [a,b]=>H9 ⟨k,nu,de,s,t,ps⟩ false false false && a && b
  | _=>false)
 else if k=1 then H9 ⟨k,nu,de,s,t,ps⟩ true false false && decide (ps.obs.length=0) && a2h nu de
 else if k=2 then H9 ⟨k,nu,de,s,t,ps⟩ false true false && decide (ps.obs.length=0) && named s
 else if k=3 then H9 ⟨k,nu,de,s,t,ps⟩ false false true && decide (ps.obs.length=0) && decide (t.length≤200)
 else false
def RT.fm:RT→List Bool
 | .nil=>[]
 | .node k nu de s t ps r=>fmB k nu de s t ps ps.fm :: r.fm
def Ob.fm (o:Ob):Bool:=fmB o.k o.nu o.de o.s o.t o.ps o.ps.fm
theorem RT.fm_eq:∀ p:RT,p.fm=p.obs.map Ob.fm
 | .nil=>rfl
 | .node _ _ _ _ _ _ r=>by simp only [RT.fm,RT.obs,List.map_cons,r.fm_eq];rfl
theorem b7q {o x y:Ob} (h:o.ps.obs=[x,y]) (hk:o.k=4):o.fm=(H9 o false false false && x.fm && y.fm):=by
 unfold Ob.fm fmB
 rw [if_pos hk,o.ps.fm_eq,h];rfl
theorem f8v {o:Ob} (h:∀ x y,o.ps.obs ≠ [x,y]) (hk:o.k=4):o.fm=false:=by
 unfold Ob.fm fmB
 rw [if_pos hk,o.ps.fm_eq]
 rcases e:o.ps.obs with _ | ⟨x,_ | ⟨y,_ | ⟨z,r⟩⟩⟩
 ·rfl
 ·rfl
 ·exact absurd e (h x y)
 ·rfl
theorem b99 {o:Ob} (hk:o.k=1):o.fm=(H9 o true false false && decide (o.ps.obs.length=0) && a2h o.nu o.de):=by
 unfold Ob.fm fmB;rw [if_neg oM,if_pos hk]
theorem b56 {o:Ob} (hk:o.k=2):o.fm=(H9 o false true false && decide (o.ps.obs.length=0) && named o.s):=by
 unfold Ob.fm fmB;rw [if_neg oM,if_neg oM,if_pos hk]
theorem c0a {o:Ob} (hk:o.k=3):o.fm=(H9 o false false true && decide (o.ps.obs.length=0) && decide (o.t.length≤200)):=by
 unfold Ob.fm fmB;rw [if_neg oM,if_neg oM,if_neg oM,if_pos hk]
theorem d94 {o:Ob} (h1:¬o.k=4) (h2:¬o.k=1) (h3:¬o.k=2) (h4:¬o.k=3):o.fm=false:=by
 unfold Ob.fm fmB;rw [if_neg h1,if_neg h2,if_neg h3,if_neg h4]
theorem f1k {o x y:Ob} (h:o.ps.obs=[x,y]):o.nd=1+x.nd+y.nd:=by rw [o.nd_eq,h]
theorem f6r {o x y:Ob} (h:o.ps.obs=[x,y]) (hs:o.sm):x.sm∧y.sm:=⟨RT.obs_sm hs.2 (by rw [h];simp),RT.obs_sm hs.2 (by rw [h];simp)⟩
def okF (o:Ob):Prop:=o.sm∧o.nd≤3000
theorem e0i (hst:k9 179 Y2):k9 81 (d45 okF fun o=>.c (.b o.fm)):=a3x (fun p=>p.1.nd) fun n ih=>n9 (fun fn h=>f5j h) [(81,(d45 okF fun o=>.c (.b o.fm)).lt _ n),(118,_),(119,_),(120,_)] (.cons ih (.cons f80 (.cons (e6p hst) (.cons f9b .nil)))) fun U fn hfn ⟨⟨o,hs,hnd⟩,hn⟩ vs bs hv hb=>by
 have hf:=hfn 81 _ rfl
 have hba:=hfn 118 _ rfl
 have hlo:=hfn 119 _ rfl
 have hsy:=hfn 120 _ rfl
 have hv:l7 [.a o.g] vs:=hv
 have hb:RBs [] bs:=hb
 have hn:o.nd < n+1:=hn
 show j5 U _ fun v bs'=>l8 (.ret (.c (.b o.fm))) v∧RBs [] bs'
 unfold r81
 (refine Zq ?_;intros)
 refine H2 (fun (x:Ob) vs bs=>vs=[.ptr 0 0]∧RBs [x.g] bs∧x.fm=o.fm∧x.sm∧x.nd≤o.nd) (fun x=>x.nd) o ⟨rfl,RB.bx aS rfl,rfl,hs,Nat.le_refl _⟩ (show o.nd < C4 by simp only [C4];omega) ?_
 rintro self x _ _ ⟨rfl,hb,he,hxs,hxn⟩ ih2
 rw [← he]
 rw [x.g_eq] at hb
 have gq:∀ q,A6 [G.i .i64 x.k,.s x.nu,.s x.de,.s x.s.1,.s x.s.2,.s x.t,.l (x.ps.obs.map Ob.g)] q 0→A6 x.g q 0:=fun q h=>by rw [x.g_eq];exact h
 have fin:∀ (b:Bool),x.fm=b→j5 U (some (.ret (.known b),[])) fun v bs'=>l8 (.ret (.c (.b x.fm))) v∧RBs [] bs':=fun b h=>j9 ⟨.ret _ _ (N7 h),.nil⟩
 rcases d11 x.ps with ⟨a,b,e⟩ | ⟨hne,hno⟩
 ·have hab:=f6r e hxs
  have hnd2:=f1k e
  have hp1:=a.nd_pos
  have hp2:=b.nd_pos
  rw [e] at hb gq
  have hlen:decide (x.ps.obs.length=0)=false:=by rw [e];rfl
  (refine Zq ?_;with_reducible repeat' first|intro _|apply aI)
  ·(refine E8 (f:=Ob.g) aS (A0 Ob.g_len) fun _ _ _=>?_)
   (refine Zq ?_;with_reducible repeat' first|intro _|apply aI)
   ·refine j4 hba (x,false,false,false) (r:=.c (.b (H9 x false false false))) rfl (.k (.a _ _ _ rfl (gq _ aS)) l5) .nil fun _ _ _ _=>?_
    (refine Zq ?_;with_reducible repeat' first|intro _|apply aI)
    ·(refine E8 (f:=Ob.g) aS (A0 Ob.g_len) fun _ _ _=>?_)
     (refine Zq ?_;intros)
     refine j4 hf ⟨⟨a,hab.1,oM⟩,show a.nd < n by omega⟩ (r:=.c (.b a.fm)) rfl l5 .nil fun _ _ _ _=>?_
     (refine Zq ?_;with_reducible repeat' first|intro _|apply aI)
     ·(refine E8 (f:=Ob.g) aS (A0 Ob.g_len) fun _ _ _=>?_)
      (refine Zq ?_;intros)
      rw [he]
      exact ih2 b _ _ ⟨rfl,RB.bx aS rfl,by rw [← he,b7q e ‹x.k=4›];simp [*],hab.2,oM⟩ oM
     ·exact fin false ((b7q e ‹x.k=4›).trans (by simp [*]))
    ·exact fin false ((b7q e ‹x.k=4›).trans (by simp [*]))
   ·exact absurd rfl ‹¬_›
  ·refine j4 hba (x,true,false,false) (r:=.c (.b (H9 x true false false))) rfl (.k (.a _ _ _ rfl (gq _ aS)) l5) .nil fun _ _ _ _=>?_
   (refine Zq ?_;with_reducible repeat' first|intro _|apply aI)
   ·(refine E8 (f:=Ob.g) aS (A0 Ob.g_len) fun _ _ _=>?_)
    (refine Zq ?_;with_reducible repeat' first|intro _|apply aI)
    ·exact absurd ‹((([a,b]:List Ob).length:Nat):Int)=0› (by simp)
    ·exact fin false ((b99 ‹x.k=1›).trans (by rw [hlen,Bool.and_false];rfl))
   ·exact fin false ((b99 ‹x.k=1›).trans (by simp [*]))
  ·refine j4 hba (x,false,true,false) (r:=.c (.b (H9 x false true false))) rfl (.k (.a _ _ _ rfl (gq _ aS)) l5) .nil fun _ _ _ _=>?_
   (refine Zq ?_;with_reducible repeat' first|intro _|apply aI)
   ·(refine E8 (f:=Ob.g) aS (A0 Ob.g_len) fun _ _ _=>?_)
    (refine Zq ?_;with_reducible repeat' first|intro _|apply aI)
    ·exact absurd ‹((([a,b]:List Ob).length:Nat):Int)=0› (by simp)
    ·exact fin false ((b56 ‹x.k=2›).trans (by rw [hlen,Bool.and_false];rfl))
   ·exact fin false ((b56 ‹x.k=2›).trans (by simp [*]))
  ·refine j4 hba (x,false,false,true) (r:=.c (.b (H9 x false false true))) rfl (.k (.a _ _ _ rfl (gq _ aS)) l5) .nil fun _ _ _ _=>?_
   (refine Zq ?_;with_reducible repeat' first|intro _|apply aI)
   ·(refine E8 (f:=Ob.g) aS (A0 Ob.g_len) fun _ _ _=>?_)
    (refine Zq ?_;with_reducible repeat' first|intro _|apply aI)
    ·exact absurd ‹((([a,b]:List Ob).length:Nat):Int)=0› (by simp)
    ·exact fin false ((c0a ‹x.k=3›).trans (by rw [hlen,Bool.and_false];rfl))
   ·exact fin false ((c0a ‹x.k=3›).trans (by simp [*]))
  ·exact fin false (d94 (o:=x) aS aS aS aS)
 ·(refine Zq ?_;with_reducible repeat' first|intro _|apply aI)
  ·(refine E8 (f:=Ob.g) aS (A0 Ob.g_len) fun _ _ _=>?_)
   (refine Zq ?_;with_reducible repeat' first|intro _|apply aI)
   ·exact absurd ‹_› hne
   ·exact fin false (f8v hno ‹x.k=4›)
  ·refine j4 hba (x,true,false,false) (r:=.c (.b (H9 x true false false))) rfl (.k (.a _ _ _ rfl (gq _ aS)) l5) .nil fun _ _ _ _=>?_
   (refine Zq ?_;with_reducible repeat' first|intro _|apply aI)
   ·(refine E8 (f:=Ob.g) aS (A0 Ob.g_len) fun _ _ _=>?_)
    (refine Zq ?_;with_reducible repeat' first|intro _|apply aI)
    ·have hl0:decide (x.ps.obs.length=0)=true:=decide_eq_true oM
     refine j4 hlo ⟨(x.nu,x.de),hxs.1.1,hxs.1.2.1⟩ (r:=.c (.b (a2h x.nu x.de))) rfl l5 .nil fun _ _ _ _=>?_
     (refine Zq ?_;intros)
     rw [b99 ‹x.k=1›,hl0,‹H9 x true false false=true›,Bool.true_and,Bool.true_and]
     exact j9 ⟨.ret _ _ (.b _),.nil⟩
    ·exact fin false ((b99 ‹x.k=1›).trans (by rw [show decide (x.ps.obs.length=0)=false from decide_eq_false oM,Bool.and_false];rfl))
   ·exact fin false ((b99 ‹x.k=1›).trans (by simp [*]))
  ·refine j4 hba (x,false,true,false) (r:=.c (.b (H9 x false true false))) rfl (.k (.a _ _ _ rfl (gq _ aS)) l5) .nil fun _ _ _ _=>?_
   (refine Zq ?_;with_reducible repeat' first|intro _|apply aI)
   ·(refine E8 (f:=Ob.g) aS (A0 Ob.g_len) fun _ _ _=>?_)
    (refine Zq ?_;with_reducible repeat' first|intro _|apply aI)
    ·have hl0:decide (x.ps.obs.length=0)=true:=decide_eq_true oM
     refine j4 hsy ⟨x.s,hxs.1.2.2.1,hxs.1.2.2.2⟩ (r:=.c (.b (named x.s))) rfl (.k (.a _ _ _ rfl (show A6 (List.take 2 [G.s x.s.1,.s x.s.2,.s x.t,.l (x.ps.obs.map Ob.g)]) _ 0 from A6.take 2 aS)) .nil) .nil fun _ _ _ _=>?_
     (refine Zq ?_;intros)
     rw [b56 ‹x.k=2›,hl0,‹H9 x false true false=true›,Bool.true_and,Bool.true_and]
     exact j9 ⟨.ret _ _ (.b _),.nil⟩
    ·exact fin false ((b56 ‹x.k=2›).trans (by rw [show decide (x.ps.obs.length=0)=false from decide_eq_false oM,Bool.and_false];rfl))
   ·exact fin false ((b56 ‹x.k=2›).trans (by simp [*]))
  ·refine j4 hba (x,false,false,true) (r:=.c (.b (H9 x false false true))) rfl (.k (.a _ _ _ rfl (gq _ aS)) l5) .nil fun _ _ _ _=>?_
   (refine Zq ?_;with_reducible repeat' first|intro _|apply aI)
   ·(refine E8 (f:=Ob.g) aS (A0 Ob.g_len) fun _ _ _=>?_)
    (refine Zq ?_;with_reducible repeat' first|intro _|apply aI)
    ·have hl0:decide (x.ps.obs.length=0)=true:=decide_eq_true oM
     rw [c0a ‹x.k=3›,hl0,‹H9 x false false true=true›,Bool.true_and,Bool.true_and]
     exact J3 fun e=>⟨.ret _ _ (U6 (by subst e;rw [d3e,Bool.eq_iff_iff,decide_eq_true_iff,decide_eq_true_iff];omega)),.nil⟩
    ·exact fin false ((c0a ‹x.k=3›).trans (by rw [show decide (x.ps.obs.length=0)=false from decide_eq_false oM,Bool.and_false];rfl))
   ·exact fin false ((c0a ‹x.k=3›).trans (by simp [*]))
  ·exact fin false (d94 (o:=x) aS aS aS aS)
def Ob.vd (o:Ob):Bool:=decide (o.nd≤3000) && o.fm
theorem d1j (hst:k9 179 Y2):k9 49 (d45 Ob.sm fun o=>.c (.b o.vd)):=n9 (fun fn h=>f4e h) [(75,_),(81,_)] (.cons d1h (.cons (e0i hst) .nil)) fun U fn hfn ⟨o,hs⟩ vs bs hv hb=>by
 have hn:=hfn 75 _ rfl
 have hf:=hfn 81 _ rfl
 have hv:l7 [.a o.g] vs:=hv
 have hb:RBs [] bs:=hb
 show j5 U _ fun v bs'=>l8 (.ret (.c (.b o.vd))) v∧RBs [] bs'
 unfold r49
 (refine Zq ?_;intros)
 refine j4 hn ⟨o,trivial⟩ (r:=.c (.i .i64 (min o.nd 3001:Nat))) rfl l5 .nil fun _ _ _ _=>?_
 (refine Zq ?_;with_reducible repeat' first|intro _|apply aI)
 ·have h:o.nd≤3000:=oM
  refine j4 hf ⟨o,hs,h⟩ (r:=.c (.b o.fm)) rfl l5 .nil fun _ _ _ _=>?_
  (refine Zq ?_;intros)
  unfold Ob.vd
  rw [decide_eq_true h,Bool.true_and]
  exact j9 ⟨.ret _ _ (.b _),.nil⟩
 ·exact j9 ⟨.ret _ _ (N7 (by unfold Ob.vd;rw [decide_eq_false oM];rfl)),.nil⟩
theorem b0r:k9 88 (f65 fun s=>.a (O.sy s).g):=n9 (fun fn h=>f5v h) [] .nil fun U fn hfn s vs bs hv hb=>by
 have hv:l7 [.a [.s s.1,.s s.2]] vs:=hv
 have hb:RBs [] bs:=hb
 show j5 U _ fun v bs'=>l8 (.ret (.a (O.sy s).g)) v∧RBs [] bs'
 unfold r88
 (refine Zq ?_;intros)
 exact J3 fun e=>by
  subst e
  exact ⟨.ret _ _ (.ag _ _ (by (exact Zru))),.nil⟩
def syB (s:Sy):Ob:=⟨2,[],[],s,[],.nil⟩
theorem f69 (s:Sy):(syB s).vd=named s:=by
 have h1:(syB s).nd=1:=rfl
 unfold Ob.vd
 rw [h1,b56 rfl]
 simp [H9,syB,RT.obs]
theorem d1l (hst:k9 179 Y2):k9 84 (c4w fun s=>.c (.b (named s))):=n9 (fun fn h=>f5n h) [(88,_),(49,_)] (.cons b0r (.cons (d1j hst) .nil)) fun U fn hfn ⟨s,h1,h2⟩ vs bs hv hb=>by
 have hs:=hfn 88 _ rfl
 have ho:=hfn 49 _ rfl
 have hv:l7 [.a (sg s)] vs:=hv
 have hb:RBs [] bs:=hb
 show j5 U _ fun v bs'=>l8 (.ret (.c (.b (named s)))) v∧RBs [] bs'
 unfold r84
 (refine Zq ?_;intros)
 refine j4 hs s (r:=.a (syB s).g) rfl l5 .nil fun _ _ _ _=>?_
 (refine Zq ?_;intros)
 refine j4 ho ⟨syB s,⟨⟨by show 0 < 8000;omega,by show 0 < 8000;omega,h1,h2⟩,trivial⟩⟩ (r:=.c (.b (named s))) (by show r7.ret (.c (.b (syB s).vd))=_;rw [f69]) (.k (.a _ _ _ rfl aS) .nil) .nil fun _ _ _ _=>?_
 (refine Zq ?_;intros)
 exact j9 ⟨.ret _ _ (.b _),.nil⟩
theorem c0m (hst:k9 179 Y2):k9 137 (sp1 fun s=>.ret (.c (.b (t6 s)))):=n9 (fun fn h=>e8e h) [(84,_)] (.cons (d1l hst) .nil) fun U fn hfn ⟨s,hs⟩ vs bs hv hb=>by
 have hvd:=hfn 84 _ rfl
 have hv:l7 [.c (.s s)] vs:=hv
 have hb:RBs [] bs:=hb
 show j5 U _ fun v bs'=>l8 (.ret (.c (.b (t6 s)))) v∧RBs [] bs'
 unfold e2c
 have e:named (s,m8 1 120)=t6 s:=by
  unfold named
  rw [show decide (1≤(s,m8 1 120).2.length∧(s,m8 1 120).2.length≤40)=true from (by decide:decide (1≤(m8 1 120).length∧(m8 1 120).length≤40)=true),Bool.and_true]
 (refine Zq ?_;intros)
 refine j4 hvd ⟨(s,m8 1 120),hs,by show (m8 1 120).length < 90000;decide⟩ (r:=.c (.b (t6 s))) (by show r7.ret (.c (.b (named (s,m8 1 120))))=_;rw [e]) (.k (.ag _ _ l5) .nil) .nil fun _ _ _ _=>?_
 (refine Zq ?_;intros)
 exact j9 ⟨.ret _ _ (.b _),.nil⟩
theorem e4n:k9 130 (sp0 (.a B3.g)):=n9 (fun fn h=>e8a h) [(88,_)] (.cons b0r .nil) fun U fn hfn _ vs bs hv hb=>by
 have hs:=hfn 88 _ rfl
 have hv:l7 [] vs:=hv
 have hb:RBs [] bs:=hb
 show j5 U _ fun v bs'=>l8 (.ret (.a B3.g)) v∧RBs [] bs'
 unfold e18
 (refine Zq ?_;intros)
 refine j4 hs (m8 4 1886611820,m8 3 7104878) (r:=.a B3.g) rfl (.k (.ag _ _ l5) .nil) .nil fun _ _ _ _=>?_
 refine oR fun _ _=>?_
 (refine Zq ?_;intros)
 exact j9 ⟨.ret _ _ (.a _ _ _ rfl aS),.nil⟩
theorem f1b:k9 102 (c4v fun s=>.a (O.tx s).g):=n9 (fun fn h=>e7q h) [] .nil fun U fn hfn s vs bs hv hb=>by
 have hv:l7 [.c (.s s)] vs:=hv
 have hb:RBs [] bs:=hb
 show j5 U _ fun v bs'=>l8 (.ret (.a (O.tx s).g)) v∧RBs [] bs'
 unfold e1m
 (refine Zq ?_;intros)
 exact j9 ⟨.ret _ _ (.ag _ _ l5),.nil⟩
theorem d6v:k9 131 (f62 fun a d=>.a (O.co a d).g):=n9 (fun fn h=>e8b h) [] .nil fun U fn hfn ⟨a,d⟩ vs bs hv hb=>by
 have hv:l7 [.a a.g,.a d.g] vs:=hv
 have hb:RBs [] bs:=hb
 show j5 U _ fun v bs'=>l8 (.ret (.a (O.co a d).g)) v∧RBs [] bs'
 unfold e19
 refine a26 hv fun v l hv1 hv2=>?_
 refine M5 hv1 a.g_len fun qa ha=>?_
 refine a26 hv2 fun v l hv3 hv4=>?_
 refine M5 hv3 d.g_len fun qd hd=>?_
 refine b4k hv4 (a7r hb ?_)
 refine a28 ha fun xa ha=>?_
 refine a28 hd fun xd hd=>?_
 refine j9 ⟨.ret _ _ (.ag _ _ ?_),.nil⟩
 refine .k (.i _ _) (.k (.s _ _ _ rfl rfl) (.k (.s _ _ _ rfl rfl) (.k (.s _ _ _ rfl rfl) (.k (.s _ _ _ rfl rfl) (.k (.s _ _ _ rfl rfl) (.k (.cl _ _ _ _ _ rfl ?_) .nil))))))
 have r1:=a1h (by rw [O.g_len];decide) ha
 have r2:=a1h (by rw [O.g_len];decide) hd
 exact .cons _ _ _ _ _ a.g_len r1.1 r1.2 (.cons _ _ _ _ _ d.g_len r2.1 r2.2 (.nil _ _ _))
theorem f0y:k9 104 (f63 fun l=>.a (F1 l).g):=n9 (fun fn h=>e7s h) [(130,_),(131,_)] (.cons e4n (.cons d6v .nil)) fun U fn hfn ⟨l,hl⟩ vs bs hv hb=>by
 have hn:=hfn 130 _ rfl
 have hc:=hfn 131 _ rfl
 have hl:l.length < 90000:=hl
 have hv:l7 [.sl 7 (l.map O.g)] vs:=hv
 have hb:RBs [] bs:=hb
 show j5 U _ fun v bs'=>l8 (.ret (.a (F1 l).g)) v∧RBs [] bs'
 unfold e1o
 (refine Zz ?_;intros)
 refine j4 hn () (r:=.a B3.g) rfl .nil .nil fun _ _ _ _=>?_
 (refine Zz ?_;intros)
 refine H2 (fun (m:Nat) vs bs=>∃ (t:j8 Q) (off:Nat) (i:Int) (q:Q),vs=[.slice t 7 off l.length .no,.ptr 0 0,.ptr 1 0,.int .i64 i]∧bs=[.cells [.int .i64 0,.str 0 0,.str 0 0,.str 0 0,.str 0 0,.str 0 0,.slice .nil 0 0 0 .exact],.opa q 7]∧i=m - 1∧m≤l.length∧p9 7 (l.map O.g) t off∧A6 (F1 (l.drop m)).g q 0) (fun m=>m) l.length
  ⟨_,_,_,_,rfl,rfl,rfl,oM,aS,by rw [List.drop_length];assumption⟩ (by simp only [C4];omega) ?_
 rintro self m _ _ ⟨t,off,i,q,rfl,rfl,rfl,hm,ht,hq⟩ ih
 (refine Zz ?_;with_reducible repeat' first|intro _|apply aI)
 ·refine c1e (y:=l[m - 1]) aS (by rw [show ((m:Int) - 1).toNat=m - 1 by omega];exact List.getElem?_eq_getElem oM) fun _ _=>?_
  (refine Zz ?_;intros)
  refine j4 hc (l[m - 1],F1 (l.drop m)) (r:=.a (O.co l[m - 1] (F1 (l.drop m))).g) rfl l5 .nil fun _ _ _ _=>?_
  (refine Zz ?_;intros)
  refine ih (m - 1) _ _ ⟨_,_,_,_,rfl,rfl,oM,oM,ht,?_⟩ oM
  rw [List.drop_eq_getElem_cons (by omega:m - 1 < l.length),show m - 1+1=m by omega]
  assumption
 ·have em:m=0:=oM
  subst em
  rw [List.drop_zero] at *
  exact j9 ⟨.ret _ _ l5,.nil⟩
theorem d3z (hst:k9 179 Y2):k9 101 (e3d fun a b=>.ret (.a (a30 (qn (j0 a) (j0 b))).g)):=n9 (fun fn h=>e7p h) [(129,_)] (.cons (b58 hst) .nil) fun U fn hfn ⟨(a,b),ha,hbl⟩ vs bs hv hb=>by
 have hr:=hfn 129 _ rfl
 have hv:l7 [.c (.s a),.c (.s b)] vs:=hv
 have hb:RBs [] bs:=hb
 show j5 U _ fun v bs'=>l8 (.ret (.a (a30 (qn (j0 a) (j0 b))).g)) v∧RBs [] bs'
 unfold e1l
 (refine Zq ?_;intros)
 refine j4 hr ⟨(a,b),ha,hbl⟩ (r:=.t [.c (.s (j3 (qn (j0 a) (j0 b)).1)),.c (.s (i7 (qn (j0 a) (j0 b)).2))]) (by show r7.ret (.t [.c (.s (u4 a b).1),.c (.s (u4 a b).2)])=_;rw [U4]) l5 .nil fun _ _ _ _=>?_
 (refine Zq ?_;intros)
 exact j9 ⟨.ret _ _ (.ag _ _ l5),.nil⟩
theorem d1f:k9 56 (spO fun a=>.c (.b (O.eqb a B3))):=n9 (fun fn h=>f4o h) [] .nil fun U fn hfn (a:O) vs bs hv hb=>by
 have hv:l7 [.a a.g] vs:=hv
 have hb:RBs [] bs:=hb
 show j5 U _ fun v bs'=>l8 (.ret (.c (.b (O.eqb a B3)))) v∧RBs [] bs'
 unfold r56
 rw [a.g_eq] at hv
 have hsy:a.k=2→a=.sy a.sym:=by
  intro h
  cases a with
  | sy s=>rfl
  | num=>exact absurd h (by show ¬(1:Int)=2;decide)
  | tx=>exact absurd h (by show ¬(3:Int)=2;decide)
  | co=>exact absurd h (by show ¬(4:Int)=2;decide)
  | no=>exact absurd h (by show ¬(0:Int)=2;decide)
 (refine Zq ?_;with_reducible repeat' first|intro _|apply aI)
 ·have e:=hsy ‹_›
  refine fun e2=>?_
  subst e2
  refine ⟨_,_,rfl,.ret _ _ (U6 ?_),.nil⟩
  rw [Bool.eq_iff_iff,O.eqb_t,b30,b30,b5z,b5z]
  simp only [Bool.and_true,Bool.and_eq_true,decide_eq_true_iff]
  rw [e]
  constructor
  ·intro h;injection h with h;rw [h];exact ⟨rfl,rfl⟩
  ·rintro ⟨h1,h2⟩;exact congrArg O.sy (Prod.ext h1 h2)
 ·exact j9 ⟨.ret _ _ (N7 (O.eqb_f.2 fun e=>by subst e;exact absurd rfl ‹¬_›)),.nil⟩
theorem f0u:k9 96 (spO fun a=>.c (.b a.isCo)):=n9 (fun fn h=>f53 h) [] .nil fun U fn hfn (a:O) vs bs hv hb=>by
 have hv:l7 [.a a.g] vs:=hv
 have hb:RBs [] bs:=hb
 show j5 U _ fun v bs'=>l8 (.ret (.c (.b a.isCo))) v∧RBs [] bs'
 unfold r96
 rw [a.g_eq] at hv
 (refine Zq ?_;with_reducible repeat' first|intro _|apply aI)
 ·refine J3 fun e=>?_
  subst e
  refine ⟨.ret _ _ (U6 ?_),.nil⟩
  rw [a62]
  have hk:=‹a.k=4›
  cases a <;> simp [O.k] at hk
  rfl
 ·exact j9 ⟨.ret _ _ (N7 (by have hk:=‹¬a.k=4›;cases a <;> simp [O.k] at hk <;> rfl)),.nil⟩
theorem g1l:k9 87 { ι:=O,A:=fun a=>[.a a.g,.a B0.g],B:=fun _=>[],R:=fun a=>.ret (.c (.b (O.eqb a B0))),B':=fun _=>[],inj:=fun i j vs bs h k _ _=>(by rw [(c43 h k).1];exact ⟨rfl,rfl⟩) }:=n9 (fun fn h=>f5t h) [] .nil fun U fn hfn (a:O) vs bs hv hb=>by
 have hv:l7 [.a a.g,.a B0.g] vs:=hv
 have hb:RBs [] bs:=hb
 show j5 U _ fun v bs'=>l8 (.ret (.c (.b (O.eqb a B0)))) v∧RBs [] bs'
 unfold r87
 rw [a.g_eq,B0.g_eq] at hv
 (refine Zq ?_;intros)
 refine H2 (fun (_:Unit) vs bs=>vs=[.ptr 0 0,.ptr 1 0]∧RBs [a.g,B0.g] bs) (fun _=>0) () ⟨rfl,by rw [a.g_eq,B0.g_eq];exact .k (.opa _ _ _ rfl aS) (.k (.opa _ _ _ rfl aS) .nil)⟩ (by simp only [C4];omega) ?_
 rintro self _ _ _ ⟨rfl,hb⟩ _
 rw [a.g_eq,B0.g_eq] at hb
 (refine Zq ?_;with_reducible repeat' first|intro _|apply aI)
 ·have e5:a.ps=[]:=by
   have h:=‹((a.ps.length:Nat):Int)=0›
   exact List.length_eq_zero_iff.1 oM
  have e4:=‹a.sym.1=B0.sym.1∧_›
  have e:a=B0:=O.ext ‹_› ‹_› ‹_› (Prod.ext e4.1 e4.2.1) ‹_› e5
  exact j9 ⟨.ret _ _ (N7 (O.eqb_t.2 e)),.nil⟩
 ·exfalso
  have h1:=‹((a.ps.length:Nat):Int)=((B0.ps.length:Nat):Int)›
  have h2:=‹¬((a.ps.length:Nat):Int)=0›
  exact h2 h1
 all_goals exact j9 ⟨.ret _ _ (N7 (O.eqb_f.2 fun e=>by subst e;first | exact absurd rfl ‹¬_› | exact absurd (⟨rfl,rfl,trivial⟩:B0.sym.1=B0.sym.1∧B0.sym.2=B0.sym.2∧True) ‹¬_›)),.nil⟩
def a0q (o:O):GV:=match w9 o with
 | some l=>.t [.sl 7 (l.map O.g),.c (.b true)]
 | none=>.t [.sl 7 [],.c (.b false)]
def d46 (g:O→GV):Sp where
 ι:={ o:O // o.size < 90000 }
 A o:=[.a o.1.g]
 B _:=[]
 R o:=.ret (g o.1)
 B' _:=[]
 inj i j vs bs h k _ _:=by rw [c42 h k];exact ⟨rfl,rfl⟩
theorem d3s {o:O} (h:o.isCo=false) (hn:O.eqb o B3=false):w9 o=none:=by
 cases o with
 | sy s=>simp only [w9];rw [if_neg];intro e;subst e;exact O.eqb_f.1 hn rfl
 | co=>cases h
 | _=>rfl
theorem d6y:k9 69 (d46 a0q):=n9 (fun fn h=>f4y h) [(96,_),(56,_)] (.cons f0u (.cons d1f .nil)) fun U fn hfn ⟨o,hz⟩ vs bs hv hb=>by
 have hc:=hfn 96 _ rfl
 have hn:=hfn 56 _ rfl
 have hz:o.size < 90000:=hz
 have hv:l7 [.a o.g] vs:=hv
 have hb:RBs [] bs:=hb
 show j5 U _ fun v bs'=>l8 (.ret (a0q o)) v∧RBs [] bs'
 unfold r69
 refine a26 hv fun _ _ hv1 hv2=>?_
 refine M5 hv1 o.g_len fun q hq=>?_
 (refine Zq ?_;intros)
 refine H2 (fun (p:O × List O) vs bs=>∃ (x:O) (acc:List O) (v:V) (q:Q),p=(x,acc)∧vs=[.ptr 0 0,v]∧bs=[.opa q 7,.tok acc.length 7]∧A6 x.g q 0∧a1e 1 7 (acc.map O.g) v∧w9 o=(w9 x).map (acc ++ ·)∧acc.length+x.size≤o.size) (fun p=>p.1.size) (o,[]) ⟨o,[],_,_,rfl,rfl,rfl,aS,.b rfl,by simp,by simp⟩ (show o.size < C4 by simp only [C4];omega) ?_
 rintro self _ _ _ ⟨x,acc,v,q,rfl,rfl,rfl,hq,htok,hit,hsz⟩ ih
 have hpos:=x.size_pos
 (refine Zq ?_;intros)
 refine j4 hc x (r:=.c (.b x.isCo)) rfl (.k (oV aS) .nil) .nil fun _ _ _ _=>?_
 (refine Zq ?_;with_reducible repeat' first|intro _|apply aI)
 ·cases x with
  | co a d =>
   have hq:A6 [.i .i64 4,.s [],.s [],.s [],.s [],.s [],.l ([a,d].map O.g)] q 0:=hq
   have hs:(O.co a d).size=1+a.size+d.size:=rfl
   rw [hs] at hsz
   have hl2:([a,d]:List O).length=2:=rfl
   (refine Zq ?_;intros)
   refine a2b (xs:=acc.map O.g) (n:=7) (off:=0) aS (fun _=>a1h (by rw [O.g_len];decide) aS) (O.g_len _) (by simp) (by simp;omega) fun _ _=>?_
   (refine Zq ?_;intros)
   refine ih (d,acc ++ [a]) _ _ ⟨d,acc ++ [a],_,_,rfl,rfl,by rw [List.length_append];rfl,aS,.a _ _ (by simp) (by rw [List.map_append];assumption),?_,by simp;omega⟩ (by show d.size < 1+a.size+d.size;omega)
   rw [hit]
   simp only [w9,Option.map_map]
   congr 1
   funext l
   simp
  | _=>exact absurd ‹_› (by simp [O.isCo])
 ·refine j4 hn x (r:=.c (.b (O.eqb x B3))) rfl (.k (oV aS) .nil) .nil fun _ _ _ _=>?_
  (refine Zq ?_;with_reducible repeat' first|intro _|apply aI)
  ·have e:x=B3:=O.eqb_t.1 ‹_›
   subst e
   have e2:w9 o=some acc:=by rw [hit];simp [w9,B3]
   unfold a0q
   rw [e2]
   exact j9 ⟨.ret _ _ (.t _ _ (.k (.sl _ _ _ _ _ (by simp) aS) (.k (.kn _) .nil))),.nil⟩
  ·have e2:w9 o=none:=by
    rw [hit,d3s (by simpa using ‹¬x.isCo=true›) (by simpa using ‹¬O.eqb x B3=true›)];rfl
   unfold a0q
   rw [e2]
   exact j9 ⟨.ret _ _ (.t _ _ (.k (.sl0 _ _ _) (.k (.kn _) .nil))),.nil⟩
end
end Go.Proofs.YtdldcfllnohkeaaGreatDoor
