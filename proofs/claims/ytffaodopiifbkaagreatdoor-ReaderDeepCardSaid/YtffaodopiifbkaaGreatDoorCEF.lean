/- The program's objects: formed, Valid; valid symbols. -/
import Derived.Test.YtffaodopiifbkaaGreatDoorCEE
import Derived.Test.YtffaodopiifbkaaGreatDoorCV
set_option linter.all false
namespace Go.Proofs.YtffaodopiifbkaaGreatDoor
open Go.Abs LQ
set_option maxRecDepth 100000
set_option maxHeartbeats 4000000
noncomputable section
def fmB (k:Int) (nu de:j0) (s:Sy) (t:j0) (ps:RT) (l:List Bool):Bool :=
 if k=4 then (match l with
  | [a,b]=>H9 ⟨k,nu,de,s,t,ps⟩ false false false && a && b
  | _=>false)
 else if k=1 then H9 ⟨k,nu,de,s,t,ps⟩ true false false && decide (ps.obs.length=0) && a5d nu de
 else if k=2 then H9 ⟨k,nu,de,s,t,ps⟩ false true false && decide (ps.obs.length=0) && named s
 else if k=3 then H9 ⟨k,nu,de,s,t,ps⟩ false false true && decide (ps.obs.length=0) && decide (t.length≤200)
 else false
def RT.fm:RT→List Bool
 | .nil=>[]
 | .node k nu de s t ps r=>fmB k nu de s t ps ps.fm :: r.fm
def Ob.fm (o:Ob):Bool:=fmB o.k o.nu o.de o.s o.t o.ps o.ps.fm
theorem RT.fm_eq:∀ p:RT,p.fm=p.obs.map Ob.fm
 | .nil=>rfl
 | .node _ _ _ _ _ _ r=>by simp only [RT.fm,RT.obs,List.map_cons,r.fm_eq];rfl
theorem c24 {o x y:Ob} (h:o.ps.obs=[x,y]) (hk:o.k=4):o.fm=(H9 o false false false && x.fm && y.fm):=by
 unfold Ob.fm fmB
 rw [if_pos hk,o.ps.fm_eq,h];rfl
theorem f1o {o:Ob} (h:∀ x y,o.ps.obs ≠ [x,y]) (hk:o.k=4):o.fm=false:=by
 unfold Ob.fm fmB
 rw [if_pos hk,o.ps.fm_eq]
 rcases e:o.ps.obs with _ | ⟨x,_ | ⟨y,_ | ⟨z,r⟩⟩⟩
 ·rfl
 ·rfl
 ·exact absurd e (h x y)
 ·rfl
theorem c1s {o:Ob} (hk:o.k=1):o.fm=(H9 o true false false && decide (o.ps.obs.length=0) && a5d o.nu o.de):=by
 unfold Ob.fm fmB;rw [if_neg oM,if_pos hk]
theorem b71 {o:Ob} (hk:o.k=2):o.fm=(H9 o false true false && decide (o.ps.obs.length=0) && named o.s):=by
 unfold Ob.fm fmB;rw [if_neg oM,if_neg oM,if_pos hk]
theorem c27 {o:Ob} (hk:o.k=3):o.fm=(H9 o false false true && decide (o.ps.obs.length=0) && decide (o.t.length≤200)):=by
 unfold Ob.fm fmB;rw [if_neg oM,if_neg oM,if_neg oM,if_pos hk]
theorem e8c {o:Ob} (h1:¬o.k=4) (h2:¬o.k=1) (h3:¬o.k=2) (h4:¬o.k=3):o.fm=false:=by
 unfold Ob.fm fmB;rw [if_neg h1,if_neg h2,if_neg h3,if_neg h4]
theorem e8x {o x y:Ob} (h:o.ps.obs=[x,y]):o.nd=1+x.nd+y.nd:=by rw [o.nd_eq,h]
theorem e4k {o x y:Ob} (h:o.ps.obs=[x,y]) (hs:o.sm):x.sm∧y.sm:=⟨RT.obs_sm hs.2 (by rw [h];simp),RT.obs_sm hs.2 (by rw [h];simp)⟩
def okF (o:Ob):Prop:=o.sm∧o.nd≤3000
theorem d73 (hst:l6 203 T6):l6 141 (c8y okF fun o=>.c (.b o.fm)):=a9t (fun p=>p.1.nd) fun n ih=>o7 (fun fn h=>e04 h) [(141,(c8y okF fun o=>.c (.b o.fm)).lt _ n),(168,_),(169,_),(170,_)] (.cons ih (.cons f11 (.cons (d92 hst) (.cons f1w .nil)))) fun U fn hfn ⟨⟨o,hs,hnd⟩,hn⟩ vs bs hv hb=>by
 have hf:=hfn 141 _ rfl
 have hba:=hfn 168 _ rfl
 have hlo:=hfn 169 _ rfl
 have hsy:=hfn 170 _ rfl
 have hv:l8 [.a o.g] vs:=hv
 have hb:RBs [] bs:=hb
 have hn:o.nd < n+1:=hn
 show j3 U _ fun v bs'=>l7 (.ret (.c (.b o.fm))) v∧RBs [] bs'
 unfold d43
 (refine Zq ?_;intros)
 refine C7 (fun (x:Ob) vs bs=>vs=[.ptr 0 0]∧RBs [x.g] bs∧x.fm=o.fm∧x.sm∧x.nd≤o.nd) (fun x=>x.nd) o ⟨rfl,RB.bx aS rfl,rfl,hs,Nat.le_refl _⟩ (show o.nd < x8 by simp only [x8];omega) ?_
 rintro self x _ _ ⟨rfl,hb,he,hxs,hxn⟩ ih2
 rw [← he]
 rw [x.g_eq] at hb
 have gq:∀ q,x4 [G.i .i64 x.k,.s x.nu,.s x.de,.s x.s.1,.s x.s.2,.s x.t,.l (x.ps.obs.map Ob.g)] q 0→x4 x.g q 0:=fun q h=>by rw [x.g_eq];exact h
 have fin:∀ (b:Bool),x.fm=b→j3 U (some (.ret (.known b),[])) fun v bs'=>l7 (.ret (.c (.b x.fm))) v∧RBs [] bs':=fun b h=>k9 ⟨.ret _ _ (I8 h),.nil⟩
 rcases c7a x.ps with ⟨a,b,e⟩ | ⟨hne,hno⟩
 ·have hab:=e4k e hxs
  have hnd2:=e8x e
  have hp1:=a.nd_pos
  have hp2:=b.nd_pos
  rw [e] at hb gq
  have hlen:decide (x.ps.obs.length=0)=false:=by rw [e];rfl
  (refine Zq ?_;with_reducible repeat' first|intro _|apply aI)
  ·(refine D1 (f:=Ob.g) aS (w8 Ob.g_len) fun _ _ _=>?_)
   (refine Zq ?_;with_reducible repeat' first|intro _|apply aI)
   ·refine i6 hba (x,false,false,false) (r:=.c (.b (H9 x false false false))) rfl (.k (.a _ _ _ rfl (gq _ aS)) j7) .nil fun _ _ _ _=>?_
    (refine Zq ?_;with_reducible repeat' first|intro _|apply aI)
    ·(refine D1 (f:=Ob.g) aS (w8 Ob.g_len) fun _ _ _=>?_)
     (refine Zq ?_;intros)
     refine i6 hf ⟨⟨a,hab.1,oM⟩,show a.nd < n by omega⟩ (r:=.c (.b a.fm)) rfl j7 .nil fun _ _ _ _=>?_
     (refine Zq ?_;with_reducible repeat' first|intro _|apply aI)
     ·(refine D1 (f:=Ob.g) aS (w8 Ob.g_len) fun _ _ _=>?_)
      (refine Zq ?_;intros)
      rw [he]
      exact ih2 b _ _ ⟨rfl,RB.bx aS rfl,by rw [← he,c24 e ‹x.k=4›];simp [*],hab.2,oM⟩ oM
     ·exact fin false ((c24 e ‹x.k=4›).trans (by simp [*]))
    ·exact fin false ((c24 e ‹x.k=4›).trans (by simp [*]))
   ·exact absurd rfl ‹¬_›
  ·refine i6 hba (x,true,false,false) (r:=.c (.b (H9 x true false false))) rfl (.k (.a _ _ _ rfl (gq _ aS)) j7) .nil fun _ _ _ _=>?_
   (refine Zq ?_;with_reducible repeat' first|intro _|apply aI)
   ·(refine D1 (f:=Ob.g) aS (w8 Ob.g_len) fun _ _ _=>?_)
    (refine Zq ?_;with_reducible repeat' first|intro _|apply aI)
    ·exact absurd ‹((([a,b]:List Ob).length:Nat):Int)=0› (by simp)
    ·exact fin false ((c1s ‹x.k=1›).trans (by rw [hlen,Bool.and_false];rfl))
   ·exact fin false ((c1s ‹x.k=1›).trans (by simp [*]))
  ·refine i6 hba (x,false,true,false) (r:=.c (.b (H9 x false true false))) rfl (.k (.a _ _ _ rfl (gq _ aS)) j7) .nil fun _ _ _ _=>?_
   (refine Zq ?_;with_reducible repeat' first|intro _|apply aI)
   ·(refine D1 (f:=Ob.g) aS (w8 Ob.g_len) fun _ _ _=>?_)
    (refine Zq ?_;with_reducible repeat' first|intro _|apply aI)
    ·exact absurd ‹((([a,b]:List Ob).length:Nat):Int)=0› (by simp)
    ·exact fin false ((b71 ‹x.k=2›).trans (by rw [hlen,Bool.and_false];rfl))
   ·exact fin false ((b71 ‹x.k=2›).trans (by simp [*]))
  ·refine i6 hba (x,false,false,true) (r:=.c (.b (H9 x false false true))) rfl (.k (.a _ _ _ rfl (gq _ aS)) j7) .nil fun _ _ _ _=>?_
   (refine Zq ?_;with_reducible repeat' first|intro _|apply aI)
   ·(refine D1 (f:=Ob.g) aS (w8 Ob.g_len) fun _ _ _=>?_)
    (refine Zq ?_;with_reducible repeat' first|intro _|apply aI)
    ·exact absurd ‹((([a,b]:List Ob).length:Nat):Int)=0› (by simp)
    ·exact fin false ((c27 ‹x.k=3›).trans (by rw [hlen,Bool.and_false];rfl))
   ·exact fin false ((c27 ‹x.k=3›).trans (by simp [*]))
  ·exact fin false (e8c (o:=x) aS aS aS aS)
 ·(refine Zq ?_;with_reducible repeat' first|intro _|apply aI)
  ·(refine D1 (f:=Ob.g) aS (w8 Ob.g_len) fun _ _ _=>?_)
   (refine Zq ?_;with_reducible repeat' first|intro _|apply aI)
   ·exact absurd ‹_› hne
   ·exact fin false (f1o hno ‹x.k=4›)
  ·refine i6 hba (x,true,false,false) (r:=.c (.b (H9 x true false false))) rfl (.k (.a _ _ _ rfl (gq _ aS)) j7) .nil fun _ _ _ _=>?_
   (refine Zq ?_;with_reducible repeat' first|intro _|apply aI)
   ·(refine D1 (f:=Ob.g) aS (w8 Ob.g_len) fun _ _ _=>?_)
    (refine Zq ?_;with_reducible repeat' first|intro _|apply aI)
    ·have hl0:decide (x.ps.obs.length=0)=true:=decide_eq_true oM
     refine i6 hlo ⟨(x.nu,x.de),hxs.1.1,hxs.1.2.1⟩ (r:=.c (.b (a5d x.nu x.de))) rfl j7 .nil fun _ _ _ _=>?_
     (refine Zq ?_;intros)
     rw [c1s ‹x.k=1›,hl0,‹H9 x true false false=true›,Bool.true_and,Bool.true_and]
     exact k9 ⟨.ret _ _ (.b _),.nil⟩
    ·exact fin false ((c1s ‹x.k=1›).trans (by rw [show decide (x.ps.obs.length=0)=false from decide_eq_false oM,Bool.and_false];rfl))
   ·exact fin false ((c1s ‹x.k=1›).trans (by simp [*]))
  ·refine i6 hba (x,false,true,false) (r:=.c (.b (H9 x false true false))) rfl (.k (.a _ _ _ rfl (gq _ aS)) j7) .nil fun _ _ _ _=>?_
   (refine Zq ?_;with_reducible repeat' first|intro _|apply aI)
   ·(refine D1 (f:=Ob.g) aS (w8 Ob.g_len) fun _ _ _=>?_)
    (refine Zq ?_;with_reducible repeat' first|intro _|apply aI)
    ·have hl0:decide (x.ps.obs.length=0)=true:=decide_eq_true oM
     refine i6 hsy ⟨x.s,hxs.1.2.2.1,hxs.1.2.2.2⟩ (r:=.c (.b (named x.s))) rfl (.k (.a _ _ _ rfl (show x4 (List.take 2 [G.s x.s.1,.s x.s.2,.s x.t,.l (x.ps.obs.map Ob.g)]) _ 0 from x4.take 2 aS)) .nil) .nil fun _ _ _ _=>?_
     (refine Zq ?_;intros)
     rw [b71 ‹x.k=2›,hl0,‹H9 x false true false=true›,Bool.true_and,Bool.true_and]
     exact k9 ⟨.ret _ _ (.b _),.nil⟩
    ·exact fin false ((b71 ‹x.k=2›).trans (by rw [show decide (x.ps.obs.length=0)=false from decide_eq_false oM,Bool.and_false];rfl))
   ·exact fin false ((b71 ‹x.k=2›).trans (by simp [*]))
  ·refine i6 hba (x,false,false,true) (r:=.c (.b (H9 x false false true))) rfl (.k (.a _ _ _ rfl (gq _ aS)) j7) .nil fun _ _ _ _=>?_
   (refine Zq ?_;with_reducible repeat' first|intro _|apply aI)
   ·(refine D1 (f:=Ob.g) aS (w8 Ob.g_len) fun _ _ _=>?_)
    (refine Zq ?_;with_reducible repeat' first|intro _|apply aI)
    ·have hl0:decide (x.ps.obs.length=0)=true:=decide_eq_true oM
     rw [c27 ‹x.k=3›,hl0,‹H9 x false false true=true›,Bool.true_and,Bool.true_and]
     exact I7 fun e=>⟨.ret _ _ (J3 (by subst e;rw [d8g,Bool.eq_iff_iff,decide_eq_true_iff,decide_eq_true_iff];omega)),.nil⟩
    ·exact fin false ((c27 ‹x.k=3›).trans (by rw [show decide (x.ps.obs.length=0)=false from decide_eq_false oM,Bool.and_false];rfl))
   ·exact fin false ((c27 ‹x.k=3›).trans (by simp [*]))
  ·exact fin false (e8c (o:=x) aS aS aS aS)
def Ob.vd (o:Ob):Bool:=decide (o.nd≤3000) && o.fm
theorem e1f (hst:l6 203 T6):l6 104 (c8y Ob.sm fun o=>.c (.b o.vd)):=o7 (fun fn h=>e23 h) [(89,_),(141,_)] (.cons c6u (.cons (d73 hst) .nil)) fun U fn hfn ⟨o,hs⟩ vs bs hv hb=>by
 have hn:=hfn 89 _ rfl
 have hf:=hfn 141 _ rfl
 have hv:l8 [.a o.g] vs:=hv
 have hb:RBs [] bs:=hb
 show j3 U _ fun v bs'=>l7 (.ret (.c (.b o.vd))) v∧RBs [] bs'
 unfold d7y
 (refine Zq ?_;intros)
 refine i6 hn ⟨o,trivial⟩ (r:=.c (.i .i64 (min o.nd 3001:Nat))) rfl j7 .nil fun _ _ _ _=>?_
 (refine Zq ?_;with_reducible repeat' first|intro _|apply aI)
 ·have h:o.nd≤3000:=oM
  refine i6 hf ⟨o,hs,h⟩ (r:=.c (.b o.fm)) rfl j7 .nil fun _ _ _ _=>?_
  (refine Zq ?_;intros)
  unfold Ob.vd
  rw [decide_eq_true h,Bool.true_and]
  exact k9 ⟨.ret _ _ (.b _),.nil⟩
 ·exact k9 ⟨.ret _ _ (I8 (by unfold Ob.vd;rw [decide_eq_false oM];rfl)),.nil⟩
theorem b4v:l6 105 (e80 fun s=>.a (O.sy s).g):=o7 (fun fn h=>d94 h) [] .nil fun U fn hfn s vs bs hv hb=>by
 have hv:l8 [.a [.s s.1,.s s.2]] vs:=hv
 have hb:RBs [] bs:=hb
 show j3 U _ fun v bs'=>l7 (.ret (.a (O.sy s).g)) v∧RBs [] bs'
 unfold d6p
 (refine Zq ?_;intros)
 exact I7 fun e=>by
  subst e
  exact ⟨.ret _ _ (.ag _ _ (by (exact W8))),.nil⟩
def syB (s:Sy):Ob:=⟨2,[],[],s,[],.nil⟩
theorem e8f (s:Sy):(syB s).vd=named s:=by
 have h1:(syB s).nd=1:=rfl
 unfold Ob.vd
 rw [h1,b71 rfl]
 simp [H9,syB,RT.obs]
theorem d99 (hst:l6 203 T6):l6 59 (c1c fun s=>.c (.b (named s))):=o7 (fun fn h=>e7e h) [(105,_),(104,_)] (.cons b4v (.cons (e1f hst) .nil)) fun U fn hfn ⟨s,h1,h2⟩ vs bs hv hb=>by
 have hs:=hfn 105 _ rfl
 have ho:=hfn 104 _ rfl
 have hv:l8 [.a (sg s)] vs:=hv
 have hb:RBs [] bs:=hb
 show j3 U _ fun v bs'=>l7 (.ret (.c (.b (named s)))) v∧RBs [] bs'
 unfold r59
 (refine Zq ?_;intros)
 refine i6 hs s (r:=.a (syB s).g) rfl j7 .nil fun _ _ _ _=>?_
 (refine Zq ?_;intros)
 refine i6 ho ⟨syB s,⟨⟨by show 0 < 8000;omega,by show 0 < 8000;omega,h1,h2⟩,trivial⟩⟩ (r:=.c (.b (named s))) (by show t7.ret (.c (.b (syB s).vd))=_;rw [e8f]) (.k (.a _ _ _ rfl aS) .nil) .nil fun _ _ _ _=>?_
 (refine Zq ?_;intros)
 exact k9 ⟨.ret _ _ (.b _),.nil⟩
theorem b7b (hst:l6 203 T6):l6 163 (sp1 fun s=>.ret (.c (.b (u5 s)))):=o7 (fun fn h=>e2r h) [(59,_)] (.cons (d99 hst) .nil) fun U fn hfn ⟨s,hs⟩ vs bs hv hb=>by
 have hvd:=hfn 59 _ rfl
 have hv:l8 [.c (.s s)] vs:=hv
 have hb:RBs [] bs:=hb
 show j3 U _ fun v bs'=>l7 (.ret (.c (.b (u5 s)))) v∧RBs [] bs'
 unfold d7o
 have e:named (s,q8 1 120)=u5 s:=by
  unfold named
  rw [show decide (1≤(s,q8 1 120).2.length∧(s,q8 1 120).2.length≤40)=true from (by decide:decide (1≤(q8 1 120).length∧(q8 1 120).length≤40)=true),Bool.and_true]
 (refine Zq ?_;intros)
 refine i6 hvd ⟨(s,q8 1 120),hs,by show (q8 1 120).length < 90000;decide⟩ (r:=.c (.b (u5 s))) (by show t7.ret (.c (.b (named (s,q8 1 120))))=_;rw [e]) (.k (.ag _ _ j7) .nil) .nil fun _ _ _ _=>?_
 (refine Zq ?_;intros)
 exact k9 ⟨.ret _ _ (.b _),.nil⟩
theorem d87:l6 156 (sp0 (.a R3.g)):=o7 (fun fn h=>e2y h) [(105,_)] (.cons b4v .nil) fun U fn hfn _ vs bs hv hb=>by
 have hs:=hfn 105 _ rfl
 have hv:l8 [] vs:=hv
 have hb:RBs [] bs:=hb
 show j3 U _ fun v bs'=>l7 (.ret (.a R3.g)) v∧RBs [] bs'
 unfold d79
 (refine Zq ?_;intros)
 refine i6 hs (q8 4 1886611820,q8 3 7104878) (r:=.a R3.g) rfl (.k (.ag _ _ j7) .nil) .nil fun _ _ _ _=>?_
 refine oR fun _ _=>?_
 (refine Zq ?_;intros)
 exact k9 ⟨.ret _ _ (.a _ _ _ rfl aS),.nil⟩
theorem e94:l6 129 (c9m fun s=>.a (O.tx s).g):=o7 (fun fn h=>e1s h) [] .nil fun U fn hfn s vs bs hv hb=>by
 have hv:l8 [.c (.s s)] vs:=hv
 have hb:RBs [] bs:=hb
 show j3 U _ fun v bs'=>l7 (.ret (.a (O.tx s).g)) v∧RBs [] bs'
 unfold d6l
 (refine Zq ?_;intros)
 exact k9 ⟨.ret _ _ (.ag _ _ j7),.nil⟩
theorem d2k:l6 157 (e71 fun a d=>.a (O.co a d).g):=o7 (fun fn h=>d97 h) [] .nil fun U fn hfn ⟨a,d⟩ vs bs hv hb=>by
 have hv:l8 [.a a.g,.a d.g] vs:=hv
 have hb:RBs [] bs:=hb
 show j3 U _ fun v bs'=>l7 (.ret (.a (O.co a d).g)) v∧RBs [] bs'
 unfold d7r
 refine a1i hv fun v l hv1 hv2=>?_
 refine H4 hv1 a.g_len fun qa ha=>?_
 refine a1i hv2 fun v l hv3 hv4=>?_
 refine H4 hv3 d.g_len fun qd hd=>?_
 refine b1w hv4 (a5i hb ?_)
 refine a1z ha fun xa ha=>?_
 refine a1z hd fun xd hd=>?_
 refine k9 ⟨.ret _ _ (.ag _ _ ?_),.nil⟩
 refine .k (.i _ _) (.k (.s _ _ _ rfl rfl) (.k (.s _ _ _ rfl rfl) (.k (.s _ _ _ rfl rfl) (.k (.s _ _ _ rfl rfl) (.k (.s _ _ _ rfl rfl) (.k (.cl _ _ _ _ _ rfl ?_) .nil))))))
 have r1:=T0 (by rw [O.g_len];decide) ha
 have r2:=T0 (by rw [O.g_len];decide) hd
 exact .cons _ _ _ _ _ a.g_len r1.1 r1.2 (.cons _ _ _ _ _ d.g_len r2.1 r2.2 (.nil _ _ _))
theorem e8z:l6 130 (e4i fun l=>.a (Q3 l).g):=o7 (fun fn h=>e3z h) [(156,_),(157,_)] (.cons d87 (.cons d2k .nil)) fun U fn hfn ⟨l,hl⟩ vs bs hv hb=>by
 have hn:=hfn 156 _ rfl
 have hc:=hfn 157 _ rfl
 have hl:l.length < 90000:=hl
 have hv:l8 [.sl 7 (l.map O.g)] vs:=hv
 have hb:RBs [] bs:=hb
 show j3 U _ fun v bs'=>l7 (.ret (.a (Q3 l).g)) v∧RBs [] bs'
 unfold d7s
 (refine Zz ?_;intros)
 refine i6 hn () (r:=.a R3.g) rfl .nil .nil fun _ _ _ _=>?_
 (refine Zz ?_;intros)
 refine C7 (fun (m:Nat) vs bs=>∃ (t:j9 Q) (off:Nat) (i:Int) (q:Q),vs=[.slice t 7 off l.length .no,.ptr 0 0,.ptr 1 0,.int .i64 i]∧bs=[.cells [.int .i64 0,.str 0 0,.str 0 0,.str 0 0,.str 0 0,.str 0 0,.slice .nil 0 0 0 .exact],.opa q 7]∧i=m - 1∧m≤l.length∧p5 7 (l.map O.g) t off∧x4 (Q3 (l.drop m)).g q 0) (fun m=>m) l.length
  ⟨_,_,_,_,rfl,rfl,rfl,oM,aS,by rw [List.drop_length];assumption⟩ (by simp only [x8];omega) ?_
 rintro self m _ _ ⟨t,off,i,q,rfl,rfl,rfl,hm,ht,hq⟩ ih
 (refine Zz ?_;with_reducible repeat' first|intro _|apply aI)
 ·refine b1r (y:=l[m - 1]) aS (by rw [show ((m:Int) - 1).toNat=m - 1 by omega];exact List.getElem?_eq_getElem oM) fun _ _=>?_
  (refine Zz ?_;intros)
  refine i6 hc (l[m - 1],Q3 (l.drop m)) (r:=.a (O.co l[m - 1] (Q3 (l.drop m))).g) rfl j7 .nil fun _ _ _ _=>?_
  (refine Zz ?_;intros)
  refine ih (m - 1) _ _ ⟨_,_,_,_,rfl,rfl,oM,oM,ht,?_⟩ oM
  rw [List.drop_eq_getElem_cons (by omega:m - 1 < l.length),show m - 1+1=m by omega]
  assumption
 ·have em:m=0:=oM
  subst em
  rw [List.drop_zero] at *
  exact k9 ⟨.ret _ _ j7,.nil⟩
theorem c9a (hst:l6 203 T6):l6 128 (d5d fun a b=>.ret (.a (a7l (qn (i7 a) (i7 b))).g)):=o7 (fun fn h=>e02 h) [(155,_)] (.cons (b3x hst) .nil) fun U fn hfn ⟨(a,b),ha,hbl⟩ vs bs hv hb=>by
 have hr:=hfn 155 _ rfl
 have hv:l8 [.c (.s a),.c (.s b)] vs:=hv
 have hb:RBs [] bs:=hb
 show j3 U _ fun v bs'=>l7 (.ret (.a (a7l (qn (i7 a) (i7 b))).g)) v∧RBs [] bs'
 unfold d5r
 (refine Zq ?_;intros)
 refine i6 hr ⟨(a,b),ha,hbl⟩ (r:=.t [.c (.s (j6 (qn (i7 a) (i7 b)).1)),.c (.s (j5 (qn (i7 a) (i7 b)).2))]) (by show t7.ret (.t [.c (.s (s7 a b).1),.c (.s (s7 a b).2)])=_;rw [a1s]) j7 .nil fun _ _ _ _=>?_
 (refine Zq ?_;intros)
 exact k9 ⟨.ret _ _ (.ag _ _ j7),.nil⟩
end
end Go.Proofs.YtffaodopiifbkaaGreatDoor
