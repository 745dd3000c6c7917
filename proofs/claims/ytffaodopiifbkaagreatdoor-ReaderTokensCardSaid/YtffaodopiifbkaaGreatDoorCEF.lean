/- The program's objects: formed, Valid; valid symbols. -/
import Derived.Test.YtffaodopiifbkaaGreatDoorCEE
import Derived.Test.YtffaodopiifbkaaGreatDoorCV
set_option linter.all false
namespace Go.Proofs.YtffaodopiifbkaaGreatDoor
open Go.Abs LQ
set_option maxRecDepth 100000
set_option maxHeartbeats 4000000
noncomputable section
def fmB (k:Int) (nu de:i7) (s:Sy) (t:i7) (ps:RT) (l:List Bool):Bool :=
 if k=4 then (match l with
  | [a,b]=>J4 ⟨k,nu,de,s,t,ps⟩ false false false && a && b
  | _=>false)
 else if k=1 then J4 ⟨k,nu,de,s,t,ps⟩ true false false && decide (ps.obs.length=0) && a4u nu de
 else if k=2 then J4 ⟨k,nu,de,s,t,ps⟩ false true false && decide (ps.obs.length=0) && named s
 else if k=3 then J4 ⟨k,nu,de,s,t,ps⟩ false false true && decide (ps.obs.length=0) && decide (t.length≤200)
 else false
def RT.fm:RT→List Bool
 | .nil=>[]
 | .node k nu de s t ps r=>fmB k nu de s t ps ps.fm :: r.fm
def Ob.fm (o:Ob):Bool:=fmB o.k o.nu o.de o.s o.t o.ps o.ps.fm
theorem RT.fm_eq:∀ p:RT,p.fm=p.obs.map Ob.fm
 | .nil=>rfl
 | .node _ _ _ _ _ _ r=>by simp only [RT.fm,RT.obs,List.map_cons,r.fm_eq];rfl
theorem c0r {o x y:Ob} (h:o.ps.obs=[x,y]) (hk:o.k=4):o.fm=(J4 o false false false && x.fm && y.fm):=by
 unfold Ob.fm fmB
 rw [if_pos hk,o.ps.fm_eq,h];rfl
theorem e8l {o:Ob} (h:∀ x y,o.ps.obs ≠ [x,y]) (hk:o.k=4):o.fm=false:=by
 unfold Ob.fm fmB
 rw [if_pos hk,o.ps.fm_eq]
 rcases e:o.ps.obs with _ | ⟨x,_ | ⟨y,_ | ⟨z,r⟩⟩⟩
 ·rfl
 ·rfl
 ·exact absurd e (h x y)
 ·rfl
theorem c18 {o:Ob} (hk:o.k=1):o.fm=(J4 o true false false && decide (o.ps.obs.length=0) && a4u o.nu o.de):=by
 unfold Ob.fm fmB;rw [if_neg (by omega),if_pos hk]
theorem b72 {o:Ob} (hk:o.k=2):o.fm=(J4 o false true false && decide (o.ps.obs.length=0) && named o.s):=by
 unfold Ob.fm fmB;rw [if_neg (by omega),if_neg (by omega),if_pos hk]
theorem c3i {o:Ob} (hk:o.k=3):o.fm=(J4 o false false true && decide (o.ps.obs.length=0) && decide (o.t.length≤200)):=by
 unfold Ob.fm fmB;rw [if_neg (by omega),if_neg (by omega),if_neg (by omega),if_pos hk]
theorem e54 {o:Ob} (h1:¬o.k=4) (h2:¬o.k=1) (h3:¬o.k=2) (h4:¬o.k=3):o.fm=false:=by
 unfold Ob.fm fmB;rw [if_neg h1,if_neg h2,if_neg h3,if_neg h4]
theorem e2d {o x y:Ob} (h:o.ps.obs=[x,y]):o.nd=1+x.nd+y.nd:=by rw [o.nd_eq,h]
theorem e3b {o x y:Ob} (h:o.ps.obs=[x,y]) (hs:o.sm):x.sm∧y.sm:=⟨RT.obs_sm hs.2 (by rw [h];simp),RT.obs_sm hs.2 (by rw [h];simp)⟩
def okF (o:Ob):Prop:=o.sm∧o.nd≤3000
theorem d4s (hst:l5 203 T7):l5 141 (c8b okF fun o=>.c (.b o.fm)):=b4a (fun p=>p.1.nd) fun n ih=>v7 (fun fn h=>e14 h) [(141,(c8b okF fun o=>.c (.b o.fm)).lt _ n),(168,_),(169,_),(170,_)] (.cons ih (.cons e7v (.cons (e1q hst) (.cons e95 .nil)))) fun U fn hfn ⟨⟨o,hs,hnd⟩,hn⟩ vs bs hv hb=>by
 have hf:=hfn 141 _ rfl
 have hba:=hfn 168 _ rfl
 have hlo:=hfn 169 _ rfl
 have hsy:=hfn 170 _ rfl
 have hv:l9 [.a o.g] vs:=hv
 have hb:RBs [] bs:=hb
 have hn:o.nd < n+1:=hn
 show j3 U _ fun v bs'=>m8 (.ret (.c (.b o.fm))) v∧RBs [] bs'
 unfold d5g
 (refine Zq ?_;with_reducible repeat' first|intro _|apply aI)
 refine F8 (fun (x:Ob) vs bs=>vs=[.ptr 0 0]∧RBs [x.g] bs∧x.fm=o.fm∧x.sm∧x.nd≤o.nd) (fun x=>x.nd) o ⟨rfl,RB.bx (by assumption) rfl,rfl,hs,Nat.le_refl _⟩ (show o.nd < B8 by simp only [B8];omega) ?_
 rintro self x _ _ ⟨rfl,hb,he,hxs,hxn⟩ ih2
 rw [← he]
 rw [x.g_eq] at hb
 have gq:∀ q,B6 [G.i .i64 x.k,.s x.nu,.s x.de,.s x.s.1,.s x.s.2,.s x.t,.l (x.ps.obs.map Ob.g)] q 0→B6 x.g q 0:=fun q h=>by rw [x.g_eq];exact h
 have fin:∀ (b:Bool),x.fm=b→j3 U (some (.ret (.known b),[])) fun v bs'=>m8 (.ret (.c (.b x.fm))) v∧RBs [] bs':=fun b h=>l6 ⟨.ret _ _ (M6 h),.nil⟩
 rcases c5r x.ps with ⟨a,b,e⟩ | ⟨hne,hno⟩
 ·have hab:=e3b e hxs
  have hnd2:=e2d e
  have hp1:=a.nd_pos
  have hp2:=b.nd_pos
  rw [e] at hb gq
  have hlen:decide (x.ps.obs.length=0)=false:=by rw [e];rfl
  (refine Zq ?_;with_reducible repeat' first|intro _|apply aI)
  ·(refine M3 (f:=Ob.g) (by assumption) (C7 Ob.g_len) fun _ _ _=>?_)
   (refine Zq ?_;with_reducible repeat' first|intro _|apply aI)
   ·refine j4 hba (x,false,false,false) (r:=.c (.b (J4 x false false false))) rfl (.cons _ _ _ _ (.a _ _ _ rfl (gq _ (by assumption))) j9) .nil fun _ _ _ _=>?_
    (refine Zq ?_;with_reducible repeat' first|intro _|apply aI)
    ·(refine M3 (f:=Ob.g) (by assumption) (C7 Ob.g_len) fun _ _ _=>?_)
     (refine Zq ?_;with_reducible repeat' first|intro _|apply aI)
     refine j4 hf ⟨⟨a,hab.1,by omega⟩,show a.nd < n by omega⟩ (r:=.c (.b a.fm)) rfl j9 .nil fun _ _ _ _=>?_
     (refine Zq ?_;with_reducible repeat' first|intro _|apply aI)
     ·(refine M3 (f:=Ob.g) (by assumption) (C7 Ob.g_len) fun _ _ _=>?_)
      (refine Zq ?_;with_reducible repeat' first|intro _|apply aI)
      rw [he]
      exact ih2 b _ _ ⟨rfl,RB.bx (by assumption) rfl,by rw [← he,c0r e ‹x.k=4›];simp [*],hab.2,by omega⟩ (by omega)
     ·exact fin false ((c0r e ‹x.k=4›).trans (by simp [*]))
    ·exact fin false ((c0r e ‹x.k=4›).trans (by simp [*]))
   ·exact absurd rfl ‹¬_›
  ·refine j4 hba (x,true,false,false) (r:=.c (.b (J4 x true false false))) rfl (.cons _ _ _ _ (.a _ _ _ rfl (gq _ (by assumption))) j9) .nil fun _ _ _ _=>?_
   (refine Zq ?_;with_reducible repeat' first|intro _|apply aI)
   ·(refine M3 (f:=Ob.g) (by assumption) (C7 Ob.g_len) fun _ _ _=>?_)
    (refine Zq ?_;with_reducible repeat' first|intro _|apply aI)
    ·exact absurd ‹((([a,b]:List Ob).length:Nat):Int)=0› (by simp)
    ·exact fin false ((c18 ‹x.k=1›).trans (by rw [hlen,Bool.and_false];rfl))
   ·exact fin false ((c18 ‹x.k=1›).trans (by simp [*]))
  ·refine j4 hba (x,false,true,false) (r:=.c (.b (J4 x false true false))) rfl (.cons _ _ _ _ (.a _ _ _ rfl (gq _ (by assumption))) j9) .nil fun _ _ _ _=>?_
   (refine Zq ?_;with_reducible repeat' first|intro _|apply aI)
   ·(refine M3 (f:=Ob.g) (by assumption) (C7 Ob.g_len) fun _ _ _=>?_)
    (refine Zq ?_;with_reducible repeat' first|intro _|apply aI)
    ·exact absurd ‹((([a,b]:List Ob).length:Nat):Int)=0› (by simp)
    ·exact fin false ((b72 ‹x.k=2›).trans (by rw [hlen,Bool.and_false];rfl))
   ·exact fin false ((b72 ‹x.k=2›).trans (by simp [*]))
  ·refine j4 hba (x,false,false,true) (r:=.c (.b (J4 x false false true))) rfl (.cons _ _ _ _ (.a _ _ _ rfl (gq _ (by assumption))) j9) .nil fun _ _ _ _=>?_
   (refine Zq ?_;with_reducible repeat' first|intro _|apply aI)
   ·(refine M3 (f:=Ob.g) (by assumption) (C7 Ob.g_len) fun _ _ _=>?_)
    (refine Zq ?_;with_reducible repeat' first|intro _|apply aI)
    ·exact absurd ‹((([a,b]:List Ob).length:Nat):Int)=0› (by simp)
    ·exact fin false ((c3i ‹x.k=3›).trans (by rw [hlen,Bool.and_false];rfl))
   ·exact fin false ((c3i ‹x.k=3›).trans (by simp [*]))
  ·exact fin false (e54 (o:=x) (by assumption) (by assumption) (by assumption) (by assumption))
 ·(refine Zq ?_;with_reducible repeat' first|intro _|apply aI)
  ·(refine M3 (f:=Ob.g) (by assumption) (C7 Ob.g_len) fun _ _ _=>?_)
   (refine Zq ?_;with_reducible repeat' first|intro _|apply aI)
   ·exact absurd ‹_› hne
   ·exact fin false (e8l hno ‹x.k=4›)
  ·refine j4 hba (x,true,false,false) (r:=.c (.b (J4 x true false false))) rfl (.cons _ _ _ _ (.a _ _ _ rfl (gq _ (by assumption))) j9) .nil fun _ _ _ _=>?_
   (refine Zq ?_;with_reducible repeat' first|intro _|apply aI)
   ·(refine M3 (f:=Ob.g) (by assumption) (C7 Ob.g_len) fun _ _ _=>?_)
    (refine Zq ?_;with_reducible repeat' first|intro _|apply aI)
    ·have hl0:decide (x.ps.obs.length=0)=true:=decide_eq_true (by omega)
     refine j4 hlo ⟨(x.nu,x.de),hxs.1.1,hxs.1.2.1⟩ (r:=.c (.b (a4u x.nu x.de))) rfl j9 .nil fun _ _ _ _=>?_
     (refine Zq ?_;with_reducible repeat' first|intro _|apply aI)
     rw [c18 ‹x.k=1›,hl0,‹J4 x true false false=true›,Bool.true_and,Bool.true_and]
     exact l6 ⟨.ret _ _ (.b _),.nil⟩
    ·exact fin false ((c18 ‹x.k=1›).trans (by rw [show decide (x.ps.obs.length=0)=false from decide_eq_false (by omega),Bool.and_false];rfl))
   ·exact fin false ((c18 ‹x.k=1›).trans (by simp [*]))
  ·refine j4 hba (x,false,true,false) (r:=.c (.b (J4 x false true false))) rfl (.cons _ _ _ _ (.a _ _ _ rfl (gq _ (by assumption))) j9) .nil fun _ _ _ _=>?_
   (refine Zq ?_;with_reducible repeat' first|intro _|apply aI)
   ·(refine M3 (f:=Ob.g) (by assumption) (C7 Ob.g_len) fun _ _ _=>?_)
    (refine Zq ?_;with_reducible repeat' first|intro _|apply aI)
    ·have hl0:decide (x.ps.obs.length=0)=true:=decide_eq_true (by omega)
     refine j4 hsy ⟨x.s,hxs.1.2.2.1,hxs.1.2.2.2⟩ (r:=.c (.b (named x.s))) rfl (.cons _ _ _ _ (.a _ _ _ rfl (show B6 (List.take 2 [G.s x.s.1,.s x.s.2,.s x.t,.l (x.ps.obs.map Ob.g)]) _ 0 from B6.take 2 (by assumption))) .nil) .nil fun _ _ _ _=>?_
     (refine Zq ?_;with_reducible repeat' first|intro _|apply aI)
     rw [b72 ‹x.k=2›,hl0,‹J4 x false true false=true›,Bool.true_and,Bool.true_and]
     exact l6 ⟨.ret _ _ (.b _),.nil⟩
    ·exact fin false ((b72 ‹x.k=2›).trans (by rw [show decide (x.ps.obs.length=0)=false from decide_eq_false (by omega),Bool.and_false];rfl))
   ·exact fin false ((b72 ‹x.k=2›).trans (by simp [*]))
  ·refine j4 hba (x,false,false,true) (r:=.c (.b (J4 x false false true))) rfl (.cons _ _ _ _ (.a _ _ _ rfl (gq _ (by assumption))) j9) .nil fun _ _ _ _=>?_
   (refine Zq ?_;with_reducible repeat' first|intro _|apply aI)
   ·(refine M3 (f:=Ob.g) (by assumption) (C7 Ob.g_len) fun _ _ _=>?_)
    (refine Zq ?_;with_reducible repeat' first|intro _|apply aI)
    ·have hl0:decide (x.ps.obs.length=0)=true:=decide_eq_true (by omega)
     rw [c3i ‹x.k=3›,hl0,‹J4 x false false true=true›,Bool.true_and,Bool.true_and]
     exact N5 fun e=>⟨.ret _ _ (Q1 (by subst e;rw [e28,Bool.eq_iff_iff,decide_eq_true_iff,decide_eq_true_iff];omega)),.nil⟩
    ·exact fin false ((c3i ‹x.k=3›).trans (by rw [show decide (x.ps.obs.length=0)=false from decide_eq_false (by omega),Bool.and_false];rfl))
   ·exact fin false ((c3i ‹x.k=3›).trans (by simp [*]))
  ·exact fin false (e54 (o:=x) (by assumption) (by assumption) (by assumption) (by assumption))
def Ob.vd (o:Ob):Bool:=decide (o.nd≤3000) && o.fm
theorem d9l (hst:l5 203 T7):l5 104 (c8b Ob.sm fun o=>.c (.b o.vd)):=v7 (fun fn h=>e0x h) [(89,_),(141,_)] (.cons c6k (.cons (d4s hst) .nil)) fun U fn hfn ⟨o,hs⟩ vs bs hv hb=>by
 have hn:=hfn 89 _ rfl
 have hf:=hfn 141 _ rfl
 have hv:l9 [.a o.g] vs:=hv
 have hb:RBs [] bs:=hb
 show j3 U _ fun v bs'=>m8 (.ret (.c (.b o.vd))) v∧RBs [] bs'
 unfold d4x
 (refine Zq ?_;with_reducible repeat' first|intro _|apply aI)
 refine j4 hn ⟨o,trivial⟩ (r:=.c (.i .i64 (min o.nd 3001:Nat))) rfl j9 .nil fun _ _ _ _=>?_
 (refine Zq ?_;with_reducible repeat' first|intro _|apply aI)
 ·have h:o.nd≤3000:=by omega
  refine j4 hf ⟨o,hs,h⟩ (r:=.c (.b o.fm)) rfl j9 .nil fun _ _ _ _=>?_
  (refine Zq ?_;with_reducible repeat' first|intro _|apply aI)
  unfold Ob.vd
  rw [decide_eq_true h,Bool.true_and]
  exact l6 ⟨.ret _ _ (.b _),.nil⟩
 ·exact l6 ⟨.ret _ _ (M6 (by unfold Ob.vd;rw [decide_eq_false (by omega)];rfl)),.nil⟩
theorem b3r:l5 105 (e5l fun s=>.a (O.sy s).g):=v7 (fun fn h=>d9q h) [] .nil fun U fn hfn s vs bs hv hb=>by
 have hv:l9 [.a [.s s.1,.s s.2]] vs:=hv
 have hb:RBs [] bs:=hb
 show j3 U _ fun v bs'=>m8 (.ret (.a (O.sy s).g)) v∧RBs [] bs'
 unfold d52
 (refine Zq ?_;with_reducible repeat' first|intro _|apply aI)
 exact N5 fun e=>by
  subst e
  exact ⟨.ret _ _ (.ag _ _ (by (exact W6))),.nil⟩
def syB (s:Sy):Ob:=⟨2,[],[],s,[],.nil⟩
theorem e3s (s:Sy):(syB s).vd=named s:=by
 have h1:(syB s).nd=1:=rfl
 unfold Ob.vd
 rw [h1,b72 rfl]
 simp [J4,syB,RT.obs]
theorem d8t (hst:l5 203 T7):l5 59 (d66 fun s=>.c (.b (named s))):=v7 (fun fn h=>e6d h) [(105,_),(104,_)] (.cons b3r (.cons (d9l hst) .nil)) fun U fn hfn ⟨s,h1,h2⟩ vs bs hv hb=>by
 have hs:=hfn 105 _ rfl
 have ho:=hfn 104 _ rfl
 have hv:l9 [.a (sg s)] vs:=hv
 have hb:RBs [] bs:=hb
 show j3 U _ fun v bs'=>m8 (.ret (.c (.b (named s)))) v∧RBs [] bs'
 unfold r59
 (refine Zq ?_;with_reducible repeat' first|intro _|apply aI)
 refine j4 hs s (r:=.a (syB s).g) rfl j9 .nil fun _ _ _ _=>?_
 (refine Zq ?_;with_reducible repeat' first|intro _|apply aI)
 refine j4 ho ⟨syB s,⟨⟨by show 0 < 8000;omega,by show 0 < 8000;omega,h1,h2⟩,trivial⟩⟩ (r:=.c (.b (named s))) (by show y4.ret (.c (.b (syB s).vd))=_;rw [e3s]) (.cons _ _ _ _ (.a _ _ _ rfl (by assumption)) .nil) .nil fun _ _ _ _=>?_
 (refine Zq ?_;with_reducible repeat' first|intro _|apply aI)
 exact l6 ⟨.ret _ _ (.b _),.nil⟩
theorem b7x (hst:l5 203 T7):l5 163 (sp1 fun s=>.ret (.c (.b (A4 s)))):=v7 (fun fn h=>e1y h) [(59,_)] (.cons (d8t hst) .nil) fun U fn hfn ⟨s,hs⟩ vs bs hv hb=>by
 have hvd:=hfn 59 _ rfl
 have hv:l9 [.c (.s s)] vs:=hv
 have hb:RBs [] bs:=hb
 show j3 U _ fun v bs'=>m8 (.ret (.c (.b (A4 s)))) v∧RBs [] bs'
 unfold d2b
 have e:named (s,u7 1 120)=A4 s:=by
  unfold named
  rw [show decide (1≤(s,u7 1 120).2.length∧(s,u7 1 120).2.length≤40)=true from (by decide:decide (1≤(u7 1 120).length∧(u7 1 120).length≤40)=true),Bool.and_true]
 (refine Zq ?_;with_reducible repeat' first|intro _|apply aI)
 refine j4 hvd ⟨(s,u7 1 120),hs,by show (u7 1 120).length < 90000;decide⟩ (r:=.c (.b (A4 s))) (by show y4.ret (.c (.b (named (s,u7 1 120))))=_;rw [e]) (.cons _ _ _ _ (.ag _ _ j9) .nil) .nil fun _ _ _ _=>?_
 (refine Zq ?_;with_reducible repeat' first|intro _|apply aI)
 exact l6 ⟨.ret _ _ (.b _),.nil⟩
end
end Go.Proofs.YtffaodopiifbkaaGreatDoor
namespace Go.Proofs.YtffaodopiifbkaaGreatDoor
open Go.Abs LQ
set_option maxRecDepth 100000
set_option maxHeartbeats 4000000
noncomputable section
theorem d7i:l5 156 (sp0 (.a Z3.g)):=v7 (fun fn h=>e0q h) [(105,_)] (.cons b3r .nil) fun U fn hfn _ vs bs hv hb=>by
 have hs:=hfn 105 _ rfl
 have hv:l9 [] vs:=hv
 have hb:RBs [] bs:=hb
 show j3 U _ fun v bs'=>m8 (.ret (.a Z3.g)) v∧RBs [] bs'
 unfold d5t
 (refine Zq ?_;with_reducible repeat' first|intro _|apply aI)
 refine j4 hs (u7 4 1886611820,u7 3 7104878) (r:=.a Z3.g) rfl (.cons _ _ _ _ (.ag _ _ j9) .nil) .nil fun _ _ _ _=>?_
 refine oR fun _ _=>?_
 (refine Zq ?_;with_reducible repeat' first|intro _|apply aI)
 exact l6 ⟨.ret _ _ (.a _ _ _ rfl (by assumption)),.nil⟩
theorem e2r:l5 129 (d7s fun s=>.a (O.tx s).g):=v7 (fun fn h=>d8n h) [] .nil fun U fn hfn s vs bs hv hb=>by
 have hv:l9 [.c (.s s)] vs:=hv
 have hb:RBs [] bs:=hb
 show j3 U _ fun v bs'=>m8 (.ret (.a (O.tx s).g)) v∧RBs [] bs'
 unfold d51
 (refine Zq ?_;with_reducible repeat' first|intro _|apply aI)
 exact l6 ⟨.ret _ _ (.ag _ _ j9),.nil⟩
theorem d0k:l5 157 (e6r fun a d=>.a (O.co a d).g):=v7 (fun fn h=>e0y h) [] .nil fun U fn hfn ⟨a,d⟩ vs bs hv hb=>by
 have hv:l9 [.a a.g,.a d.g] vs:=hv
 have hb:RBs [] bs:=hb
 show j3 U _ fun v bs'=>m8 (.ret (.a (O.co a d).g)) v∧RBs [] bs'
 unfold d4d
 refine a23 hv fun v l hv1 hv2=>?_
 refine U4 hv1 a.g_len fun qa ha=>?_
 refine a23 hv2 fun v l hv3 hv4=>?_
 refine U4 hv3 d.g_len fun qd hd=>?_
 refine b1j hv4 (a5v hb ?_)
 refine a07 ha fun xa ha=>?_
 refine a07 hd fun xd hd=>?_
 refine l6 ⟨.ret _ _ (.ag _ _ ?_),.nil⟩
 refine .cons _ _ _ _ (.i _ _) (.cons _ _ _ _ (.s _ _ _ rfl rfl) (.cons _ _ _ _ (.s _ _ _ rfl rfl) (.cons _ _ _ _ (.s _ _ _ rfl rfl) (.cons _ _ _ _ (.s _ _ _ rfl rfl) (.cons _ _ _ _ (.s _ _ _ rfl rfl) (.cons _ _ _ _ (.cl _ _ _ _ _ rfl ?_) .nil))))))
 have r1:=a45 (by rw [O.g_len];decide) ha
 have r2:=a45 (by rw [O.g_len];decide) hd
 exact .cons _ _ _ _ _ a.g_len r1.1 r1.2 (.cons _ _ _ _ _ d.g_len r2.1 r2.2 (.nil _ _ _))
theorem e48:l5 130 (e37 fun l=>.a (T4 l).g):=v7 (fun fn h=>d9w h) [(156,_),(157,_)] (.cons d7i (.cons d0k .nil)) fun U fn hfn ⟨l,hl⟩ vs bs hv hb=>by
 have hn:=hfn 156 _ rfl
 have hc:=hfn 157 _ rfl
 have hl:l.length < 90000:=hl
 have hv:l9 [.sl 7 (l.map O.g)] vs:=hv
 have hb:RBs [] bs:=hb
 show j3 U _ fun v bs'=>m8 (.ret (.a (T4 l).g)) v∧RBs [] bs'
 unfold d4k
 (refine Zz ?_;with_reducible repeat' first|intro _|apply aI)
 refine j4 hn () (r:=.a Z3.g) rfl .nil .nil fun _ _ _ _=>?_
 (refine Zz ?_;with_reducible repeat' first|intro _|apply aI)
 refine F8 (fun (m:Nat) vs bs=>∃ (t:j8 Q) (off:Nat) (i:Int) (q:Q),vs=[.slice t 7 off l.length .no,.ptr 0 0,.ptr 1 0,.int .i64 i]∧bs=[.cells [.int .i64 0,.str 0 0,.str 0 0,.str 0 0,.str 0 0,.str 0 0,.slice .nil 0 0 0 .exact],.opa q 7]∧i=m - 1∧m≤l.length∧u6 7 (l.map O.g) t off∧B6 (T4 (l.drop m)).g q 0) (fun m=>m) l.length
  ⟨_,_,_,_,rfl,rfl,rfl,by omega,by assumption,by rw [List.drop_length];assumption⟩ (by simp only [B8];omega) ?_
 rintro self m _ _ ⟨t,off,i,q,rfl,rfl,rfl,hm,ht,hq⟩ ih
 (refine Zz ?_;with_reducible repeat' first|intro _|apply aI)
 ·refine b3i (y:=l[m - 1]) (by assumption) (by rw [show ((m:Int) - 1).toNat=m - 1 by omega];exact List.getElem?_eq_getElem (by omega)) fun _ _=>?_
  (refine Zz ?_;with_reducible repeat' first|intro _|apply aI)
  refine j4 hc (l[m - 1],T4 (l.drop m)) (r:=.a (O.co l[m - 1] (T4 (l.drop m))).g) rfl j9 .nil fun _ _ _ _=>?_
  (refine Zz ?_;with_reducible repeat' first|intro _|apply aI)
  refine ih (m - 1) _ _ ⟨_,_,_,_,rfl,rfl,by omega,by omega,ht,?_⟩ (by omega)
  rw [List.drop_eq_getElem_cons (by omega:m - 1 < l.length),show m - 1+1=m by omega]
  assumption
 ·have em:m=0:=by omega
  subst em
  rw [List.drop_zero] at *
  exact l6 ⟨.ret _ _ j9,.nil⟩
theorem c8t (hst:l5 203 T7):l5 128 (d2f fun a b=>.ret (.a (a7a (qn (i6 a) (i6 b))).g)):=v7 (fun fn h=>d8l h) [(155,_)] (.cons (b3s hst) .nil) fun U fn hfn ⟨(a,b),ha,hbl⟩ vs bs hv hb=>by
 have hr:=hfn 155 _ rfl
 have hv:l9 [.c (.s a),.c (.s b)] vs:=hv
 have hb:RBs [] bs:=hb
 show j3 U _ fun v bs'=>m8 (.ret (.a (a7a (qn (i6 a) (i6 b))).g)) v∧RBs [] bs'
 unfold d54
 (refine Zq ?_;with_reducible repeat' first|intro _|apply aI)
 refine j4 hr ⟨(a,b),ha,hbl⟩ (r:=.t [.c (.s (j6 (qn (i6 a) (i6 b)).1)),.c (.s (j5 (qn (i6 a) (i6 b)).2))]) (by show y4.ret (.t [.c (.s (u9 a b).1),.c (.s (u9 a b).2)])=_;rw [a1o]) j9 .nil fun _ _ _ _=>?_
 (refine Zq ?_;with_reducible repeat' first|intro _|apply aI)
 exact l6 ⟨.ret _ _ (.ag _ _ j9),.nil⟩
end
end Go.Proofs.YtffaodopiifbkaaGreatDoor
