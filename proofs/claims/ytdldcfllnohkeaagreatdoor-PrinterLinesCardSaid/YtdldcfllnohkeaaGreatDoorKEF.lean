/- The program's objects: formed, Valid; valid symbols. -/
import Derived.Test.YtdldcfllnohkeaaGreatDoorKEE
import Derived.Test.YtdldcfllnohkeaaGreatDoorKV
set_option linter.all false
namespace Go.Proofs.YtdldcfllnohkeaaGreatDoor
open Go.Abs LQ
set_option maxRecDepth 100000
set_option maxHeartbeats 4000000
noncomputable section
def fmB (k:Int) (nu de:f5) (s:Sy) (t:f5) (ps:RT) (l:List Bool):Bool :=
 if k=4 then (match l with
  | [a,b]=>G3 ⟨k,nu,de,s,t,ps⟩ false false false && a && b
  | _=>false)
 else if k=1 then G3 ⟨k,nu,de,s,t,ps⟩ true false false && decide (ps.obs.length=0) && a07 nu de
 else if k=2 then G3 ⟨k,nu,de,s,t,ps⟩ false true false && decide (ps.obs.length=0) && named s
 else if k=3 then G3 ⟨k,nu,de,s,t,ps⟩ false false true && decide (ps.obs.length=0) && decide (t.length≤200)
 else false
def RT.fm:RT→List Bool
 | .nil=>[]
 | .node k nu de s t ps r=>fmB k nu de s t ps ps.fm :: r.fm
def Ob.fm (o:Ob):Bool:=fmB o.k o.nu o.de o.s o.t o.ps o.ps.fm
theorem RT.fm_eq:∀ p:RT,p.fm=p.obs.map Ob.fm
 | .nil=>rfl
 | .node _ _ _ _ _ _ r=>by simp only [RT.fm,RT.obs,List.map_cons,r.fm_eq];rfl
theorem b5n {o x y:Ob} (h:o.ps.obs=[x,y]) (hk:o.k=4):o.fm=(G3 o false false false && x.fm && y.fm):=by
 unfold Ob.fm fmB
 rw [if_pos hk,o.ps.fm_eq,h];rfl
theorem f5p {o:Ob} (h:∀ x y,o.ps.obs ≠ [x,y]) (hk:o.k=4):o.fm=false:=by
 unfold Ob.fm fmB
 rw [if_pos hk,o.ps.fm_eq]
 rcases e:o.ps.obs with _ | ⟨x,_ | ⟨y,_ | ⟨z,r⟩⟩⟩
 ·rfl
 ·rfl
 ·exact absurd e (h x y)
 ·rfl
theorem b7w {o:Ob} (hk:o.k=1):o.fm=(G3 o true false false && decide (o.ps.obs.length=0) && a07 o.nu o.de):=by
 unfold Ob.fm fmB;rw [if_neg oM,if_pos hk]
theorem b4a {o:Ob} (hk:o.k=2):o.fm=(G3 o false true false && decide (o.ps.obs.length=0) && named o.s):=by
 unfold Ob.fm fmB;rw [if_neg oM,if_neg oM,if_pos hk]
theorem b7x {o:Ob} (hk:o.k=3):o.fm=(G3 o false false true && decide (o.ps.obs.length=0) && decide (o.t.length≤200)):=by
 unfold Ob.fm fmB;rw [if_neg oM,if_neg oM,if_neg oM,if_pos hk]
theorem d62 {o:Ob} (h1:¬o.k=4) (h2:¬o.k=1) (h3:¬o.k=2) (h4:¬o.k=3):o.fm=false:=by
 unfold Ob.fm fmB;rw [if_neg h1,if_neg h2,if_neg h3,if_neg h4]
theorem e72 {o x y:Ob} (h:o.ps.obs=[x,y]):o.nd=1+x.nd+y.nd:=by rw [o.nd_eq,h]
theorem f3d {o x y:Ob} (h:o.ps.obs=[x,y]) (hs:o.sm):x.sm∧y.sm:=⟨RT.obs_sm hs.2 (by rw [h];simp),RT.obs_sm hs.2 (by rw [h];simp)⟩
def okF (o:Ob):Prop:=o.sm∧o.nd≤3000
theorem d7g (hst:j3 179 a1w):j3 81 (d13 okF fun o=>.c (.b o.fm)):=R3 (fun p=>p.1.nd) fun n ih=>k7 (fun fn h=>f1k h) [(81,(d13 okF fun o=>.c (.b o.fm)).lt _ n),(118,_),(119,_),(120,_)] (.cons ih (.cons f5t (.cons (e3k hst) (.cons f52 .nil)))) fun U fn hfn ⟨⟨o,hs,hnd⟩,hn⟩ vs bs hv hb=>by
 have hf:=hfn 81 _ rfl
 have hba:=hfn 118 _ rfl
 have hlo:=hfn 119 _ rfl
 have hsy:=hfn 120 _ rfl
 have hv:j5 [.a o.g] vs:=hv
 have hb:RBs [] bs:=hb
 have hn:o.nd < n+1:=hn
 show g7 U _ fun v bs'=>j6 (.ret (.c (.b o.fm))) v∧RBs [] bs'
 unfold r81
 (refine Zq ?_;intros)
 refine E1 (fun (x:Ob) vs bs=>vs=[.ptr 0 0]∧RBs [x.g] bs∧x.fm=o.fm∧x.sm∧x.nd≤o.nd) (fun x=>x.nd) o ⟨rfl,RB.bx aS rfl,rfl,hs,Nat.le_refl _⟩ (show o.nd < x8 by simp only [x8];omega) ?_
 rintro self x _ _ ⟨rfl,hb,he,hxs,hxn⟩ ih2
 rw [← he]
 rw [x.g_eq] at hb
 have gq:∀ q,u6 [G.i .i64 x.k,.s x.nu,.s x.de,.s x.s.1,.s x.s.2,.s x.t,.l (x.ps.obs.map Ob.g)] q 0→u6 x.g q 0:=fun q h=>by rw [x.g_eq];exact h
 have fin:∀ (b:Bool),x.fm=b→g7 U (some (.ret (.known b),[])) fun v bs'=>j6 (.ret (.c (.b x.fm))) v∧RBs [] bs':=fun b h=>g9 ⟨.ret _ _ (G2 h),.nil⟩
 rcases c8s x.ps with ⟨a,b,e⟩ | ⟨hne,hno⟩
 ·have hab:=f3d e hxs
  have hnd2:=e72 e
  have hp1:=a.nd_pos
  have hp2:=b.nd_pos
  rw [e] at hb gq
  have hlen:decide (x.ps.obs.length=0)=false:=by rw [e];rfl
  (refine Zq ?_;with_reducible repeat' first|intro _|apply aI)
  ·(refine C7 (f:=Ob.g) aS (u7 Ob.g_len) fun _ _ _=>?_)
   (refine Zq ?_;with_reducible repeat' first|intro _|apply aI)
   ·refine f6 hba (x,false,false,false) (r:=.c (.b (G3 x false false false))) rfl (.k (.a _ _ _ rfl (gq _ aS)) j4) .nil fun _ _ _ _=>?_
    (refine Zq ?_;with_reducible repeat' first|intro _|apply aI)
    ·(refine C7 (f:=Ob.g) aS (u7 Ob.g_len) fun _ _ _=>?_)
     (refine Zq ?_;intros)
     refine f6 hf ⟨⟨a,hab.1,oM⟩,show a.nd < n by omega⟩ (r:=.c (.b a.fm)) rfl j4 .nil fun _ _ _ _=>?_
     (refine Zq ?_;with_reducible repeat' first|intro _|apply aI)
     ·(refine C7 (f:=Ob.g) aS (u7 Ob.g_len) fun _ _ _=>?_)
      (refine Zq ?_;intros)
      rw [he]
      exact ih2 b _ _ ⟨rfl,RB.bx aS rfl,by rw [← he,b5n e ‹x.k=4›];simp [*],hab.2,oM⟩ oM
     ·exact fin false ((b5n e ‹x.k=4›).trans (by simp [*]))
    ·exact fin false ((b5n e ‹x.k=4›).trans (by simp [*]))
   ·exact absurd rfl ‹¬_›
  ·refine f6 hba (x,true,false,false) (r:=.c (.b (G3 x true false false))) rfl (.k (.a _ _ _ rfl (gq _ aS)) j4) .nil fun _ _ _ _=>?_
   (refine Zq ?_;with_reducible repeat' first|intro _|apply aI)
   ·(refine C7 (f:=Ob.g) aS (u7 Ob.g_len) fun _ _ _=>?_)
    (refine Zq ?_;with_reducible repeat' first|intro _|apply aI)
    ·exact absurd ‹((([a,b]:List Ob).length:Nat):Int)=0› (by simp)
    ·exact fin false ((b7w ‹x.k=1›).trans (by rw [hlen,Bool.and_false];rfl))
   ·exact fin false ((b7w ‹x.k=1›).trans (by simp [*]))
  ·refine f6 hba (x,false,true,false) (r:=.c (.b (G3 x false true false))) rfl (.k (.a _ _ _ rfl (gq _ aS)) j4) .nil fun _ _ _ _=>?_
   (refine Zq ?_;with_reducible repeat' first|intro _|apply aI)
   ·(refine C7 (f:=Ob.g) aS (u7 Ob.g_len) fun _ _ _=>?_)
    (refine Zq ?_;with_reducible repeat' first|intro _|apply aI)
    ·exact absurd ‹((([a,b]:List Ob).length:Nat):Int)=0› (by simp)
    ·exact fin false ((b4a ‹x.k=2›).trans (by rw [hlen,Bool.and_false];rfl))
   ·exact fin false ((b4a ‹x.k=2›).trans (by simp [*]))
  ·refine f6 hba (x,false,false,true) (r:=.c (.b (G3 x false false true))) rfl (.k (.a _ _ _ rfl (gq _ aS)) j4) .nil fun _ _ _ _=>?_
   (refine Zq ?_;with_reducible repeat' first|intro _|apply aI)
   ·(refine C7 (f:=Ob.g) aS (u7 Ob.g_len) fun _ _ _=>?_)
    (refine Zq ?_;with_reducible repeat' first|intro _|apply aI)
    ·exact absurd ‹((([a,b]:List Ob).length:Nat):Int)=0› (by simp)
    ·exact fin false ((b7x ‹x.k=3›).trans (by rw [hlen,Bool.and_false];rfl))
   ·exact fin false ((b7x ‹x.k=3›).trans (by simp [*]))
  ·exact fin false (d62 (o:=x) aS aS aS aS)
 ·(refine Zq ?_;with_reducible repeat' first|intro _|apply aI)
  ·(refine C7 (f:=Ob.g) aS (u7 Ob.g_len) fun _ _ _=>?_)
   (refine Zq ?_;with_reducible repeat' first|intro _|apply aI)
   ·exact absurd ‹_› hne
   ·exact fin false (f5p hno ‹x.k=4›)
  ·refine f6 hba (x,true,false,false) (r:=.c (.b (G3 x true false false))) rfl (.k (.a _ _ _ rfl (gq _ aS)) j4) .nil fun _ _ _ _=>?_
   (refine Zq ?_;with_reducible repeat' first|intro _|apply aI)
   ·(refine C7 (f:=Ob.g) aS (u7 Ob.g_len) fun _ _ _=>?_)
    (refine Zq ?_;with_reducible repeat' first|intro _|apply aI)
    ·have hl0:decide (x.ps.obs.length=0)=true:=decide_eq_true oM
     refine f6 hlo ⟨(x.nu,x.de),hxs.1.1,hxs.1.2.1⟩ (r:=.c (.b (a07 x.nu x.de))) rfl j4 .nil fun _ _ _ _=>?_
     (refine Zq ?_;intros)
     rw [b7w ‹x.k=1›,hl0,‹G3 x true false false=true›,Bool.true_and,Bool.true_and]
     exact g9 ⟨.ret _ _ (.b _),.nil⟩
    ·exact fin false ((b7w ‹x.k=1›).trans (by rw [show decide (x.ps.obs.length=0)=false from decide_eq_false oM,Bool.and_false];rfl))
   ·exact fin false ((b7w ‹x.k=1›).trans (by simp [*]))
  ·refine f6 hba (x,false,true,false) (r:=.c (.b (G3 x false true false))) rfl (.k (.a _ _ _ rfl (gq _ aS)) j4) .nil fun _ _ _ _=>?_
   (refine Zq ?_;with_reducible repeat' first|intro _|apply aI)
   ·(refine C7 (f:=Ob.g) aS (u7 Ob.g_len) fun _ _ _=>?_)
    (refine Zq ?_;with_reducible repeat' first|intro _|apply aI)
    ·have hl0:decide (x.ps.obs.length=0)=true:=decide_eq_true oM
     refine f6 hsy ⟨x.s,hxs.1.2.2.1,hxs.1.2.2.2⟩ (r:=.c (.b (named x.s))) rfl (.k (.a _ _ _ rfl (show u6 (List.take 2 [G.s x.s.1,.s x.s.2,.s x.t,.l (x.ps.obs.map Ob.g)]) _ 0 from u6.take 2 aS)) .nil) .nil fun _ _ _ _=>?_
     (refine Zq ?_;intros)
     rw [b4a ‹x.k=2›,hl0,‹G3 x false true false=true›,Bool.true_and,Bool.true_and]
     exact g9 ⟨.ret _ _ (.b _),.nil⟩
    ·exact fin false ((b4a ‹x.k=2›).trans (by rw [show decide (x.ps.obs.length=0)=false from decide_eq_false oM,Bool.and_false];rfl))
   ·exact fin false ((b4a ‹x.k=2›).trans (by simp [*]))
  ·refine f6 hba (x,false,false,true) (r:=.c (.b (G3 x false false true))) rfl (.k (.a _ _ _ rfl (gq _ aS)) j4) .nil fun _ _ _ _=>?_
   (refine Zq ?_;with_reducible repeat' first|intro _|apply aI)
   ·(refine C7 (f:=Ob.g) aS (u7 Ob.g_len) fun _ _ _=>?_)
    (refine Zq ?_;with_reducible repeat' first|intro _|apply aI)
    ·have hl0:decide (x.ps.obs.length=0)=true:=decide_eq_true oM
     rw [b7x ‹x.k=3›,hl0,‹G3 x false false true=true›,Bool.true_and,Bool.true_and]
     exact G7 fun e=>⟨.ret _ _ (P9 (by subst e;rw [c2f,Bool.eq_iff_iff,decide_eq_true_iff,decide_eq_true_iff];omega)),.nil⟩
    ·exact fin false ((b7x ‹x.k=3›).trans (by rw [show decide (x.ps.obs.length=0)=false from decide_eq_false oM,Bool.and_false];rfl))
   ·exact fin false ((b7x ‹x.k=3›).trans (by simp [*]))
  ·exact fin false (d62 (o:=x) aS aS aS aS)
def Ob.vd (o:Ob):Bool:=decide (o.nd≤3000) && o.fm
theorem c8c (hst:j3 179 a1w):j3 49 (d13 Ob.sm fun o=>.c (.b o.vd)):=k7 (fun fn h=>e98 h) [(75,_),(81,_)] (.cons e3n (.cons (d7g hst) .nil)) fun U fn hfn ⟨o,hs⟩ vs bs hv hb=>by
 have hn:=hfn 75 _ rfl
 have hf:=hfn 81 _ rfl
 have hv:j5 [.a o.g] vs:=hv
 have hb:RBs [] bs:=hb
 show g7 U _ fun v bs'=>j6 (.ret (.c (.b o.vd))) v∧RBs [] bs'
 unfold r49
 (refine Zq ?_;intros)
 refine f6 hn ⟨o,trivial⟩ (r:=.c (.i .i64 (min o.nd 3001:Nat))) rfl j4 .nil fun _ _ _ _=>?_
 (refine Zq ?_;with_reducible repeat' first|intro _|apply aI)
 ·have h:o.nd≤3000:=oM
  refine f6 hf ⟨o,hs,h⟩ (r:=.c (.b o.fm)) rfl j4 .nil fun _ _ _ _=>?_
  (refine Zq ?_;intros)
  unfold Ob.vd
  rw [decide_eq_true h,Bool.true_and]
  exact g9 ⟨.ret _ _ (.b _),.nil⟩
 ·exact g9 ⟨.ret _ _ (G2 (by unfold Ob.vd;rw [decide_eq_false oM];rfl)),.nil⟩
theorem c3l:j3 88 (f3o fun s=>.a (O.sy s).g):=k7 (fun fn h=>f1w h) [] .nil fun U fn hfn s vs bs hv hb=>by
 have hv:j5 [.a [.s s.1,.s s.2]] vs:=hv
 have hb:RBs [] bs:=hb
 show g7 U _ fun v bs'=>j6 (.ret (.a (O.sy s).g)) v∧RBs [] bs'
 unfold r88
 (refine Zq ?_;intros)
 exact G7 fun e=>by
  subst e
  exact ⟨.ret _ _ (.ag _ _ (by (exact Zru))),.nil⟩
def syB (s:Sy):Ob:=⟨2,[],[],s,[],.nil⟩
theorem f3t (s:Sy):(syB s).vd=named s:=by
 have h1:(syB s).nd=1:=rfl
 unfold Ob.vd
 rw [h1,b4a rfl]
 simp [G3,syB,RT.obs]
theorem c8e (hst:j3 179 a1w):j3 84 (c12 fun s=>.c (.b (named s))):=k7 (fun fn h=>f1o h) [(88,_),(49,_)] (.cons c3l (.cons (c8c hst) .nil)) fun U fn hfn ⟨s,h1,h2⟩ vs bs hv hb=>by
 have hs:=hfn 88 _ rfl
 have ho:=hfn 49 _ rfl
 have hv:j5 [.a (sg s)] vs:=hv
 have hb:RBs [] bs:=hb
 show g7 U _ fun v bs'=>j6 (.ret (.c (.b (named s)))) v∧RBs [] bs'
 unfold r84
 (refine Zq ?_;intros)
 refine f6 hs s (r:=.a (syB s).g) rfl j4 .nil fun _ _ _ _=>?_
 (refine Zq ?_;intros)
 refine f6 ho ⟨syB s,⟨⟨by show 0 < 8000;omega,by show 0 < 8000;omega,h1,h2⟩,trivial⟩⟩ (r:=.c (.b (named s))) (by show n6.ret (.c (.b (syB s).vd))=_;rw [f3t]) (.k (.a _ _ _ rfl aS) .nil) .nil fun _ _ _ _=>?_
 (refine Zq ?_;intros)
 exact g9 ⟨.ret _ _ (.b _),.nil⟩
theorem b77 (hst:j3 179 a1w):j3 137 (sp1 fun s=>.ret (.c (.b (n5 s)))):=k7 (fun fn h=>e43 h) [(84,_)] (.cons (c8e hst) .nil) fun U fn hfn ⟨s,hs⟩ vs bs hv hb=>by
 have hvd:=hfn 84 _ rfl
 have hv:j5 [.c (.s s)] vs:=hv
 have hb:RBs [] bs:=hb
 show g7 U _ fun v bs'=>j6 (.ret (.c (.b (n5 s)))) v∧RBs [] bs'
 unfold d89
 have e:named (s,k6 1 120)=n5 s:=by
  unfold named
  rw [show decide (1≤(s,k6 1 120).2.length∧(s,k6 1 120).2.length≤40)=true from (by decide:decide (1≤(k6 1 120).length∧(k6 1 120).length≤40)=true),Bool.and_true]
 (refine Zq ?_;intros)
 refine f6 hvd ⟨(s,k6 1 120),hs,by show (k6 1 120).length < 90000;decide⟩ (r:=.c (.b (n5 s))) (by show n6.ret (.c (.b (named (s,k6 1 120))))=_;rw [e]) (.k (.ag _ _ j4) .nil) .nil fun _ _ _ _=>?_
 (refine Zq ?_;intros)
 exact g9 ⟨.ret _ _ (.b _),.nil⟩
theorem c75:j3 56 (spO fun a=>.c (.b (O.eqb a A5))):=k7 (fun fn h=>f0i h) [] .nil fun U fn hfn (a:O) vs bs hv hb=>by
 have hv:j5 [.a a.g] vs:=hv
 have hb:RBs [] bs:=hb
 show g7 U _ fun v bs'=>j6 (.ret (.c (.b (O.eqb a A5)))) v∧RBs [] bs'
 unfold r56
 rw [a.g_eq] at hv
 have hsy:a.k=2→a=.sy a.sym:=by
  intro h
  cases a with
  | sy s=>rfl
  | num=>exact absurd h (by show ¬(1:Int)=2;decide)
  | tx=>exact absurd h (by show ¬(3:Int)=2;decide)
  | co=>exact absurd h (by show ¬(4:Int)=2;decide)
  | no=>exact absurd h (by show ¬(0:Int)=2;decide)
 (refine Zq ?_;with_reducible repeat' first|intro _|apply aI)
 ·have e:=hsy ‹_›
  refine fun e2=>?_
  subst e2
  refine ⟨_,_,rfl,.ret _ _ (P9 ?_),.nil⟩
  rw [Bool.eq_iff_iff,O.eqb_t,b2d,b2d,b0w,b0w]
  simp only [Bool.and_true,Bool.and_eq_true,decide_eq_true_iff]
  rw [e]
  constructor
  ·intro h;injection h with h;rw [h];exact ⟨rfl,rfl⟩
  ·rintro ⟨h1,h2⟩;exact congrArg O.sy (Prod.ext h1 h2)
 ·exact g9 ⟨.ret _ _ (G2 (O.eqb_f.2 fun e=>by subst e;exact absurd rfl ‹¬_›)),.nil⟩
theorem e7c:j3 96 (spO fun a=>.c (.b a.isCo)):=k7 (fun fn h=>f2c h) [] .nil fun U fn hfn (a:O) vs bs hv hb=>by
 have hv:j5 [.a a.g] vs:=hv
 have hb:RBs [] bs:=hb
 show g7 U _ fun v bs'=>j6 (.ret (.c (.b a.isCo))) v∧RBs [] bs'
 unfold r96
 rw [a.g_eq] at hv
 (refine Zq ?_;with_reducible repeat' first|intro _|apply aI)
 ·refine G7 fun e=>?_
  subst e
  refine ⟨.ret _ _ (P9 ?_),.nil⟩
  rw [a5a]
  have hk:=‹a.k=4›
  cases a <;> simp [O.k] at hk
  rfl
 ·exact g9 ⟨.ret _ _ (G2 (by have hk:=‹¬a.k=4›;cases a <;> simp [O.k] at hk <;> rfl)),.nil⟩
theorem f8k:j3 87 { ι:=O,A:=fun a=>[.a a.g,.a z7.g],B:=fun _=>[],R:=fun a=>.ret (.c (.b (O.eqb a z7))),B':=fun _=>[],inj:=fun i j vs bs h k _ _=>(by rw [(c19 h k).1];exact ⟨rfl,rfl⟩) }:=k7 (fun fn h=>f1u h) [] .nil fun U fn hfn (a:O) vs bs hv hb=>by
 have hv:j5 [.a a.g,.a z7.g] vs:=hv
 have hb:RBs [] bs:=hb
 show g7 U _ fun v bs'=>j6 (.ret (.c (.b (O.eqb a z7)))) v∧RBs [] bs'
 unfold r87
 rw [a.g_eq,z7.g_eq] at hv
 (refine Zq ?_;intros)
 refine E1 (fun (_:Unit) vs bs=>vs=[.ptr 0 0,.ptr 1 0]∧RBs [a.g,z7.g] bs) (fun _=>0) () ⟨rfl,by rw [a.g_eq,z7.g_eq];exact .k (.opa _ _ _ rfl aS) (.k (.opa _ _ _ rfl aS) .nil)⟩ (by simp only [x8];omega) ?_
 rintro self _ _ _ ⟨rfl,hb⟩ _
 rw [a.g_eq,z7.g_eq] at hb
 (refine Zq ?_;with_reducible repeat' first|intro _|apply aI)
 ·have e5:a.ps=[]:=by
   have h:=‹((a.ps.length:Nat):Int)=0›
   exact List.length_eq_zero_iff.1 oM
  have e4:=‹a.sym.1=z7.sym.1∧_›
  have e:a=z7:=O.ext ‹_› ‹_› ‹_› (Prod.ext e4.1 e4.2.1) ‹_› e5
  exact g9 ⟨.ret _ _ (G2 (O.eqb_t.2 e)),.nil⟩
 ·exfalso
  have h1:=‹((a.ps.length:Nat):Int)=((z7.ps.length:Nat):Int)›
  have h2:=‹¬((a.ps.length:Nat):Int)=0›
  exact h2 h1
 all_goals exact g9 ⟨.ret _ _ (G2 (O.eqb_f.2 fun e=>by subst e;first | exact absurd rfl ‹¬_› | exact absurd (⟨rfl,rfl,trivial⟩:z7.sym.1=z7.sym.1∧z7.sym.2=z7.sym.2∧True) ‹¬_›)),.nil⟩
def J1 (o:O):GV:=match m8 o with
 | some l=>.t [.sl 7 (l.map O.g),.c (.b true)]
 | none=>.t [.sl 7 [],.c (.b false)]
def b8t (g:O→GV):Sp where
 ι:={ o:O // o.size < 90000 }
 A o:=[.a o.1.g]
 B _:=[]
 R o:=.ret (g o.1)
 B' _:=[]
 inj i j vs bs h k _ _:=by rw [b43 h k];exact ⟨rfl,rfl⟩
theorem b5w {o:O} (h:o.isCo=false) (hn:O.eqb o A5=false):m8 o=none:=by
 cases o with
 | sy s=>simp only [m8];rw [if_neg];intro e;subst e;exact O.eqb_f.1 hn rfl
 | co=>cases h
 | _=>rfl
theorem d3u:j3 69 (b8t J1):=k7 (fun fn h=>f04 h) [(96,_),(56,_)] (.cons e7c (.cons c75 .nil)) fun U fn hfn ⟨o,hz⟩ vs bs hv hb=>by
 have hc:=hfn 96 _ rfl
 have hn:=hfn 56 _ rfl
 have hz:o.size < 90000:=hz
 have hv:j5 [.a o.g] vs:=hv
 have hb:RBs [] bs:=hb
 show g7 U _ fun v bs'=>j6 (.ret (J1 o)) v∧RBs [] bs'
 unfold r69
 refine X8 hv fun _ _ hv1 hv2=>?_
 refine M5 hv1 o.g_len fun q hq=>?_
 (refine Zq ?_;intros)
 refine E1 (fun (p:O × List O) vs bs=>∃ (x:O) (acc:List O) (v:V) (q:Q),p=(x,acc)∧vs=[.ptr 0 0,v]∧bs=[.opa q 7,.tok acc.length 7]∧u6 x.g q 0∧a0o 1 7 (acc.map O.g) v∧m8 o=(m8 x).map (acc ++ ·)∧acc.length+x.size≤o.size) (fun p=>p.1.size) (o,[]) ⟨o,[],_,_,rfl,rfl,rfl,aS,.b rfl,by simp,by simp⟩ (show o.size < x8 by simp only [x8];omega) ?_
 rintro self _ _ _ ⟨x,acc,v,q,rfl,rfl,rfl,hq,htok,hit,hsz⟩ ih
 have hpos:=x.size_pos
 (refine Zq ?_;intros)
 refine f6 hc x (r:=.c (.b x.isCo)) rfl (.k (oV aS) .nil) .nil fun _ _ _ _=>?_
 (refine Zq ?_;with_reducible repeat' first|intro _|apply aI)
 ·cases x with
  | co a d =>
   have hq:u6 [.i .i64 4,.s [],.s [],.s [],.s [],.s [],.l ([a,d].map O.g)] q 0:=hq
   have hs:(O.co a d).size=1+a.size+d.size:=rfl
   rw [hs] at hsz
   have hl2:([a,d]:List O).length=2:=rfl
   (refine Zq ?_;intros)
   refine T6 (xs:=acc.map O.g) (n:=7) (off:=0) aS (fun _=>a5r (by rw [O.g_len];decide) aS) (O.g_len _) (by simp) (by simp;omega) fun _ _=>?_
   (refine Zq ?_;intros)
   refine ih (d,acc ++ [a]) _ _ ⟨d,acc ++ [a],_,_,rfl,rfl,by rw [List.length_append];rfl,aS,.a _ _ (by simp) (by rw [List.map_append];assumption),?_,by simp;omega⟩ (by show d.size < 1+a.size+d.size;omega)
   rw [hit]
   simp only [m8,Option.map_map]
   congr 1
   funext l
   simp
  | _=>exact absurd ‹_› (by simp [O.isCo])
 ·refine f6 hn x (r:=.c (.b (O.eqb x A5))) rfl (.k (oV aS) .nil) .nil fun _ _ _ _=>?_
  (refine Zq ?_;with_reducible repeat' first|intro _|apply aI)
  ·have e:x=A5:=O.eqb_t.1 ‹_›
   subst e
   have e2:m8 o=some acc:=by rw [hit];simp [m8,A5]
   unfold J1
   rw [e2]
   exact g9 ⟨.ret _ _ (.t _ _ (.k (.sl _ _ _ _ _ (by simp) aS) (.k (.kn _) .nil))),.nil⟩
  ·have e2:m8 o=none:=by
    rw [hit,b5w (by simpa using ‹¬x.isCo=true›) (by simpa using ‹¬O.eqb x A5=true›)];rfl
   unfold J1
   rw [e2]
   exact g9 ⟨.ret _ _ (.t _ _ (.k (.sl0 _ _ _) (.k (.kn _) .nil))),.nil⟩
end
end Go.Proofs.YtdldcfllnohkeaaGreatDoor
