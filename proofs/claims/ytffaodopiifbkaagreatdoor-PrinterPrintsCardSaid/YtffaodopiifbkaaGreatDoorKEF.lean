/- The program's objects: formed, Valid; valid symbols. -/
import Derived.Test.YtffaodopiifbkaaGreatDoorKEE
import Derived.Test.YtffaodopiifbkaaGreatDoorKV
set_option linter.all false
namespace Go.Proofs.YtffaodopiifbkaaGreatDoor
open Go.Abs LQ
set_option maxRecDepth 100000
set_option maxHeartbeats 4000000
noncomputable section
def fmB (k:Int) (nu de:f4) (s:Sy) (t:f4) (ps:RT) (l:List Bool):Bool :=
 if k=4 then (match l with
  | [a,b]=>F5 ⟨k,nu,de,s,t,ps⟩ false false false && a && b
  | _=>false)
 else if k=1 then F5 ⟨k,nu,de,s,t,ps⟩ true false false && decide (ps.obs.length=0) && a0q nu de
 else if k=2 then F5 ⟨k,nu,de,s,t,ps⟩ false true false && decide (ps.obs.length=0) && named s
 else if k=3 then F5 ⟨k,nu,de,s,t,ps⟩ false false true && decide (ps.obs.length=0) && decide (t.length≤200)
 else false
def RT.fm:RT→List Bool
 | .nil=>[]
 | .node k nu de s t ps r=>fmB k nu de s t ps ps.fm :: r.fm
def Ob.fm (o:Ob):Bool:=fmB o.k o.nu o.de o.s o.t o.ps o.ps.fm
theorem RT.fm_eq:∀ p:RT,p.fm=p.obs.map Ob.fm
 | .nil=>rfl
 | .node _ _ _ _ _ _ r=>by simp only [RT.fm,RT.obs,List.map_cons,r.fm_eq];rfl
theorem b6q {o x y:Ob} (h:o.ps.obs=[x,y]) (hk:o.k=4):o.fm=(F5 o false false false && x.fm && y.fm):=by
 unfold Ob.fm fmB
 rw [if_pos hk,o.ps.fm_eq,h];rfl
theorem f3y {o:Ob} (h:∀ x y,o.ps.obs ≠ [x,y]) (hk:o.k=4):o.fm=false:=by
 unfold Ob.fm fmB
 rw [if_pos hk,o.ps.fm_eq]
 rcases e:o.ps.obs with _ | ⟨x,_ | ⟨y,_ | ⟨z,r⟩⟩⟩
 ·rfl
 ·rfl
 ·exact absurd e (h x y)
 ·rfl
theorem b7w {o:Ob} (hk:o.k=1):o.fm=(F5 o true false false && decide (o.ps.obs.length=0) && a0q o.nu o.de):=by
 unfold Ob.fm fmB;rw [if_neg oM,if_pos hk]
theorem b3x {o:Ob} (hk:o.k=2):o.fm=(F5 o false true false && decide (o.ps.obs.length=0) && named o.s):=by
 unfold Ob.fm fmB;rw [if_neg oM,if_neg oM,if_pos hk]
theorem b63 {o:Ob} (hk:o.k=3):o.fm=(F5 o false false true && decide (o.ps.obs.length=0) && decide (o.t.length≤200)):=by
 unfold Ob.fm fmB;rw [if_neg oM,if_neg oM,if_neg oM,if_pos hk]
theorem d51 {o:Ob} (h1:¬o.k=4) (h2:¬o.k=1) (h3:¬o.k=2) (h4:¬o.k=3):o.fm=false:=by
 unfold Ob.fm fmB;rw [if_neg h1,if_neg h2,if_neg h3,if_neg h4]
theorem f0p {o x y:Ob} (h:o.ps.obs=[x,y]):o.nd=1+x.nd+y.nd:=by rw [o.nd_eq,h]
theorem e8g {o x y:Ob} (h:o.ps.obs=[x,y]) (hs:o.sm):x.sm∧y.sm:=⟨RT.obs_sm hs.2 (by rw [h];simp),RT.obs_sm hs.2 (by rw [h];simp)⟩
def okF (o:Ob):Prop:=o.sm∧o.nd≤3000
theorem d9g (hst:j5 203 a1e):j5 141 (d0l okF fun o=>.c (.b o.fm)):=Q0 (fun p=>p.1.nd) fun n ih=>k8 (fun fn h=>e5f h) [(141,(d0l okF fun o=>.c (.b o.fm)).lt _ n),(168,_),(169,_),(170,_)] (.cons ih (.cons f5r (.cons (e37 hst) (.cons f5h .nil)))) fun U fn hfn ⟨⟨o,hs,hnd⟩,hn⟩ vs bs hv hb=>by
 have hf:=hfn 141 _ rfl
 have hba:=hfn 168 _ rfl
 have hlo:=hfn 169 _ rfl
 have hsy:=hfn 170 _ rfl
 have hv:j6 [.a o.g] vs:=hv
 have hb:g9 [] bs:=hb
 have hn:o.nd < n+1:=hn
 show g8 U _ fun v bs'=>j7 (.ret (.c (.b o.fm))) v∧g9 [] bs'
 unfold d68
 (refine Zq ?_;intros)
 refine D3 (fun (x:Ob) vs bs=>vs=[.ptr 0 0]∧g9 [x.g] bs∧x.fm=o.fm∧x.sm∧x.nd≤o.nd) (fun x=>x.nd) o ⟨rfl,RB.bx aS rfl,rfl,hs,Nat.le_refl _⟩ (show o.nd < v8 by simp only [v8];omega) ?_
 rintro self x _ _ ⟨rfl,hb,he,hxs,hxn⟩ ih2
 rw [← he]
 rw [x.g_eq] at hb
 have gq:∀ q,u1 [G.i .i64 x.k,.s x.nu,.s x.de,.s x.s.1,.s x.s.2,.s x.t,.l (x.ps.obs.map Ob.g)] q 0→u1 x.g q 0:=fun q h=>by rw [x.g_eq];exact h
 have fin:∀ (b:Bool),x.fm=b→g8 U (some (.ret (.known b),[])) fun v bs'=>j7 (.ret (.c (.b x.fm))) v∧g9 [] bs':=fun b h=>i6 ⟨.ret _ _ (F1 h),.nil⟩
 rcases c6k x.ps with ⟨a,b,e⟩ | ⟨hne,hno⟩
 ·have hab:=e8g e hxs
  have hnd2:=f0p e
  have hp1:=a.nd_pos
  have hp2:=b.nd_pos
  rw [e] at hb gq
  have hlen:decide (x.ps.obs.length=0)=false:=by rw [e];rfl
  (refine Zq ?_;with_reducible repeat' first|intro _|apply aI)
  ·(refine C0 (f:=Ob.g) aS (u2 Ob.g_len) fun _ _ _=>?_)
   (refine Zq ?_;with_reducible repeat' first|intro _|apply aI)
   ·refine f5 hba (x,false,false,false) (r:=.c (.b (F5 x false false false))) rfl (.k (.a _ _ _ rfl (gq _ aS)) j4) .nil fun _ _ _ _=>?_
    (refine Zq ?_;with_reducible repeat' first|intro _|apply aI)
    ·(refine C0 (f:=Ob.g) aS (u2 Ob.g_len) fun _ _ _=>?_)
     (refine Zq ?_;intros)
     refine f5 hf ⟨⟨a,hab.1,oM⟩,show a.nd < n by omega⟩ (r:=.c (.b a.fm)) rfl j4 .nil fun _ _ _ _=>?_
     (refine Zq ?_;with_reducible repeat' first|intro _|apply aI)
     ·(refine C0 (f:=Ob.g) aS (u2 Ob.g_len) fun _ _ _=>?_)
      (refine Zq ?_;intros)
      rw [he]
      exact ih2 b _ _ ⟨rfl,RB.bx aS rfl,by rw [← he,b6q e ‹x.k=4›];simp [*],hab.2,oM⟩ oM
     ·exact fin false ((b6q e ‹x.k=4›).trans (by simp [*]))
    ·exact fin false ((b6q e ‹x.k=4›).trans (by simp [*]))
   ·exact absurd rfl ‹¬_›
  ·refine f5 hba (x,true,false,false) (r:=.c (.b (F5 x true false false))) rfl (.k (.a _ _ _ rfl (gq _ aS)) j4) .nil fun _ _ _ _=>?_
   (refine Zq ?_;with_reducible repeat' first|intro _|apply aI)
   ·(refine C0 (f:=Ob.g) aS (u2 Ob.g_len) fun _ _ _=>?_)
    (refine Zq ?_;with_reducible repeat' first|intro _|apply aI)
    ·exact absurd ‹((([a,b]:List Ob).length:Nat):Int)=0› (by simp)
    ·exact fin false ((b7w ‹x.k=1›).trans (by rw [hlen,Bool.and_false];rfl))
   ·exact fin false ((b7w ‹x.k=1›).trans (by simp [*]))
  ·refine f5 hba (x,false,true,false) (r:=.c (.b (F5 x false true false))) rfl (.k (.a _ _ _ rfl (gq _ aS)) j4) .nil fun _ _ _ _=>?_
   (refine Zq ?_;with_reducible repeat' first|intro _|apply aI)
   ·(refine C0 (f:=Ob.g) aS (u2 Ob.g_len) fun _ _ _=>?_)
    (refine Zq ?_;with_reducible repeat' first|intro _|apply aI)
    ·exact absurd ‹((([a,b]:List Ob).length:Nat):Int)=0› (by simp)
    ·exact fin false ((b3x ‹x.k=2›).trans (by rw [hlen,Bool.and_false];rfl))
   ·exact fin false ((b3x ‹x.k=2›).trans (by simp [*]))
  ·refine f5 hba (x,false,false,true) (r:=.c (.b (F5 x false false true))) rfl (.k (.a _ _ _ rfl (gq _ aS)) j4) .nil fun _ _ _ _=>?_
   (refine Zq ?_;with_reducible repeat' first|intro _|apply aI)
   ·(refine C0 (f:=Ob.g) aS (u2 Ob.g_len) fun _ _ _=>?_)
    (refine Zq ?_;with_reducible repeat' first|intro _|apply aI)
    ·exact absurd ‹((([a,b]:List Ob).length:Nat):Int)=0› (by simp)
    ·exact fin false ((b63 ‹x.k=3›).trans (by rw [hlen,Bool.and_false];rfl))
   ·exact fin false ((b63 ‹x.k=3›).trans (by simp [*]))
  ·exact fin false (d51 (o:=x) aS aS aS aS)
 ·(refine Zq ?_;with_reducible repeat' first|intro _|apply aI)
  ·(refine C0 (f:=Ob.g) aS (u2 Ob.g_len) fun _ _ _=>?_)
   (refine Zq ?_;with_reducible repeat' first|intro _|apply aI)
   ·exact absurd ‹_› hne
   ·exact fin false (f3y hno ‹x.k=4›)
  ·refine f5 hba (x,true,false,false) (r:=.c (.b (F5 x true false false))) rfl (.k (.a _ _ _ rfl (gq _ aS)) j4) .nil fun _ _ _ _=>?_
   (refine Zq ?_;with_reducible repeat' first|intro _|apply aI)
   ·(refine C0 (f:=Ob.g) aS (u2 Ob.g_len) fun _ _ _=>?_)
    (refine Zq ?_;with_reducible repeat' first|intro _|apply aI)
    ·have hl0:decide (x.ps.obs.length=0)=true:=decide_eq_true oM
     refine f5 hlo ⟨(x.nu,x.de),hxs.1.1,hxs.1.2.1⟩ (r:=.c (.b (a0q x.nu x.de))) rfl j4 .nil fun _ _ _ _=>?_
     (refine Zq ?_;intros)
     rw [b7w ‹x.k=1›,hl0,‹F5 x true false false=true›,Bool.true_and,Bool.true_and]
     exact i6 ⟨.ret _ _ (.b _),.nil⟩
    ·exact fin false ((b7w ‹x.k=1›).trans (by rw [show decide (x.ps.obs.length=0)=false from decide_eq_false oM,Bool.and_false];rfl))
   ·exact fin false ((b7w ‹x.k=1›).trans (by simp [*]))
  ·refine f5 hba (x,false,true,false) (r:=.c (.b (F5 x false true false))) rfl (.k (.a _ _ _ rfl (gq _ aS)) j4) .nil fun _ _ _ _=>?_
   (refine Zq ?_;with_reducible repeat' first|intro _|apply aI)
   ·(refine C0 (f:=Ob.g) aS (u2 Ob.g_len) fun _ _ _=>?_)
    (refine Zq ?_;with_reducible repeat' first|intro _|apply aI)
    ·have hl0:decide (x.ps.obs.length=0)=true:=decide_eq_true oM
     refine f5 hsy ⟨x.s,hxs.1.2.2.1,hxs.1.2.2.2⟩ (r:=.c (.b (named x.s))) rfl (.k (.a _ _ _ rfl (show u1 (List.take 2 [G.s x.s.1,.s x.s.2,.s x.t,.l (x.ps.obs.map Ob.g)]) _ 0 from u1.take 2 aS)) .nil) .nil fun _ _ _ _=>?_
     (refine Zq ?_;intros)
     rw [b3x ‹x.k=2›,hl0,‹F5 x false true false=true›,Bool.true_and,Bool.true_and]
     exact i6 ⟨.ret _ _ (.b _),.nil⟩
    ·exact fin false ((b3x ‹x.k=2›).trans (by rw [show decide (x.ps.obs.length=0)=false from decide_eq_false oM,Bool.and_false];rfl))
   ·exact fin false ((b3x ‹x.k=2›).trans (by simp [*]))
  ·refine f5 hba (x,false,false,true) (r:=.c (.b (F5 x false false true))) rfl (.k (.a _ _ _ rfl (gq _ aS)) j4) .nil fun _ _ _ _=>?_
   (refine Zq ?_;with_reducible repeat' first|intro _|apply aI)
   ·(refine C0 (f:=Ob.g) aS (u2 Ob.g_len) fun _ _ _=>?_)
    (refine Zq ?_;with_reducible repeat' first|intro _|apply aI)
    ·have hl0:decide (x.ps.obs.length=0)=true:=decide_eq_true oM
     rw [b63 ‹x.k=3›,hl0,‹F5 x false false true=true›,Bool.true_and,Bool.true_and]
     exact D8 fun e=>⟨.ret _ _ (K9 (by subst e;rw [c4r,Bool.eq_iff_iff,decide_eq_true_iff,decide_eq_true_iff];omega)),.nil⟩
    ·exact fin false ((b63 ‹x.k=3›).trans (by rw [show decide (x.ps.obs.length=0)=false from decide_eq_false oM,Bool.and_false];rfl))
   ·exact fin false ((b63 ‹x.k=3›).trans (by simp [*]))
  ·exact fin false (d51 (o:=x) aS aS aS aS)
def Ob.vd (o:Ob):Bool:=decide (o.nd≤3000) && o.fm
theorem c8c (hst:j5 203 a1e):j5 104 (d0l Ob.sm fun o=>.c (.b o.vd)):=k8 (fun fn h=>e4h h) [(89,_),(141,_)] (.cons e3k (.cons (d9g hst) .nil)) fun U fn hfn ⟨o,hs⟩ vs bs hv hb=>by
 have hn:=hfn 89 _ rfl
 have hf:=hfn 141 _ rfl
 have hv:j6 [.a o.g] vs:=hv
 have hb:g9 [] bs:=hb
 show g8 U _ fun v bs'=>j7 (.ret (.c (.b o.vd))) v∧g9 [] bs'
 unfold d84
 (refine Zq ?_;intros)
 refine f5 hn ⟨o,trivial⟩ (r:=.c (.i .i64 (min o.nd 3001:Nat))) rfl j4 .nil fun _ _ _ _=>?_
 (refine Zq ?_;with_reducible repeat' first|intro _|apply aI)
 ·have h:o.nd≤3000:=oM
  refine f5 hf ⟨o,hs,h⟩ (r:=.c (.b o.fm)) rfl j4 .nil fun _ _ _ _=>?_
  (refine Zq ?_;intros)
  unfold Ob.vd
  rw [decide_eq_true h,Bool.true_and]
  exact i6 ⟨.ret _ _ (.b _),.nil⟩
 ·exact i6 ⟨.ret _ _ (F1 (by unfold Ob.vd;rw [decide_eq_false oM];rfl)),.nil⟩
theorem c3v:j5 105 (e8m fun s=>.a (O.sy s).g):=k8 (fun fn h=>e23 h) [] .nil fun U fn hfn s vs bs hv hb=>by
 have hv:j6 [.a [.s s.1,.s s.2]] vs:=hv
 have hb:g9 [] bs:=hb
 show g8 U _ fun v bs'=>j7 (.ret (.a (O.sy s).g)) v∧g9 [] bs'
 unfold d44
 (refine Zq ?_;intros)
 exact D8 fun e=>by
  subst e
  exact ⟨.ret _ _ (.ag _ _ (by (exact Zru))),.nil⟩
def syB (s:Sy):Ob:=⟨2,[],[],s,[],.nil⟩
theorem e8z (s:Sy):(syB s).vd=named s:=by
 have h1:(syB s).nd=1:=rfl
 unfold Ob.vd
 rw [h1,b3x rfl]
 simp [F5,syB,RT.obs]
theorem c8d (hst:j5 203 a1e):j5 59 (c00 fun s=>.c (.b (named s))):=k8 (fun fn h=>f02 h) [(105,_),(104,_)] (.cons c3v (.cons (c8c hst) .nil)) fun U fn hfn ⟨s,h1,h2⟩ vs bs hv hb=>by
 have hs:=hfn 105 _ rfl
 have ho:=hfn 104 _ rfl
 have hv:j6 [.a (sg s)] vs:=hv
 have hb:g9 [] bs:=hb
 show g8 U _ fun v bs'=>j7 (.ret (.c (.b (named s)))) v∧g9 [] bs'
 unfold r59
 (refine Zq ?_;intros)
 refine f5 hs s (r:=.a (syB s).g) rfl j4 .nil fun _ _ _ _=>?_
 (refine Zq ?_;intros)
 refine f5 ho ⟨syB s,⟨⟨by show 0 < 8000;omega,by show 0 < 8000;omega,h1,h2⟩,trivial⟩⟩ (r:=.c (.b (named s))) (by show n5.ret (.c (.b (syB s).vd))=_;rw [e8z]) (.k (.a _ _ _ rfl aS) .nil) .nil fun _ _ _ _=>?_
 (refine Zq ?_;intros)
 exact i6 ⟨.ret _ _ (.b _),.nil⟩
theorem b78 (hst:j5 203 a1e):j5 163 (sp1 fun s=>.ret (.c (.b (m7 s)))):=k8 (fun fn h=>e48 h) [(59,_)] (.cons (c8d hst) .nil) fun U fn hfn ⟨s,hs⟩ vs bs hv hb=>by
 have hvd:=hfn 59 _ rfl
 have hv:j6 [.c (.s s)] vs:=hv
 have hb:g9 [] bs:=hb
 show g8 U _ fun v bs'=>j7 (.ret (.c (.b (m7 s)))) v∧g9 [] bs'
 unfold d7h
 have e:named (s,k7 1 120)=m7 s:=by
  unfold named
  rw [show decide (1≤(s,k7 1 120).2.length∧(s,k7 1 120).2.length≤40)=true from (by decide:decide (1≤(k7 1 120).length∧(k7 1 120).length≤40)=true),Bool.and_true]
 (refine Zq ?_;intros)
 refine f5 hvd ⟨(s,k7 1 120),hs,by show (k7 1 120).length < 90000;decide⟩ (r:=.c (.b (m7 s))) (by show n5.ret (.c (.b (named (s,k7 1 120))))=_;rw [e]) (.k (.ag _ _ j4) .nil) .nil fun _ _ _ _=>?_
 (refine Zq ?_;intros)
 exact i6 ⟨.ret _ _ (.b _),.nil⟩
theorem c68:j5 115 (spO fun a=>.c (.b (O.eqb a z8))):=k8 (fun fn h=>e5j h) [] .nil fun U fn hfn (a:O) vs bs hv hb=>by
 have hv:j6 [.a a.g] vs:=hv
 have hb:g9 [] bs:=hb
 show g8 U _ fun v bs'=>j7 (.ret (.c (.b (O.eqb a z8)))) v∧g9 [] bs'
 unfold d5h
 rw [a.g_eq] at hv
 have hsy:a.k=2→a=.sy a.sym:=by
  intro h
  cases a with
  | sy s=>rfl
  | num=>exact absurd h (by show ¬(1:Int)=2;decide)
  | tx=>exact absurd h (by show ¬(3:Int)=2;decide)
  | co=>exact absurd h (by show ¬(4:Int)=2;decide)
  | no=>exact absurd h (by show ¬(0:Int)=2;decide)
 (refine Zq ?_;with_reducible repeat' first|intro _|apply aI)
 ·have e:=hsy ‹_›
  refine fun e2=>?_
  subst e2
  refine ⟨_,_,rfl,.ret _ _ (K9 ?_),.nil⟩
  rw [Bool.eq_iff_iff,O.eqb_t,b1w,b1w,b0j,b0j]
  simp only [Bool.and_true,Bool.and_eq_true,decide_eq_true_iff]
  rw [e]
  constructor
  ·intro h;injection h with h;rw [h];exact ⟨rfl,rfl⟩
  ·rintro ⟨h1,h2⟩;exact congrArg O.sy (Prod.ext h1 h2)
 ·exact i6 ⟨.ret _ _ (F1 (O.eqb_f.2 fun e=>by subst e;exact absurd rfl ‹¬_›)),.nil⟩
theorem e95:j5 146 (spO fun a=>.c (.b a.isCo)):=k8 (fun fn h=>e4w h) [] .nil fun U fn hfn (a:O) vs bs hv hb=>by
 have hv:j6 [.a a.g] vs:=hv
 have hb:g9 [] bs:=hb
 show g8 U _ fun v bs'=>j7 (.ret (.c (.b a.isCo))) v∧g9 [] bs'
 unfold d9n
 rw [a.g_eq] at hv
 (refine Zq ?_;with_reducible repeat' first|intro _|apply aI)
 ·refine D8 fun e=>?_
  subst e
  refine ⟨.ret _ _ (K9 ?_),.nil⟩
  rw [a0c]
  have hk:=‹a.k=4›
  cases a <;> simp [O.k] at hk
  rfl
 ·exact i6 ⟨.ret _ _ (F1 (by have hk:=‹¬a.k=4›;cases a <;> simp [O.k] at hk <;> rfl)),.nil⟩
theorem f7i:j5 144 { ι:=O,A:=fun a=>[.a a.g,.a x7.g],B:=fun _=>[],R:=fun a=>.ret (.c (.b (O.eqb a x7))),B':=fun _=>[],inj:=fun i j vs bs h k _ _=>(by rw [(c28 h k).1];exact ⟨rfl,rfl⟩) }:=k8 (fun fn h=>e5v h) [] .nil fun U fn hfn (a:O) vs bs hv hb=>by
 have hv:j6 [.a a.g,.a x7.g] vs:=hv
 have hb:g9 [] bs:=hb
 show g8 U _ fun v bs'=>j7 (.ret (.c (.b (O.eqb a x7)))) v∧g9 [] bs'
 unfold d9z
 rw [a.g_eq,x7.g_eq] at hv
 (refine Zq ?_;intros)
 refine D3 (fun (_:Unit) vs bs=>vs=[.ptr 0 0,.ptr 1 0]∧g9 [a.g,x7.g] bs) (fun _=>0) () ⟨rfl,by rw [a.g_eq,x7.g_eq];exact .k (.opa _ _ _ rfl aS) (.k (.opa _ _ _ rfl aS) .nil)⟩ (by simp only [v8];omega) ?_
 rintro self _ _ _ ⟨rfl,hb⟩ _
 rw [a.g_eq,x7.g_eq] at hb
 (refine Zq ?_;with_reducible repeat' first|intro _|apply aI)
 ·have e5:a.ps=[]:=by
   have h:=‹((a.ps.length:Nat):Int)=0›
   exact List.length_eq_zero_iff.1 oM
  have e4:=‹a.sym.1=x7.sym.1∧_›
  have e:a=x7:=O.ext ‹_› ‹_› ‹_› (Prod.ext e4.1 e4.2.1) ‹_› e5
  exact i6 ⟨.ret _ _ (F1 (O.eqb_t.2 e)),.nil⟩
 ·exfalso
  have h1:=‹((a.ps.length:Nat):Int)=((x7.ps.length:Nat):Int)›
  have h2:=‹¬((a.ps.length:Nat):Int)=0›
  exact h2 h1
 all_goals exact i6 ⟨.ret _ _ (F1 (O.eqb_f.2 fun e=>by subst e;first | exact absurd rfl ‹¬_› | exact absurd (⟨rfl,rfl,trivial⟩:x7.sym.1=x7.sym.1∧x7.sym.2=x7.sym.2∧True) ‹¬_›)),.nil⟩
def L6 (o:O):GV:=match A3 o with
 | some l=>.t [.sl 7 (l.map O.g),.c (.b true)]
 | none=>.t [.sl 7 [],.c (.b false)]
def d0d (g:O→GV):Sp where
 ι:={ o:O // o.size < 90000 }
 A o:=[.a o.1.g]
 B _:=[]
 R o:=.ret (g o.1)
 B' _:=[]
 inj i j vs bs h k _ _:=by rw [b4y h k];exact ⟨rfl,rfl⟩
theorem b58 {o:O} (h:o.isCo=false) (hn:O.eqb o z8=false):A3 o=none:=by
 cases o with
 | sy s=>simp only [A3];rw [if_neg];intro e;subst e;exact O.eqb_f.1 hn rfl
 | co=>cases h
 | _=>rfl
theorem e60:j5 121 (d0d L6):=k8 (fun fn h=>e2l h) [(146,_),(115,_)] (.cons e95 (.cons c68 .nil)) fun U fn hfn ⟨o,hz⟩ vs bs hv hb=>by
 have hc:=hfn 146 _ rfl
 have hn:=hfn 115 _ rfl
 have hz:o.size < 90000:=hz
 have hv:j6 [.a o.g] vs:=hv
 have hb:g9 [] bs:=hb
 show g8 U _ fun v bs'=>j7 (.ret (L6 o)) v∧g9 [] bs'
 unfold d9f
 refine W2 hv fun _ _ hv1 hv2=>?_
 refine N2 hv1 o.g_len fun q hq=>?_
 (refine Zq ?_;intros)
 refine D3 (fun (p:O × List O) vs bs=>∃ (x:O) (acc:List O) (v:V) (q:Q),p=(x,acc)∧vs=[.ptr 0 0,v]∧bs=[.opa q 7,.tok acc.length 7]∧u1 x.g q 0∧a0m 1 7 (acc.map O.g) v∧A3 o=(A3 x).map (acc ++ ·)∧acc.length+x.size≤o.size) (fun p=>p.1.size) (o,[]) ⟨o,[],_,_,rfl,rfl,rfl,aS,.b rfl,by simp,by simp⟩ (show o.size < v8 by simp only [v8];omega) ?_
 rintro self _ _ _ ⟨x,acc,v,q,rfl,rfl,rfl,hq,htok,hit,hsz⟩ ih
 have hpos:=x.size_pos
 (refine Zq ?_;intros)
 refine f5 hc x (r:=.c (.b x.isCo)) rfl (.k (oV aS) .nil) .nil fun _ _ _ _=>?_
 (refine Zq ?_;with_reducible repeat' first|intro _|apply aI)
 ·cases x with
  | co a d =>
   have hq:u1 [.i .i64 4,.s [],.s [],.s [],.s [],.s [],.l ([a,d].map O.g)] q 0:=hq
   have hs:(O.co a d).size=1+a.size+d.size:=rfl
   rw [hs] at hsz
   have hl2:([a,d]:List O).length=2:=rfl
   (refine Zq ?_;intros)
   refine S3 (xs:=acc.map O.g) (n:=7) (off:=0) aS (fun _=>a4r (by rw [O.g_len];decide) aS) (O.g_len _) (by simp) (by simp;omega) fun _ _=>?_
   (refine Zq ?_;intros)
   refine ih (d,acc ++ [a]) _ _ ⟨d,acc ++ [a],_,_,rfl,rfl,by rw [List.length_append];rfl,aS,.a _ _ (by simp) (by rw [List.map_append];assumption),?_,by simp;omega⟩ (by show d.size < 1+a.size+d.size;omega)
   rw [hit]
   simp only [A3,Option.map_map]
   congr 1
   funext l
   simp
  | _=>exact absurd ‹_› (by simp [O.isCo])
 ·refine f5 hn x (r:=.c (.b (O.eqb x z8))) rfl (.k (oV aS) .nil) .nil fun _ _ _ _=>?_
  (refine Zq ?_;with_reducible repeat' first|intro _|apply aI)
  ·have e:x=z8:=O.eqb_t.1 ‹_›
   subst e
   have e2:A3 o=some acc:=by rw [hit];simp [A3,z8]
   unfold L6
   rw [e2]
   exact i6 ⟨.ret _ _ (.t _ _ (.k (.sl _ _ _ _ _ (by simp) aS) (.k (.kn _) .nil))),.nil⟩
  ·have e2:A3 o=none:=by
    rw [hit,b58 (by simpa using ‹¬x.isCo=true›) (by simpa using ‹¬O.eqb x z8=true›)];rfl
   unfold L6
   rw [e2]
   exact i6 ⟨.ret _ _ (.t _ _ (.k (.sl0 _ _ _) (.k (.kn _) .nil))),.nil⟩
end
end Go.Proofs.YtffaodopiifbkaaGreatDoor
