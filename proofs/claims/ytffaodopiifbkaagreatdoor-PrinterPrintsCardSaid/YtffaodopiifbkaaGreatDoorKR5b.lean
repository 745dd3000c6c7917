/- The reference's objects: constructors, recognizers. -/
import Derived.Test.YtffaodopiifbkaaGreatDoorKR5
set_option linter.all false
namespace Go.Proofs.YtffaodopiifbkaaGreatDoor
open Go.Abs LQ
set_option maxRecDepth 100000
set_option maxHeartbeats 4000000
noncomputable section
theorem u1.at {gs:List G} {q:Q} {j:Nat} {g:G} (h:u1 gs q 0) (e:gs[j]?=some g):RG g (CU.celQ q j):=by
 have:=h.get e;rw [Nat.zero_add] at this;exact this
def sg (s:Sy):List G:=[.s s.1,.s s.2]
theorem a6y {a b:Sy} (h:sg a=sg b):a=b:=by simp only [sg,List.cons.injEq,G.s.injEq,and_true] at h;exact Prod.ext h.1 h.2
def s7:f4:=[108,105,115,112]
def z8:O:=.sy (s7,[110,105,108])
def sp0 (g:GV):Sp where
 ι:=Unit
 A _:=[]
 B _:=[]
 R _:=.ret g
 B' _:=[]
 inj _ _ _ _ _ _ _ _:=⟨rfl,rfl⟩
def c9d (g:f4→GV):Sp where
 ι:=f4
 A s:=[.c (.s s)]
 B _:=[]
 R s:=.ret (g s)
 B' _:=[]
 inj i j vs bs h k _ _:=by
  obtain ⟨_,_,h1,k1,h,k⟩:=h.two k
  rw [F2 h1 k1];exact ⟨rfl,rfl⟩
def e8m (g:Sy→GV):Sp where
 ι:=Sy
 A s:=[.a (sg s)]
 B _:=[]
 R s:=.ret (g s)
 B' _:=[]
 inj i j vs bs h k _ _:=by
  obtain ⟨_,_,h1,k1,h,k⟩:=h.two k
  rw [a6y (h1.a_inj k1)];exact ⟨rfl,rfl⟩
def spO (g:O→GV):Sp where
 ι:=O
 A o:=[.a o.g]
 B _:=[]
 R o:=.ret (g o)
 B' _:=[]
 inj i j vs bs h k _ _:=by rw [b4y h k];exact ⟨rfl,rfl⟩
def f6j (g:O→O→GV):Sp where
 ι:=O × O
 A o:=[.a o.1.g,.a o.2.g]
 B _:=[]
 R o:=.ret (g o.1 o.2)
 B' _:=[]
 inj i j vs bs h k _ _:=by obtain ⟨e1,e2⟩:=c28 h k;rw [e1,e2];exact ⟨rfl,rfl⟩
theorem b43:j5 47 (c9d fun s=>.a (sg (s7,s))):=k8 (fun fn h=>e7e h) [] .nil fun U fn hfn s vs bs hv hb=>by
 have hv:j6 [.c (.s s)] vs:=hv
 have hb:g9 [] bs:=hb
 show g8 U _ fun v bs'=>j7 (.ret (.a (sg (s7,s)))) v∧g9 [] bs'
 unfold r47
 (refine Zx ?_;intros)
 exact i6 ⟨.ret _ _ j4,.nil⟩
theorem b13:j5 43 (e8m fun s=>.a (O.sy s).g):=k8 (fun fn h=>f1u h) [] .nil fun U fn hfn s vs bs hv hb=>by
 have hv:j6 [.a [.s s.1,.s s.2]] vs:=hv
 have hb:g9 [] bs:=hb
 show g8 U _ fun v bs'=>j7 (.ret (.a (O.sy s).g)) v∧g9 [] bs'
 unfold r43
 (refine Zx ?_;intros)
 exact D8 fun e=>by subst e;exact ⟨.ret _ _ (by (exact Zru)),.nil⟩
theorem e9j:j5 72 (c9d fun s=>.a (O.tx s).g):=k8 (fun fn h=>f1y h) [] .nil fun U fn hfn s vs bs hv hb=>by
 have hv:j6 [.c (.s s)] vs:=hv
 have hb:g9 [] bs:=hb
 show g8 U _ fun v bs'=>j7 (.ret (.a (O.tx s).g)) v∧g9 [] bs'
 unfold r72
 (refine Zx ?_;intros)
 exact i6 ⟨.ret _ _ j4,.nil⟩
theorem e0c:j5 73 (f6j fun a d=>.a (O.co a d).g):=k8 (fun fn h=>e7y h) [] .nil fun U fn hfn ⟨a,d⟩ vs bs hv hb=>by
 have hv:j6 [.a a.g,.a d.g] vs:=hv
 have hb:g9 [] bs:=hb
 show g8 U _ fun v bs'=>j7 (.ret (.a (O.co a d).g)) v∧g9 [] bs'
 unfold r73
 refine W2 hv fun v l hv1 hv2=>?_
 refine N2 hv1 a.g_len fun qa ha=>?_
 refine W2 hv2 fun v l hv3 hv4=>?_
 refine N2 hv3 d.g_len fun qd hd=>?_
 refine b48 hv4 (a7t hb ?_)
 refine a7o ha fun xa ha=>?_
 refine a7o hd fun xd hd=>?_
 refine i6 ⟨.ret _ _ (.ag _ _ ?_),.nil⟩
 refine .k (.i _ _) (.k (.s _ _ _ rfl rfl) (.k (.s _ _ _ rfl rfl) (.k (.s _ _ _ rfl rfl) (.k (.s _ _ _ rfl rfl) (.k (.s _ _ _ rfl rfl) (.k (.cl _ _ _ _ _ rfl ?_) .nil))))))
 have r1:=a4r (by rw [O.g_len];decide) ha
 have r2:=a4r (by rw [O.g_len];decide) hd
 exact .cons _ _ _ _ _ a.g_len r1.1 r1.2 (.cons _ _ _ _ _ d.g_len r2.1 r2.2 (.nil _ _ _))
def O.isCo:O→Bool
 | .co _ _=>true
 | _=>false
theorem c70:j5 119 (spO fun a=>.c (.b a.isCo)):=k8 (fun fn h=>e5r h) [] .nil fun U fn hfn a vs bs hv hb=>by
 have hv:j6 [.a a.g] vs:=hv
 have hb:g9 [] bs:=hb
 show g8 U _ fun v bs'=>j7 (.ret (.c (.b a.isCo))) v∧g9 [] bs'
 unfold d89
 rw [a.g_eq] at hv
 cases a <;> simp only [O.k,O.nu,O.de,O.sym,O.txt,O.ps] at hv <;> (refine Zx ?_;with_reducible repeat' first|intro _|apply aI)
 all_goals try (exfalso;omega)
 all_goals first
  | exact i6 ⟨.ret _ _ (F1 rfl),.nil⟩
  | exact D8 fun e=>by subst e;exact ⟨.ret _ _ (K9 (by rw [a0c];rfl)),.nil⟩
theorem a6i:f7 1=P5:=by unfold f7;rw [if_neg dE,C9 dE,show 1 / 10=0 from rfl,u3];rfl
theorem e7f:j5 84 (sp0 (.a z8.g)):=k8 (fun fn h=>e6z h) [(47,_),(43,_)] (.cons b43 (.cons b13 .nil)) fun U fn hfn _ vs bs hv hb=>by
 have hl:=hfn 47 _ rfl
 have hs:=hfn 43 _ rfl
 have hv:j6 [] vs:=hv
 have hb:g9 [] bs:=hb
 show g8 U _ fun v bs'=>j7 (.ret (.a z8.g)) v∧g9 [] bs'
 unfold r84
 (refine Zx ?_;intros)
 refine f5 hl ([110,105,108]:f4) (r:=.a (sg (s7,[110,105,108]))) rfl j4 .nil fun _ _ _ _=>?_
 (refine Zx ?_;intros)
 refine f5 hs (s7,([110,105,108]:f4)) (r:=.a z8.g) rfl j4 .nil fun _ _ _ _=>?_
 (refine Zx ?_;intros)
 exact i6 ⟨.ret _ _ j4,.nil⟩
theorem d3m:j5 120 (spO fun a=>.c (.b (O.eqb a z8))):=k8 (fun fn h=>e3x h) [(84,_),(22,_)] (.cons e7f (.cons d4l .nil)) fun U fn hfn a vs bs hv hb=>by
 have hn:=hfn 84 _ rfl
 have he:=hfn 22 _ rfl
 have hv:j6 [.a a.g] vs:=hv
 have hb:g9 [] bs:=hb
 show g8 U _ fun v bs'=>j7 (.ret (.c (.b (O.eqb a z8)))) v∧g9 [] bs'
 unfold d7f
 refine W2 hv fun v l hv1 hv2=>?_
 refine N2 hv1 a.g_len fun qa ha=>?_
 (refine Zx ?_;intros)
 refine f5 hn () (r:=.a z8.g) rfl .nil .nil fun _ _ _ _=>?_
 (refine Zx ?_;intros)
 refine f5 he (a,z8) (r:=.c (.b (O.eqb a z8))) rfl j4 .nil fun _ _ _ _=>?_
 (refine Zx ?_;intros)
 exact i6 ⟨.ret _ _ j4,.nil⟩
end
end Go.Proofs.YtffaodopiifbkaaGreatDoor
