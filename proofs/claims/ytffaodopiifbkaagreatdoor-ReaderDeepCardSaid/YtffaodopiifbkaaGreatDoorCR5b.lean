/- The reference's objects: constructors, recognizers. -/
import Derived.Test.YtffaodopiifbkaaGreatDoorCR5
set_option linter.all false
namespace Go.Proofs.YtffaodopiifbkaaGreatDoor
open Go.Abs LQ
set_option maxRecDepth 100000
set_option maxHeartbeats 4000000
noncomputable section
theorem x4.at {gs:List G} {q:Q} {j:Nat} {g:G} (h:x4 gs q 0) (e:gs[j]?=some g):RG g (CU.celQ q j):=by
 have:=h.get e;rw [Nat.zero_add] at this;exact this
def sg (s:Sy):List G:=[.s s.1,.s s.2]
theorem b0y {a b:Sy} (h:sg a=sg b):a=b:=by simp only [sg,List.cons.injEq,G.s.injEq,and_true] at h;exact Prod.ext h.1 h.2
def y8:j0:=[108,105,115,112]
def R3:O:=.sy (y8,[110,105,108])
def sp0 (g:GV):Sp where
 ι:=Unit
 A _:=[]
 B _:=[]
 R _:=.ret g
 B' _:=[]
 inj _ _ _ _ _ _ _ _:=⟨rfl,rfl⟩
def c9m (g:j0→GV):Sp where
 ι:=j0
 A s:=[.c (.s s)]
 B _:=[]
 R s:=.ret (g s)
 B' _:=[]
 inj i j vs bs h k _ _:=by
  obtain ⟨_,_,h1,k1,h,k⟩:=h.two k
  rw [F1 h1 k1];exact ⟨rfl,rfl⟩
def e80 (g:Sy→GV):Sp where
 ι:=Sy
 A s:=[.a (sg s)]
 B _:=[]
 R s:=.ret (g s)
 B' _:=[]
 inj i j vs bs h k _ _:=by
  obtain ⟨_,_,h1,k1,h,k⟩:=h.two k
  rw [b0y (h1.a_inj k1)];exact ⟨rfl,rfl⟩
def spO (g:O→GV):Sp where
 ι:=O
 A o:=[.a o.g]
 B _:=[]
 R o:=.ret (g o)
 B' _:=[]
 inj i j vs bs h k _ _:=by rw [d1q h k];exact ⟨rfl,rfl⟩
def e71 (g:O→O→GV):Sp where
 ι:=O × O
 A o:=[.a o.1.g,.a o.2.g]
 B _:=[]
 R o:=.ret (g o.1 o.2)
 B' _:=[]
 inj i j vs bs h k _ _:=by obtain ⟨e1,e2⟩:=d2z h k;rw [e1,e2];exact ⟨rfl,rfl⟩
theorem c06:l6 47 (c9m fun s=>.a (sg (y8,s))):=o7 (fun fn h=>e5n h) [] .nil fun U fn hfn s vs bs hv hb=>by
 have hv:l8 [.c (.s s)] vs:=hv
 have hb:RBs [] bs:=hb
 show j3 U _ fun v bs'=>l7 (.ret (.a (sg (y8,s)))) v∧RBs [] bs'
 unfold r47
 (refine Zx ?_;intros)
 exact k9 ⟨.ret _ _ j7,.nil⟩
theorem b7q:l6 43 (e80 fun s=>.a (O.sy s).g):=o7 (fun fn h=>e69 h) [] .nil fun U fn hfn s vs bs hv hb=>by
 have hv:l8 [.a [.s s.1,.s s.2]] vs:=hv
 have hb:RBs [] bs:=hb
 show j3 U _ fun v bs'=>l7 (.ret (.a (O.sy s).g)) v∧RBs [] bs'
 unfold r43
 (refine Zx ?_;intros)
 exact I7 fun e=>by subst e;exact ⟨.ret _ _ (by (exact W8)),.nil⟩
theorem e81:l6 72 (c9m fun s=>.a (O.tx s).g):=o7 (fun fn h=>e4n h) [] .nil fun U fn hfn s vs bs hv hb=>by
 have hv:l8 [.c (.s s)] vs:=hv
 have hb:RBs [] bs:=hb
 show j3 U _ fun v bs'=>l7 (.ret (.a (O.tx s).g)) v∧RBs [] bs'
 unfold r72
 (refine Zx ?_;intros)
 exact k9 ⟨.ret _ _ j7,.nil⟩
theorem d9c:l6 73 (e71 fun a d=>.a (O.co a d).g):=o7 (fun fn h=>e6c h) [] .nil fun U fn hfn ⟨a,d⟩ vs bs hv hb=>by
 have hv:l8 [.a a.g,.a d.g] vs:=hv
 have hb:RBs [] bs:=hb
 show j3 U _ fun v bs'=>l7 (.ret (.a (O.co a d).g)) v∧RBs [] bs'
 unfold r73
 refine a1i hv fun v l hv1 hv2=>?_
 refine H4 hv1 a.g_len fun qa ha=>?_
 refine a1i hv2 fun v l hv3 hv4=>?_
 refine H4 hv3 d.g_len fun qd hd=>?_
 refine b1w hv4 (a5i hb ?_)
 refine a1z ha fun xa ha=>?_
 refine a1z hd fun xd hd=>?_
 refine k9 ⟨.ret _ _ (.ag _ _ ?_),.nil⟩
 refine .k (.i _ _) (.k (.s _ _ _ rfl rfl) (.k (.s _ _ _ rfl rfl) (.k (.s _ _ _ rfl rfl) (.k (.s _ _ _ rfl rfl) (.k (.s _ _ _ rfl rfl) (.k (.cl _ _ _ _ _ rfl ?_) .nil))))))
 have r1:=T0 (by rw [O.g_len];decide) ha
 have r2:=T0 (by rw [O.g_len];decide) hd
 exact .cons _ _ _ _ _ a.g_len r1.1 r1.2 (.cons _ _ _ _ _ d.g_len r2.1 r2.2 (.nil _ _ _))
theorem b26:j5 1=S5:=by unfold j5;rw [if_neg dE,F4 dE,show 1 / 10=0 from rfl,y6];rfl
theorem e92:l6 84 (sp0 (.a R3.g)):=o7 (fun fn h=>e4w h) [(47,_),(43,_)] (.cons c06 (.cons b7q .nil)) fun U fn hfn _ vs bs hv hb=>by
 have hl:=hfn 47 _ rfl
 have hs:=hfn 43 _ rfl
 have hv:l8 [] vs:=hv
 have hb:RBs [] bs:=hb
 show j3 U _ fun v bs'=>l7 (.ret (.a R3.g)) v∧RBs [] bs'
 unfold r84
 (refine Zx ?_;intros)
 refine i6 hl ([110,105,108]:j0) (r:=.a (sg (y8,[110,105,108]))) rfl j7 .nil fun _ _ _ _=>?_
 (refine Zx ?_;intros)
 refine i6 hs (y8,([110,105,108]:j0)) (r:=.a R3.g) rfl j7 .nil fun _ _ _ _=>?_
 (refine Zx ?_;intros)
 exact k9 ⟨.ret _ _ j7,.nil⟩
end
end Go.Proofs.YtffaodopiifbkaaGreatDoor
