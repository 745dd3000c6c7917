/- The reference's objects: constructors, recognizers. -/
import Derived.Test.YtffaodopiifbkaaGreatDoorCR5
set_option linter.all false
namespace Go.Proofs.YtffaodopiifbkaaGreatDoor
open Go.Abs LQ
set_option maxRecDepth 100000
set_option maxHeartbeats 4000000
noncomputable section
theorem A8.at {gs:List G} {q:Q} {j:Nat} {g:G} (h:A8 gs q 0) (e:gs[j]?=some g):RG g (CU.celQ q j):=by
 have:=h.get e;rw [Nat.zero_add] at this;exact this
def sg (s:Sy):List G:=[.s s.1,.s s.2]
theorem a9y {a b:Sy} (h:sg a=sg b):a=b:=by simp only [sg,List.cons.injEq,G.s.injEq,and_true] at h;exact Prod.ext h.1 h.2
def u1:i6:=[108,105,115,112]
def x8:O:=.sy (u1,[110,105,108])
def sp0 (g:GV):Sp where
 ι:=Unit
 A _:=[]
 B _:=[]
 R _:=.ret g
 B' _:=[]
 inj _ _ _ _ _ _ _ _:=⟨rfl,rfl⟩
def b8e (g:i6→GV):Sp where
 ι:=i6
 A s:=[.c (.s s)]
 B _:=[]
 R s:=.ret (g s)
 B' _:=[]
 inj i j vs bs h k _ _:=by
  obtain ⟨_,_,h1,k1,h,k⟩:=h.two k
  rw [I7 h1 k1];exact ⟨rfl,rfl⟩
def f1p (g:Sy→GV):Sp where
 ι:=Sy
 A s:=[.a (sg s)]
 B _:=[]
 R s:=.ret (g s)
 B' _:=[]
 inj i j vs bs h k _ _:=by
  obtain ⟨_,_,h1,k1,h,k⟩:=h.two k
  rw [a9y (h1.a_inj k1)];exact ⟨rfl,rfl⟩
def spO (g:O→GV):Sp where
 ι:=O
 A o:=[.a o.g]
 B _:=[]
 R o:=.ret (g o)
 B' _:=[]
 inj i j vs bs h k _ _:=by rw [c5g h k];exact ⟨rfl,rfl⟩
def f3a (g:O→O→GV):Sp where
 ι:=O × O
 A o:=[.a o.1.g,.a o.2.g]
 B _:=[]
 R o:=.ret (g o.1 o.2)
 B' _:=[]
 inj i j vs bs h k _ _:=by obtain ⟨e1,e2⟩:=c8q h k;rw [e1,e2];exact ⟨rfl,rfl⟩
theorem c4m:l5 47 (b8e fun s=>.a (sg (u1,s))):=n6 (fun fn h=>f5d h) [] .nil fun U fn hfn s vs bs hv hb=>by
 have hv:l8 [.c (.s s)] vs:=hv
 have hb:j5 [] bs:=hb
 show j6 U _ fun v bs'=>l9 (.ret (.a (sg (u1,s)))) v∧j5 [] bs'
 unfold r47
 (refine Zx ?_;intros)
 exact k9 ⟨.ret _ _ l6,.nil⟩
theorem b4p:l5 43 (f1p fun s=>.a (O.sy s).g):=n6 (fun fn h=>f6s h) [] .nil fun U fn hfn s vs bs hv hb=>by
 have hv:l8 [.a [.s s.1,.s s.2]] vs:=hv
 have hb:j5 [] bs:=hb
 show j6 U _ fun v bs'=>l9 (.ret (.a (O.sy s).g)) v∧j5 [] bs'
 unfold r43
 (refine Zx ?_;intros)
 exact L7 fun e=>by subst e;exact ⟨.ret _ _ (by (exact Zru)),.nil⟩
theorem e4y:l5 73 (f3a fun a d=>.a (O.co a d).g):=n6 (fun fn h=>f7d h) [] .nil fun U fn hfn ⟨a,d⟩ vs bs hv hb=>by
 have hv:l8 [.a a.g,.a d.g] vs:=hv
 have hb:j5 [] bs:=hb
 show j6 U _ fun v bs'=>l9 (.ret (.a (O.co a d).g)) v∧j5 [] bs'
 unfold r73
 refine a2x hv fun v l hv1 hv2=>?_
 refine L0 hv1 a.g_len fun qa ha=>?_
 refine a2x hv2 fun v l hv3 hv4=>?_
 refine L0 hv3 d.g_len fun qd hd=>?_
 refine b35 hv4 (a7d hb ?_)
 refine a2j ha fun xa ha=>?_
 refine a2j hd fun xd hd=>?_
 refine k9 ⟨.ret _ _ (.ag _ _ ?_),.nil⟩
 refine .k (.i _ _) (.k (.s _ _ _ rfl rfl) (.k (.s _ _ _ rfl rfl) (.k (.s _ _ _ rfl rfl) (.k (.s _ _ _ rfl rfl) (.k (.s _ _ _ rfl rfl) (.k (.cl _ _ _ _ _ rfl ?_) .nil))))))
 have r1:=a1a (by rw [O.g_len];decide) ha
 have r2:=a1a (by rw [O.g_len];decide) hd
 exact .cons _ _ _ _ _ a.g_len r1.1 r1.2 (.cons _ _ _ _ _ d.g_len r2.1 r2.2 (.nil _ _ _))
def O.isCo:O→Bool
 | .co _ _=>true
 | _=>false
theorem a9b:i7 1=P2:=by unfold i7;rw [if_neg dE,F6 dE,show 1 / 10=0 from rfl,A4];rfl
theorem g2s:l5 84 (sp0 (.a x8.g)):=n6 (fun fn h=>f7y h) [(47,_),(43,_)] (.cons c4m (.cons b4p .nil)) fun U fn hfn _ vs bs hv hb=>by
 have hl:=hfn 47 _ rfl
 have hs:=hfn 43 _ rfl
 have hv:l8 [] vs:=hv
 have hb:j5 [] bs:=hb
 show j6 U _ fun v bs'=>l9 (.ret (.a x8.g)) v∧j5 [] bs'
 unfold r84
 (refine Zx ?_;intros)
 refine j3 hl ([110,105,108]:i6) (r:=.a (sg (u1,[110,105,108]))) rfl l6 .nil fun _ _ _ _=>?_
 (refine Zx ?_;intros)
 refine j3 hs (u1,([110,105,108]:i6)) (r:=.a x8.g) rfl l6 .nil fun _ _ _ _=>?_
 (refine Zx ?_;intros)
 exact k9 ⟨.ret _ _ l6,.nil⟩
end
end Go.Proofs.YtffaodopiifbkaaGreatDoor
