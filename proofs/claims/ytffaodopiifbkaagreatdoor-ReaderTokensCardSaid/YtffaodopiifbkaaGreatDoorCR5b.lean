/- The reference's objects: constructors, recognizers. -/
import Derived.Test.YtffaodopiifbkaaGreatDoorCR5
set_option linter.all false
namespace Go.Proofs.YtffaodopiifbkaaGreatDoor
open Go.Abs LQ
set_option maxRecDepth 100000
set_option maxHeartbeats 4000000
noncomputable section
theorem B6.at {gs:List G} {q:Q} {j:Nat} {g:G} (h:B6 gs q 0) (e:gs[j]?=some g):RG g (CU.celQ q j):=by
 have:=h.get e;rw [Nat.zero_add] at this;exact this
def sg (s:Sy):List G:=[.s s.1,.s s.2]
theorem c3k {a b:Sy} (h:sg a=sg b):a=b:=by simp only [sg,List.cons.injEq,G.s.injEq,and_true] at h;exact Prod.ext h.1 h.2
def E4:i7:=[108,105,115,112]
def Z3:O:=.sy (E4,[110,105,108])
def sp0 (g:GV):Sp where
 ι:=Unit
 A _:=[]
 B _:=[]
 R _:=.ret g
 B' _:=[]
 inj _ _ _ _ _ _ _ _:=⟨rfl,rfl⟩
def d7s (g:i7→GV):Sp where
 ι:=i7
 A s:=[.c (.s s)]
 B _:=[]
 R s:=.ret (g s)
 B' _:=[]
 inj i j vs bs h k _ _:=by
  obtain ⟨_,_,h1,k1,h,k⟩:=h.two k
  rw [H3 h1 k1];exact ⟨rfl,rfl⟩
def e5l (g:Sy→GV):Sp where
 ι:=Sy
 A s:=[.a (sg s)]
 B _:=[]
 R s:=.ret (g s)
 B' _:=[]
 inj i j vs bs h k _ _:=by
  obtain ⟨_,_,h1,k1,h,k⟩:=h.two k
  rw [c3k (h1.a_inj k1)];exact ⟨rfl,rfl⟩
def spO (g:O→GV):Sp where
 ι:=O
 A o:=[.a o.g]
 B _:=[]
 R o:=.ret (g o)
 B' _:=[]
 inj i j vs bs h k _ _:=by rw [d15 h k];exact ⟨rfl,rfl⟩
def e6r (g:O→O→GV):Sp where
 ι:=O × O
 A o:=[.a o.1.g,.a o.2.g]
 B _:=[]
 R o:=.ret (g o.1 o.2)
 B' _:=[]
 inj i j vs bs h k _ _:=by obtain ⟨e1,e2⟩:=c9r h k;rw [e1,e2];exact ⟨rfl,rfl⟩
theorem d71:l5 47 (d7s fun s=>.a (sg (E4,s))):=v7 (fun fn h=>e65 h) [] .nil fun U fn hfn s vs bs hv hb=>by
 have hv:l9 [.c (.s s)] vs:=hv
 have hb:RBs [] bs:=hb
 show j3 U _ fun v bs'=>m8 (.ret (.a (sg (E4,s)))) v∧RBs [] bs'
 unfold r47
 (refine Zx ?_;with_reducible repeat' first|intro _|apply aI)
 exact l6 ⟨.ret _ _ j9,.nil⟩
theorem c6l:l5 43 (e5l fun s=>.a (O.sy s).g):=v7 (fun fn h=>e36 h) [] .nil fun U fn hfn s vs bs hv hb=>by
 have hv:l9 [.a [.s s.1,.s s.2]] vs:=hv
 have hb:RBs [] bs:=hb
 show j3 U _ fun v bs'=>m8 (.ret (.a (O.sy s).g)) v∧RBs [] bs'
 unfold r43
 (refine Zx ?_;with_reducible repeat' first|intro _|apply aI)
 exact N5 fun e=>by subst e;exact ⟨.ret _ _ (by (exact W6)),.nil⟩
theorem e8b:l5 73 (e6r fun a d=>.a (O.co a d).g):=v7 (fun fn h=>e5c h) [] .nil fun U fn hfn ⟨a,d⟩ vs bs hv hb=>by
 have hv:l9 [.a a.g,.a d.g] vs:=hv
 have hb:RBs [] bs:=hb
 show j3 U _ fun v bs'=>m8 (.ret (.a (O.co a d).g)) v∧RBs [] bs'
 unfold r73
 refine a23 hv fun v l hv1 hv2=>?_
 refine U4 hv1 a.g_len fun qa ha=>?_
 refine a23 hv2 fun v l hv3 hv4=>?_
 refine U4 hv3 d.g_len fun qd hd=>?_
 refine b1j hv4 (a5v hb ?_)
 refine a07 ha fun xa ha=>?_
 refine a07 hd fun xd hd=>?_
 refine l6 ⟨.ret _ _ (.ag _ _ ?_),.nil⟩
 refine .cons _ _ _ _ (.i _ _) (.cons _ _ _ _ (.s _ _ _ rfl rfl) (.cons _ _ _ _ (.s _ _ _ rfl rfl) (.cons _ _ _ _ (.s _ _ _ rfl rfl) (.cons _ _ _ _ (.s _ _ _ rfl rfl) (.cons _ _ _ _ (.s _ _ _ rfl rfl) (.cons _ _ _ _ (.cl _ _ _ _ _ rfl ?_) .nil))))))
 have r1:=a45 (by rw [O.g_len];decide) ha
 have r2:=a45 (by rw [O.g_len];decide) hd
 exact .cons _ _ _ _ _ a.g_len r1.1 r1.2 (.cons _ _ _ _ _ d.g_len r2.1 r2.2 (.nil _ _ _))
theorem b2q:j5 1=R4:=by unfold j5;rw [if_neg (by decide),G9 (by decide),show 1 / 10=0 from rfl,B4];rfl
theorem f1h:l5 84 (sp0 (.a Z3.g)):=v7 (fun fn h=>e52 h) [(47,_),(43,_)] (.cons d71 (.cons c6l .nil)) fun U fn hfn _ vs bs hv hb=>by
 have hl:=hfn 47 _ rfl
 have hs:=hfn 43 _ rfl
 have hv:l9 [] vs:=hv
 have hb:RBs [] bs:=hb
 show j3 U _ fun v bs'=>m8 (.ret (.a Z3.g)) v∧RBs [] bs'
 unfold r84
 (refine Zx ?_;with_reducible repeat' first|intro _|apply aI)
 refine j4 hl ([110,105,108]:i7) (r:=.a (sg (E4,[110,105,108]))) rfl j9 .nil fun _ _ _ _=>?_
 (refine Zx ?_;with_reducible repeat' first|intro _|apply aI)
 refine j4 hs (E4,([110,105,108]:i7)) (r:=.a Z3.g) rfl j9 .nil fun _ _ _ _=>?_
 (refine Zx ?_;with_reducible repeat' first|intro _|apply aI)
 exact l6 ⟨.ret _ _ j9,.nil⟩
end
end Go.Proofs.YtffaodopiifbkaaGreatDoor
