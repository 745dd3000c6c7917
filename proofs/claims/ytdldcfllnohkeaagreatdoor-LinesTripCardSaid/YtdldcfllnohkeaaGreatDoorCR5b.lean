/- The reference's objects: constructors, recognizers. -/
import Derived.Test.YtdldcfllnohkeaaGreatDoorCR5
set_option linter.all false
namespace Go.Proofs.YtdldcfllnohkeaaGreatDoor
open Go.Abs LQ
set_option maxRecDepth 100000
set_option maxHeartbeats 4000000
noncomputable section
theorem A6.at {gs:List G} {q:Q} {j:Nat} {g:G} (h:A6 gs q 0) (e:gs[j]?=some g):RG g (CU.celQ q j):=by
 have:=h.get e;rw [Nat.zero_add] at this;exact this
def sg (s:Sy):List G:=[.s s.1,.s s.2]
theorem a97 {a b:Sy} (h:sg a=sg b):a=b:=by simp only [sg,List.cons.injEq,G.s.injEq,and_true] at h;exact Prod.ext h.1 h.2
def x7:i6:=[108,105,115,112]
def B3:O:=.sy (x7,[110,105,108])
def sp0 (g:GV):Sp where
 ι:=Unit
 A _:=[]
 B _:=[]
 R _:=.ret g
 B' _:=[]
 inj _ _ _ _ _ _ _ _:=⟨rfl,rfl⟩
def c4v (g:i6→GV):Sp where
 ι:=i6
 A s:=[.c (.s s)]
 B _:=[]
 R s:=.ret (g s)
 B' _:=[]
 inj i j vs bs h k _ _:=by
  obtain ⟨_,_,h1,k1,h,k⟩:=h.two k
  rw [H3 h1 k1];exact ⟨rfl,rfl⟩
def f65 (g:Sy→GV):Sp where
 ι:=Sy
 A s:=[.a (sg s)]
 B _:=[]
 R s:=.ret (g s)
 B' _:=[]
 inj i j vs bs h k _ _:=by
  obtain ⟨_,_,h1,k1,h,k⟩:=h.two k
  rw [a97 (h1.a_inj k1)];exact ⟨rfl,rfl⟩
def spO (g:O→GV):Sp where
 ι:=O
 A o:=[.a o.g]
 B _:=[]
 R o:=.ret (g o)
 B' _:=[]
 inj i j vs bs h k _ _:=by rw [c42 h k];exact ⟨rfl,rfl⟩
def f62 (g:O→O→GV):Sp where
 ι:=O × O
 A o:=[.a o.1.g,.a o.2.g]
 B _:=[]
 R o:=.ret (g o.1 o.2)
 B' _:=[]
 inj i j vs bs h k _ _:=by obtain ⟨e1,e2⟩:=c43 h k;rw [e1,e2];exact ⟨rfl,rfl⟩
theorem c4g:k9 21 (c4v fun s=>.a (sg (x7,s))):=n9 (fun fn h=>f2q h) [] .nil fun U fn hfn s vs bs hv hb=>by
 have hv:l7 [.c (.s s)] vs:=hv
 have hb:RBs [] bs:=hb
 show j5 U _ fun v bs'=>l8 (.ret (.a (sg (x7,s)))) v∧RBs [] bs'
 unfold r21
 (refine Zx ?_;intros)
 exact j9 ⟨.ret _ _ l5,.nil⟩
theorem c0k:k9 20 (f65 fun s=>.a (O.sy s).g):=n9 (fun fn h=>f2o h) [] .nil fun U fn hfn s vs bs hv hb=>by
 have hv:l7 [.a [.s s.1,.s s.2]] vs:=hv
 have hb:RBs [] bs:=hb
 show j5 U _ fun v bs'=>l8 (.ret (.a (O.sy s).g)) v∧RBs [] bs'
 unfold r20
 (refine Zx ?_;intros)
 exact J3 fun e=>by subst e;exact ⟨.ret _ _ (by (exact Zru)),.nil⟩
theorem f1a:k9 37 (c4v fun s=>.a (O.tx s).g):=n9 (fun fn h=>f3m h) [] .nil fun U fn hfn s vs bs hv hb=>by
 have hv:l7 [.c (.s s)] vs:=hv
 have hb:RBs [] bs:=hb
 show j5 U _ fun v bs'=>l8 (.ret (.a (O.tx s).g)) v∧RBs [] bs'
 unfold r37
 (refine Zx ?_;intros)
 exact j9 ⟨.ret _ _ l5,.nil⟩
theorem e4k:k9 38 (f62 fun a d=>.a (O.co a d).g):=n9 (fun fn h=>f3o h) [] .nil fun U fn hfn ⟨a,d⟩ vs bs hv hb=>by
 have hv:l7 [.a a.g,.a d.g] vs:=hv
 have hb:RBs [] bs:=hb
 show j5 U _ fun v bs'=>l8 (.ret (.a (O.co a d).g)) v∧RBs [] bs'
 unfold r38
 refine a26 hv fun v l hv1 hv2=>?_
 refine M5 hv1 a.g_len fun qa ha=>?_
 refine a26 hv2 fun v l hv3 hv4=>?_
 refine M5 hv3 d.g_len fun qd hd=>?_
 refine b4k hv4 (a7r hb ?_)
 refine a28 ha fun xa ha=>?_
 refine a28 hd fun xd hd=>?_
 refine j9 ⟨.ret _ _ (.ag _ _ ?_),.nil⟩
 refine .k (.i _ _) (.k (.s _ _ _ rfl rfl) (.k (.s _ _ _ rfl rfl) (.k (.s _ _ _ rfl rfl) (.k (.s _ _ _ rfl rfl) (.k (.s _ _ _ rfl rfl) (.k (.cl _ _ _ _ _ rfl ?_) .nil))))))
 have r1:=a1h (by rw [O.g_len];decide) ha
 have r2:=a1h (by rw [O.g_len];decide) hd
 exact .cons _ _ _ _ _ a.g_len r1.1 r1.2 (.cons _ _ _ _ _ d.g_len r2.1 r2.2 (.nil _ _ _))
def O.isCo:O→Bool
 | .co _ _=>true
 | _=>false
theorem a9g:i7 1=Q3:=by unfold i7;rw [if_neg dE,F4 dE,show 1 / 10=0 from rfl,y9];rfl
theorem g1p:k9 47 (sp0 (.a B3.g)):=n9 (fun fn h=>f4a h) [(21,_),(20,_)] (.cons c4g (.cons c0k .nil)) fun U fn hfn _ vs bs hv hb=>by
 have hl:=hfn 21 _ rfl
 have hs:=hfn 20 _ rfl
 have hv:l7 [] vs:=hv
 have hb:RBs [] bs:=hb
 show j5 U _ fun v bs'=>l8 (.ret (.a B3.g)) v∧RBs [] bs'
 unfold r47
 (refine Zx ?_;intros)
 refine j4 hl ([110,105,108]:i6) (r:=.a (sg (x7,[110,105,108]))) rfl l5 .nil fun _ _ _ _=>?_
 (refine Zx ?_;intros)
 refine j4 hs (x7,([110,105,108]:i6)) (r:=.a B3.g) rfl l5 .nil fun _ _ _ _=>?_
 (refine Zx ?_;intros)
 exact j9 ⟨.ret _ _ l5,.nil⟩
end
end Go.Proofs.YtdldcfllnohkeaaGreatDoor
