/- The reference's objects: constructors, recognizers. -/
import Derived.Test.YtdldcfllnohkeaaGreatDoorKR5
set_option linter.all false
namespace Go.Proofs.YtdldcfllnohkeaaGreatDoor
open Go.Abs LQ
set_option maxRecDepth 100000
set_option maxHeartbeats 4000000
noncomputable section
theorem u6.at {gs:List G} {q:Q} {j:Nat} {g:G} (h:u6 gs q 0) (e:gs[j]?=some g):RG g (CU.celQ q j):=by
 have:=h.get e;rw [Nat.zero_add] at this;exact this
def sg (s:Sy):List G:=[.s s.1,.s s.2]
theorem a8h {a b:Sy} (h:sg a=sg b):a=b:=by simp only [sg,List.cons.injEq,G.s.injEq,and_true] at h;exact Prod.ext h.1 h.2
def u0:f5:=[108,105,115,112]
def A5:O:=.sy (u0,[110,105,108])
def sp0 (g:GV):Sp where
 ι:=Unit
 A _:=[]
 B _:=[]
 R _:=.ret g
 B' _:=[]
 inj _ _ _ _ _ _ _ _:=⟨rfl,rfl⟩
def d16 (g:f5→GV):Sp where
 ι:=f5
 A s:=[.c (.s s)]
 B _:=[]
 R s:=.ret (g s)
 B' _:=[]
 inj i j vs bs h k _ _:=by
  obtain ⟨_,_,h1,k1,h,k⟩:=h.two k
  rw [F7 h1 k1];exact ⟨rfl,rfl⟩
def f3o (g:Sy→GV):Sp where
 ι:=Sy
 A s:=[.a (sg s)]
 B _:=[]
 R s:=.ret (g s)
 B' _:=[]
 inj i j vs bs h k _ _:=by
  obtain ⟨_,_,h1,k1,h,k⟩:=h.two k
  rw [a8h (h1.a_inj k1)];exact ⟨rfl,rfl⟩
def spO (g:O→GV):Sp where
 ι:=O
 A o:=[.a o.g]
 B _:=[]
 R o:=.ret (g o)
 B' _:=[]
 inj i j vs bs h k _ _:=by rw [b43 h k];exact ⟨rfl,rfl⟩
def f85 (g:O→O→GV):Sp where
 ι:=O × O
 A o:=[.a o.1.g,.a o.2.g]
 B _:=[]
 R o:=.ret (g o.1 o.2)
 B' _:=[]
 inj i j vs bs h k _ _:=by obtain ⟨e1,e2⟩:=c19 h k;rw [e1,e2];exact ⟨rfl,rfl⟩
theorem b50:j3 21 (d16 fun s=>.a (sg (u0,s))):=k7 (fun fn h=>e80 h) [] .nil fun U fn hfn s vs bs hv hb=>by
 have hv:j5 [.c (.s s)] vs:=hv
 have hb:RBs [] bs:=hb
 show g7 U _ fun v bs'=>j6 (.ret (.a (sg (u0,s)))) v∧RBs [] bs'
 unfold r21
 (refine Zx ?_;intros)
 exact g9 ⟨.ret _ _ j4,.nil⟩
theorem b2m:j3 20 (f3o fun s=>.a (O.sy s).g):=k7 (fun fn h=>e8y h) [] .nil fun U fn hfn s vs bs hv hb=>by
 have hv:j5 [.a [.s s.1,.s s.2]] vs:=hv
 have hb:RBs [] bs:=hb
 show g7 U _ fun v bs'=>j6 (.ret (.a (O.sy s).g)) v∧RBs [] bs'
 unfold r20
 (refine Zx ?_;intros)
 exact G7 fun e=>by subst e;exact ⟨.ret _ _ (by (exact Zru)),.nil⟩
theorem e7t:j3 37 (d16 fun s=>.a (O.tx s).g):=k7 (fun fn h=>e9u h) [] .nil fun U fn hfn s vs bs hv hb=>by
 have hv:j5 [.c (.s s)] vs:=hv
 have hb:RBs [] bs:=hb
 show g7 U _ fun v bs'=>j6 (.ret (.a (O.tx s).g)) v∧RBs [] bs'
 unfold r37
 (refine Zx ?_;intros)
 exact g9 ⟨.ret _ _ j4,.nil⟩
theorem e08:j3 38 (f85 fun a d=>.a (O.co a d).g):=k7 (fun fn h=>e9w h) [] .nil fun U fn hfn ⟨a,d⟩ vs bs hv hb=>by
 have hv:j5 [.a a.g,.a d.g] vs:=hv
 have hb:RBs [] bs:=hb
 show g7 U _ fun v bs'=>j6 (.ret (.a (O.co a d).g)) v∧RBs [] bs'
 unfold r38
 refine X8 hv fun v l hv1 hv2=>?_
 refine M5 hv1 a.g_len fun qa ha=>?_
 refine X8 hv2 fun v l hv3 hv4=>?_
 refine M5 hv3 d.g_len fun qd hd=>?_
 refine b6x hv4 (a8f hb ?_)
 refine a8g ha fun xa ha=>?_
 refine a8g hd fun xd hd=>?_
 refine g9 ⟨.ret _ _ (.ag _ _ ?_),.nil⟩
 refine .k (.i _ _) (.k (.s _ _ _ rfl rfl) (.k (.s _ _ _ rfl rfl) (.k (.s _ _ _ rfl rfl) (.k (.s _ _ _ rfl rfl) (.k (.s _ _ _ rfl rfl) (.k (.cl _ _ _ _ _ rfl ?_) .nil))))))
 have r1:=a5r (by rw [O.g_len];decide) ha
 have r2:=a5r (by rw [O.g_len];decide) hd
 exact .cons _ _ _ _ _ a.g_len r1.1 r1.2 (.cons _ _ _ _ _ d.g_len r2.1 r2.2 (.nil _ _ _))
def O.isCo:O→Bool
 | .co _ _=>true
 | _=>false
theorem c74:j3 65 (spO fun a=>.c (.b a.isCo)):=k7 (fun fn h=>f0y h) [] .nil fun U fn hfn a vs bs hv hb=>by
 have hv:j5 [.a a.g] vs:=hv
 have hb:RBs [] bs:=hb
 show g7 U _ fun v bs'=>j6 (.ret (.c (.b a.isCo))) v∧RBs [] bs'
 unfold r65
 rw [a.g_eq] at hv
 cases a <;> simp only [O.k,O.nu,O.de,O.sym,O.txt,O.ps] at hv <;> (refine Zx ?_;with_reducible repeat' first|intro _|apply aI)
 all_goals try (exfalso;omega)
 all_goals first
  | exact g9 ⟨.ret _ _ (G2 rfl),.nil⟩
  | exact G7 fun e=>by subst e;exact ⟨.ret _ _ (P9 (by rw [a5a];rfl)),.nil⟩
theorem a7l:f8 1=Q6:=by unfold f8;rw [if_neg dE,D6 dE,show 1 / 10=0 from rfl,u9];rfl
theorem e7k:j3 47 (sp0 (.a A5.g)):=k7 (fun fn h=>e94 h) [(21,_),(20,_)] (.cons b50 (.cons b2m .nil)) fun U fn hfn _ vs bs hv hb=>by
 have hl:=hfn 21 _ rfl
 have hs:=hfn 20 _ rfl
 have hv:j5 [] vs:=hv
 have hb:RBs [] bs:=hb
 show g7 U _ fun v bs'=>j6 (.ret (.a A5.g)) v∧RBs [] bs'
 unfold r47
 (refine Zx ?_;intros)
 refine f6 hl ([110,105,108]:f5) (r:=.a (sg (u0,[110,105,108]))) rfl j4 .nil fun _ _ _ _=>?_
 (refine Zx ?_;intros)
 refine f6 hs (u0,([110,105,108]:f5)) (r:=.a A5.g) rfl j4 .nil fun _ _ _ _=>?_
 (refine Zx ?_;intros)
 exact g9 ⟨.ret _ _ j4,.nil⟩
theorem d3t:j3 66 (spO fun a=>.c (.b (O.eqb a A5))):=k7 (fun fn h=>f00 h) [(47,_),(18,_)] (.cons e7k (.cons d3r .nil)) fun U fn hfn a vs bs hv hb=>by
 have hn:=hfn 47 _ rfl
 have he:=hfn 18 _ rfl
 have hv:j5 [.a a.g] vs:=hv
 have hb:RBs [] bs:=hb
 show g7 U _ fun v bs'=>j6 (.ret (.c (.b (O.eqb a A5)))) v∧RBs [] bs'
 unfold r66
 refine X8 hv fun v l hv1 hv2=>?_
 refine M5 hv1 a.g_len fun qa ha=>?_
 (refine Zx ?_;intros)
 refine f6 hn () (r:=.a A5.g) rfl .nil .nil fun _ _ _ _=>?_
 (refine Zx ?_;intros)
 refine f6 he (a,A5) (r:=.c (.b (O.eqb a A5))) rfl j4 .nil fun _ _ _ _=>?_
 (refine Zx ?_;intros)
 exact g9 ⟨.ret _ _ j4,.nil⟩
end
end Go.Proofs.YtdldcfllnohkeaaGreatDoor
