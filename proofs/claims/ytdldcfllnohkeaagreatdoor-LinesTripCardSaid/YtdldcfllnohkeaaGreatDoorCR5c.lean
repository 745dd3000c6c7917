/- The reference's objects: what is formed, lists. -/
import Derived.Test.YtdldcfllnohkeaaGreatDoorCR5b
set_option linter.all false
namespace Go.Proofs.YtdldcfllnohkeaaGreatDoor
open Go.Abs LQ
set_option maxRecDepth 100000
set_option maxHeartbeats 4000000
noncomputable section
theorem a1n {s:i6} {i:Nat} (h:i < s.length) (hb:a2j (bt s i)=true):H1 s i=H1 s (i+1):=by rw [H1,if_pos h,if_pos hb]
theorem d18 {s:i6} {i:Nat} (h:i < s.length) (hb:¬a2j (bt s i)=true):H1 s i=false:=by rw [H1,if_pos h,if_neg hb]
theorem b4c {s:i6} {i:Nat} (h:¬i < s.length):H1 s i=true:=by rw [H1,if_neg h]
theorem d4o {c:Int}:a2j c=true↔(97≤c∧c≤122)∨(48≤c∧c≤57)∨c=45:=by simp [a2j]
theorem b62 {s:i6} (h:¬(1≤s.length∧s.length≤40∧97≤bt s 0∧bt s 0≤122)):t6 s=false:=by unfold t6;rw [decide_eq_false h];rfl
theorem f9x {s:i6} (h:((s.getD 0 0).toNat:Int) < 97):t6 s=false:=b62 (fun k=>by have e:bt s 0=((s.getD 0 0).toNat:Int):=rfl;omega)
theorem f9y {s:i6} (h:122 < ((s.getD 0 0).toNat:Int)):t6 s=false:=b62 (fun k=>by have e:bt s 0=((s.getD 0 0).toNat:Int):=rfl;omega)
theorem c6c:k9 90 (sp1 fun s=>.ret (.c (.b (t6 s)))):=n9 (fun fn h=>f5x h) [] .nil fun U fn hfn ⟨s,hs⟩ vs bs hv hb=>by
 have hv:l7 [.c (.s s)] vs:=hv
 have hb:RBs [] bs:=hb
 show j5 U _ fun v bs'=>l8 (.ret (.c (.b (t6 s)))) v∧RBs [] bs'
 have hbt:bt s 0=((s.getD 0 0).toNat:Int):=rfl
 unfold r90
 (refine Zx ?_;with_reducible repeat' first|intro _|apply aI)
 all_goals try (exfalso;omega)
 all_goals first
  | exact j9 ⟨.ret _ _ (N7 (b62 oM)),.nil⟩
  | exact j9 ⟨.ret _ _ (N7 (f9x ‹_›)),.nil⟩
  | exact j9 ⟨.ret _ _ (N7 (f9y ‹_›)),.nil⟩
  | skip
 have g1:=‹¬((s.getD 0 0).toNat:Int) < 97›
 have g2:=‹¬122 < ((s.getD 0 0).toNat:Int)›
 have e:t6 s=H1 s 0:=by unfold t6;rw [decide_eq_true oM];rfl
 rw [e]
 refine H2 (fun (i:Nat) vs bs=>vs=[.str s.length (n7 s),.int .i64 i]∧bs=[]∧i≤s.length∧H1 s i=H1 s 0) (fun i=>s.length - i) 0 ⟨rfl,rfl,oM,rfl⟩ (by simp only [C4];omega) ?_
 rintro self i vs bs ⟨rfl,rfl,hi,he⟩ ih
 have hbi:bt s i=((s.getD i 0).toNat:Int):=rfl
 (refine Zx ?_;with_reducible repeat' first|intro _|apply aI)
 all_goals try (exfalso;omega)
 all_goals first
  | exact j9 ⟨.ret _ _ (N7 (he.symm.trans (b4c oM))),.nil⟩
  | exact j9 ⟨.ret _ _ (N7 (he.symm.trans (d18 oM (fun h=>by have:=d4o.1 h;omega)))),.nil⟩
  | exact ih (i+1) _ _ ⟨rfl,rfl,oM,(a1n (i:=i) oM (d4o.2 oM)).symm.trans he⟩ oM
def named (s:Sy):Bool:=t6 s.1 && decide (1≤s.2.length∧s.2.length≤40)
def c4w (g:Sy→GV):Sp where
 ι:={ s:Sy // s.1.length < 90000∧s.2.length < 90000 }
 A s:=[.a (sg s.1)]
 B _:=[]
 R s:=.ret (g s.1)
 B' _:=[]
 inj i j vs bs h k _ _:=by
  obtain ⟨_,_,h1,k1,h,k⟩:=h.two k
  rw [a97 (h1.a_inj k1)];exact ⟨rfl,rfl⟩
theorem e6r:k9 91 (c4w fun s=>.c (.b (named s))):=n9 (fun fn h=>f5z h) [(90,_)] (.cons c6c .nil) fun U fn hfn ⟨s,h1,h2⟩ vs bs hv hb=>by
 have hp:=hfn 90 _ rfl
 have hv:l7 [.a [.s s.1,.s s.2]] vs:=hv
 have hb:RBs [] bs:=hb
 show j5 U _ fun v bs'=>l8 (.ret (.c (.b (named s)))) v∧RBs [] bs'
 unfold r91
 (refine Zx ?_;intros)
 refine j4 hp ⟨s.1,h1⟩ (r:=.c (.b (t6 s.1))) rfl l5 .nil fun _ _ _ _=>?_
 (refine Zx ?_;with_reducible repeat' first|intro _|apply aI)
 ·refine J3 fun e=>?_
  subst e
  refine ⟨.ret _ _ (U6 ?_),.nil⟩
  rw [d3e]
  unfold named
  rw [‹t6 s.1=true›,Bool.true_and]
  apply decide_eq_decide.2
  omega
 ·exact j9 ⟨.ret _ _ (N7 (by unfold named;rw [decide_eq_false oM,Bool.and_false])),.nil⟩
 ·exact j9 ⟨.ret _ _ (N7 (by unfold named;rw [Bool.eq_false_iff.2 ‹¬t6 s.1=true›];rfl)),.nil⟩
theorem b6v {k:IntKind} {x y:Int} (h:y=x):RV (.c (.i k x)) (.int k y):=rvI h.symm
end
end Go.Proofs.YtdldcfllnohkeaaGreatDoor
