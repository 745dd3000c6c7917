/- The reference's objects: what is formed, lists. -/
import Derived.Test.YtffaodopiifbkaaGreatDoorCR5b
set_option linter.all false
namespace Go.Proofs.YtffaodopiifbkaaGreatDoor
open Go.Abs LQ
set_option maxRecDepth 100000
set_option maxHeartbeats 4000000
noncomputable section
theorem T8 {s:i6} {i:Nat} (h:i < s.length) (hb:a2h (bt s i)=true):H2 s i=H2 s (i+1):=by rw [H2,if_pos h,if_pos hb]
theorem d2z {s:i6} {i:Nat} (h:i < s.length) (hb:¬a2h (bt s i)=true):H2 s i=false:=by rw [H2,if_pos h,if_neg hb]
theorem a9q {s:i6} {i:Nat} (h:¬i < s.length):H2 s i=true:=by rw [H2,if_neg h]
theorem d4z {c:Int}:a2h c=true↔(97≤c∧c≤122)∨(48≤c∧c≤57)∨c=45:=by simp [a2h]
theorem b6d {s:i6} (h:¬(1≤s.length∧s.length≤40∧97≤bt s 0∧bt s 0≤122)):r9 s=false:=by unfold r9;rw [decide_eq_false h];rfl
theorem f8n {s:i6} (h:((s.getD 0 0).toNat:Int) < 97):r9 s=false:=b6d (fun k=>by have e:bt s 0=((s.getD 0 0).toNat:Int):=rfl;omega)
theorem g0h {s:i6} (h:122 < ((s.getD 0 0).toNat:Int)):r9 s=false:=b6d (fun k=>by have e:bt s 0=((s.getD 0 0).toNat:Int):=rfl;omega)
theorem c63:l5 133 (sp1 fun s=>.ret (.c (.b (r9 s)))):=n6 (fun fn h=>e7k h) [] .nil fun U fn hfn ⟨s,hs⟩ vs bs hv hb=>by
 have hv:l8 [.c (.s s)] vs:=hv
 have hb:j5 [] bs:=hb
 show j6 U _ fun v bs'=>l9 (.ret (.c (.b (r9 s)))) v∧j5 [] bs'
 have hbt:bt s 0=((s.getD 0 0).toNat:Int):=rfl
 unfold d98
 (refine Zx ?_;with_reducible repeat' first|intro _|apply aI)
 all_goals try (exfalso;omega)
 all_goals first
  | exact k9 ⟨.ret _ _ (M5 (b6d oM)),.nil⟩
  | exact k9 ⟨.ret _ _ (M5 (f8n ‹_›)),.nil⟩
  | exact k9 ⟨.ret _ _ (M5 (g0h ‹_›)),.nil⟩
  | skip
 have g1:=‹¬((s.getD 0 0).toNat:Int) < 97›
 have g2:=‹¬122 < ((s.getD 0 0).toNat:Int)›
 have e:r9 s=H2 s 0:=by unfold r9;rw [decide_eq_true oM];rfl
 rw [e]
 refine H0 (fun (i:Nat) vs bs=>vs=[.str s.length (p9 s),.int .i64 i]∧bs=[]∧i≤s.length∧H2 s i=H2 s 0) (fun i=>s.length - i) 0 ⟨rfl,rfl,oM,rfl⟩ (by simp only [C2];omega) ?_
 rintro self i vs bs ⟨rfl,rfl,hi,he⟩ ih
 have hbi:bt s i=((s.getD i 0).toNat:Int):=rfl
 (refine Zx ?_;with_reducible repeat' first|intro _|apply aI)
 all_goals try (exfalso;omega)
 all_goals first
  | exact k9 ⟨.ret _ _ (M5 (he.symm.trans (a9q oM))),.nil⟩
  | exact k9 ⟨.ret _ _ (M5 (he.symm.trans (d2z oM (fun h=>by have:=d4z.1 h;omega)))),.nil⟩
  | exact ih (i+1) _ _ ⟨rfl,rfl,oM,(T8 (i:=i) oM (d4z.2 oM)).symm.trans he⟩ oM
def named (s:Sy):Bool:=r9 s.1 && decide (1≤s.2.length∧s.2.length≤40)
def c4o (g:Sy→GV):Sp where
 ι:={ s:Sy // s.1.length < 90000∧s.2.length < 90000 }
 A s:=[.a (sg s.1)]
 B _:=[]
 R s:=.ret (g s.1)
 B' _:=[]
 inj i j vs bs h k _ _:=by
  obtain ⟨_,_,h1,k1,h,k⟩:=h.two k
  rw [a9y (h1.a_inj k1)];exact ⟨rfl,rfl⟩
theorem e7x:l5 108 (c4o fun s=>.c (.b (named s))):=n6 (fun fn h=>e8w h) [(133,_)] (.cons c63 .nil) fun U fn hfn ⟨s,h1,h2⟩ vs bs hv hb=>by
 have hp:=hfn 133 _ rfl
 have hv:l8 [.a [.s s.1,.s s.2]] vs:=hv
 have hb:j5 [] bs:=hb
 show j6 U _ fun v bs'=>l9 (.ret (.c (.b (named s)))) v∧j5 [] bs'
 unfold e0m
 (refine Zx ?_;intros)
 refine j3 hp ⟨s.1,h1⟩ (r:=.c (.b (r9 s.1))) rfl l6 .nil fun _ _ _ _=>?_
 (refine Zx ?_;with_reducible repeat' first|intro _|apply aI)
 ·refine L7 fun e=>?_
  subst e
  refine ⟨.ret _ _ (V9 ?_),.nil⟩
  rw [e0c]
  unfold named
  rw [‹r9 s.1=true›,Bool.true_and]
  apply decide_eq_decide.2
  omega
 ·exact k9 ⟨.ret _ _ (M5 (by unfold named;rw [decide_eq_false oM,Bool.and_false])),.nil⟩
 ·exact k9 ⟨.ret _ _ (M5 (by unfold named;rw [Bool.eq_false_iff.2 ‹¬r9 s.1=true›];rfl)),.nil⟩
theorem b5x {k:IntKind} {x y:Int} (h:y=x):RV (.c (.i k x)) (.int k y):=rvI h.symm
end
end Go.Proofs.YtffaodopiifbkaaGreatDoor
