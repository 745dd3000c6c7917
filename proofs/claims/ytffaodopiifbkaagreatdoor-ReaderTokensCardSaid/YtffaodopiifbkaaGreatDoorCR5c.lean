/- The reference's objects: what is formed, lists. -/
import Derived.Test.YtffaodopiifbkaaGreatDoorCR5b
set_option linter.all false
namespace Go.Proofs.YtffaodopiifbkaaGreatDoor
open Go.Abs LQ
set_option maxRecDepth 100000
set_option maxHeartbeats 4000000
noncomputable section
theorem d11 {s:i7} {i:Nat} (h:i < s.length) (hb:a4t (bt s i)=true):J1 s i=J1 s (i+1):=by rw [J1,if_pos h,if_pos hb]
theorem c53 {s:i7} {i:Nat} (h:i < s.length) (hb:¬a4t (bt s i)=true):J1 s i=false:=by rw [J1,if_pos h,if_neg hb]
theorem c6e {s:i7} {i:Nat} (h:¬i < s.length):J1 s i=true:=by rw [J1,if_neg h]
theorem c7s {c:Int}:a4t c=true↔(97≤c∧c≤122)∨(48≤c∧c≤57)∨c=45:=by simp [a4t]
theorem b3g {s:i7} (h:¬(1≤s.length∧s.length≤40∧97≤bt s 0∧bt s 0≤122)):A4 s=false:=by unfold A4;rw [decide_eq_false h];rfl
theorem e8i {s:i7} (h:((s.getD 0 0).toNat:Int) < 97):A4 s=false:=b3g (fun k=>by have e:bt s 0=((s.getD 0 0).toNat:Int):=rfl;omega)
theorem e75 {s:i7} (h:122 < ((s.getD 0 0).toNat:Int)):A4 s=false:=b3g (fun k=>by have e:bt s 0=((s.getD 0 0).toNat:Int):=rfl;omega)
theorem d31:l5 133 (sp1 fun s=>.ret (.c (.b (A4 s)))):=v7 (fun fn h=>d8p h) [] .nil fun U fn hfn ⟨s,hs⟩ vs bs hv hb=>by
 have hv:l9 [.c (.s s)] vs:=hv
 have hb:RBs [] bs:=hb
 show j3 U _ fun v bs'=>m8 (.ret (.c (.b (A4 s)))) v∧RBs [] bs'
 have hbt:bt s 0=((s.getD 0 0).toNat:Int):=rfl
 unfold d6h
 (refine Zx ?_;with_reducible repeat' first|intro _|apply aI)
 all_goals try (exfalso;omega)
 all_goals first
  | exact l6 ⟨.ret _ _ (M6 (b3g (by omega))),.nil⟩
  | exact l6 ⟨.ret _ _ (M6 (e8i ‹_›)),.nil⟩
  | exact l6 ⟨.ret _ _ (M6 (e75 ‹_›)),.nil⟩
  | skip
 have g1:=‹¬((s.getD 0 0).toNat:Int) < 97›
 have g2:=‹¬122 < ((s.getD 0 0).toNat:Int)›
 have e:A4 s=J1 s 0:=by unfold A4;rw [decide_eq_true (by omega)];rfl
 rw [e]
 refine F8 (fun (i:Nat) vs bs=>vs=[.str s.length (n6 s),.int .i64 i]∧bs=[]∧i≤s.length∧J1 s i=J1 s 0) (fun i=>s.length - i) 0 ⟨rfl,rfl,by omega,rfl⟩ (by simp only [B8];omega) ?_
 rintro self i vs bs ⟨rfl,rfl,hi,he⟩ ih
 have hbi:bt s i=((s.getD i 0).toNat:Int):=rfl
 (refine Zx ?_;with_reducible repeat' first|intro _|apply aI)
 all_goals try (exfalso;omega)
 all_goals first
  | exact l6 ⟨.ret _ _ (M6 (he.symm.trans (c6e (by omega)))),.nil⟩
  | exact l6 ⟨.ret _ _ (M6 (he.symm.trans (c53 (by omega) (fun h=>by have:=c7s.1 h;omega)))),.nil⟩
  | exact ih (i+1) _ _ ⟨rfl,rfl,by omega,(d11 (i:=i) (by omega) (c7s.2 (by omega))).symm.trans he⟩ (by omega)
def named (s:Sy):Bool:=A4 s.1 && decide (1≤s.2.length∧s.2.length≤40)
def d66 (g:Sy→GV):Sp where
 ι:={ s:Sy // s.1.length < 90000∧s.2.length < 90000 }
 A s:=[.a (sg s.1)]
 B _:=[]
 R s:=.ret (g s.1)
 B' _:=[]
 inj i j vs bs h k _ _:=by
  obtain ⟨_,_,h1,k1,h,k⟩:=h.two k
  rw [c3k (h1.a_inj k1)];exact ⟨rfl,rfl⟩
end
end Go.Proofs.YtffaodopiifbkaaGreatDoor
