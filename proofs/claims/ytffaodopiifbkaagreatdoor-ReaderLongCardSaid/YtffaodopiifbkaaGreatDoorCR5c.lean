/- The reference's objects: what is formed, lists. -/
import Derived.Test.YtffaodopiifbkaaGreatDoorCR5b
set_option linter.all false
namespace Go.Proofs.YtffaodopiifbkaaGreatDoor
open Go.Abs LQ
set_option maxRecDepth 100000
set_option maxHeartbeats 4000000
noncomputable section
theorem d1t {s:j0} {i:Nat} (h:i < s.length) (hb:a5e (bt s i)=true):G9 s i=G9 s (i+1):=by rw [G9,if_pos h,if_pos hb]
theorem c7k {s:j0} {i:Nat} (h:i < s.length) (hb:¬a5e (bt s i)=true):G9 s i=false:=by rw [G9,if_pos h,if_neg hb]
theorem c66 {s:j0} {i:Nat} (h:¬i < s.length):G9 s i=true:=by rw [G9,if_neg h]
theorem c96 {c:Int}:a5e c=true↔(97≤c∧c≤122)∨(48≤c∧c≤57)∨c=45:=by simp [a5e]
theorem b33 {s:j0} (h:¬(1≤s.length∧s.length≤40∧97≤bt s 0∧bt s 0≤122)):u5 s=false:=by unfold u5;rw [decide_eq_false h];rfl
theorem f1r {s:j0} (h:((s.getD 0 0).toNat:Int) < 97):u5 s=false:=b33 (fun k=>by have e:bt s 0=((s.getD 0 0).toNat:Int):=rfl;omega)
theorem f2p {s:j0} (h:122 < ((s.getD 0 0).toNat:Int)):u5 s=false:=b33 (fun k=>by have e:bt s 0=((s.getD 0 0).toNat:Int):=rfl;omega)
theorem c3x:l6 133 (sp1 fun s=>.ret (.c (.b (u5 s)))):=o7 (fun fn h=>e1w h) [] .nil fun U fn hfn ⟨s,hs⟩ vs bs hv hb=>by
 have hv:l8 [.c (.s s)] vs:=hv
 have hb:RBs [] bs:=hb
 show j3 U _ fun v bs'=>l7 (.ret (.c (.b (u5 s)))) v∧RBs [] bs'
 have hbt:bt s 0=((s.getD 0 0).toNat:Int):=rfl
 unfold d5g
 (refine Zx ?_;with_reducible repeat' first|intro _|apply aI)
 all_goals try (exfalso;omega)
 all_goals first
  | exact k9 ⟨.ret _ _ (I8 (b33 oM)),.nil⟩
  | exact k9 ⟨.ret _ _ (I8 (f1r ‹_›)),.nil⟩
  | exact k9 ⟨.ret _ _ (I8 (f2p ‹_›)),.nil⟩
  | skip
 have g1:=‹¬((s.getD 0 0).toNat:Int) < 97›
 have g2:=‹¬122 < ((s.getD 0 0).toNat:Int)›
 have e:u5 s=G9 s 0:=by unfold u5;rw [decide_eq_true oM];rfl
 rw [e]
 refine C7 (fun (i:Nat) vs bs=>vs=[.str s.length (m8 s),.int .i64 i]∧bs=[]∧i≤s.length∧G9 s i=G9 s 0) (fun i=>s.length - i) 0 ⟨rfl,rfl,oM,rfl⟩ (by simp only [x8];omega) ?_
 rintro self i vs bs ⟨rfl,rfl,hi,he⟩ ih
 have hbi:bt s i=((s.getD i 0).toNat:Int):=rfl
 (refine Zx ?_;with_reducible repeat' first|intro _|apply aI)
 all_goals try (exfalso;omega)
 all_goals first
  | exact k9 ⟨.ret _ _ (I8 (he.symm.trans (c66 oM))),.nil⟩
  | exact k9 ⟨.ret _ _ (I8 (he.symm.trans (c7k oM (fun h=>by have:=c96.1 h;omega)))),.nil⟩
  | exact ih (i+1) _ _ ⟨rfl,rfl,oM,(d1t (i:=i) oM (c96.2 oM)).symm.trans he⟩ oM
def named (s:Sy):Bool:=u5 s.1 && decide (1≤s.2.length∧s.2.length≤40)
def c1c (g:Sy→GV):Sp where
 ι:={ s:Sy // s.1.length < 90000∧s.2.length < 90000 }
 A s:=[.a (sg s.1)]
 B _:=[]
 R s:=.ret (g s.1)
 B' _:=[]
 inj i j vs bs h k _ _:=by
  obtain ⟨_,_,h1,k1,h,k⟩:=h.two k
  rw [b0y (h1.a_inj k1)];exact ⟨rfl,rfl⟩
theorem e3q:l6 108 (c1c fun s=>.c (.b (named s))):=o7 (fun fn h=>e1d h) [(133,_)] (.cons c3x .nil) fun U fn hfn ⟨s,h1,h2⟩ vs bs hv hb=>by
 have hp:=hfn 133 _ rfl
 have hv:l8 [.a [.s s.1,.s s.2]] vs:=hv
 have hb:RBs [] bs:=hb
 show j3 U _ fun v bs'=>l7 (.ret (.c (.b (named s)))) v∧RBs [] bs'
 unfold d5x
 (refine Zx ?_;intros)
 refine i6 hp ⟨s.1,h1⟩ (r:=.c (.b (u5 s.1))) rfl j7 .nil fun _ _ _ _=>?_
 (refine Zx ?_;with_reducible repeat' first|intro _|apply aI)
 ·refine I7 fun e=>?_
  subst e
  refine ⟨.ret _ _ (J3 ?_),.nil⟩
  rw [d8g]
  unfold named
  rw [‹u5 s.1=true›,Bool.true_and]
  apply decide_eq_decide.2
  omega
 ·exact k9 ⟨.ret _ _ (I8 (by unfold named;rw [decide_eq_false oM,Bool.and_false])),.nil⟩
 ·exact k9 ⟨.ret _ _ (I8 (by unfold named;rw [Bool.eq_false_iff.2 ‹¬u5 s.1=true›];rfl)),.nil⟩
theorem e9m {k:IntKind} {x y:Int} (h:y=x):RV (.c (.i k x)) (.int k y):=S7 h.symm
def c7t:Sp where
 ι:={ p:O × Nat // 1≤p.2∧p.2≤100000 }
 A p:=[.a p.1.1.g,.c (.i .i64 p.1.2)]
 B _:=[]
 R p:=.ret (.c (.i .i64 (min p.1.1.size p.1.2:Nat)))
 B' _:=[]
 inj i j vs bs h k _ _:=by
  obtain ⟨_,_,h1,k1,h,k⟩:=h.two k
  obtain ⟨_,_,h2,k2,h,k⟩:=h.two k
  have e1:=O.g_inj (h1.a_inj k1)
  have e2:=K7 h2 k2
  have e2:i.1.2=j.1.2:=oM
  rw [e1,e2];exact ⟨rfl,rfl⟩
theorem e7h:l6 80 c7t:=a9t (fun p=>p.1.1.size) fun n ih=>o7 (fun fn h=>e7v h) [(80,c7t.lt _ n)] (.cons ih .nil) fun U fn hfn ⟨⟨(a,l),hl1,hl2⟩,hn⟩ vs bs hv hb=>by
 have hr:=hfn 80 _ rfl
 have hl1:1≤l:=hl1
 have hl2:l≤100000:=hl2
 have hv:l8 [.a a.g,.c (.i .i64 l)] vs:=hv
 have hb:RBs [] bs:=hb
 have hn:a.size < n+1:=hn
 show j3 U _ fun v bs'=>l7 (.ret (.c (.i .i64 (min a.size l:Nat)))) v∧RBs [] bs'
 unfold r80
 rw [a.g_eq] at hv
 cases a with
 | co a d =>
  simp only [O.k,O.nu,O.de,O.sym,O.txt,O.ps] at hv
  have hs:(O.co a d).size=1+a.size+d.size:=rfl
  rw [hs] at hn ⊢
  have hpa:=a.size_pos
  have hpd:=d.size_pos
  (refine Zx ?_;with_reducible repeat' first|intro _|apply aI)
  all_goals try (exfalso;simp at * <;> omega)
  ·exact k9 ⟨.ret _ _ (S7 oM),.nil⟩
  ·refine i6 hr ⟨⟨(a,l - 1),show 1≤l - 1 by omega,show l - 1≤100000 by omega⟩,show a.size < n by omega⟩ (r:=.c (.i .i64 (min a.size (l - 1):Nat))) rfl (.k j7 (.k (e9m (by simp only;omega)) .nil)) .nil fun _ _ _ _=>?_
   (refine Zx ?_;with_reducible repeat' first|intro _|apply aI)
   ·exact k9 ⟨.ret _ _ (S7 oM),.nil⟩
   ·refine i6 hr ⟨⟨(d,l - (1+a.size)),show 1≤l - (1+a.size) by omega,show l - (1+a.size)≤100000 by omega⟩,show d.size < n by omega⟩ (r:=.c (.i .i64 (min d.size (l - (1+a.size)):Nat))) rfl (.k j7 (.k (e9m (by simp only;omega)) .nil)) .nil fun _ _ _ _=>?_
    (refine Zx ?_;intros)
    exact k9 ⟨.ret _ _ (S7 oM),.nil⟩
 | _ =>
  simp only [O.k,O.nu,O.de,O.sym,O.txt,O.ps] at hv
  (refine Zx ?_;with_reducible repeat' first|intro _|apply aI)
  all_goals try (exfalso;simp at * <;> omega)
  all_goals first
   | exact absurd ‹((([]:List O).length:Nat):Int)=2› dE
   | exact k9 ⟨.ret _ _ (S7 (by simp only [O.size];omega)),.nil⟩
theorem e4e:l6 40 (spO fun a=>.c (.i .i64 (min a.size 3001:Nat))):=o7 (fun fn h=>e7k h) [(80,_)] (.cons e7h .nil) fun U fn hfn a vs bs hv hb=>by
 have hr:=hfn 80 _ rfl
 have hv:l8 [.a a.g] vs:=hv
 have hb:RBs [] bs:=hb
 show j3 U _ fun v bs'=>l7 (.ret (.c (.i .i64 (min a.size 3001:Nat)))) v∧RBs [] bs'
 unfold r40
 refine a1i hv fun v l hv1 hv2=>?_
 refine H4 hv1 a.g_len fun qa ha=>?_
 (refine Zx ?_;intros)
 refine i6 hr ⟨(a,3001),show 1≤3001 by decide,show 3001≤100000 by decide⟩ (r:=.c (.i .i64 (min a.size 3001:Nat))) rfl j7 .nil fun _ _ _ _=>?_
 (refine Zx ?_;intros)
 exact k9 ⟨.ret _ _ j7,.nil⟩
end
end Go.Proofs.YtffaodopiifbkaaGreatDoor
