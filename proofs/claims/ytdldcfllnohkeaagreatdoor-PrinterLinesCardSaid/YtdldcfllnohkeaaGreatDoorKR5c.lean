/- The reference's objects: what is formed, lists. -/
import Derived.Test.YtdldcfllnohkeaaGreatDoorKR5b
set_option linter.all false
namespace Go.Proofs.YtdldcfllnohkeaaGreatDoor
open Go.Abs LQ
set_option maxRecDepth 100000
set_option maxHeartbeats 4000000
noncomputable section
theorem a0b {s:f5} {i:Nat} (h:i < s.length) (hb:a08 (bt s i)=true):F4 s i=F4 s (i+1):=by rw [F4,if_pos h,if_pos hb]
theorem c81 {s:f5} {i:Nat} (h:i < s.length) (hb:¬a08 (bt s i)=true):F4 s i=false:=by rw [F4,if_pos h,if_neg hb]
theorem b2p {s:f5} {i:Nat} (h:¬i < s.length):F4 s i=true:=by rw [F4,if_neg h]
theorem d1e {c:Int}:a08 c=true↔(97≤c∧c≤122)∨(48≤c∧c≤57)∨c=45:=by simp [a08]
theorem b4z {s:f5} (h:¬(1≤s.length∧s.length≤40∧97≤bt s 0∧bt s 0≤122)):n5 s=false:=by unfold n5;rw [decide_eq_false h];rfl
theorem f6r {s:f5} (h:((s.getD 0 0).toNat:Int) < 97):n5 s=false:=b4z (fun k=>by have e:bt s 0=((s.getD 0 0).toNat:Int):=rfl;omega)
theorem f6s {s:f5} (h:122 < ((s.getD 0 0).toNat:Int)):n5 s=false:=b4z (fun k=>by have e:bt s 0=((s.getD 0 0).toNat:Int):=rfl;omega)
theorem c3i:j3 90 (sp1 fun s=>.ret (.c (.b (n5 s)))):=k7 (fun fn h=>f1y h) [] .nil fun U fn hfn ⟨s,hs⟩ vs bs hv hb=>by
 have hv:j5 [.c (.s s)] vs:=hv
 have hb:RBs [] bs:=hb
 show g7 U _ fun v bs'=>j6 (.ret (.c (.b (n5 s)))) v∧RBs [] bs'
 have hbt:bt s 0=((s.getD 0 0).toNat:Int):=rfl
 unfold r90
 (refine Zx ?_;with_reducible repeat' first|intro _|apply aI)
 all_goals try (exfalso;omega)
 all_goals first
  | exact g9 ⟨.ret _ _ (G2 (b4z oM)),.nil⟩
  | exact g9 ⟨.ret _ _ (G2 (f6r ‹_›)),.nil⟩
  | exact g9 ⟨.ret _ _ (G2 (f6s ‹_›)),.nil⟩
  | skip
 have g1:=‹¬((s.getD 0 0).toNat:Int) < 97›
 have g2:=‹¬122 < ((s.getD 0 0).toNat:Int)›
 have e:n5 s=F4 s 0:=by unfold n5;rw [decide_eq_true oM];rfl
 rw [e]
 refine E1 (fun (i:Nat) vs bs=>vs=[.str s.length (j9 s),.int .i64 i]∧bs=[]∧i≤s.length∧F4 s i=F4 s 0) (fun i=>s.length - i) 0 ⟨rfl,rfl,oM,rfl⟩ (by simp only [x8];omega) ?_
 rintro self i vs bs ⟨rfl,rfl,hi,he⟩ ih
 have hbi:bt s i=((s.getD i 0).toNat:Int):=rfl
 (refine Zx ?_;with_reducible repeat' first|intro _|apply aI)
 all_goals try (exfalso;omega)
 all_goals first
  | exact g9 ⟨.ret _ _ (G2 (he.symm.trans (b2p oM))),.nil⟩
  | exact g9 ⟨.ret _ _ (G2 (he.symm.trans (c81 oM (fun h=>by have:=d1e.1 h;omega)))),.nil⟩
  | exact ih (i+1) _ _ ⟨rfl,rfl,oM,(a0b (i:=i) oM (d1e.2 oM)).symm.trans he⟩ oM
def named (s:Sy):Bool:=n5 s.1 && decide (1≤s.2.length∧s.2.length≤40)
def c12 (g:Sy→GV):Sp where
 ι:={ s:Sy // s.1.length < 90000∧s.2.length < 90000 }
 A s:=[.a (sg s.1)]
 B _:=[]
 R s:=.ret (g s.1)
 B' _:=[]
 inj i j vs bs h k _ _:=by
  obtain ⟨_,_,h1,k1,h,k⟩:=h.two k
  rw [a8h (h1.a_inj k1)];exact ⟨rfl,rfl⟩
theorem c77:j3 91 (c12 fun s=>.c (.b (named s))):=k7 (fun fn h=>f10 h) [(90,_)] (.cons c3i .nil) fun U fn hfn ⟨s,h1,h2⟩ vs bs hv hb=>by
 have hp:=hfn 90 _ rfl
 have hv:j5 [.a [.s s.1,.s s.2]] vs:=hv
 have hb:RBs [] bs:=hb
 show g7 U _ fun v bs'=>j6 (.ret (.c (.b (named s)))) v∧RBs [] bs'
 unfold r91
 (refine Zx ?_;intros)
 refine f6 hp ⟨s.1,h1⟩ (r:=.c (.b (n5 s.1))) rfl j4 .nil fun _ _ _ _=>?_
 (refine Zx ?_;with_reducible repeat' first|intro _|apply aI)
 ·refine G7 fun e=>?_
  subst e
  refine ⟨.ret _ _ (P9 ?_),.nil⟩
  rw [c2f]
  unfold named
  rw [‹n5 s.1=true›,Bool.true_and]
  apply decide_eq_decide.2
  omega
 ·exact g9 ⟨.ret _ _ (G2 (by unfold named;rw [decide_eq_false oM,Bool.and_false])),.nil⟩
 ·exact g9 ⟨.ret _ _ (G2 (by unfold named;rw [Bool.eq_false_iff.2 ‹¬n5 s.1=true›];rfl)),.nil⟩
theorem a9q {k:IntKind} {x y:Int} (h:y=x):RV (.c (.i k x)) (.int k y):=rvI h.symm
def c9h:Sp where
 ι:={ p:O × Nat // 1≤p.2∧p.2≤100000 }
 A p:=[.a p.1.1.g,.c (.i .i64 p.1.2)]
 B _:=[]
 R p:=.ret (.c (.i .i64 (min p.1.1.size p.1.2:Nat)))
 B' _:=[]
 inj i j vs bs h k _ _:=by
  obtain ⟨_,_,h1,k1,h,k⟩:=h.two k
  obtain ⟨_,_,h2,k2,h,k⟩:=h.two k
  have e1:=O.g_inj (h1.a_inj k1)
  have e2:=a0l h2 k2
  have e2:i.1.2=j.1.2:=oM
  rw [e1,e2];exact ⟨rfl,rfl⟩
theorem e7d:j3 24 c9h:=R3 (fun p=>p.1.1.size) fun n ih=>k7 (fun fn h=>e86 h) [(24,c9h.lt _ n)] (.cons ih .nil) fun U fn hfn ⟨⟨(a,l),hl1,hl2⟩,hn⟩ vs bs hv hb=>by
 have hr:=hfn 24 _ rfl
 have hl1:1≤l:=hl1
 have hl2:l≤100000:=hl2
 have hv:j5 [.a a.g,.c (.i .i64 l)] vs:=hv
 have hb:RBs [] bs:=hb
 have hn:a.size < n+1:=hn
 show g7 U _ fun v bs'=>j6 (.ret (.c (.i .i64 (min a.size l:Nat)))) v∧RBs [] bs'
 unfold r24
 rw [a.g_eq] at hv
 cases a with
 | co a d =>
  simp only [O.k,O.nu,O.de,O.sym,O.txt,O.ps] at hv
  have hs:(O.co a d).size=1+a.size+d.size:=rfl
  rw [hs] at hn ⊢
  have hpa:=a.size_pos
  have hpd:=d.size_pos
  (refine Zx ?_;with_reducible repeat' first|intro _|apply aI)
  all_goals try (exfalso;simp at * <;> omega)
  ·exact g9 ⟨.ret _ _ (rvI oM),.nil⟩
  ·refine f6 hr ⟨⟨(a,l - 1),show 1≤l - 1 by omega,show l - 1≤100000 by omega⟩,show a.size < n by omega⟩ (r:=.c (.i .i64 (min a.size (l - 1):Nat))) rfl (.k j4 (.k (a9q (by simp only;omega)) .nil)) .nil fun _ _ _ _=>?_
   (refine Zx ?_;with_reducible repeat' first|intro _|apply aI)
   ·exact g9 ⟨.ret _ _ (rvI oM),.nil⟩
   ·refine f6 hr ⟨⟨(d,l - (1+a.size)),show 1≤l - (1+a.size) by omega,show l - (1+a.size)≤100000 by omega⟩,show d.size < n by omega⟩ (r:=.c (.i .i64 (min d.size (l - (1+a.size)):Nat))) rfl (.k j4 (.k (a9q (by simp only;omega)) .nil)) .nil fun _ _ _ _=>?_
    (refine Zx ?_;intros)
    exact g9 ⟨.ret _ _ (rvI oM),.nil⟩
 | _ =>
  simp only [O.k,O.nu,O.de,O.sym,O.txt,O.ps] at hv
  (refine Zx ?_;with_reducible repeat' first|intro _|apply aI)
  all_goals try (exfalso;simp at * <;> omega)
  all_goals first
   | exact absurd ‹((([]:List O).length:Nat):Int)=2› dE
   | exact g9 ⟨.ret _ _ (rvI (by simp only [O.size];omega)),.nil⟩
theorem e7l:j3 7 (spO fun a=>.c (.i .i64 (min a.size 3001:Nat))):=k7 (fun fn h=>f58 h) [(24,_)] (.cons e7d .nil) fun U fn hfn a vs bs hv hb=>by
 have hr:=hfn 24 _ rfl
 have hv:j5 [.a a.g] vs:=hv
 have hb:RBs [] bs:=hb
 show g7 U _ fun v bs'=>j6 (.ret (.c (.i .i64 (min a.size 3001:Nat)))) v∧RBs [] bs'
 unfold r7
 refine X8 hv fun v l hv1 hv2=>?_
 refine M5 hv1 a.g_len fun qa ha=>?_
 (refine Zx ?_;intros)
 refine f6 hr ⟨(a,3001),show 1≤3001 by decide,show 3001≤100000 by decide⟩ (r:=.c (.i .i64 (min a.size 3001:Nat))) rfl j4 .nil fun _ _ _ _=>?_
 (refine Zx ?_;intros)
 exact g9 ⟨.ret _ _ j4,.nil⟩
end
end Go.Proofs.YtdldcfllnohkeaaGreatDoor
