/- The reference's objects: what is formed, lists. -/
import Derived.Test.YtffaodopiifbkaaGreatDoorKR5b
set_option linter.all false
namespace Go.Proofs.YtffaodopiifbkaaGreatDoor
open Go.Abs LQ
set_option maxRecDepth 100000
set_option maxHeartbeats 4000000
noncomputable section
theorem Y6 {s:f4} {i:Nat} (h:i < s.length) (hb:a0w (bt s i)=true):E5 s i=E5 s (i+1):=by rw [E5,if_pos h,if_pos hb]
theorem c77 {s:f4} {i:Nat} (h:i < s.length) (hb:¬a0w (bt s i)=true):E5 s i=false:=by rw [E5,if_pos h,if_neg hb]
theorem b2a {s:f4} {i:Nat} (h:¬i < s.length):E5 s i=true:=by rw [E5,if_neg h]
theorem d07 {c:Int}:a0w c=true↔(97≤c∧c≤122)∨(48≤c∧c≤57)∨c=45:=by simp [a0w]
theorem b3d {s:f4} (h:¬(1≤s.length∧s.length≤40∧97≤bt s 0∧bt s 0≤122)):m7 s=false:=by unfold m7;rw [decide_eq_false h];rfl
theorem f5g {s:f4} (h:((s.getD 0 0).toNat:Int) < 97):m7 s=false:=b3d (fun k=>by have e:bt s 0=((s.getD 0 0).toNat:Int):=rfl;omega)
theorem f3b {s:f4} (h:122 < ((s.getD 0 0).toNat:Int)):m7 s=false:=b3d (fun k=>by have e:bt s 0=((s.getD 0 0).toNat:Int):=rfl;omega)
theorem c2s:j5 133 (sp1 fun s=>.ret (.c (.b (m7 s)))):=k8 (fun fn h=>e56 h) [] .nil fun U fn hfn ⟨s,hs⟩ vs bs hv hb=>by
 have hv:j6 [.c (.s s)] vs:=hv
 have hb:g9 [] bs:=hb
 show g8 U _ fun v bs'=>j7 (.ret (.c (.b (m7 s)))) v∧g9 [] bs'
 have hbt:bt s 0=((s.getD 0 0).toNat:Int):=rfl
 unfold d58
 (refine Zx ?_;with_reducible repeat' first|intro _|apply aI)
 all_goals try (exfalso;omega)
 all_goals first
  | exact i6 ⟨.ret _ _ (F1 (b3d oM)),.nil⟩
  | exact i6 ⟨.ret _ _ (F1 (f5g ‹_›)),.nil⟩
  | exact i6 ⟨.ret _ _ (F1 (f3b ‹_›)),.nil⟩
  | skip
 have g1:=‹¬((s.getD 0 0).toNat:Int) < 97›
 have g2:=‹¬122 < ((s.getD 0 0).toNat:Int)›
 have e:m7 s=E5 s 0:=by unfold m7;rw [decide_eq_true oM];rfl
 rw [e]
 refine D3 (fun (i:Nat) vs bs=>vs=[.str s.length (j9 s),.int .i64 i]∧bs=[]∧i≤s.length∧E5 s i=E5 s 0) (fun i=>s.length - i) 0 ⟨rfl,rfl,oM,rfl⟩ (by simp only [v8];omega) ?_
 rintro self i vs bs ⟨rfl,rfl,hi,he⟩ ih
 have hbi:bt s i=((s.getD i 0).toNat:Int):=rfl
 (refine Zx ?_;with_reducible repeat' first|intro _|apply aI)
 all_goals try (exfalso;omega)
 all_goals first
  | exact i6 ⟨.ret _ _ (F1 (he.symm.trans (b2a oM))),.nil⟩
  | exact i6 ⟨.ret _ _ (F1 (he.symm.trans (c77 oM (fun h=>by have:=d07.1 h;omega)))),.nil⟩
  | exact ih (i+1) _ _ ⟨rfl,rfl,oM,(Y6 (i:=i) oM (d07.2 oM)).symm.trans he⟩ oM
def named (s:Sy):Bool:=m7 s.1 && decide (1≤s.2.length∧s.2.length≤40)
def c00 (g:Sy→GV):Sp where
 ι:={ s:Sy // s.1.length < 90000∧s.2.length < 90000 }
 A s:=[.a (sg s.1)]
 B _:=[]
 R s:=.ret (g s.1)
 B' _:=[]
 inj i j vs bs h k _ _:=by
  obtain ⟨_,_,h1,k1,h,k⟩:=h.two k
  rw [a6y (h1.a_inj k1)];exact ⟨rfl,rfl⟩
theorem c7v:j5 108 (c00 fun s=>.c (.b (named s))):=k8 (fun fn h=>e3o h) [(133,_)] (.cons c2s .nil) fun U fn hfn ⟨s,h1,h2⟩ vs bs hv hb=>by
 have hp:=hfn 133 _ rfl
 have hv:j6 [.a [.s s.1,.s s.2]] vs:=hv
 have hb:g9 [] bs:=hb
 show g8 U _ fun v bs'=>j7 (.ret (.c (.b (named s)))) v∧g9 [] bs'
 unfold d5j
 (refine Zx ?_;intros)
 refine f5 hp ⟨s.1,h1⟩ (r:=.c (.b (m7 s.1))) rfl j4 .nil fun _ _ _ _=>?_
 (refine Zx ?_;with_reducible repeat' first|intro _|apply aI)
 ·refine D8 fun e=>?_
  subst e
  refine ⟨.ret _ _ (K9 ?_),.nil⟩
  rw [c4r]
  unfold named
  rw [‹m7 s.1=true›,Bool.true_and]
  apply decide_eq_decide.2
  omega
 ·exact i6 ⟨.ret _ _ (F1 (by unfold named;rw [decide_eq_false oM,Bool.and_false])),.nil⟩
 ·exact i6 ⟨.ret _ _ (F1 (by unfold named;rw [Bool.eq_false_iff.2 ‹¬m7 s.1=true›];rfl)),.nil⟩
theorem a84 {k:IntKind} {x y:Int} (h:y=x):RV (.c (.i k x)) (.int k y):=rvI h.symm
def c6a:Sp where
 ι:={ p:O × Nat // 1≤p.2∧p.2≤100000 }
 A p:=[.a p.1.1.g,.c (.i .i64 p.1.2)]
 B _:=[]
 R p:=.ret (.c (.i .i64 (min p.1.1.size p.1.2:Nat)))
 B' _:=[]
 inj i j vs bs h k _ _:=by
  obtain ⟨_,_,h1,k1,h,k⟩:=h.two k
  obtain ⟨_,_,h2,k2,h,k⟩:=h.two k
  have e1:=O.g_inj (h1.a_inj k1)
  have e2:=a1q h2 k2
  have e2:i.1.2=j.1.2:=oM
  rw [e1,e2];exact ⟨rfl,rfl⟩
theorem e8d:j5 80 c6a:=Q0 (fun p=>p.1.1.size) fun n ih=>k8 (fun fn h=>e7k h) [(80,c6a.lt _ n)] (.cons ih .nil) fun U fn hfn ⟨⟨(a,l),hl1,hl2⟩,hn⟩ vs bs hv hb=>by
 have hr:=hfn 80 _ rfl
 have hl1:1≤l:=hl1
 have hl2:l≤100000:=hl2
 have hv:j6 [.a a.g,.c (.i .i64 l)] vs:=hv
 have hb:g9 [] bs:=hb
 have hn:a.size < n+1:=hn
 show g8 U _ fun v bs'=>j7 (.ret (.c (.i .i64 (min a.size l:Nat)))) v∧g9 [] bs'
 unfold r80
 rw [a.g_eq] at hv
 cases a with
 | co a d =>
  simp only [O.k,O.nu,O.de,O.sym,O.txt,O.ps] at hv
  have hs:(O.co a d).size=1+a.size+d.size:=rfl
  rw [hs] at hn ⊢
  have hpa:=a.size_pos
  have hpd:=d.size_pos
  (refine Zx ?_;with_reducible repeat' first|intro _|apply aI)
  all_goals try (exfalso;simp at * <;> omega)
  ·exact i6 ⟨.ret _ _ (rvI oM),.nil⟩
  ·refine f5 hr ⟨⟨(a,l - 1),show 1≤l - 1 by omega,show l - 1≤100000 by omega⟩,show a.size < n by omega⟩ (r:=.c (.i .i64 (min a.size (l - 1):Nat))) rfl (.k j4 (.k (a84 (by simp only;omega)) .nil)) .nil fun _ _ _ _=>?_
   (refine Zx ?_;with_reducible repeat' first|intro _|apply aI)
   ·exact i6 ⟨.ret _ _ (rvI oM),.nil⟩
   ·refine f5 hr ⟨⟨(d,l - (1+a.size)),show 1≤l - (1+a.size) by omega,show l - (1+a.size)≤100000 by omega⟩,show d.size < n by omega⟩ (r:=.c (.i .i64 (min d.size (l - (1+a.size)):Nat))) rfl (.k j4 (.k (a84 (by simp only;omega)) .nil)) .nil fun _ _ _ _=>?_
    (refine Zx ?_;intros)
    exact i6 ⟨.ret _ _ (rvI oM),.nil⟩
 | _ =>
  simp only [O.k,O.nu,O.de,O.sym,O.txt,O.ps] at hv
  (refine Zx ?_;with_reducible repeat' first|intro _|apply aI)
  all_goals try (exfalso;simp at * <;> omega)
  all_goals first
   | exact absurd ‹((([]:List O).length:Nat):Int)=2› dE
   | exact i6 ⟨.ret _ _ (rvI (by simp only [O.size];omega)),.nil⟩
theorem e6n:j5 40 (spO fun a=>.c (.i .i64 (min a.size 3001:Nat))):=k8 (fun fn h=>f0q h) [(80,_)] (.cons e8d .nil) fun U fn hfn a vs bs hv hb=>by
 have hr:=hfn 80 _ rfl
 have hv:j6 [.a a.g] vs:=hv
 have hb:g9 [] bs:=hb
 show g8 U _ fun v bs'=>j7 (.ret (.c (.i .i64 (min a.size 3001:Nat)))) v∧g9 [] bs'
 unfold r40
 refine W2 hv fun v l hv1 hv2=>?_
 refine N2 hv1 a.g_len fun qa ha=>?_
 (refine Zx ?_;intros)
 refine f5 hr ⟨(a,3001),show 1≤3001 by decide,show 3001≤100000 by decide⟩ (r:=.c (.i .i64 (min a.size 3001:Nat))) rfl j4 .nil fun _ _ _ _=>?_
 (refine Zx ?_;intros)
 exact i6 ⟨.ret _ _ j4,.nil⟩
end
end Go.Proofs.YtffaodopiifbkaaGreatDoor
