/- The reference's objects: what is formed, lists. -/
import Derived.Test.YtgipbdffgfbedaaGreatDoorCJ0
import Derived.ChangeArms
import GoSem.ClaimJoined
import Derived.Test.YtgipbdffgfbedaaGreatDoorCS
set_option linter.all false
namespace Go.Proofs.YtgipbdffgfbedaaGreatDoor
open Go.Abs LQ
set_option maxRecDepth 100000
set_option maxHeartbeats 4000000
noncomputable section
theorem d1z {s:f6} {i:Nat} (h:i < s.length) (hb:a0p (bt s i)=true):F1 s i=F1 s (i+1):=by rw [F1,if_pos h,if_pos hb]
theorem c6t {s:f6} {i:Nat} (h:i < s.length) (hb:¬a0p (bt s i)=true):F1 s i=false:=by rw [F1,if_pos h,if_neg hb]
theorem c6s {s:f6} {i:Nat} (h:¬i < s.length):F1 s i=true:=by rw [F1,if_neg h]
theorem c8y {c:Int}:a0p c=true↔(97≤c∧c≤122)∨(48≤c∧c≤57)∨c=45:=by simp [a0p]
theorem b3v {s:f6} (h:¬(1≤s.length∧s.length≤40∧97≤bt s 0∧bt s 0≤122)):p8 s=false:=by unfold p8;rw [decide_eq_false h];rfl
theorem e9l {s:f6} (h:((s.getD 0 0).toNat:Int) < 97):p8 s=false:=b3v (fun k=>by have e:bt s 0=((s.getD 0 0).toNat:Int):=rfl;omega)
theorem e9m {s:f6} (h:122 < ((s.getD 0 0).toNat:Int)):p8 s=false:=b3v (fun k=>by have e:bt s 0=((s.getD 0 0).toNat:Int):=rfl;omega)
theorem c1z:j4 58 (sp1 fun s=>.ret (.c (.b (p8 s)))):=l9 (fun fn h=>e5j h) [] .nil fun U fn hfn ⟨s,hs⟩ vs bs hv hb=>by
 have hv:j6 [.c (.s s)] vs:=hv
 have hb:RBs [] bs:=hb
 show g8 U _ fun v bs'=>j7 (.ret (.c (.b (p8 s)))) v∧RBs [] bs'
 have hbt:bt s 0=((s.getD 0 0).toNat:Int):=rfl
 unfold r58
 (refine Zx ?_;with_reducible repeat' first|intro _|apply aI)
 all_goals try (exfalso;omega)
 all_goals first
  | exact i7 ⟨.ret _ _ (F2 (b3v oM)),.nil⟩
  | exact i7 ⟨.ret _ _ (F2 (e9l ‹_›)),.nil⟩
  | exact i7 ⟨.ret _ _ (F2 (e9m ‹_›)),.nil⟩
  | skip
 have g1:=‹¬((s.getD 0 0).toNat:Int) < 97›
 have g2:=‹¬122 < ((s.getD 0 0).toNat:Int)›
 have e:p8 s=F1 s 0:=by unfold p8;rw [decide_eq_true oM];rfl
 rw [e]
 refine F3 (fun (i:Nat) vs bs=>vs=[.str s.length (j9 s),.int .i64 i]∧bs=[]∧i≤s.length∧F1 s i=F1 s 0) (fun i=>s.length - i) 0 ⟨rfl,rfl,oM,rfl⟩ (by simp only [y8];omega) ?_
 rintro self i vs bs ⟨rfl,rfl,hi,he⟩ ih
 have hbi:bt s i=((s.getD i 0).toNat:Int):=rfl
 (refine Zx ?_;with_reducible repeat' first|intro _|apply aI)
 all_goals try (exfalso;omega)
 all_goals first
  | exact i7 ⟨.ret _ _ (F2 (he.symm.trans (c6s oM))),.nil⟩
  | exact i7 ⟨.ret _ _ (F2 (he.symm.trans (c6t oM (fun h=>by have:=c8y.1 h;omega)))),.nil⟩
  | exact ih (i+1) _ _ ⟨rfl,rfl,oM,(d1z (i:=i) oM (c8y.2 oM)).symm.trans he⟩ oM
def named (s:Sy):Bool:=p8 s.1 && decide (1≤s.2.length∧s.2.length≤40)
def c0k (g:Sy→GV):Sp where
 ι:={ s:Sy // s.1.length < 21600000∧s.2.length < 21600000 }
 A s:=[.a (sg s.1)]
 B _:=[]
 R s:=.ret (g s.1)
 B' _:=[]
 inj i j vs bs h k _ _:=by
  obtain ⟨_,_,h1,k1,h,k⟩:=h.two k
  rw [a7k (h1.a_inj k1)];exact ⟨rfl,rfl⟩
theorem b6q:j4 59 (c0k fun s=>.c (.b (named s))):=l9 (fun fn h=>e5k h) [(58,_)] (.cons c1z .nil) fun U fn hfn ⟨s,h1,h2⟩ vs bs hv hb=>by
 have hp:=hfn 58 _ rfl
 have hv:j6 [.a [.s s.1,.s s.2]] vs:=hv
 have hb:RBs [] bs:=hb
 show g8 U _ fun v bs'=>j7 (.ret (.c (.b (named s)))) v∧RBs [] bs'
 unfold r59
 (refine Zx ?_;intros)
 refine f9 hp ⟨s.1,h1⟩ (r:=.c (.b (p8 s.1))) rfl j3 .nil fun _ _ _ _=>?_
 (refine Zx ?_;with_reducible repeat' first|intro _|apply aI)
 ·refine D5 fun e=>?_
  subst e
  refine ⟨.ret _ _ (M5 ?_),.nil⟩
  rw [c0y]
  unfold named
  rw [‹p8 s.1=true›,Bool.true_and]
  apply decide_eq_decide.2
  omega
 ·exact i7 ⟨.ret _ _ (F2 (by unfold named;rw [decide_eq_false oM,Bool.and_false])),.nil⟩
 ·exact i7 ⟨.ret _ _ (F2 (by unfold named;rw [Bool.eq_false_iff.2 ‹¬p8 s.1=true›];rfl)),.nil⟩
theorem c87 {k:IntKind} {x y:Int} (h:y=x):RV (.c (.i k x)) (.int k y):=Y1 h.symm
def c68:Sp where
 ι:={ p:O × Nat // 1≤p.2∧p.2≤24000000 }
 A p:=[.a p.1.1.g,.c (.i .i64 p.1.2)]
 B _:=[]
 R p:=.ret (.c (.i .i64 (min p.1.1.size p.1.2:Nat)))
 B' _:=[]
 inj i j vs bs h k _ _:=by
  obtain ⟨_,_,h1,k1,h,k⟩:=h.two k
  obtain ⟨_,_,h2,k2,h,k⟩:=h.two k
  have e1:=O.g_inj (h1.a_inj k1)
  have e2:=Z7 h2 k2
  have e2:i.1.2=j.1.2:=oM
  rw [e1,e2];exact ⟨rfl,rfl⟩
theorem e2h:j4 14 c68:=Q1 (fun p=>p.1.1.size) fun n ih=>l9 (fun fn h=>d15 h) [(14,c68.lt _ n)] (.cons ih .nil) fun U fn hfn ⟨⟨(a,l),hl1,hl2⟩,hn⟩ vs bs hv hb=>by
 have hr:=hfn 14 _ rfl
 have hl1:1≤l:=hl1
 have hl2:l≤24000000:=hl2
 have hv:j6 [.a a.g,.c (.i .i64 l)] vs:=hv
 have hb:RBs [] bs:=hb
 have hn:a.size < n+1:=hn
 show g8 U _ fun v bs'=>j7 (.ret (.c (.i .i64 (min a.size l:Nat)))) v∧RBs [] bs'
 unfold r14
 rw [a.g_eq] at hv
 cases a with
 | co a d =>
  simp only [O.k,O.nu,O.de,O.sym,O.txt,O.ps] at hv
  have hs:(O.co a d).size=1+a.size+d.size:=rfl
  rw [hs] at hn ⊢
  have hpa:=a.size_pos
  have hpd:=d.size_pos
  (refine Zx ?_;with_reducible repeat' first|intro _|apply aI)
  all_goals try (exfalso;simp at * <;> omega)
  ·exact i7 ⟨.ret _ _ (Y1 oM),.nil⟩
  ·refine f9 hr ⟨⟨(a,l - 1),show 1≤l - 1 by omega,show l - 1≤24000000 by omega⟩,show a.size < n by omega⟩ (r:=.c (.i .i64 (min a.size (l - 1):Nat))) rfl (.k j3 (.k (c87 (by simp only;omega)) .nil)) .nil fun _ _ _ _=>?_
   (refine Zx ?_;with_reducible repeat' first|intro _|apply aI)
   ·exact i7 ⟨.ret _ _ (Y1 oM),.nil⟩
   ·refine f9 hr ⟨⟨(d,l - (1+a.size)),show 1≤l - (1+a.size) by omega,show l - (1+a.size)≤24000000 by omega⟩,show d.size < n by omega⟩ (r:=.c (.i .i64 (min d.size (l - (1+a.size)):Nat))) rfl (.k j3 (.k (c87 (by simp only;omega)) .nil)) .nil fun _ _ _ _=>?_
    (refine Zx ?_;intros)
    exact i7 ⟨.ret _ _ (Y1 oM),.nil⟩
 | _ =>
  simp only [O.k,O.nu,O.de,O.sym,O.txt,O.ps] at hv
  (refine Zx ?_;with_reducible repeat' first|intro _|apply aI)
  all_goals try (exfalso;simp at * <;> omega)
  all_goals first
   | exact absurd ‹((([]:List O).length:Nat):Int)=2› dE
   | exact i7 ⟨.ret _ _ (Y1 (by simp only [O.size];omega)),.nil⟩
theorem e2o:j4 5 (spO fun a=>.c (.i .i64 (min a.size 3001:Nat))):=l9 (fun fn h=>d7f h) [(14,_)] (.cons e2h .nil) fun U fn hfn a vs bs hv hb=>by
 have hr:=hfn 14 _ rfl
 have hv:j6 [.a a.g] vs:=hv
 have hb:RBs [] bs:=hb
 show g8 U _ fun v bs'=>j7 (.ret (.c (.i .i64 (min a.size 3001:Nat)))) v∧RBs [] bs'
 unfold r5
 refine W5 hv fun v l hv1 hv2=>?_
 refine S7 hv1 a.g_len fun qa ha=>?_
 (refine Zx ?_;intros)
 refine f9 hr ⟨(a,3001),show 1≤3001 by decide,show 3001≤24000000 by decide⟩ (r:=.c (.i .i64 (min a.size 3001:Nat))) rfl j3 .nil fun _ _ _ _=>?_
 (refine Zx ?_;intros)
 exact i7 ⟨.ret _ _ j3,.nil⟩
section
variable {U:q7} {P:J0→List Bx→Prop}
theorem e01 {a b:Int} {x y:Om} (h:a=b) (k:g8 U x P):g8 U (U.cnd (U.iEq a b) x y) P:=b3n a49 (fun _=>k) (fun n=>absurd h n)
theorem e00 {a b:Int} {x y:Om} (h:¬a=b) (k:g8 U y P):g8 U (U.cnd (U.iEq a b) x y) P:=b3n a49 (fun n=>absurd n h) (fun _=>k)
theorem e6q {s:List UInt8} {l c:Nat} {x y:Om} (h:s=n5 l c) (k:g8 U x P):g8 U (U.cnd (U.sEq s.length (j9 s) l c) x y) P:=b3n a6o (fun _=>k) (fun n=>absurd h n)
theorem d2f {s:List UInt8} {l c:Nat} {b:Bool} {x y:Om} (h:s=n5 l c) (k:g8 U (U.cnd b x y) P):g8 U (U.cnd (U.band (U.sEq s.length (j9 s) l c) b) x y) P:=fun e=>by
 have:=k e
 have e1:U.sEq s.length (j9 s) l c=true:=by subst e;rw [a9u];exact decide_eq_true h
 rw [e1]
 subst e
 exact this
end
theorem Zz {p q:Prop} (k:q) (h:Tr p q:=by ((repeat' (first | (with_reducible apply Tr.all) | (with_reducible intro _) | (apply Tr.b;(case f=>first | exact e01 dE | exact e00 dE | exact e6q (by rfl) | exact d2f (by rfl) | exact sCndBandT | exact b5k | exact W5 aS | exact c29 | exact b5m aS | exact b5l | exact a7i aS | exact b0n | exact b1r aS | exact sP | exact sPR aS | exact sIV | exact sI aS | exact sBV | exact sBK | exact sB aS | exact sSV | exact sS aS | exact sA | exact S7 aS (by rfl) | exact b7d (by rfl) | exact c3b (by rfl) | exact c0c aS (by rfl) | exact c3c aS (by rfl) | exact c9b aS | exact sSl aS | exact sTu aS | exact sBo | exact b0l aS (by rfl) | exact sBc | exact c89 aS | exact sBt | exact sBs | exact sBr | exact a7j aS | exact b5s aS | exact b5o aS (by rfl) | exact c9a aS (by rfl) | exact sCI' aS (by rfl) | exact sCB' aS (by rfl) | exact sCS aS | exact sCI aS | exact sCB aS | exact b5q (by first | omega | (simp only [List.length_map] at *;omega)) | exact b5p (by first | omega | (simp only [List.length_map] at *;omega)) | exact c0e | exact b1s | exact b1u | exact c0d | exact b5r | exact b5n | exact sfSubN | exact b1t | exact sfBSelE | exact sfB | exact sJn | exact c0b | exact b99 | exact c0a | exact B5 aS (by (first | exact u0 O.g_len | exact u0 (fun _=>rfl))) | exact b0m aS (by (first | exact u0 O.g_len | exact u0 (fun _=>rfl))) | exact c0g (by first | omega | (simp only [List.length_map] at *;omega)) | exact b5t (by first | omega | (simp only [List.length_map] at *;omega)) | exact c9e aS (by first | assumption | omega | (simp only [List.length_map] at *;omega)) | exact sfT aS (by rfl))) | (apply Tr.chk;(case ht=>(repeat' (first | exact trT | exact trF | apply a3y | apply a3v | exact a3x | exact a3w | exact a3a | exact a5a | exact a49 | exact a1k | exact a1l | exact a1j | exact a1i | exact a1h | exact a30 | exact a81 | exact a6o | exact trS | exact trV)));(case hp=>first | omega | (simp only [List.length_map] at *;omega))) | (apply Tr.cnd;(case ht=>(repeat' (first | exact trT | exact trF | apply a3y | apply a3v | exact a3x | exact a3w | exact a3a | exact a5a | exact a49 | exact a1k | exact a1l | exact a1j | exact a1i | exact a1h | exact a30 | exact a81 | exact a6o | exact trS | exact trV))))));all_goals exact Tr.refl)):p:=h.go k
def O.sm:O→Prop
 | .num n d=>(g7 n).length < 2160000∧(f7 d).length < 2160000
 | .sy s=>s.1.length < 2160000∧s.2.length < 2160000
 | .tx s=>s.length < 2160000
 | .co a d=>a.sm∧d.sm
 | .no=>True
def O.fm:O→Bool
 | .num n d=>decide (m7 (g7 n) (f7 d)=(g7 n,f7 d)∧A6 (g7 n)≤100∧A6 (f7 d)≤100)
 | .sy s=>named s
 | .tx s=>decide (s.length≤200)
 | .co a d=>a.fm && d.fm
 | .no=>false
def c9n (g:O→GV):Sp where
 ι:={ o:O // o.sm }
 A o:=[.a o.1.g]
 B _:=[]
 R o:=.ret (g o.1)
 B' _:=[]
 inj i j vs bs h k _ _:=by rw [b3y h k];exact ⟨rfl,rfl⟩
theorem d83:j4 37 (c9n fun a=>.c (.b a.fm)):=Q1 (fun p=>p.1.size) fun n ih=>l9 (fun fn h=>d18 h) [(37,(c9n fun a=>.c (.b a.fm)).lt _ n),(24,_),(61,_),(59,_)] (.cons ih (.cons b6r (.cons c1y (.cons b6q .nil)))) fun U fn hfn ⟨⟨a,hsm⟩,hn⟩ vs bs hv hb=>by
 have hr:=hfn 37 _ rfl
 have hred:=hfn 24 _ rfl
 have hdg:=hfn 61 _ rfl
 have hnm:=hfn 59 _ rfl
 have hv:j6 [.a a.g] vs:=hv
 have hb:RBs [] bs:=hb
 have hn:a.size < n+1:=hn
 show g8 U _ fun v bs'=>j7 (.ret (.c (.b a.fm))) v∧RBs [] bs'
 unfold r37
 rw [a.g_eq] at hv
 cases a with
 | num m d =>
  simp only [O.k,O.nu,O.de,O.sym,O.txt,O.ps] at hv
  have hs1:(g7 m).length < 2160000:=hsm.1
  have hs2:(f7 d).length < 2160000:=hsm.2
  (refine Zz ?_;intros)
  refine f9 hred ⟨(g7 m,f7 d),hs1,hs2⟩ (r:=.t [.c (.s (m7 (g7 m) (f7 d)).1),.c (.s (m7 (g7 m) (f7 d)).2)]) rfl j3 .nil fun _ _ _ _=>?_
  have hfm:(O.num m d).fm=decide (m7 (g7 m) (f7 d)=(g7 m,f7 d)∧A6 (g7 m)≤100∧A6 (f7 d)≤100):=rfl
  rw [hfm]
  generalize m7 (g7 m) (f7 d)=q at *
  obtain ⟨q1,q2⟩:=q
  simp only at *
  (refine Zz ?_;with_reducible repeat' first|intro _|apply aI)
  ·have e1:=‹q1=g7 m›
   have e2:=‹q2=f7 d›
   subst e1 e2
   refine f9 hdg ⟨g7 m,oM⟩ (r:=.c (.i .i64 (A6 (g7 m)))) rfl j3 .nil fun _ _ _ _=>?_
   (refine Zz ?_;with_reducible repeat' first|intro _|apply aI)
   ·refine f9 hdg ⟨f7 d,oM⟩ (r:=.c (.i .i64 (A6 (f7 d)))) rfl j3 .nil fun _ _ _ _=>?_
    (refine Zz ?_;intros)
    refine D5 fun e=>?_
    subst e
    refine ⟨.ret _ _ (M5 ?_),.nil⟩
    rw [c0y]
    apply decide_eq_decide.2
    constructor
    ·intro h;have:=h.2.2;omega
    ·intro h;exact ⟨rfl,oM,oM⟩
   ·exact i7 ⟨.ret _ _ (F2 (decide_eq_false fun h=>by have:=h.2.1;omega)),.nil⟩
  all_goals exact i7 ⟨.ret _ _ (F2 (decide_eq_false fun h=>by injection h.1 with k1 k2;contradiction)),.nil⟩
 | sy s =>
  simp only [O.k,O.nu,O.de,O.sym,O.txt,O.ps] at hv
  have hs1:s.1.length < 2160000:=hsm.1
  have hs2:s.2.length < 2160000:=hsm.2
  (refine Zz ?_;intros)
  have hc:=(‹u3 (List.drop 3 _) _ 0›).take 2
  refine f9 hnm ⟨s,oM,oM⟩ (r:=.c (.b (named s))) rfl (.k (.a _ _ _ rfl (by exact hc)) .nil) .nil fun _ _ _ _=>?_
  have hfm:(O.sy s).fm=named s:=rfl
  rw [hfm]
  (refine Zz ?_;with_reducible repeat' first|intro _|apply aI)
  ·refine D5 fun e=>?_
   subst e
   refine ⟨.ret _ _ (M5 ?_),.nil⟩
   rw [a02,‹named s=true›]
   rfl
  ·exact i7 ⟨.ret _ _ (F2 (Bool.eq_false_iff.2 ‹¬named s=true›)),.nil⟩
 | tx s =>
  simp only [O.k,O.nu,O.de,O.sym,O.txt,O.ps] at hv
  have hfm:(O.tx s).fm=decide (s.length≤200):=rfl
  rw [hfm]
  (refine Zz ?_;with_reducible repeat' first|intro _|apply aI)
  ·refine D5 fun e=>?_
   subst e
   refine ⟨.ret _ _ (M5 ?_),.nil⟩
   rw [a02,decide_eq_true (by omega:s.length≤200)]
   rfl
  ·exact i7 ⟨.ret _ _ (F2 (decide_eq_false oM)),.nil⟩
 | co a d =>
  simp only [O.k,O.nu,O.de,O.sym,O.txt,O.ps] at hv
  have hfm:(O.co a d).fm=(a.fm && d.fm):=rfl
  have hsz:(O.co a d).size=1+a.size+d.size:=rfl
  rw [hsz] at hn
  rw [hfm]
  (refine Zz ?_;with_reducible repeat' first|intro _|apply aI)
  ·refine f9 hr ⟨⟨a,hsm.1⟩,show a.size < n by omega⟩ (r:=.c (.b a.fm)) rfl j3 .nil fun _ _ _ _=>?_
   (refine Zz ?_;with_reducible repeat' first|intro _|apply aI)
   ·refine f9 hr ⟨⟨d,hsm.2⟩,show d.size < n by omega⟩ (r:=.c (.b d.fm)) rfl j3 .nil fun _ _ _ _=>?_
    (refine Zz ?_;intros)
    rw [‹a.fm=true›,Bool.true_and]
    exact i7 ⟨.ret _ _ j3,.nil⟩
   ·exact i7 ⟨.ret _ _ (F2 (by rw [Bool.eq_false_iff.2 ‹¬a.fm=true›];rfl)),.nil⟩
  ·exact absurd rfl ‹¬(([a,d].length:Nat):Int)=2›
 | no =>
  simp only [O.k,O.nu,O.de,O.sym,O.txt,O.ps] at hv
  (refine Zz ?_;intros)
  exact i7 ⟨.ret _ _ (F2 rfl),.nil⟩
theorem d9d:j4 18 (c9n fun a=>.c (.b (decide (a.size≤3000) && a.fm))):=l9 (fun fn h=>d17 h) [(5,_),(37,_)] (.cons e2o (.cons d83 .nil)) fun U fn hfn ⟨a,hsm⟩ vs bs hv hb=>by
 have hn:=hfn 5 _ rfl
 have hf:=hfn 37 _ rfl
 have hv:j6 [.a a.g] vs:=hv
 have hb:RBs [] bs:=hb
 show g8 U _ fun v bs'=>j7 (.ret (.c (.b (decide (a.size≤3000) && a.fm)))) v∧RBs [] bs'
 unfold r18
 refine W5 hv fun v l hv1 hv2=>?_
 refine S7 hv1 a.g_len fun qa ha=>?_
 (refine Zz ?_;intros)
 refine f9 hn a (r:=.c (.i .i64 (min a.size 3001:Nat))) rfl j3 .nil fun _ _ _ _=>?_
 (refine Zz ?_;with_reducible repeat' first|intro _|apply aI)
 ·refine f9 hf ⟨a,hsm⟩ (r:=.c (.b a.fm)) rfl j3 .nil fun _ _ _ _=>?_
  (refine Zz ?_;intros)
  rw [decide_eq_true (by omega:a.size≤3000),Bool.true_and]
  exact i7 ⟨.ret _ _ j3,.nil⟩
 ·exact i7 ⟨.ret _ _ (F2 (by rw [decide_eq_false (by omega:¬a.size≤3000)];rfl)),.nil⟩
def a3k:List O→O
 | []=>A7
 | a :: l=>.co a (a3k l)
def f4s (g:List O→GV):Sp where
 ι:={ l:List O // l.length < 21600000 }
 A l:=[.sl 7 (l.1.map O.g)]
 B _:=[]
 R l:=.ret (g l.1)
 B' _:=[]
 inj i j vs bs h k _ _:=by
  obtain ⟨_,_,h1,k1,h,k⟩:=h.two k
  rw [c2d (h1.sl_inj k1)];exact ⟨rfl,rfl⟩
theorem e8q:j4 9 (f4s fun l=>.a (a3k l).g):=l9 (fun fn h=>e82 h) [(22,_),(23,_)] (.cons e2n (.cons e8n .nil)) fun U fn hfn ⟨l,hl⟩ vs bs hv hb=>by
 have hn:=hfn 22 _ rfl
 have hc:=hfn 23 _ rfl
 have hl:l.length < 21600000:=hl
 have hv:j6 [.sl 7 (l.map O.g)] vs:=hv
 have hb:RBs [] bs:=hb
 show g8 U _ fun v bs'=>j7 (.ret (.a (a3k l).g)) v∧RBs [] bs'
 unfold r9
 (refine Zz ?_;intros)
 refine f9 hn () (r:=.a A7.g) rfl .nil .nil fun _ _ _ _=>?_
 (refine Zz ?_;intros)
 refine F3 (fun (m:Nat) vs bs=>∃ (t:j0 Q) (off:Nat) (i:Int) (q:Q),vs=[.slice t 7 off l.length .no,.ptr 0 0,.ptr 1 0,.int .i64 i]∧bs=[.cells [.int .i64 0,.str 0 0,.str 0 0,.str 0 0,.str 0 0,.str 0 0,.slice .nil 0 0 0 .exact],.opa q 7]∧i=m - 1∧m≤l.length∧n7 7 (l.map O.g) t off∧u3 (a3k (l.drop m)).g q 0) (fun m=>m) l.length
  ⟨_,_,_,_,rfl,rfl,rfl,oM,aS,by rw [List.drop_length];assumption⟩ (by simp only [y8];omega) ?_
 rintro self m _ _ ⟨t,off,i,q,rfl,rfl,rfl,hm,ht,hq⟩ ih
 (refine Zz ?_;with_reducible repeat' first|intro _|apply aI)
 ·refine c9f (y:=l[m - 1]) aS (by rw [show ((m:Int) - 1).toNat=m - 1 by omega];exact List.getElem?_eq_getElem oM) fun _ _=>?_
  (refine Zz ?_;intros)
  refine f9 hc (l[m - 1],a3k (l.drop m)) (r:=.a (O.co l[m - 1] (a3k (l.drop m))).g) rfl j3 .nil fun _ _ _ _=>?_
  (refine Zz ?_;intros)
  refine ih (m - 1) _ _ ⟨_,_,_,_,rfl,rfl,oM,oM,ht,?_⟩ oM
  rw [List.drop_eq_getElem_cons (by omega:m - 1 < l.length),show m - 1+1=m by omega]
  assumption
 ·have em:m=0:=oM
  subst em
  rw [List.drop_zero] at *
  exact i7 ⟨.ret _ _ j3,.nil⟩
def qn (x y:Int):Int × Nat:=if y=0 then (0,1) else ((if (x < 0)=(y < 0) then 1 else -1) * ((x.natAbs / Nat.gcd x.natAbs y.natAbs:Nat):Int),y.natAbs / Nat.gcd x.natAbs y.natAbs)
theorem a3p (a b:f6):m7 a b=(g7 (qn (f8 a) (f8 b)).1,f7 (qn (f8 a) (f8 b)).2):=by
 unfold m7 qn
 split
 ·rw [a2h];rfl
 ·rfl
def d42 (q:Int × Nat):O:=.num q.1 q.2
theorem d1b:j4 12 (sp2 fun a b=>.ret (.a (d42 (qn (f8 a) (f8 b))).g)):=l9 (fun fn h=>e36 h) [(24,_)] (.cons b6r .nil) fun U fn hfn ⟨(a,b),ha,hbl⟩ vs bs hv hb=>by
 have hr:=hfn 24 _ rfl
 have ha:a.length < 2160000:=ha
 have hbl:b.length < 2160000:=hbl
 have hv:j6 [.c (.s a),.c (.s b)] vs:=hv
 have hb:RBs [] bs:=hb
 show g8 U _ fun v bs'=>j7 (.ret (.a (d42 (qn (f8 a) (f8 b))).g)) v∧RBs [] bs'
 unfold r12
 (refine Zz ?_;intros)
 refine f9 hr ⟨(a,b),ha,hbl⟩ (r:=.t [.c (.s (g7 (qn (f8 a) (f8 b)).1)),.c (.s (f7 (qn (f8 a) (f8 b)).2))]) (by show o8.ret (.t [.c (.s (m7 a b).1),.c (.s (m7 a b).2)])=_;rw [a3p]) j3 .nil fun _ _ _ _=>?_
 (refine Zz ?_;intros)
 exact i7 ⟨.ret _ _ j3,.nil⟩
theorem b9j (n:Nat):(i6 n).length≤(f7 n).length:=by
 by_cases h:n=0
 ·subst h;rw [u7];simp
 ·rw [L2 n h];exact Nat.le_refl _
theorem c1f (n:Int):(i6 n.natAbs).length≤(g7 n).length:=by
 have:=b9j n.natAbs
 unfold g7
 split <;> simp <;> omega
inductive Raw where
 | mk (k n:Int) (s:f6) (l:List Raw)
namespace Raw
def k:Raw→Int
 | mk k _ _ _=>k
def n:Raw→Int
 | mk _ n _ _=>n
def s:Raw→f6
 | mk _ _ s _=>s
def l:Raw→List Raw
 | mk _ _ _ l=>l
mutual
def g:Raw→List G
 | mk k n s l=>[.i .i64 k,.i .i64 n,.s s,.l (gs l)]
def gs:List Raw→List (List G)
 | []=>[]
 | x :: xs=>x.g :: gs xs
end
theorem d61:∀ l:List Raw,gs l=l.map g
 | []=>rfl
 | x :: xs=>by rw [gs,d61 xs];rfl
theorem g_eq (r:Raw):r.g=[.i .i64 r.k,.i .i64 r.n,.s r.s,.l (r.l.map g)]:=by
 cases r with | mk k n s l=>rw [g,d61];rfl
theorem g_len (r:Raw):r.g.length=4:=by cases r;rfl
mutual
theorem g_inj:∀ {a b:Raw},a.g=b.g→a=b
 | mk k n s l,mk k' n' s' l',h=>by
  simp only [g,List.cons.injEq,G.i.injEq,G.s.injEq,G.l.injEq] at h
  obtain ⟨⟨_,h1⟩,⟨_,h2⟩,h3,h4,_⟩:=h
  rw [h1,h2,h3,d0y h4]
theorem d0y:∀ {a b:List Raw},gs a=gs b→a=b
 | [],[],_=>rfl
 | [],_ :: _,h=>by simp [gs] at h
 | _ :: _,[],h=>by simp [gs] at h
 | x :: xs,y :: ys,h=>by
  simp only [gs,List.cons.injEq] at h
  rw [g_inj h.1,d0y h.2]
end
mutual
def left:Raw→Int→Int
 | mk _ _ s l,m=>if 12 < s.length∨6 < l.length then -1 else d7a l (m - 1)
def d7a:List Raw→Int→Int
 | [],m=>m
 | x :: xs,m=>if 0≤m then d7a xs (x.left m) else m
end
def zero:Raw:=mk 0 0 [] []
def part (r:Raw) (i:Nat):Raw:=r.l.getD i zero
end Raw
def K9:f6:=n5 4 1919251317
def b02 (f:Nat→Q):Nat→Nat→Nat→j0 Q
 | 0,_,_=>.nil
 | d+1,a,b=>.node (f a) (b02 f d (a+b) (2 * b)) (b02 f d (a+2 * b) (2 * b))
theorem b3u (f:Nat→Q):∀ (d a b i:Nat),i+2≤2 ^ d→(b02 f d a b).get i=some (f (a+b * i))
 | 0,_,_,i,h=>by simp at h
 | d+1,a,b,0,h=>by rw [b02,j0.get_zero,Nat.mul_zero,Nat.add_zero]
 | d+1,a,b,j+1,h=>by
  rw [Nat.pow_succ] at h
  have hj:j / 2+2≤2 ^ d:=oM
  rw [b02,j0.get_succ]
  rcases Nat.mod_two_eq_zero_or_one j with h0 | h0
  ·obtain ⟨m,rfl⟩:∃ m,j=2 * m:=⟨j / 2,oM⟩
   rw [h0]
   show (b02 f d (a+b) (2 * b)).get (2 * m / 2)=_
   rw [b3u f d _ _ _ hj,show 2 * m / 2=m by omega]
   congr 2
   rw [Nat.mul_add,Nat.mul_one,← Nat.mul_assoc,Nat.mul_comm b 2]
   omega
  ·obtain ⟨m,rfl⟩:∃ m,j=2 * m+1:=⟨j / 2,oM⟩
   rw [h0]
   show (b02 f d (a+2 * b) (2 * b)).get ((2 * m+1) / 2)=_
   rw [b3u f d _ _ _ hj,show (2 * m+1) / 2=m by omega]
   congr 2
   rw [show 2 * m+1+1=2 * m+2 by omega,Nat.mul_add,← Nat.mul_assoc,Nat.mul_comm b 2]
   omega
def a3b (rows:List (List Q)):j0 Q:=b02 (fun i=>.agg (rows.getD i []) 0) 48 0 1
theorem c3v {rows:List (List Q)} {i:Nat} (h:i < 140737488355328):(a3b rows).get i=some (.agg (rows.getD i []) 0):=by
 unfold a3b
 rw [b3u _ 48 0 1 i oM,Nat.zero_add,Nat.one_mul]
theorem e1a {rows:List (List Q)} {i:Nat} (h:i < 140737488355328):tQ (a3b rows) i=.agg (rows.getD i []) 0:=by
 unfold tQ
 rw [c3v h]
mutual
/-- A tree's cells. -/
def qc:Raw→List Q
 | .mk k n s l=>[.int .i64 k,.int .i64 n,.str s.length (j9 s),.slice (a3b (qs l)) 4 0 l.length]
def qs:List Raw→List (List Q)
 | []=>[]
 | x :: xs=>qc x :: qs xs
end
theorem qs_eq:∀ l:List Raw,qs l=l.map qc
 | []=>rfl
 | x :: xs=>by rw [qs,qs_eq xs];rfl
theorem e3k (r:Raw):(qc r).length=4:=by cases r;rfl
mutual
/-- No list is longer than memory. -/
def wide:Raw→Prop
 | .mk _ _ _ l=>l.length < 140737488355328∧d8a l
def d8a:List Raw→Prop
 | []=>True
 | x :: xs=>wide x∧d8a xs
end
def dc (r:Raw):List D:=(qc r).map fun q=>den q 0
theorem b2y {cs:List Q}:∀ {n i:Nat},i+n=cs.length→n8 (den (.agg cs 0)) i n=(cs.drop i).map fun q=>den q 0
 | 0,i,h=>by rw [List.drop_of_length_le oM];rfl
 | n+1,i,h=>by
  have hi:i < cs.length:=oM
  rw [n8,b2y oM,List.drop_eq_getElem_cons hi,List.map_cons]
  congr 1
  simp only [den]
  rw [Nat.zero_add,b6a,List.getElem?_eq_getElem hi]
  rfl
theorem dc_eq (r:Raw):n8 (den (.agg (qc r) 0)) 0 4=dc r:=by
 rw [b2y (by rw [e3k])]
 rfl
variable {H:Type} {enc:TypeId × Value→H} {w:World} {sp:Nat→Bool} {held:Bool}
def a7t (w:World):k8:=fun b _=>b < w.heap.size
def okW (t:TypeId) (d:DataW H):Prop:=(d.weights Tryz.prog t).all (·≤reachBytes)=true
theorem d3t:Tryz.prog.cellsOf 3=1:=kR
theorem a4m:Tryz.prog.cellsOf 9=1:=kR
theorem d8l {a:Addr} {v:Value} (h:w.cell? a=some v):a.block < w.heap.size:=by
 unfold World.cell? at h
 cases e:w.heap[a.block]? with
 | none=>rw [e] at h;cases h
 | some o=>exact (Array.getElem?_eq_some_iff.1 e).1
theorem d0c {a:Addr} {v:Value} (h:w.cell? a=some v):a.spot=none:=by
 unfold World.cell? at h
 split at h
 ·split at h
  ·cases h
  ·rename_i hs
   cases e:a.spot with
   | none=>rfl
   | some x=>rw [e] at hs;exact absurd rfl hs
 ·cases h
theorem c0s {b o n:Nat}:(⟨b,o,none⟩:Addr).add n=⟨b,o+n,none⟩:=by
 unfold Addr.add
 split
 ·rename_i h;rw [h];rfl
 ·rfl
def J3 (w:World) (b:Nat):Nat→Nat→List Value
 | _,0=>[]
 | o,n+1=>(w.cell? ⟨b,o,none⟩).getD .nilIface :: J3 w b (o+1) n
theorem b30 {b:Nat}:∀ {n o i:Nat} {v:Value},(J3 w b o n)[i]?=some v→i < n∧v=(w.cell? ⟨b,o+i,none⟩).getD .nilIface
 | 0,o,i,v,h=>by simp [J3] at h
 | n+1,o,0,v,h=>by
  simp only [J3,List.getElem?_cons_zero,Option.some.injEq] at h
  exact ⟨oM,h.symm⟩
 | n+1,o,i+1,v,h=>by
  simp only [J3,List.getElem?_cons_succ] at h
  have:=b30 h
  exact ⟨oM,by rw [this.2];congr 3;omega⟩
theorem a7o {t:TypeId}:∀ {l:List (DataW H)},(DataW.weightsAll Tryz.prog t l).all (·≤reachBytes)=true→∀ d ∈ l,okW t d
 | [],_,d,hd=>absurd hd (by simp)
 | x :: l,h,d,hd=>by
  rw [DataW.weightsAll,List.all_append,Bool.and_eq_true] at h
  cases hd with
  | head=>exact h.1
  | tail _ hd=>exact a7o h.2 d hd
end
end Go.Proofs.YtgipbdffgfbedaaGreatDoor
namespace LQ
def B9:Nat:=1000000000
def k9 (n:Nat):List Nat:=if h:n=0 then [] else n % B9 :: k9 (n / B9)
termination_by n
decreasing_by exact Nat.div_lt_self (Nat.pos_of_ne_zero h) dE
def k7:List Nat→Nat
 | []=>0
 | d :: t=>d+B9 * k7 t
def LB (l:List Nat):Prop:=∀ d ∈ l,d < B9
theorem F7:k9 0=[]:=by rw [k9];simp
theorem X1 {n:Nat} (h:n ≠ 0):k9 n=n % B9 :: k9 (n / B9):=by rw [k9,dif_neg h]
theorem F8 (n:Nat):k7 (k9 n)=n:=by
 induction n using Nat.strongRecOn with
 | _ n ih =>
  by_cases h:n=0
  ·subst h;rw [F7];rfl
  ·rw [X1 h,k7,ih (n / B9) (Nat.div_lt_self (Nat.pos_of_ne_zero h) dE)]
   unfold B9;omega
theorem M3 (n:Nat):LB (k9 n):=by
 induction n using Nat.strongRecOn with
 | _ n ih =>
  by_cases h:n=0
  ·subst h;rw [F7];intro d hd;simp at hd
  ·rw [X1 h];intro d hd;simp at hd
   rcases hd with rfl | hd
   ·exact Nat.mod_lt _ dE
   ·exact ih (n / B9) (Nat.div_lt_self (Nat.pos_of_ne_zero h) dE) d hd
theorem c18 {d m:Nat} (hd:d < B9) (h:d ≠ 0∨m ≠ 0):k9 (d+B9 * m)=d :: k9 m:=by
 unfold B9 at hd
 rw [X1 (by unfold B9;omega)];congr 1
 ·unfold B9;omega
 ·congr 1;unfold B9;omega
theorem Q2 (a b:List Nat):k7 (a ++ b)=k7 a+B9 ^ a.length * k7 b:=by
 induction a with
 | nil=>simp [k7]
 | cons d t ih=>simp only [List.cons_append,k7,ih,List.length_cons,Nat.pow_succ];rw [Nat.mul_add,← Nat.mul_assoc,Nat.mul_comm (B9 ^ t.length) B9];omega
theorem d4t (t:List Nat) (d:Nat) (h9:LB (t ++ [d])) (hd:d ≠ 0):k9 (k7 (t ++ [d]))=t ++ [d]:=by
 induction t with
 | nil =>
  have:d < B9:=h9 d (by simp)
  simp only [List.nil_append,k7]
  rw [c18 this (.inl hd),F7]
 | cons x t ih =>
  simp only [List.cons_append,k7]
  rw [c18 (h9 x (by simp)),ih (fun y hy=>h9 y (by simp at hy ⊢;exact .inr hy))]
  refine .inr fun h0=>hd ?_
  have h2:=Q2 t [d]
  rw [h0] at h2
  simp only [k7] at h2
  have h3:0 < B9 ^ t.length:=Nat.pow_pos dE
  rw [Nat.mul_zero,Nat.add_zero] at h2
  have h4:B9 ^ t.length * d=0:=oM
  rcases Nat.mul_eq_zero.1 h4 with h | h <;> omega
theorem d28 (l:List Nat) (h9:LB l) (n:Nat) (hn:n≤l.length):l.take (R0 l n)=k9 (k7 (l.take n)):=by
 induction n with
 | zero=>simp [R0,k7,F7]
 | succ n ih =>
  have hlt:n < l.length:=oM
  have htk:l.take (n+1)=l.take n ++ [l.getD n 0]:=by
   rw [List.take_succ_eq_append_getElem hlt];simp [List.getD,hlt]
  simp only [R0]
  split
  ·rename_i h0
   rw [ih oM,htk,h0,Q2]
   simp [k7]
  ·rename_i h0
   rw [htk,d4t _ _ _ h0]
   intro d hd
   rw [← htk] at hd
   exact h9 d (List.mem_of_mem_take hd)
theorem a0r (l:List Nat) (h9:LB l):D6 l=k9 (k7 l):=by
 unfold D6;rw [d28 l h9 l.length (Nat.le_refl _),List.take_length]
theorem U5 (l:List Nat) (h9:LB l):k7 l < B9 ^ l.length:=by
 induction l with
 | nil=>simp [k7]
 | cons d t ih =>
  have h1:=ih (fun x hx=>h9 x (by simp [hx]))
  have h2:d < B9:=h9 d (by simp)
  simp only [k7,List.length_cons,Nat.pow_succ]
  unfold B9 at *
  omega
theorem c2a (n:Nat) (h:n ≠ 0):B9 ^ ((k9 n).length - 1)≤n:=by
 induction n using Nat.strongRecOn with
 | _ n ih =>
  rw [X1 h]
  simp only [List.length_cons,Nat.add_sub_cancel]
  by_cases h1:n / B9=0
  ·rw [h1,F7];simp;omega
  ·have:=ih (n / B9) (Nat.div_lt_self (Nat.pos_of_ne_zero h) dE) h1
   have h2:(k9 (n / B9)).length ≠ 0:=by rw [X1 h1];simp
   have h3:B9 ^ (k9 (n / B9)).length=B9 * B9 ^ ((k9 (n / B9)).length - 1):=by
    rw [← Nat.pow_succ'];congr 1;omega
   rw [h3]
   have h4:=Nat.mul_le_mul_left B9 this
   have h5:B9 * (n / B9)≤n:=Nat.mul_div_le n B9
   omega
theorem c2q (a b:List Nat) (ha:LB a) (hb:LB b) (n:Nat) (hna:n≤a.length) (hnb:n≤b.length) :
  E9 a b n=if k7 (a.take n) < k7 (b.take n) then -1 else if k7 (b.take n) < k7 (a.take n) then 1 else 0:=by
 induction n with
 | zero=>simp [E9,k7]
 | succ n ih =>
  have hla:n < a.length:=oM
  have hlb:n < b.length:=oM
  have e1:a.take (n+1)=a.take n ++ [a.getD n 0]:=by rw [List.take_succ_eq_append_getElem hla];simp [List.getD,hla]
  have e2:b.take (n+1)=b.take n ++ [b.getD n 0]:=by rw [List.take_succ_eq_append_getElem hlb];simp [List.getD,hlb]
  have v1:=Q2 (a.take n) [a.getD n 0]
  have v2:=Q2 (b.take n) [b.getD n 0]
  have l1:(a.take n).length=n:=by simp;omega
  have l2:(b.take n).length=n:=by simp;omega
  have b1:=U5 (a.take n) (fun d hd=>ha d (List.mem_of_mem_take hd))
  have b2:=U5 (b.take n) (fun d hd=>hb d (List.mem_of_mem_take hd))
  rw [l1] at v1 b1
  rw [l2] at v2 b2
  simp only [k7,Nat.mul_zero,Nat.add_zero] at v1 v2
  rw [e1,e2,v1,v2]
  simp only [E9]
  rw [ih oM oM]
  generalize a.getD n 0=x at *
  generalize b.getD n 0=y at *
  generalize k7 (a.take n)=p at *
  generalize k7 (b.take n)=q at *
  generalize B9 ^ n=P at *
  by_cases h1:x < y
  ·have:P * (x+1)≤P * y:=Nat.mul_le_mul_left P h1
   rw [Nat.mul_add,Nat.mul_one] at this
   rw [if_pos h1,if_pos oM]
  ·rw [if_neg h1]
   by_cases h2:y < x
   ·have:P * (y+1)≤P * x:=Nat.mul_le_mul_left P h2
    rw [Nat.mul_add,Nat.mul_one] at this
    rw [if_pos h2,if_neg oM,if_pos oM]
   ·rw [if_neg h2]
    have h3:x=y:=oM
    subst h3
    simp only [Nat.add_lt_add_iff_right]
theorem c2r (x y:Nat):O9 (k9 x) (k9 y)=if x < y then -1 else if y < x then 1 else 0:=by
 unfold O9
 split
 ·rename_i h
  rw [c2q _ _ (M3 x) (M3 y) _ (Nat.le_refl _) oM,List.take_length,h,List.take_length,F8,F8]
 ·rename_i h
  have b1:=U5 (k9 x) (M3 x)
  have b2:=U5 (k9 y) (M3 y)
  rw [F8] at b1 b2
  split
  ·rename_i h2
   have hy:y ≠ 0:=by intro e;rw [e,F7] at h2;simp at h2
   have g2:=c2a y hy
   have:B9 ^ (k9 x).length≤B9 ^ ((k9 y).length - 1):=Nat.pow_le_pow_right dE oM
   rw [if_pos oM]
  ·rename_i h2
   have hx:x ≠ 0:=by intro e;rw [e,F7] at h h2;simp only [List.length_nil] at h h2;omega
   have g1:=c2a x hx
   have:B9 ^ (k9 y).length≤B9 ^ ((k9 x).length - 1):=Nat.pow_le_pow_right dE oM
   rw [if_neg oM,if_pos oM]
theorem b6z {a b:Nat} (h:k9 a=k9 b):a=b:=by rw [← F8 a,h,F8]
theorem a68 {n k:Nat} (h:n < B9 ^ k):(k9 n).length≤k:=by
 by_cases h0:n=0
 ·subst h0;simp [F7]
 ·have h1:=c2a n h0
  by_cases h2:(k9 n).length≤k
  ·exact h2
  ·have:B9 ^ k≤B9 ^ ((k9 n).length - 1):=Nat.pow_le_pow_right dE oM
   omega
theorem d4u (x r:Nat) (hx:x < B9):D6 (x :: k9 r)=k9 (x+B9 * r):=by
 rw [a0r]
 ·simp only [k7,F8]
 ·intro d hd
  rcases List.mem_cons.1 hd with rfl | hd
  ·exact hx
  ·exact M3 r d hd
theorem d1h (l:List Nat) (i:Nat) (h:i < l.length):k7 (l.drop i)=l.getD i 0+B9 * k7 (l.drop (i+1)):=by
 rw [List.drop_eq_getElem_cons h];simp [k7,List.getD,h]
theorem b60 (l:List Nat) (i:Nat) (h:i < l.length):k7 (l.take (i+1))=k7 (l.take i)+B9 ^ i * l.getD i 0:=by
 have e:l.take (i+1)=l.take i ++ [l.getD i 0]:=by rw [List.take_succ_eq_append_getElem h];simp [List.getD,h]
 rw [e,Q2]
 have:(l.take i).length=i:=by simp;omega
 rw [this];simp [k7]
theorem c2b (l:List Nat) (i x:Nat) (h:i < l.length):k7 (l.set i x)+B9 ^ i * l.getD i 0=k7 l+B9 ^ i * x:=by
 induction l generalizing i with
 | nil=>simp at h
 | cons d t ih =>
  cases i with
  | zero=>simp [k7,List.getD];omega
  | succ i =>
   have:=ih i (by simpa using h)
   simp only [List.set_cons_succ,k7,Nat.pow_succ,List.getD_cons_succ]
   have e1:B9 ^ i * B9 * t.getD i 0=B9 * (B9 ^ i * t.getD i 0):=by rw [Nat.mul_comm (B9 ^ i) B9,Nat.mul_assoc]
   have e2:B9 ^ i * B9 * x=B9 * (B9 ^ i * x):=by rw [Nat.mul_comm (B9 ^ i) B9,Nat.mul_assoc]
   rw [e1,e2]
   have e3:B9 * (k7 (t.set i x)+B9 ^ i * t.getD i 0)=B9 * (k7 t+B9 ^ i * x):=by rw [this]
   rw [Nat.mul_add,Nat.mul_add] at e3
   omega
theorem a2m {l:List Nat} (h:LB l) (i x:Nat) (hx:x < B9):LB (l.set i x):=fun d hd=>by
 rcases List.mem_or_eq_of_mem_set hd with h1 | rfl
 ·exact h d h1
 ·exact hx
theorem a35 {l:List Nat} (h:LB l) (i:Nat):l.getD i 0 < B9:=by
 by_cases hi:i < l.length
 ·simp only [List.getD,List.getElem?_eq_getElem hi,Option.getD_some];exact h _ (List.getElem_mem hi)
 ·simp only [List.getD,List.getElem?_eq_none (Nat.le_of_not_lt hi),Option.getD_none];decide
theorem c8g (n:Nat):k7 (List.replicate n 0)=0:=by
 induction n with
 | zero=>rfl
 | succ n ih=>simp [List.replicate_succ,k7,ih]
def A5 (s:f6):Nat:=u2 s 0 0
theorem c4s (a b:f6) (k acc:Nat) (hk:k≤a.length):u2 (a ++ b) k acc=u2 b 0 (u2 a k acc):=by
 fun_induction u2 a k acc with
 | case1 k acc h ih =>
  rw [u2,if_pos (by simp;omega),← ih oM]
  congr 2
  have:bt (a ++ b) k=bt a k:=by unfold bt;simp [List.getD,List.getElem?_append_left h]
  rw [this]
 | case2 k acc h =>
  have hk':k=a.length:=oM
  subst hk'
  clear h hk
  have:∀ (j acc:Nat),u2 (a ++ b) (a.length+j) acc=u2 b j acc:=by
   intro j acc
   fun_induction u2 b j acc with
   | case1 j acc h ih =>
    rw [u2,if_pos (by simp;omega),← ih,Nat.add_assoc]
    congr 2
    have:bt (a ++ b) (a.length+j)=bt b j:=by unfold bt;simp only [List.getD];rw [List.getElem?_append_right (Nat.le_add_right _ _),Nat.add_sub_cancel_left]
    rw [this]
   | case2 j acc h=>rw [u2,if_neg (by simp;omega)]
  exact this 0 acc
theorem b8i (a b:f6):A5 (a ++ b)=A5 a * 10 ^ b.length+A5 b:=by
 unfold A5
 rw [c4s a b 0 0 (Nat.zero_le _),c4r b 0 _ (Nat.zero_le _)];simp
theorem b4x (c:UInt8) (s:f6):A5 (c :: s)=(bt [c] 0 - 48).toNat * 10 ^ s.length+A5 s:=by
 rw [show c :: s=[c] ++ s from rfl,b8i]
 congr 2
 unfold A5
 rw [u2,if_pos (by simp),u2,if_neg (by simp)];omega
theorem c2f (s:f6) (h:∀ j,j < s.length→48≤bt s j∧bt s j≤57):A5 s < 10 ^ s.length:=by
 induction s with
 | nil=>unfold A5;rw [u2,if_neg (by simp)];simp
 | cons c s ih =>
  rw [b4x,List.length_cons,Nat.pow_succ]
  have h0:=h 0 (by simp)
  have e:bt [c] 0=bt (c :: s) 0:=rfl
  have:=ih fun j hj=>by have:=h (j+1) (by simpa using hj);rwa [W7] at this
  have h1:(bt [c] 0 - 48).toNat≤9:=by rw [e];omega
  have:=Nat.mul_le_mul_right (10 ^ s.length) h1
  omega
theorem d3w (s:f6) (e k:Nat) (hk:k≤s.length) (h:∀ j,e≤j→j < k→48≤bt s j∧bt s j≤57) :
  (t8 s e k []).reverse.map (fun d=>UInt8.ofNat (48+d))=(s.take k).drop e:=by
 induction k with
 | zero=>simp [t8]
 | succ k ih =>
  by_cases he:e≤k
  ·rw [a4q s e k he,List.reverse_cons,List.map_append,ih oM (fun j h1 h2=>h j h1 oM)]
   have hlt:k < s.length:=oM
   rw [List.take_succ_eq_append_getElem hlt,List.drop_append_of_le_length (by simp;omega)]
   congr 1
   have:=h k he oM
   have hb:bt s k=(s[k].toNat:Int):=by unfold bt;simp [List.getD,List.getElem?_eq_getElem hlt]
   rw [hb] at this ⊢
   simp only [List.map_cons,List.map_nil,List.cons.injEq,and_true]
   apply UInt8.toNat_inj.1
   rw [UInt8.toNat_ofNat']
   have:=s[k].toNat_lt
   omega
  ·rw [t8,if_neg he,List.drop_eq_nil_of_le (by simp;omega)];rfl
theorem d0m {s:f6} (h1:x8 s=true) (h2:s ≠ w9):g9 s < s.length∧bt s (g9 s) ≠ 48∧(∀ j,g9 s≤j→j < s.length→48≤bt s j∧bt s j≤57) ∧
  t8 s (g9 s) s.length []=i6 (f8 s).natAbs∧(f8 s).natAbs ≠ 0∧(g9 s=1↔f8 s < 0):=by
 have h3:g9 s < s.length∧bt s (g9 s) ≠ 48∧j8 s (g9 s)=s.length:=by
  simp [x8,h2] at h1;exact ⟨h1.1.1,h1.1.2,h1.2⟩
 have hall:∀ j,g9 s≤j→j < s.length→48≤bt s j∧bt s j≤57:=fun j a b=>W9 s (g9 s) j a oM
 have e:=b1c s
 unfold Y3 at e
 rw [if_pos ⟨h1,h2⟩] at e
 injection e with e1 e2
 obtain ⟨t,ht⟩:=c1d s (g9 s) s.length h3.1
 refine ⟨h3.1,h3.2.1,hall,e2,fun h0=>?_,by simpa using e1⟩
 rw [h0,u7,ht] at e2
 simp at e2
theorem d2o {s:f6} (h:g9 s=1):s=45 :: s.drop 1:=by
 unfold g9 at h
 split at h
 ·rename_i hh
  cases s with
  | nil=>simp at hh
  | cons c s =>
   have:(c.toNat:Int)=45:=hh.2
   simp only [List.drop_succ_cons,List.drop_zero,List.cons.injEq,and_true]
   exact UInt8.toNat_inj.1 (by show c.toNat=45;omega)
 ·omega
theorem d51 {s:f6} (h:x8 s=true):g7 (f8 s)=s:=by
 by_cases h2:s=w9
 ·subst h2;rw [a6a];decide
 ·obtain ⟨q1,q2,q3,q4,q5,q6⟩:=d0m h h2
  have ht:=d3w s (g9 s) s.length (Nat.le_refl _) q3
  rw [q4,List.take_length] at ht
  have e:f7 (f8 s).natAbs=s.drop (g9 s):=by unfold f7;rw [if_neg q5];exact ht
  unfold g7
  rw [e]
  by_cases hs:g9 s=1
  ·rw [if_pos (q6.1 hs),hs];exact (d2o hs).symm
  ·rw [if_neg (fun k=>hs (q6.2 k))]
   have:g9 s=0:=by have:=N2 s;omega
   rw [this];rfl
theorem T7 (n:Nat):x8 (f7 n)=true:=by
 by_cases h:n=0
 ·subst h;decide
 ·obtain ⟨h1,h2,h3⟩:=Y9 n h
  have hsg0:g9 (f7 n)=0:=by unfold g9;rw [if_neg];have:=h1 0 (Nat.le_refl _) h3;omega
  unfold x8
  rw [hsg0,P9 _ 0 (Nat.zero_le _) h1]
  simp [h2];right;omega
theorem a88 (n:Int):x8 (g7 n)=true:=by
 unfold g7
 split
 ·rename_i h
  have hn:n.natAbs ≠ 0:=oM
  obtain ⟨h1,h2,h3⟩:=Y9 n.natAbs hn
  show x8 (45 :: f7 n.natAbs)=true
  have hsg:g9 (45 :: f7 n.natAbs)=1:=by unfold g9;rw [if_pos];exact ⟨by simp,rfl⟩
  unfold x8
  rw [hsg,show (1:Nat)=0+1 from rfl,b13,W7,P9 _ 0 (Nat.zero_le _) h1]
  simp [h2];right;omega
 ·exact T7 _
def J8 (s:f6):f6:=if x8 s then s else w9
theorem a0l (s:f6):J8 s=g7 (f8 s):=by
 unfold J8
 split
 ·rename_i h;exact (d51 h).symm
 ·rename_i h
  have:f8 s=0:=by unfold f8;rw [if_neg h]
  rw [this];decide
theorem a2f (n:Nat):g7 (n:Int)=f7 n:=by unfold g7;rw [if_neg oM];rfl
def d41 (s:f6):f6:=g7 (-f8 s)
theorem a6j (a b:Int) (hb:0 < b):m7 (g7 a) (g7 b)=(g7 (a / (Nat.gcd a.natAbs b.natAbs:Int)),g7 (b / (Nat.gcd a.natAbs b.natAbs:Int))):=by
 unfold m7
 rw [x7,x7,if_neg oM]
 simp only []
 have hg:0 < Nat.gcd a.natAbs b.natAbs:=Nat.gcd_pos_of_pos_right _ oM
 have hd1:=Nat.gcd_dvd_left a.natAbs b.natAbs
 have hd2:=Nat.gcd_dvd_right a.natAbs b.natAbs
 generalize Nat.gcd a.natAbs b.natAbs=g at *
 have e2:b / (g:Int)=((b.natAbs / g:Nat):Int):=by
  conv=>lhs;rw [show b=(b.natAbs:Int) by omega]
  rfl
 have e1:a / (g:Int)=(if (a < 0)=(b < 0) then 1 else -1) * ((a.natAbs / g:Nat):Int):=by
  obtain ⟨k,hk⟩:=hd1
  rw [hk,Nat.mul_div_cancel_left _ hg]
  by_cases h:a < 0
  ·rw [if_neg (by simp [h];omega)]
   have:a=(g:Int) * (-(k:Int)):=by
    have:((a.natAbs:Nat):Int)=(g:Int) * (k:Int):=by rw [hk];simp
    rw [Int.mul_neg];omega
   rw [this,Int.mul_ediv_cancel_left _ oM];omega
  ·rw [if_pos (by simp [h];omega)]
   have:a=(g:Int) * (k:Int):=by
    have:((a.natAbs:Nat):Int)=(g:Int) * (k:Int):=by rw [hk];simp
    omega
   rw [this,Int.mul_ediv_cancel_left _ oM];omega
 rw [e1,e2,a2f]
end LQ
namespace Go.Proofs.YtgipbdffgfbedaaGreatDoor
open Go.Abs LQ Go.RowKit
set_option maxRecDepth 100000
set_option maxHeartbeats 4000000
noncomputable section
theorem K7 {P:Program} {G:a9k} {f:FuncId} {ds:List D} {d:D} (hcall:∀ args w,(callFunc f args).run P w=.ok (.enter f args) w)
  (h:∀ (w:World) (S:k8) (M:Mp) (vs:List Value),G.pred w→S.within w→p9 S M w vs ds→Calls P f vs.toArray w fun e w'=>Below w.heap.size w w'∧∃ v S',e=.returned v∧S.grown S' w∧S'.within w'∧Rd S' M w' v d∧a2y S' w w' v d):CM P G f ds [] (.ret d) []:=by
 refine ⟨hcall,fun w S M vs hg hM hwi hh hvs=>(h w S M vs hg hwi hvs).mono fun e w' ⟨hb,v,S',he,h1,h2,h3,h4⟩=>?_⟩
 exact ⟨⟨hb.os,hb.tape,hb.output,hb.size,fun k hk _=>hb.block k hk⟩,S',h1,h2,⟨fun id b h=>by simp at h,fun id hid=>hh.out id (by simp),fun i j x y b k l h=>by simp at h⟩,v,he,h3,h4⟩
theorem S3 {S:k8} {w w':World} (h:S.within w) (hb:Below w.heap.size w w'):S.within w':=fun b o hS=>Nat.lt_of_lt_of_le (h b o hS) hb.size
theorem Q0 {S:k8} {w0 w:World} {v:Value} {d:D} (h:∀ l c z,d ≠ .slice l c (.fr z)) (h2:∀ ds,d ≠ .tuple ds):a2y S w0 w v d:=⟨fun l c z e=>absurd e (h l c z),fun _ ds _ e=>absurd e (h2 ds)⟩
theorem d2u {s:ByteArray} {l:List UInt8} (h:s.data.toList=l):s=⟨l.toArray⟩:=by subst h;rfl
theorem c0l {s:f6} {v:V} (h:RV (.c (.s s)) v):toD v=.str s:=by
 cases h with
 | s _ l c h1 h2=>subst h1 h2;simp only [toD,z7]
 | q _ x h=>cases h with | s _ l c h1 h2=>subst h1 h2;simp [toD,den,Z1,z7]
theorem c9u {k:IntKind} {n:Int} {v:V} (h:RV (.c (.i k n)) v):toD v=.int k n:=by
 cases h with
 | i=>rfl
 | q _ x h=>cases h;rfl
theorem c3s {s t:f6} {vs:List V} (h:j6 [.c (.s s),.c (.s t)] vs):vs.map toD=[.str s,.str t]:=by
 cases h with | cons _ _ v _ h1 h=>cases h with | cons _ _ v' _ h2 h=>cases h;simp [c0l h1,c0l h2]
theorem c3r {s:f6} {k:IntKind} {n:Int} {vs:List V} (h:j6 [.c (.s s),.c (.i k n)] vs):vs.map toD=[.str s,.int k n]:=by
 cases h with | cons _ _ v _ h1 h=>cases h with | cons _ _ v' _ h2 h=>cases h;simp [c0l h1,c9u h2]
theorem c2x {S:k8} {M:Mp} {w:World} {v:Value} {s:f6} (h:Rd S M w v (.str s)):v=.string ⟨s.toArray⟩:=by
 cases h with | str b _ hb=>rw [d2u hb]
theorem e6e {S:k8} {M:Mp} {w:World} {v:Value} {k:IntKind} {n:Int} (h:Rd S M w v (.int k n)):v=.int k n:=by cases h;rfl
theorem c20 {S:k8} {M:Mp} {w:World} {vs:List Value} {s t:f6} (h:p9 S M w vs [.str s,.str t]):vs=[.string ⟨s.toArray⟩,.string ⟨t.toArray⟩]:=by
 cases h with | cons _ _ _ _ h1 h=>cases h with | cons _ _ _ _ h2 h=>cases h;rw [c2x h1,c2x h2]
theorem c2z {S:k8} {M:Mp} {w:World} {vs:List Value} {s:f6} {k:IntKind} {n:Int} (h:p9 S M w vs [.str s,.int k n]):vs=[.string ⟨s.toArray⟩,.int k n]:=by
 cases h with | cons _ _ _ _ h1 h=>cases h with | cons _ _ _ _ h2 h=>cases h;rw [c2x h1,e6e h2]
def d54 (k:IntKind) (ok:f6→Int→Prop) (g:f6→Int→GV):Sp where
 ι:={ p:f6 × Int // ok p.1 p.2 }
 A p:=[.c (.s p.1.1),.c (.i k p.1.2)]
 B _:=[]
 R p:=.ret (g p.1.1 p.1.2)
 B' _:=[]
 inj i j vs bs h k _ _:=by
  obtain ⟨_,_,h1,k1,h,k⟩:=h.two k
  obtain ⟨_,_,h2,k2,h,k⟩:=h.two k
  rw [F5 h1 k1,Z7 h2 k2];exact ⟨rfl,rfl⟩
def b0w (ok:f6→f6→Prop) (g:f6→f6→GV):Sp where
 ι:={ p:f6 × f6 // ok p.1 p.2 }
 A p:=[.c (.s p.1.1),.c (.s p.1.2)]
 B _:=[]
 R p:=.ret (g p.1.1 p.1.2)
 B' _:=[]
 inj i j vs bs h k _ _:=by
  obtain ⟨_,_,h1,k1,h,k⟩:=h.two k
  obtain ⟨_,_,h2,k2,h,k⟩:=h.two k
  rw [F5 h1 k1,F5 h2 k2];exact ⟨rfl,rfl⟩
theorem b8d:j4 132 (d54 .i32 (fun _ r=>0≤r∧r < 128) fun s r=>.c (.b (decide (0≤Lib.indexByte s r.toNat.toUInt8)))):=fun ⟨(s,r),h0,h1⟩ vs bs hv hb=>by
 change j6 [.c (.s s),.c (.i .i32 r)] vs at hv
 cases hb
 refine ⟨.ret (.bool (decide (0≤Lib.indexByte s r.toNat.toUInt8))),[],fun hok=>?_,.ret _ _ (.b _),.nil⟩
 rw [c3r hv]
 refine K7 (d:=.bool (decide (0≤Lib.indexByte s r.toNat.toUInt8))) Tryz.call132 fun w S M us hg hwi hr=>?_
 rw [c2z hr]
 refine (Any.strings_ContainsRune_ascii Tryz.lays151 ⟨s.toArray⟩ r w h0 h1).mono ?_
 rintro e w' ⟨rfl,rfl⟩
 exact ⟨Below.refl _ _,_,S,rfl,⟨fun _ _ h=>h,fun _ _ h=>.inl h⟩,hwi,.bool _,Q0 (fun _ _ _ h=>by cases h) (fun _ h=>by cases h)⟩
theorem c78:j4 133 (d54 .u8 (fun _ r=>0≤r∧r < 256) fun s r=>.c (.i .i64 (Lib.indexByte s r.toNat.toUInt8))):=fun ⟨(s,r),h0,h1⟩ vs bs hv hb=>by
 change j6 [.c (.s s),.c (.i .u8 r)] vs at hv
 cases hb
 refine ⟨.ret (.int .i64 (Lib.indexByte s r.toNat.toUInt8)),[],fun hok=>?_,.ret _ _ (.i _ _),.nil⟩
 rw [c3r hv]
 refine K7 (d:=.int .i64 (Lib.indexByte s r.toNat.toUInt8)) Tryz.call133 fun w S M us hg hwi hr=>?_
 rw [c2z hr]
 refine (Any.strings_IndexByte Tryz.lays137 ⟨s.toArray⟩ r w).mono ?_
 rintro e w' ⟨rfl,rfl⟩
 exact ⟨Below.refl _ _,_,S,rfl,⟨fun _ _ h=>h,fun _ _ h=>.inl h⟩,hwi,.int _ _,Q0 (fun _ _ _ h=>by cases h) (fun _ h=>by cases h)⟩
theorem d85:j4 99 (b0w (fun _ t=>∃ c,t=[c]) fun s t=>.c (.i .i64 (Lib.indexByte s (t.headD 0)))):=fun ⟨(s,t),c,hc⟩ vs bs hv hb=>by
 change j6 [.c (.s s),.c (.s t)] vs at hv
 cases hb
 have hc:t=[c]:=hc
 subst hc
 refine ⟨.ret (.int .i64 (Lib.indexByte s c)),[],fun hok=>?_,.ret _ _ (.i _ _),.nil⟩
 rw [c3s hv]
 refine K7 (d:=.int .i64 (Lib.indexByte s c)) Tryz.call99 fun w S M us hg hwi hr=>?_
 rw [c20 hr]
 refine (Any.stringslite_Index_one Tryz.lays219 ⟨s.toArray⟩ c w).mono ?_
 rintro e w' ⟨rfl,rfl⟩
 exact ⟨Below.refl _ _,_,S,rfl,⟨fun _ _ h=>h,fun _ _ h=>.inl h⟩,hwi,.int _ _,Q0 (fun _ _ _ h=>by cases h) (fun _ h=>by cases h)⟩
def d1r (s t:f6):Prop:=s.length < 4294967281∧t.length < 4294967281∧∀ b ∈ t,b.toNat < 128
theorem d1c:j4 138 (b0w d1r fun s t=>.c (.s (Lib.trimS s t))):=fun ⟨(s,t),h0,h1,h2⟩ vs bs hv hb=>by
 change j6 [.c (.s s),.c (.s t)] vs at hv
 cases hb
 refine ⟨.ret (.str (Lib.trimS s t).length (j9 (Lib.trimS s t))),[],fun hok=>?_,.ret _ _ (.s _ _ _ rfl rfl),.nil⟩
 rw [c3s hv]
 show CM X0.P X0.G _ _ [] (.ret (.str (n5 _ (j9 _)))) []
 rw [z7]
 refine K7 Tryz.call138 fun w S M us hg hwi hr=>?_
 rw [c20 hr]
 refine (Any.strings_Trim_laid Tryz.lays160 kR ⟨s.toArray⟩ ⟨t.toArray⟩ w (by have h0:s.length < 4294967281:=h0;simp [ByteArray.size];omega) (by have h1:t.length < 4294967281:=h1;simp [ByteArray.size];omega) (fun j b hb=>h2 b (List.mem_of_getElem? hb))).mono ?_
 rintro e w' ⟨rfl,hb⟩
 exact ⟨hb,_,S,rfl,⟨fun _ _ h=>h,fun _ _ h=>.inl h⟩,S3 hwi hb,.str _ _ rfl,Q0 (fun _ _ _ h=>by cases h) (fun _ h=>by cases h)⟩
theorem c8d:j4 154 (b0w d1r fun s t=>.c (.s (Lib.trimLeftS s t))):=fun ⟨(s,t),h0,h1,h2⟩ vs bs hv hb=>by
 change j6 [.c (.s s),.c (.s t)] vs at hv
 cases hb
 refine ⟨.ret (.str (Lib.trimLeftS s t).length (j9 (Lib.trimLeftS s t))),[],fun hok=>?_,.ret _ _ (.s _ _ _ rfl rfl),.nil⟩
 rw [c3s hv]
 show CM X0.P X0.G _ _ [] (.ret (.str (n5 _ (j9 _)))) []
 rw [z7]
 refine K7 Tryz.call154 fun w S M us hg hwi hr=>?_
 rw [c20 hr]
 refine (Any.strings_TrimLeft_laid Tryz.lays161 kR ⟨s.toArray⟩ ⟨t.toArray⟩ w (by have h1:t.length < 4294967281:=h1;simp [ByteArray.size];omega) (fun j b hb=>h2 b (List.mem_of_getElem? hb))).mono ?_
 rintro e w' ⟨rfl,hb⟩
 exact ⟨hb,_,S,rfl,⟨fun _ _ h=>h,fun _ _ h=>.inl h⟩,S3 hwi hb,.str _ _ rfl,Q0 (fun _ _ _ h=>by cases h) (fun _ h=>by cases h)⟩
end
end Go.Proofs.YtgipbdffgfbedaaGreatDoor
