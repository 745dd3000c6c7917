/- The reference's objects: which are formed, which are valid; lists; numbers. -/
import Derived.Test.YtffaodopiifbkaaGreatDoorKR5c
set_option linter.all false
namespace Go.Proofs.YtffaodopiifbkaaGreatDoor
open Go.Abs LQ
set_option maxRecDepth 100000
set_option maxHeartbeats 4000000
noncomputable section
section
variable {U:q8} {P:H6→List Bx→Prop}
theorem e5n {a b:Int} {x y:Om} (h:a=b) (k:g8 U x P):g8 U (U.cnd (U.iEq a b) x y) P:=b31 a5c (fun _=>k) (fun n=>absurd h n)
theorem e46 {a b:Int} {x y:Om} (h:¬a=b) (k:g8 U y P):g8 U (U.cnd (U.iEq a b) x y) P:=b31 a5c (fun n=>absurd n h) (fun _=>k)
theorem f0w {s:List UInt8} {l c:Nat} {x y:Om} (h:s=k7 l c) (k:g8 U x P):g8 U (U.cnd (U.sEq s.length (j9 s) l c) x y) P:=b31 a6x (fun _=>k) (fun n=>absurd h n)
theorem d22 {s:List UInt8} {l c:Nat} {b:Bool} {x y:Om} (h:s=k7 l c) (k:g8 U (U.cnd b x y) P):g8 U (U.cnd (U.band (U.sEq s.length (j9 s) l c) b) x y) P:=fun e=>by
 have:=k e
 have e1:U.sEq s.length (j9 s) l c=true:=by subst e;rw [b0j];exact decide_eq_true h
 rw [e1]
 subst e
 exact this
end
theorem Zz {p q:Prop} (k:q) (h:Tr p q:=by ((repeat' (first | (with_reducible apply Tr.all) | (with_reducible intro _) | (apply Tr.b;(case f=>first | exact e5n dE | exact e46 dE | exact f0w (by rfl) | exact d22 (by rfl) | exact sCndBandT | exact b6k | exact W2 aS | exact c2d | exact b48 aS | exact b4m | exact a7t aS | exact a9z | exact b2g aS | exact sP | exact sPR aS | exact sIV | exact sI aS | exact sBV | exact sBK | exact sB aS | exact sSV | exact sS aS | exact sA | exact N2 aS (by rfl) | exact b71 (by rfl) | exact c4g (by rfl) | exact c1a aS (by rfl) | exact c26 aS (by rfl) | exact c91 aS | exact sSl aS | exact sTu aS | exact sBo | exact a97 aS (by rfl) | exact sBc | exact c82 aS | exact sBt | exact sBs | exact sBr | exact a7o aS | exact b5g aS | exact b4k aS (by rfl) | exact c83 aS (by rfl) | exact sCI' aS (by rfl) | exact sCB' aS (by rfl) | exact sCS aS | exact sCI aS | exact sCB aS | exact b5v (by first | omega | (simp only [List.length_map] at *;omega)) | exact b6w (by first | omega | (simp only [List.length_map] at *;omega)) | exact c0v | exact b18 | exact b1s | exact c0r | exact b47 | exact b5c | exact sfSubN | exact b10 | exact sfBSelE | exact sfB | exact sJn | exact c09 | exact c04 | exact c01 | exact C0 aS (by (first | exact u2 O.g_len | exact u2 (fun _=>rfl))) | exact b0x aS (by (first | exact u2 O.g_len | exact u2 (fun _=>rfl))) | exact c02 (by first | omega | (simp only [List.length_map] at *;omega)) | exact b4n (by first | omega | (simp only [List.length_map] at *;omega)) | exact d0r aS (by first | assumption | omega | (simp only [List.length_map] at *;omega)) | exact sfT aS (by rfl))) | (apply Tr.chk;(case ht=>(repeat' (first | exact trT | exact trF | apply a3l | apply a4b | exact a33 | exact a3o | exact a3e | exact a49 | exact a5c | exact a06 | exact a07 | exact a08 | exact a03 | exact Z7 | exact a4c | exact a8k | exact a6x | exact trS | exact trV)));(case hp=>first | omega | (simp only [List.length_map] at *;omega))) | (apply Tr.cnd;(case ht=>(repeat' (first | exact trT | exact trF | apply a3l | apply a4b | exact a33 | exact a3o | exact a3e | exact a49 | exact a5c | exact a06 | exact a07 | exact a08 | exact a03 | exact Z7 | exact a4c | exact a8k | exact a6x | exact trS | exact trV))))));all_goals exact Tr.refl)):p:=h.go k
def O.sm:O→Prop
 | .num n d=>(f8 n).length < 9000∧(f7 d).length < 9000
 | .sy s=>s.1.length < 9000∧s.2.length < 9000
 | .tx s=>s.length < 9000
 | .co a d=>a.sm∧d.sm
 | .no=>True
def O.fm:O→Bool
 | .num n d=>decide (n9 (f8 n) (f7 d)=(f8 n,f7 d)∧A5 (f8 n)≤100∧A5 (f7 d)≤100)
 | .sy s=>named s
 | .tx s=>decide (s.length≤200)
 | .co a d=>a.fm && d.fm
 | .no=>false
def d0y (g:O→GV):Sp where
 ι:={ o:O // o.sm }
 A o:=[.a o.1.g]
 B _:=[]
 R o:=.ret (g o.1)
 B' _:=[]
 inj i j vs bs h k _ _:=by rw [b4y h k];exact ⟨rfl,rfl⟩
theorem e5o:j5 117 (d0y fun a=>.c (.b a.fm)):=Q0 (fun p=>p.1.size) fun n ih=>k8 (fun fn h=>e4k h) [(117,(d0y fun a=>.c (.b a.fm)).lt _ n),(85,_),(103,_),(108,_)] (.cons ih (.cons c6l (.cons d6y (.cons c7v .nil)))) fun U fn hfn ⟨⟨a,hsm⟩,hn⟩ vs bs hv hb=>by
 have hr:=hfn 117 _ rfl
 have hred:=hfn 85 _ rfl
 have hdg:=hfn 103 _ rfl
 have hnm:=hfn 108 _ rfl
 have hv:j6 [.a a.g] vs:=hv
 have hb:g9 [] bs:=hb
 have hn:a.size < n+1:=hn
 show g8 U _ fun v bs'=>j7 (.ret (.c (.b a.fm))) v∧g9 [] bs'
 unfold d62
 rw [a.g_eq] at hv
 cases a with
 | num m d =>
  simp only [O.k,O.nu,O.de,O.sym,O.txt,O.ps] at hv
  have hs1:(f8 m).length < 9000:=hsm.1
  have hs2:(f7 d).length < 9000:=hsm.2
  (refine Zz ?_;intros)
  refine f5 hred ⟨(f8 m,f7 d),hs1,hs2⟩ (r:=.t [.c (.s (n9 (f8 m) (f7 d)).1),.c (.s (n9 (f8 m) (f7 d)).2)]) rfl j4 .nil fun _ _ _ _=>?_
  have hfm:(O.num m d).fm=decide (n9 (f8 m) (f7 d)=(f8 m,f7 d)∧A5 (f8 m)≤100∧A5 (f7 d)≤100):=rfl
  rw [hfm]
  generalize n9 (f8 m) (f7 d)=q at *
  obtain ⟨q1,q2⟩:=q
  simp only at *
  (refine Zz ?_;with_reducible repeat' first|intro _|apply aI)
  ·have e1:=‹q1=f8 m›
   have e2:=‹q2=f7 d›
   subst e1 e2
   refine f5 hdg ⟨f8 m,oM⟩ (r:=.c (.i .i64 (A5 (f8 m)))) rfl j4 .nil fun _ _ _ _=>?_
   (refine Zz ?_;with_reducible repeat' first|intro _|apply aI)
   ·refine f5 hdg ⟨f7 d,oM⟩ (r:=.c (.i .i64 (A5 (f7 d)))) rfl j4 .nil fun _ _ _ _=>?_
    (refine Zz ?_;intros)
    refine D8 fun e=>?_
    subst e
    refine ⟨.ret _ _ (K9 ?_),.nil⟩
    rw [c4r]
    apply decide_eq_decide.2
    constructor
    ·intro h;have:=h.2.2;omega
    ·intro h;exact ⟨rfl,oM,oM⟩
   ·exact i6 ⟨.ret _ _ (F1 (decide_eq_false fun h=>by have:=h.2.1;omega)),.nil⟩
  all_goals exact i6 ⟨.ret _ _ (F1 (decide_eq_false fun h=>by injection h.1 with k1 k2;contradiction)),.nil⟩
 | sy s =>
  simp only [O.k,O.nu,O.de,O.sym,O.txt,O.ps] at hv
  have hs1:s.1.length < 9000:=hsm.1
  have hs2:s.2.length < 9000:=hsm.2
  (refine Zz ?_;intros)
  have hc:=(‹u1 (List.drop 3 _) _ 0›).take 2
  refine f5 hnm ⟨s,oM,oM⟩ (r:=.c (.b (named s))) rfl (.k (.a _ _ _ rfl (by exact hc)) .nil) .nil fun _ _ _ _=>?_
  have hfm:(O.sy s).fm=named s:=rfl
  rw [hfm]
  (refine Zz ?_;with_reducible repeat' first|intro _|apply aI)
  ·refine D8 fun e=>?_
   subst e
   refine ⟨.ret _ _ (K9 ?_),.nil⟩
   rw [a0c,‹named s=true›]
   rfl
  ·exact i6 ⟨.ret _ _ (F1 (Bool.eq_false_iff.2 ‹¬named s=true›)),.nil⟩
 | tx s =>
  simp only [O.k,O.nu,O.de,O.sym,O.txt,O.ps] at hv
  have hfm:(O.tx s).fm=decide (s.length≤200):=rfl
  rw [hfm]
  (refine Zz ?_;with_reducible repeat' first|intro _|apply aI)
  ·refine D8 fun e=>?_
   subst e
   refine ⟨.ret _ _ (K9 ?_),.nil⟩
   rw [a0c,decide_eq_true (by omega:s.length≤200)]
   rfl
  ·exact i6 ⟨.ret _ _ (F1 (decide_eq_false oM)),.nil⟩
 | co a d =>
  simp only [O.k,O.nu,O.de,O.sym,O.txt,O.ps] at hv
  have hfm:(O.co a d).fm=(a.fm && d.fm):=rfl
  have hsz:(O.co a d).size=1+a.size+d.size:=rfl
  rw [hsz] at hn
  rw [hfm]
  (refine Zz ?_;with_reducible repeat' first|intro _|apply aI)
  ·refine f5 hr ⟨⟨a,hsm.1⟩,show a.size < n by omega⟩ (r:=.c (.b a.fm)) rfl j4 .nil fun _ _ _ _=>?_
   (refine Zz ?_;with_reducible repeat' first|intro _|apply aI)
   ·refine f5 hr ⟨⟨d,hsm.2⟩,show d.size < n by omega⟩ (r:=.c (.b d.fm)) rfl j4 .nil fun _ _ _ _=>?_
    (refine Zz ?_;intros)
    rw [‹a.fm=true›,Bool.true_and]
    exact i6 ⟨.ret _ _ j4,.nil⟩
   ·exact i6 ⟨.ret _ _ (F1 (by rw [Bool.eq_false_iff.2 ‹¬a.fm=true›];rfl)),.nil⟩
  ·exact absurd rfl ‹¬(([a,d].length:Nat):Int)=2›
 | no =>
  simp only [O.k,O.nu,O.de,O.sym,O.txt,O.ps] at hv
  (refine Zz ?_;intros)
  exact i6 ⟨.ret _ _ (F1 rfl),.nil⟩
theorem e14:j5 77 (d0y fun a=>.c (.b (decide (a.size≤3000) && a.fm))):=k8 (fun fn h=>e8v h) [(40,_),(117,_)] (.cons e6n (.cons e5o .nil)) fun U fn hfn ⟨a,hsm⟩ vs bs hv hb=>by
 have hn:=hfn 40 _ rfl
 have hf:=hfn 117 _ rfl
 have hv:j6 [.a a.g] vs:=hv
 have hb:g9 [] bs:=hb
 show g8 U _ fun v bs'=>j7 (.ret (.c (.b (decide (a.size≤3000) && a.fm)))) v∧g9 [] bs'
 unfold r77
 refine W2 hv fun v l hv1 hv2=>?_
 refine N2 hv1 a.g_len fun qa ha=>?_
 (refine Zz ?_;intros)
 refine f5 hn a (r:=.c (.i .i64 (min a.size 3001:Nat))) rfl j4 .nil fun _ _ _ _=>?_
 (refine Zz ?_;with_reducible repeat' first|intro _|apply aI)
 ·refine f5 hf ⟨a,hsm⟩ (r:=.c (.b a.fm)) rfl j4 .nil fun _ _ _ _=>?_
  (refine Zz ?_;intros)
  rw [decide_eq_true (by omega:a.size≤3000),Bool.true_and]
  exact i6 ⟨.ret _ _ j4,.nil⟩
 ·exact i6 ⟨.ret _ _ (F1 (by rw [decide_eq_false (by omega:¬a.size≤3000)];rfl)),.nil⟩
end
end Go.Proofs.YtffaodopiifbkaaGreatDoor
