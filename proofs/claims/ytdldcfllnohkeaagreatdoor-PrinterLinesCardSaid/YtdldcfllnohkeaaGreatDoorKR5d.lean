/- The reference's objects: which are formed, which are valid; lists; numbers. -/
import Derived.Test.YtdldcfllnohkeaaGreatDoorKR5c
set_option linter.all false
namespace Go.Proofs.YtdldcfllnohkeaaGreatDoor
open Go.Abs LQ
set_option maxRecDepth 100000
set_option maxHeartbeats 4000000
noncomputable section
section
variable {U:s7} {P:J7→List Bx→Prop}
theorem e50 {a b:Int} {x y:Om} (h:a=b) (k:g7 U x P):g7 U (U.cnd (U.iEq a b) x y) P:=b4u a5t (fun _=>k) (fun n=>absurd h n)
theorem e5z {a b:Int} {x y:Om} (h:¬a=b) (k:g7 U y P):g7 U (U.cnd (U.iEq a b) x y) P:=b4u a5t (fun n=>absurd n h) (fun _=>k)
theorem f2q {s:List UInt8} {l c:Nat} {x y:Om} (h:s=k6 l c) (k:g7 U x P):g7 U (U.cnd (U.sEq s.length (j9 s) l c) x y) P:=b4u a7n (fun _=>k) (fun n=>absurd h n)
theorem d47 {s:List UInt8} {l c:Nat} {b:Bool} {x y:Om} (h:s=k6 l c) (k:g7 U (U.cnd b x y) P):g7 U (U.cnd (U.band (U.sEq s.length (j9 s) l c) b) x y) P:=fun e=>by
 have:=k e
 have e1:U.sEq s.length (j9 s) l c=true:=by subst e;rw [b0w];exact decide_eq_true h
 rw [e1]
 subst e
 exact this
end
theorem Zz {p q:Prop} (k:q) (h:Tr p q:=by ((repeat' (first | (with_reducible apply Tr.all) | (with_reducible intro _) | (apply Tr.b;(case f=>first | exact e50 dE | exact e5z dE | exact f2q (by rfl) | exact d47 (by rfl) | exact sCndBandT | exact b6v | exact X8 aS | exact c44 | exact b6x aS | exact b6w | exact a8f aS | exact b1q | exact b2x aS | exact sP | exact sPR aS | exact sIV | exact sI aS | exact sBV | exact sBK | exact sB aS | exact sSV | exact sS aS | exact sA | exact M5 aS (by rfl) | exact b8o (by rfl) | exact c46 (by rfl) | exact c1v aS (by rfl) | exact c47 aS (by rfl) | exact d1r aS | exact sSl aS | exact sTu aS | exact sBo | exact b1o aS (by rfl) | exact sBc | exact d1p aS | exact sBt | exact sBs | exact sBr | exact a8g aS | exact b64 aS | exact b6z aS (by rfl) | exact d1q aS (by rfl) | exact sCI' aS (by rfl) | exact sCB' aS (by rfl) | exact sCS aS | exact sCI aS | exact sCB aS | exact b61 (by first | omega | (simp only [List.length_map] at *;omega)) | exact b60 (by first | omega | (simp only [List.length_map] at *;omega)) | exact c1x | exact b2y | exact b20 | exact c1w | exact b63 | exact b6y | exact sfSubN | exact b2z | exact sfBSelE | exact sfB | exact sJn | exact c1u | exact c1s | exact c1t | exact C7 aS (by (first | exact u7 O.g_len | exact u7 (fun _=>rfl))) | exact b1p aS (by (first | exact u7 O.g_len | exact u7 (fun _=>rfl))) | exact c1z (by first | omega | (simp only [List.length_map] at *;omega)) | exact b65 (by first | omega | (simp only [List.length_map] at *;omega)) | exact d1u aS (by first | assumption | omega | (simp only [List.length_map] at *;omega)) | exact sfT aS (by rfl))) | (apply Tr.chk;(case ht=>(repeat' (first | exact trT | exact trF | apply a4i | apply a4f | exact a4h | exact a4g | exact a1x | exact a5u | exact a5t | exact a11 | exact a12 | exact a10 | exact a1z | exact a1y | exact a4k | exact a91 | exact a7n | exact trS | exact trV)));(case hp=>first | omega | (simp only [List.length_map] at *;omega))) | (apply Tr.cnd;(case ht=>(repeat' (first | exact trT | exact trF | apply a4i | apply a4f | exact a4h | exact a4g | exact a1x | exact a5u | exact a5t | exact a11 | exact a12 | exact a10 | exact a1z | exact a1y | exact a4k | exact a91 | exact a7n | exact trS | exact trV))))));all_goals exact Tr.refl)):p:=h.go k
def O.sm:O→Prop
 | .num n d=>(f9 n).length < 9000∧(f8 d).length < 9000
 | .sy s=>s.1.length < 9000∧s.2.length < 9000
 | .tx s=>s.length < 9000
 | .co a d=>a.sm∧d.sm
 | .no=>True
def O.fm:O→Bool
 | .num n d=>decide (o7 (f9 n) (f8 d)=(f9 n,f8 d)∧A8 (f9 n)≤100∧A8 (f8 d)≤100)
 | .sy s=>named s
 | .tx s=>decide (s.length≤200)
 | .co a d=>a.fm && d.fm
 | .no=>false
def d14 (g:O→GV):Sp where
 ι:={ o:O // o.sm }
 A o:=[.a o.1.g]
 B _:=[]
 R o:=.ret (g o.1)
 B' _:=[]
 inj i j vs bs h k _ _:=by rw [b43 h k];exact ⟨rfl,rfl⟩
theorem e3d:j3 61 (d14 fun a=>.c (.b a.fm)):=R3 (fun p=>p.1.size) fun n ih=>k7 (fun fn h=>f0q h) [(61,(d14 fun a=>.c (.b a.fm)).lt _ n),(48,_),(93,_),(91,_)] (.cons ih (.cons c79 (.cons d7j (.cons c77 .nil)))) fun U fn hfn ⟨⟨a,hsm⟩,hn⟩ vs bs hv hb=>by
 have hr:=hfn 61 _ rfl
 have hred:=hfn 48 _ rfl
 have hdg:=hfn 93 _ rfl
 have hnm:=hfn 91 _ rfl
 have hv:j5 [.a a.g] vs:=hv
 have hb:RBs [] bs:=hb
 have hn:a.size < n+1:=hn
 show g7 U _ fun v bs'=>j6 (.ret (.c (.b a.fm))) v∧RBs [] bs'
 unfold r61
 rw [a.g_eq] at hv
 cases a with
 | num m d =>
  simp only [O.k,O.nu,O.de,O.sym,O.txt,O.ps] at hv
  have hs1:(f9 m).length < 9000:=hsm.1
  have hs2:(f8 d).length < 9000:=hsm.2
  (refine Zz ?_;intros)
  refine f6 hred ⟨(f9 m,f8 d),hs1,hs2⟩ (r:=.t [.c (.s (o7 (f9 m) (f8 d)).1),.c (.s (o7 (f9 m) (f8 d)).2)]) rfl j4 .nil fun _ _ _ _=>?_
  have hfm:(O.num m d).fm=decide (o7 (f9 m) (f8 d)=(f9 m,f8 d)∧A8 (f9 m)≤100∧A8 (f8 d)≤100):=rfl
  rw [hfm]
  generalize o7 (f9 m) (f8 d)=q at *
  obtain ⟨q1,q2⟩:=q
  simp only at *
  (refine Zz ?_;with_reducible repeat' first|intro _|apply aI)
  ·have e1:=‹q1=f9 m›
   have e2:=‹q2=f8 d›
   subst e1 e2
   refine f6 hdg ⟨f9 m,oM⟩ (r:=.c (.i .i64 (A8 (f9 m)))) rfl j4 .nil fun _ _ _ _=>?_
   (refine Zz ?_;with_reducible repeat' first|intro _|apply aI)
   ·refine f6 hdg ⟨f8 d,oM⟩ (r:=.c (.i .i64 (A8 (f8 d)))) rfl j4 .nil fun _ _ _ _=>?_
    (refine Zz ?_;intros)
    refine G7 fun e=>?_
    subst e
    refine ⟨.ret _ _ (P9 ?_),.nil⟩
    rw [c2f]
    apply decide_eq_decide.2
    constructor
    ·intro h;have:=h.2.2;omega
    ·intro h;exact ⟨rfl,oM,oM⟩
   ·exact g9 ⟨.ret _ _ (G2 (decide_eq_false fun h=>by have:=h.2.1;omega)),.nil⟩
  all_goals exact g9 ⟨.ret _ _ (G2 (decide_eq_false fun h=>by injection h.1 with k1 k2;contradiction)),.nil⟩
 | sy s =>
  simp only [O.k,O.nu,O.de,O.sym,O.txt,O.ps] at hv
  have hs1:s.1.length < 9000:=hsm.1
  have hs2:s.2.length < 9000:=hsm.2
  (refine Zz ?_;intros)
  have hc:=(‹u6 (List.drop 3 _) _ 0›).take 2
  refine f6 hnm ⟨s,oM,oM⟩ (r:=.c (.b (named s))) rfl (.k (.a _ _ _ rfl (by exact hc)) .nil) .nil fun _ _ _ _=>?_
  have hfm:(O.sy s).fm=named s:=rfl
  rw [hfm]
  (refine Zz ?_;with_reducible repeat' first|intro _|apply aI)
  ·refine G7 fun e=>?_
   subst e
   refine ⟨.ret _ _ (P9 ?_),.nil⟩
   rw [a5a,‹named s=true›]
   rfl
  ·exact g9 ⟨.ret _ _ (G2 (Bool.eq_false_iff.2 ‹¬named s=true›)),.nil⟩
 | tx s =>
  simp only [O.k,O.nu,O.de,O.sym,O.txt,O.ps] at hv
  have hfm:(O.tx s).fm=decide (s.length≤200):=rfl
  rw [hfm]
  (refine Zz ?_;with_reducible repeat' first|intro _|apply aI)
  ·refine G7 fun e=>?_
   subst e
   refine ⟨.ret _ _ (P9 ?_),.nil⟩
   rw [a5a,decide_eq_true (by omega:s.length≤200)]
   rfl
  ·exact g9 ⟨.ret _ _ (G2 (decide_eq_false oM)),.nil⟩
 | co a d =>
  simp only [O.k,O.nu,O.de,O.sym,O.txt,O.ps] at hv
  have hfm:(O.co a d).fm=(a.fm && d.fm):=rfl
  have hsz:(O.co a d).size=1+a.size+d.size:=rfl
  rw [hsz] at hn
  rw [hfm]
  (refine Zz ?_;with_reducible repeat' first|intro _|apply aI)
  ·refine f6 hr ⟨⟨a,hsm.1⟩,show a.size < n by omega⟩ (r:=.c (.b a.fm)) rfl j4 .nil fun _ _ _ _=>?_
   (refine Zz ?_;with_reducible repeat' first|intro _|apply aI)
   ·refine f6 hr ⟨⟨d,hsm.2⟩,show d.size < n by omega⟩ (r:=.c (.b d.fm)) rfl j4 .nil fun _ _ _ _=>?_
    (refine Zz ?_;intros)
    rw [‹a.fm=true›,Bool.true_and]
    exact g9 ⟨.ret _ _ j4,.nil⟩
   ·exact g9 ⟨.ret _ _ (G2 (by rw [Bool.eq_false_iff.2 ‹¬a.fm=true›];rfl)),.nil⟩
  ·exact absurd rfl ‹¬(([a,d].length:Nat):Int)=2›
 | no =>
  simp only [O.k,O.nu,O.de,O.sym,O.txt,O.ps] at hv
  (refine Zz ?_;intros)
  exact g9 ⟨.ret _ _ (G2 rfl),.nil⟩
theorem e3s:j3 28 (d14 fun a=>.c (.b (decide (a.size≤3000) && a.fm))):=k7 (fun fn h=>e9c h) [(7,_),(61,_)] (.cons e7l (.cons e3d .nil)) fun U fn hfn ⟨a,hsm⟩ vs bs hv hb=>by
 have hn:=hfn 7 _ rfl
 have hf:=hfn 61 _ rfl
 have hv:j5 [.a a.g] vs:=hv
 have hb:RBs [] bs:=hb
 show g7 U _ fun v bs'=>j6 (.ret (.c (.b (decide (a.size≤3000) && a.fm)))) v∧RBs [] bs'
 unfold r28
 refine X8 hv fun v l hv1 hv2=>?_
 refine M5 hv1 a.g_len fun qa ha=>?_
 (refine Zz ?_;intros)
 refine f6 hn a (r:=.c (.i .i64 (min a.size 3001:Nat))) rfl j4 .nil fun _ _ _ _=>?_
 (refine Zz ?_;with_reducible repeat' first|intro _|apply aI)
 ·refine f6 hf ⟨a,hsm⟩ (r:=.c (.b a.fm)) rfl j4 .nil fun _ _ _ _=>?_
  (refine Zz ?_;intros)
  rw [decide_eq_true (by omega:a.size≤3000),Bool.true_and]
  exact g9 ⟨.ret _ _ j4,.nil⟩
 ·exact g9 ⟨.ret _ _ (G2 (by rw [decide_eq_false (by omega:¬a.size≤3000)];rfl)),.nil⟩
end
end Go.Proofs.YtdldcfllnohkeaaGreatDoor
