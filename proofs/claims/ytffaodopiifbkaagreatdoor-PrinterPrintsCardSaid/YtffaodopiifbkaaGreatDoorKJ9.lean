/- law6: packages, where, the sanity check. -/
import Derived.Test.YtffaodopiifbkaaGreatDoorKJ3
import Derived.Test.YtffaodopiifbkaaGreatDoorKJ8
set_option linter.all false
namespace Go.Proofs.YtffaodopiifbkaaGreatDoor
open Go.Abs LQ
set_option maxRecDepth 100000
set_option maxHeartbeats 8000000
noncomputable section
theorem b4i:j5 33 (sp0 (.sl 2 (S8.map pg))):=k8 (fun fn h=>f2d h) [(45,_),(52,_),(47,_)] (.cons c3c (.cons e1w (.cons b43 .nil))) fun U fn hfn _ vs bs hv hb=>by
 have hi:=hfn 45 _ rfl
 have hd:=hfn 52 _ rfl
 have hl:=hfn 47 _ rfl
 have hv:j6 [] vs:=hv
 have hb:g9 [] bs:=hb
 show g8 U _ fun v bs'=>j7 (.ret (.sl 2 (S8.map pg))) v∧g9 [] bs'
 unfold r33
 (refine Zq ?_;intros)
 refine f5 hi () (r:=.fr 2 [pg (s7,[])]) rfl .nil .nil fun _ _ hv1 _=>?_
 refine f0o hv1 rfl fun t off ht=>?_
 (refine Zq ?_;intros)
 refine f5 hl ([99,97,114]:f4) (r:=.a (sg (s7,[99,97,114]))) rfl (.k (.s _ _ _ rfl dE) .nil) .nil fun _ _ hv3 _=>?_
 have hv3:RV (.a [.s s7,.s [99,97,114]]) _:=hv3
 (refine Zq ?_;intros)
 refine f5 hl ([110,105,108]:f4) (r:=.a (sg (s7,[110,105,108]))) rfl (.k (.s _ _ _ rfl dE) .nil) .nil fun _ _ hv4 _=>?_
 have hv4:RV (.a [.s s7,.s [110,105,108]]) _:=hv4
 (refine Zq ?_;intros)
 refine f5 hl ([116]:f4) (r:=.a (sg (s7,[116]))) rfl (.k (.s _ _ _ rfl dE) .nil) .nil fun _ _ hv5 _=>?_
 have hv5:RV (.a [.s s7,.s [116]]) _:=hv5
 (refine Zq ?_;intros)
 refine f5 hd ⟨d7j,e27⟩ (r:=.t [.sl 2 (S8.map pg),.c (.i .i64 0)]) rfl (.k (.sl _ _ _ _ _ rfl ht) (.k (.ag _ _ (.k (.s _ _ _ rfl dE) (.k (.cl _ _ _ _ _ rfl (f3g aS aS aS)) .nil))) .nil)) .nil fun _ _ hv6 _=>?_
 (refine Zq ?_;intros)
 exact i6 ⟨.ret _ _ (.sl _ _ _ _ _ (by simp) aS),.nil⟩
def b5o:List f4:=[L0,s7,k7 4 1701736302]
def J1 (n:Int):f4:=b5o.getD (n % 3).toNat []
theorem d4f:j5 34 (e0z fun n=>.c (.s (J1 n))):=k8 (fun fn h=>e69 h) [(29,_)] (.cons d9w .nil) fun U fn hfn (n:Int) vs bs hv hb=>by
 have hM:=hfn 29 _ rfl
 change j6 [.c (.i .i64 n)] vs at hv
 change g9 [] bs at hb
 show g8 U _ fun v bs'=>j7 (.ret (.c (.s (J1 n)))) v∧g9 [] bs'
 unfold r34
 (refine Zq ?_;intros)
 refine f5 hM ⟨(n,3),show 0 < 3 by decide,show 3 < 1000000 by decide⟩ (r:=.c (.i .i64 (n % 3))) rfl (.k (.i _ _) (.k (.i _ _) .nil)) .nil fun _ _ _ _=>?_
 have h1:0≤n % 3:=Int.emod_nonneg _ dE
 have h2:n % 3 < 3:=Int.emod_lt_of_pos _ dE
 unfold J1
 generalize n % 3=z at *
 obtain ⟨k,rfl⟩:∃ k:Nat,z=k:=⟨z.toNat,oM⟩
 (refine Zq ?_;intros)
 rw [Int.toNat_natCast]
 have hk:k < b5o.length:=by show k < 3;omega
 refine sfT (xs:=b5o.map fun s=>[.s s]) (r:=[.s (b5o.getD k [])]) (n:=1) (a3s (b6y 2) (by rfl)) (by rw [Int.toNat_natCast,List.getElem?_map,List.getElem?_eq_getElem hk];simp [List.getD,List.getElem?_eq_getElem hk]) fun _ _=>?_
 (refine Zq ?_;intros)
 exact i6 ⟨.ret _ _ (.q _ _ aS),.nil⟩
def mA8:O:=.sy (s7,[97])
def fH:O:=a9x (qn (f6 [49]) (f6 [50]))
def fX:O:=P6 [mA8,fH]
def mO8:O:=P6 [x7,fX]
theorem f3u:fH=.num 1 2:=kR
theorem e1o:x8 M4 s7 mO8=[39,40,97,32,49,47,50,41]:=by
 have e1:mO8=.co x7 (.co fX z8):=rfl
 have e2:fX=.co mA8 (.co fH z8):=rfl
 rw [b1b (P3.2 e1),e2,b0y]
 ·have e3:(pT M4 s7 (.co fH z8)).2.1=32 :: (x8 M4 s7 fH ++ (pT M4 s7 z8).2.1):=rfl
  have e4:(pT M4 s7 z8).2.1=[41]:=if_pos rfl
  have e5:x8 M4 s7 fH=[49,47,50]:=by rw [f3u];show b3f 1 2=_;kernel_rfl
  have e6:x8 M4 s7 mA8=[97]:=by show (G2 M4 s7 (s7,[97])).1=_;kernel_rfl
  rw [e3,e4,e5,e6];rfl
 ·cases h:J0 (.co mA8 (.co fH z8)) with
  | none=>rfl
  | some x =>
   have:=P3.1 h
   injection this with h1 _
   injection h1 with h1
   injection h1 with _ h1
   exact absurd h1 dE
theorem f4x:okV mO8:=⟨kR,Nat.le_of_ble_eq_true kR⟩
theorem d8h:D2 M4 s7 mO8=([39,40,97,32,49,47,50,41],0):=by
 unfold D2
 rw [if_neg,e1o]
 rintro (h | h)
 ·cases (show (some (s7,[]):Option Pk)=none from h)
 ·cases (show true=false from (show u7 M4 mO8=true by kernel_rfl).symm.trans h)
theorem e7n {a b:O} {x y:Q} (h1:u1 a.g x 0) (h2:u1 b.g y 0):m8 7 ([a,b].map O.g) (.node x (.node y .nil .nil) .nil) 0:=.of fun j r h=>by
 match j,h with
 | 0,h=>simp at h;subst h;exact e9x h1
 | 1,h=>simp at h;subst h;exact e9x h2
 | j+2,h=>simp at h
theorem c8h:j5 30 (sp0 (.c (.b true))):=k8 (fun fn h=>e83 h) [(45,_),(38,_),(47,_),(43,_),(48,_),(46,_)] (.cons c3c (.cons d4t (.cons b43 (.cons b13 (.cons b1h (.cons e0t .nil)))))) fun U fn hfn _ vs bs hv hb=>by
 have hi:=hfn 45 _ rfl
 have hp:=hfn 38 _ rfl
 have hl:=hfn 47 _ rfl
 have hs:=hfn 43 _ rfl
 have hr:=hfn 48 _ rfl
 have hL:=hfn 46 _ rfl
 have hv:j6 [] vs:=hv
 have hb:g9 [] bs:=hb
 show g8 U _ fun v bs'=>j7 (.ret (.c (.b true))) v∧g9 [] bs'
 unfold r30
 (refine Zq ?_;intros)
 refine f5 hl ([113,117,111,116,101]:f4) (r:=.a (sg (s7,[113,117,111,116,101]))) rfl (.k (.s _ _ _ rfl dE) .nil) .nil fun _ _ hv3 _=>?_
 have hv3:RV (.a [.s s7,.s [113,117,111,116,101]]) _:=hv3
 (refine Zq ?_;intros)
 rename_i xa ga
 refine f5 hs (s7,[113,117,111,116,101]) (r:=.a x7.g) rfl (.k (.a _ _ _ rfl ga) .nil) .nil fun _ _ hv4 _=>?_
 refine N2 hv4 (O.g_len _) fun qa ka=>?_
 (refine Zq ?_;intros)
 refine f5 hl ([97]:f4) (r:=.a (sg (s7,[97]))) rfl (.k (.s _ _ _ rfl dE) .nil) .nil fun _ _ hv5 _=>?_
 have hv5:RV (.a [.s s7,.s [97]]) _:=hv5
 (refine Zq ?_;intros)
 rename_i xb gb
 refine f5 hs (s7,[97]) (r:=.a mA8.g) rfl (.k (.a _ _ _ rfl gb) .nil) .nil fun _ _ hv6 _=>?_
 refine N2 hv6 (O.g_len _) fun qb kb=>?_
 (refine Zq ?_;intros)
 refine f5 hr ⟨([49],[50]),dE,dE⟩ (r:=.a fH.g) rfl (.k (.s _ _ _ rfl dE) (.k (.s _ _ _ rfl dE) .nil)) .nil fun _ _ hv7 _=>?_
 refine N2 hv7 (O.g_len _) fun qc kc=>?_
 (refine Zq ?_;intros)
 refine f5 hL ⟨[mA8,fH],dE⟩ (r:=.a fX.g) rfl (.k (.sl _ _ _ _ _ rfl (e7n kb kc)) .nil) .nil fun _ _ hv8 _=>?_
 refine N2 hv8 (O.g_len _) fun qd kd=>?_
 (refine Zq ?_;intros)
 refine f5 hL ⟨[x7,fX],dE⟩ (r:=.a mO8.g) rfl (.k (.sl _ _ _ _ _ rfl (e7n ka kd)) .nil) .nil fun _ _ hv9 _=>?_
 refine N2 hv9 (O.g_len _) fun qe ke=>?_
 (refine Zq ?_;intros)
 refine f5 hi () (r:=.fr 2 [pg (s7,[])]) rfl .nil .nil fun _ _ hv1 _=>?_
 refine f0o hv1 rfl fun t off ht=>?_
 (refine Zq ?_;intros)
 refine f5 hp ⟨(M4,s7,mO8),b0f,f4x⟩ (r:=.t [.c (.s [39,40,97,32,49,47,50,41]),.c (.i .i64 0)]) (by show n5.ret (prG M4 s7 mO8)=_;unfold prG;rw [d8h]) (.k (.sl _ _ _ _ _ rfl ht) (.k (.s _ _ _ rfl dE) (.k (oV aS) .nil))) .nil fun _ _ _ _=>?_
 (refine Zz ?_;intros)
 refine D8 fun e=>?_
 subst e
 exact ⟨.ret _ _ (K9 kR),.nil⟩
theorem c0f:j5 9 { ι:=Sy × Int × Int,A:=fun p=>[.a (sg p.1),.c (.i .i64 p.2.1),.c (.i .i64 p.2.2)],B:=fun _=>[],R:=fun _=>.ret (.c (.b true)),B':=fun _=>[],inj:=fun _ _ _ _ _ _ _ _=>⟨rfl,rfl⟩ }:=k8 (fun fn h=>f5v h) [(30,_),(31,_),(33,_),(34,_),(32,_),(35,_)] (.cons c8h (.cons e6t (.cons b4i (.cons d4f (.cons d2p (.cons d3k .nil)))))) fun U fn hfn ⟨s,n,k⟩ vs bs hv hb=>by
 have hfi:=hfn 30 _ rfl
 have hsy:=hfn 31 _ rfl
 have hpk:=hfn 33 _ rfl
 have hwh:=hfn 34 _ rfl
 have hnp:=hfn 32 _ rfl
 have hnr:=hfn 35 _ rfl
 have hv:j6 [.a [.s s.1,.s s.2],.c (.i .i64 n),.c (.i .i64 k)] vs:=hv
 have hb:g9 [] bs:=hb
 show g8 U _ fun v bs'=>j7 (.ret (.c (.b true))) v∧g9 [] bs'
 unfold r9
 have m1:(Q3 k).1.length≤40:=a4u (b61 k)
 have m2:(Q3 k).2.length≤40:=(V8 (b61 k)).2.1
 (refine Zz ?_;intros)
 refine f5 hfi () (r:=.c (.b true)) rfl .nil .nil fun _ _ _ _=>?_
 (refine Zy ?_;intros)
 refine L2 (fun vs bs=>∃ (z:Bool) (v:V) (q:Q),vs=[.int .i64 n,.int .i64 k,.ptr 0 0,v]∧bs=[.opa q 2]∧RV (.c (.b z)) v∧u1 [.s s.1,.s s.2] q 0∧(U=CU→z=false→s.1.length≤60∧s.2.length≤60)) ?_ ?_
 ·rintro _ _ ⟨z,v,q,rfl,rfl,hvz,hq,hz⟩
  refine fun e=>?_
  have hz:=hz e
  refine (show g8 U _ _ from ?_) e
  (refine Zy ?_;with_reducible repeat' first|intro _|apply aI)
  ·exact i6 ⟨.ret _ _ (.kn _),.nil⟩
  ·obtain ⟨h1,h2⟩:=hz (by simpa using ‹¬z=true›)
   refine f5 hsy k (r:=.a (sg (Q3 k))) rfl (.k (.i _ _) .nil) .nil fun _ _ hv3 _=>?_
   have hv3:RV (.a [.s (Q3 k).1,.s (Q3 k).2]) _:=hv3
   (refine Zy ?_;intros)
   obtain ⟨X,hx⟩:∃ X,G2 S8 (J1 n) s=X:=⟨_,rfl⟩
   obtain ⟨Y,hy⟩:∃ Y,G2 S8 (J1 n) (Q3 k)=Y:=⟨_,rfl⟩
   refine f5 hpk () (r:=.sl 2 (S8.map pg)) rfl .nil .nil fun _ _ _ _=>?_
   (refine Zy ?_;intros)
   refine f5 hwh n (r:=.c (.s (J1 n))) rfl (.k (.i _ _) .nil) .nil fun _ _ _ _=>?_
   (refine Zy ?_;intros)
   refine f5 hnp ⟨(S8,J1 n,s),a7r,by show s.1.length < 90000;omega,by show s.2.length < 90000;omega⟩ (r:=.t [.c (.s X.1),.c (.i .i64 X.2)]) (by show n5.ret (a1r _)=_;rw [hx];rfl) (.k (.sl _ _ _ _ _ (by simp) aS) (.k (.s _ _ _ rfl rfl) (.k (.a _ _ _ rfl aS) .nil))) .nil fun _ _ _ _=>?_
   (refine Zy ?_;intros)
   refine f5 hpk () (r:=.sl 2 (S8.map pg)) rfl .nil .nil fun _ _ _ _=>?_
   (refine Zy ?_;intros)
   refine f5 hwh n (r:=.c (.s (J1 n))) rfl (.k (.i _ _) .nil) .nil fun _ _ _ _=>?_
   (refine Zy ?_;intros)
   refine f5 hnr ⟨(S8,J1 n,s),a7r,by show s.1.length < 90000;omega,by show s.2.length < 90000;omega⟩ (r:=.t [.c (.s X.1),.c (.i .i64 X.2)]) (by show n5.ret (a1r _)=_;rw [hx];rfl) (.k (.sl _ _ _ _ _ (by simp) aS) (.k (.s _ _ _ rfl rfl) (.k (.a _ _ _ rfl aS) .nil))) .nil fun _ _ _ _=>?_
   (refine Zy ?_;intros)
   refine f5 hpk () (r:=.sl 2 (S8.map pg)) rfl .nil .nil fun _ _ _ _=>?_
   (refine Zy ?_;intros)
   refine f5 hwh n (r:=.c (.s (J1 n))) rfl (.k (.i _ _) .nil) .nil fun _ _ _ _=>?_
   (refine Zy ?_;intros)
   refine f5 hnp ⟨(S8,J1 n,Q3 k),a7r,by show (Q3 k).1.length < 90000;omega,by show (Q3 k).2.length < 90000;omega⟩ (r:=.t [.c (.s Y.1),.c (.i .i64 Y.2)]) (by show n5.ret (a1r _)=_;rw [hy];rfl) (.k (.sl _ _ _ _ _ (by simp) aS) (.k (.s _ _ _ rfl rfl) (.k (.a _ _ _ rfl aS) .nil))) .nil fun _ _ _ _=>?_
   (refine Zy ?_;intros)
   refine f5 hpk () (r:=.sl 2 (S8.map pg)) rfl .nil .nil fun _ _ _ _=>?_
   (refine Zy ?_;intros)
   refine f5 hwh n (r:=.c (.s (J1 n))) rfl (.k (.i _ _) .nil) .nil fun _ _ _ _=>?_
   (refine Zy ?_;intros)
   refine f5 hnr ⟨(S8,J1 n,Q3 k),a7r,by show (Q3 k).1.length < 90000;omega,by show (Q3 k).2.length < 90000;omega⟩ (r:=.t [.c (.s Y.1),.c (.i .i64 Y.2)]) (by show n5.ret (a1r _)=_;rw [hy];rfl) (.k (.sl _ _ _ _ _ (by simp) aS) (.k (.s _ _ _ rfl rfl) (.k (.a _ _ _ rfl aS) .nil))) .nil fun _ _ _ _=>?_
   (refine Zy ?_;with_reducible repeat' first|intro _|apply aI)
   ·refine D8 fun e=>?_
    subst e
    exact ⟨.ret _ _ (K9 (by rw [a0c];exact (decide_eq_true rfl).symm)),.nil⟩
   all_goals exact absurd rfl ‹¬_=_›
 ·intro c hc
  (refine Zy ?_;with_reducible repeat' first|intro _|apply aI)
  ·exact hc _ _ ⟨true,_,_,rfl,rfl,.kn _,aS,fun _ h=>by cases h⟩
  ·refine hc _ _ ⟨U.iLt 60 (s.1.length:Nat),_,_,rfl,rfl,.b _,aS,fun e h=>?_⟩
   subst e
   rw [b0w,decide_eq_false_iff_not] at h
   omega
theorem b75:j5 10 { ι:=Raw × Int,A:=fun p=>[.a p.1.g,.c (.i .i64 p.2)],B:=fun _=>[],R:=fun _=>.ret (.c (.b true)),B':=fun _=>[],inj:=fun _ _ _ _ _ _ _ _=>⟨rfl,rfl⟩ }:=k8 (fun fn h=>e8c h) [(30,_),(36,_),(37,_),(33,_),(34,_),(38,_),(39,_)] (.cons c8h (.cons f7m (.cons (e2m e2h) (.cons b4i (.cons d4f (.cons d4t (.cons e13 .nil))))))) fun U fn hfn ⟨r,n⟩ vs bs hv hb=>by
 have hfi:=hfn 30 _ rfl
 have hfe:=hfn 36 _ rfl
 have hob:=hfn 37 _ rfl
 have hpk:=hfn 33 _ rfl
 have hwh:=hfn 34 _ rfl
 have hpr:=hfn 38 _ rfl
 have hp6:=hfn 39 _ rfl
 have hv:j6 [.a r.g,.c (.i .i64 n)] vs:=hv
 have hb:g9 [] bs:=hb
 show g8 U _ fun v bs'=>j7 (.ret (.c (.b true))) v∧g9 [] bs'
 unfold r10
 (refine Zz ?_;intros)
 refine N2 aS (Raw.g_len _) fun q0 hq0=>?_
 (refine Zz ?_;intros)
 refine f5 hfi () (r:=.c (.b true)) rfl .nil .nil fun _ _ _ _=>?_
 (refine Zz ?_;intros)
 refine f5 hfe ⟨(r,40),show 40≤1000 by decide⟩ (r:=.c (.b (r.few 40))) rfl (.k (.a _ _ _ (Raw.g_len _).symm aS) (.k (.i _ _) .nil)) .nil fun _ _ _ _=>?_
 (refine Zz ?_;with_reducible repeat' first|intro _|apply aI)
 ·have hf:r.few 40=true:=‹_›
  have h9:=Raw.few_ok hf
  have ho:=e34 hf
  have hov:okV (D0 r):=⟨ho.2,oM⟩
  refine f5 hob ⟨r,h9.1⟩ (r:=.a (D0 r).g) rfl (.k (.a _ _ _ (Raw.g_len _).symm aS) .nil) .nil fun _ _ _ _=>?_
  refine N2 aS (O.g_len _) fun q1 hq1=>?_
  (refine Zz ?_;intros)
  refine f5 hpk () (r:=.sl 2 (S8.map pg)) rfl .nil .nil fun _ _ _ _=>?_
  (refine Zz ?_;intros)
  refine f5 hwh n (r:=.c (.s (J1 n))) rfl (.k (.i _ _) .nil) .nil fun _ _ _ _=>?_
  (refine Zz ?_;intros)
  obtain ⟨X,hX⟩:∃ X,D2 S8 (J1 n) (D0 r)=X:=⟨_,rfl⟩
  refine f5 hpr ⟨(S8,J1 n,D0 r),a7r,hov⟩ (r:=.t [.c (.s X.1),.c (.i .i64 X.2)]) (by show n5.ret (prG _ _ _)=_;unfold prG;rw [hX]) (.k (.sl _ _ _ _ _ (by simp) aS) (.k (.s _ _ _ rfl rfl) (.k (oV aS) .nil))) .nil fun _ _ _ _=>?_
  (refine Zz ?_;intros)
  refine f5 hpk () (r:=.sl 2 (S8.map pg)) rfl .nil .nil fun _ _ _ _=>?_
  (refine Zz ?_;intros)
  refine f5 hwh n (r:=.c (.s (J1 n))) rfl (.k (.i _ _) .nil) .nil fun _ _ _ _=>?_
  (refine Zz ?_;intros)
  refine f5 hp6 ⟨(S8,J1 n,D0 r),a7r,hov⟩ (r:=.t [.c (.s X.1),.c (.i .i64 X.2)]) (by show n5.ret (prG _ _ _)=_;unfold prG;rw [hX]) (.k (.sl _ _ _ _ _ (by simp) aS) (.k (.s _ _ _ rfl rfl) (.k (oV aS) .nil))) .nil fun _ _ _ _=>?_
  (refine Zz ?_;with_reducible repeat' first|intro _|apply aI)
  ·refine D8 fun e=>?_
   subst e
   exact ⟨.ret _ _ (K9 (by rw [a0c];exact (decide_eq_true rfl).symm)),.nil⟩
  ·exact absurd rfl ‹¬X.1=X.1›
 ·exact i6 ⟨.ret _ _ (.kn _),.nil⟩
end
end Go.Proofs.YtffaodopiifbkaaGreatDoor
