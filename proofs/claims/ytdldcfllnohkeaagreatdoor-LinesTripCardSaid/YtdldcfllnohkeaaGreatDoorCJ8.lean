/- law6: packages, where, the sanity check. -/
import Derived.Test.YtdldcfllnohkeaaGreatDoorCJ2
import Derived.Test.YtdldcfllnohkeaaGreatDoorCJ7
set_option linter.all false
namespace Go.Proofs.YtdldcfllnohkeaaGreatDoor
open Go.Abs LQ
set_option maxRecDepth 100000
set_option maxHeartbeats 8000000
noncomputable section
theorem d3w:k9 9 (sp0 (.sl 2 (L9.map pg))):=n9 (fun fn h=>f9j h) [(23,_),(27,_),(21,_)] (.cons c6a (.cons e6k (.cons c4g .nil))) fun U fn hfn _ vs bs hv hb=>by
 have hi:=hfn 23 _ rfl
 have hd:=hfn 27 _ rfl
 have hl:=hfn 21 _ rfl
 have hv:l7 [] vs:=hv
 have hb:RBs [] bs:=hb
 show j5 U _ fun v bs'=>l8 (.ret (.sl 2 (L9.map pg))) v∧RBs [] bs'
 unfold r9
 (refine Zq ?_;intros)
 refine j4 hi () (r:=.fr 2 [pg (x7,[])]) rfl .nil .nil fun _ _ hv1 _=>?_
 refine f6h hv1 rfl fun t off ht=>?_
 (refine Zq ?_;intros)
 refine j4 hl ([99,97,114]:i6) (r:=.a (sg (x7,[99,97,114]))) rfl (.k (.s _ _ _ rfl dE) .nil) .nil fun _ _ hv3 _=>?_
 have hv3:RV (.a [.s x7,.s [99,97,114]]) _:=hv3
 (refine Zq ?_;intros)
 refine j4 hl ([110,105,108]:i6) (r:=.a (sg (x7,[110,105,108]))) rfl (.k (.s _ _ _ rfl dE) .nil) .nil fun _ _ hv4 _=>?_
 have hv4:RV (.a [.s x7,.s [110,105,108]]) _:=hv4
 (refine Zq ?_;intros)
 refine j4 hl ([116]:i6) (r:=.a (sg (x7,[116]))) rfl (.k (.s _ _ _ rfl dE) .nil) .nil fun _ _ hv5 _=>?_
 have hv5:RV (.a [.s x7,.s [116]]) _:=hv5
 (refine Zq ?_;intros)
 refine j4 hd ⟨e0c,e6g⟩ (r:=.t [.sl 2 (L9.map pg),.c (.i .i64 0)]) rfl (.k (.sl _ _ _ _ _ rfl ht) (.k (.ag _ _ (.k (.s _ _ _ rfl dE) (.k (.cl _ _ _ _ _ rfl (f9m aS aS aS)) .nil))) .nil)) .nil fun _ _ hv6 _=>?_
 (refine Zq ?_;intros)
 exact j9 ⟨.ret _ _ (.sl _ _ _ _ _ (by simp) aS),.nil⟩
def mA8:O:=.sy (x7,[97])
def fH:O:=a30 (qn (j0 [49]) (j0 [50]))
def fX:O:=F1 [mA8,fH]
def mO8:O:=F1 [B0,fX]
theorem f8t:fH=.num 1 2:=kR
theorem e6b:A4 Q9 x7 mO8=[39,40,97,32,49,47,50,41]:=by
 have e1:mO8=.co B0 (.co fX B3):=rfl
 have e2:fX=.co mA8 (.co fH B3):=rfl
 rw [b3m (a0w.2 e1),e2,b3l]
 ·have e3:(pT Q9 x7 (.co fH B3)).2.1=32 :: (A4 Q9 x7 fH ++ (pT Q9 x7 B3).2.1):=rfl
  have e4:(pT Q9 x7 B3).2.1=[41]:=if_pos rfl
  have e5:A4 Q9 x7 fH=[49,47,50]:=by rw [f8t];show a0f 1 2=_;kernel_rfl
  have e6:A4 Q9 x7 mA8=[97]:=by show (O7 Q9 x7 (x7,[97])).1=_;kernel_rfl
  rw [e3,e4,e5,e6];rfl
 ·cases h:D7 (.co mA8 (.co fH B3)) with
  | none=>rfl
  | some x =>
   have:=a0w.1 h
   injection this with h1 _
   injection h1 with h1
   injection h1 with _ h1
   exact absurd h1 dE
theorem f8u:okV mO8:=⟨kR,Nat.le_of_ble_eq_true kR⟩
theorem d93:D0 Q9 x7 mO8=([39,40,97,32,49,47,50,41],0):=by
 unfold D0
 rw [if_neg,e6b]
 rintro (h | h)
 ·cases (show (some (x7,[]):Option Pk)=none from h)
 ·cases (show true=false from (show C9 Q9 mO8=true by kernel_rfl).symm.trans h)
theorem f6d {a b:O} {x y:Q} (h1:A6 a.g x 0) (h2:A6 b.g y 0):p9 7 ([a,b].map O.g) (.node x (.node y .nil .nil) .nil) 0:=.of fun j r h=>by
 match j,h with
 | 0,h=>simp at h;subst h;exact f57 h1
 | 1,h=>simp at h;subst h;exact f57 h2
 | j+2,h=>simp at h
theorem e6m:k9 6 (sp0 (.c (.b true))):=n9 (fun fn h=>f9h h) [(23,_),(8,_),(21,_),(20,_),(22,_),(19,_)] (.cons c6a (.cons d61 (.cons c4g (.cons c0k (.cons b2t (.cons e4m .nil)))))) fun U fn hfn _ vs bs hv hb=>by
 have hi:=hfn 23 _ rfl
 have hp:=hfn 8 _ rfl
 have hl:=hfn 21 _ rfl
 have hs:=hfn 20 _ rfl
 have hr:=hfn 22 _ rfl
 have hL:=hfn 19 _ rfl
 have hv:l7 [] vs:=hv
 have hb:RBs [] bs:=hb
 show j5 U _ fun v bs'=>l8 (.ret (.c (.b true))) v∧RBs [] bs'
 unfold r6
 (refine Zq ?_;intros)
 refine j4 hl ([113,117,111,116,101]:i6) (r:=.a (sg (x7,[113,117,111,116,101]))) rfl (.k (.s _ _ _ rfl dE) .nil) .nil fun _ _ hv3 _=>?_
 have hv3:RV (.a [.s x7,.s [113,117,111,116,101]]) _:=hv3
 (refine Zq ?_;intros)
 rename_i xa ga
 refine j4 hs (x7,[113,117,111,116,101]) (r:=.a B0.g) rfl (.k (.a _ _ _ rfl ga) .nil) .nil fun _ _ hv4 _=>?_
 refine M5 hv4 (O.g_len _) fun qa ka=>?_
 (refine Zq ?_;intros)
 refine j4 hl ([97]:i6) (r:=.a (sg (x7,[97]))) rfl (.k (.s _ _ _ rfl dE) .nil) .nil fun _ _ hv5 _=>?_
 have hv5:RV (.a [.s x7,.s [97]]) _:=hv5
 (refine Zq ?_;intros)
 rename_i xb gb
 refine j4 hs (x7,[97]) (r:=.a mA8.g) rfl (.k (.a _ _ _ rfl gb) .nil) .nil fun _ _ hv6 _=>?_
 refine M5 hv6 (O.g_len _) fun qb kb=>?_
 (refine Zq ?_;intros)
 refine j4 hr ⟨([49],[50]),dE,dE⟩ (r:=.a fH.g) rfl (.k (.s _ _ _ rfl dE) (.k (.s _ _ _ rfl dE) .nil)) .nil fun _ _ hv7 _=>?_
 refine M5 hv7 (O.g_len _) fun qc kc=>?_
 (refine Zq ?_;intros)
 refine j4 hL ⟨[mA8,fH],dE⟩ (r:=.a fX.g) rfl (.k (.sl _ _ _ _ _ rfl (f6d kb kc)) .nil) .nil fun _ _ hv8 _=>?_
 refine M5 hv8 (O.g_len _) fun qd kd=>?_
 (refine Zq ?_;intros)
 refine j4 hL ⟨[B0,fX],dE⟩ (r:=.a mO8.g) rfl (.k (.sl _ _ _ _ _ rfl (f6d ka kd)) .nil) .nil fun _ _ hv9 _=>?_
 refine M5 hv9 (O.g_len _) fun qe ke=>?_
 (refine Zq ?_;intros)
 refine j4 hi () (r:=.fr 2 [pg (x7,[])]) rfl .nil .nil fun _ _ hv1 _=>?_
 refine f6h hv1 rfl fun t off ht=>?_
 (refine Zq ?_;intros)
 refine j4 hp ⟨(Q9,x7,mO8),b20,f8u⟩ (r:=.t [.c (.s [39,40,97,32,49,47,50,41]),.c (.i .i64 0)]) (by show r7.ret (prG Q9 x7 mO8)=_;unfold prG;rw [d93]) (.k (.sl _ _ _ _ _ rfl ht) (.k (.s _ _ _ rfl dE) (.k (oV aS) .nil))) .nil fun _ _ _ _=>?_
 (refine Zz ?_;intros)
 refine J3 fun e=>?_
 subst e
 exact ⟨.ret _ _ (U6 kR),.nil⟩
theorem f1u {L:List Pk} {cur s:i6} {o:O} (h:c7g L cur s=.ok o):b6i s.length (M4 L cur s)=.ret (.t [.a o.g,a81 0 0]):=by
 unfold c7g at h
 split at h
 ·cases h
 ·cases h
 ·rename_i x k hx
  injection h with h
  subst h
  rw [hx];rfl
 ·cases h
theorem d63:k9 42 (a9h (fun _ t=>∃ c,t=[c]) fun s t=>.c (.i .i64 (Lib.indexByte s (t.headD 0)))):=n9 (fun fn h=>f3s h) [(71,_)] (.cons d1e .nil) fun U fn hfn ⟨(s,t),c,hc⟩ vs bs hv hb=>by
 have hp:=hfn 71 _ rfl
 have hv:l7 [.c (.s s),.c (.s t)] vs:=hv
 have hb:RBs [] bs:=hb
 have hc:t=[c]:=hc
 subst hc
 show j5 U _ fun v bs'=>l8 (.ret (.c (.i .i64 (Lib.indexByte s c)))) v∧RBs [] bs'
 unfold r42
 (refine Zq ?_;intros)
 refine j4 hp ⟨(s,[c]),c,rfl⟩ (r:=.c (.i .i64 (Lib.indexByte s c))) rfl l5 .nil fun _ _ _ _=>?_
 (refine Zq ?_;intros)
 exact j9 ⟨.ret _ _ l5,.nil⟩
theorem c6d:k9 15 (a9h (fun _ t=>∃ c,t=[c]) fun s t=>.c (.b (decide (0≤Lib.indexByte s (t.headD 0))))):=n9 (fun fn h=>f2i h) [(42,_)] (.cons d63 .nil) fun U fn hfn ⟨(s,t),c,hc⟩ vs bs hv hb=>by
 have hp:=hfn 42 _ rfl
 have hv:l7 [.c (.s s),.c (.s t)] vs:=hv
 have hb:RBs [] bs:=hb
 have hc:t=[c]:=hc
 subst hc
 show j5 U _ fun v bs'=>l8 (.ret (.c (.b (decide (0≤Lib.indexByte s c))))) v∧RBs [] bs'
 unfold r15
 (refine Zq ?_;intros)
 refine j4 hp ⟨(s,[c]),c,rfl⟩ (r:=.c (.i .i64 (Lib.indexByte s c))) rfl l5 .nil fun _ _ _ _=>?_
 (refine Zq ?_;intros)
 exact J3 fun e=>by subst e;exact ⟨.ret _ _ (U6 (by rw [d3e])),.nil⟩
theorem c3l {s:i6} {T:List x5} (h:C7 s=.ok T):T.length≤s.length+1:=by
 unfold C7 at h
 split at h
 ·cases h
 ·obtain ⟨T',e,_,_,hl⟩:=a3d (s.length) oM (Nat.zero_le _) h
  subst e
  simp at hl ⊢
  omega
theorem d6q {R:List i6} {i:Nat} {s:i6} (h:R[i]?=some s):C3 (R.take (i+1))=C3 (R.take i) ++ (s ++ [10]):=by
 rw [List.take_add_one,h]
 simp [C3]
theorem c2d (R:List i6) (i:Nat):(C3 (R.take i)).length≤(C3 R).length:=by
 have:C3 R=C3 (R.take i) ++ C3 (R.drop i):=by
  rw [C3,C3,C3,← List.flatMap_append,List.take_append_drop]
 rw [this,List.length_append]
 omega
theorem d3v:k9 5 { ι:={ p:Raw × Int // (Lit.int .i64 p.2).wf=true },A:=fun p=>[.a p.1.1.g,.c (.i .i64 p.1.2)],B:=fun _=>[],R:=fun _=>.ret (.c (.b true)),B':=fun _=>[],inj:=fun _ _ _ _ _ _ _ _=>⟨rfl,rfl⟩ }:=n9 (fun fn h=>f9g h) [(6,_),(11,_),(12,_),(9,_),(8,_),(13,_),(15,_),(16,_),(17,_),(18,_)] (.cons e6m (.cons g1m (.cons (e6u e6i) (.cons d3w (.cons d61 (.cons e6o (.cons c6d (.cons f86 (.cons c6e (.cons f0w .nil)))))))))) fun U fn hfn ⟨(r,n),hwf⟩ vs bs hv hb=>by
 have hfi:=hfn 6 _ rfl
 have hfe:=hfn 11 _ rfl
 have hob:=hfn 12 _ rfl
 have hpk:=hfn 9 _ rfl
 have hpr:=hfn 8 _ rfl
 have hli:=hfn 13 _ rfl
 have hcn:=hfn 15 _ rfl
 have hon:=hfn 16 _ rfl
 have htk:=hfn 17 _ rfl
 have heq:=hfn 18 _ rfl
 obtain ⟨hn1,hn2⟩:=f7f (n:=n) hwf
 have hv:l7 [.a r.g,.c (.i .i64 n)] vs:=hv
 have hb:RBs [] bs:=hb
 show j5 U _ fun v bs'=>l8 (.ret (.c (.b true))) v∧RBs [] bs'
 unfold r5
 have good:j5 U (some (.ret (.known true),[])) fun v bs'=>l8 (.ret (.c (.b true))) v∧RBs [] bs':=j9 ⟨.ret _ _ (.kn _),.nil⟩
 (refine Zz ?_;intros)
 refine M5 aS (Raw.g_len _) fun q0 hq0=>?_
 (refine Zz ?_;intros)
 refine j4 hfi () (r:=.c (.b true)) rfl .nil .nil fun _ _ _ _=>?_
 (refine Zz ?_;intros)
 refine j4 hfe ⟨(r,40),show 40≤1000 by decide⟩ (r:=.c (.b (r.few 40))) rfl (.k (.a _ _ _ (Raw.g_len _).symm aS) (.k (.i _ _) .nil)) .nil fun _ _ _ _=>?_
 (refine Zz ?_;with_reducible repeat' first|intro _|apply aI)
 ·have hf:r.few 40=true:=‹_›
  have h9:=Raw.few_ok hf
  have ho:=d04 hf
  have hov:okV (z7 r):=⟨ho.2,oM⟩
  refine j4 hob ⟨r,h9.1⟩ (r:=.a (z7 r).g) rfl (.k (.a _ _ _ (Raw.g_len _).symm aS) .nil) .nil fun _ _ _ _=>?_
  refine M5 aS (O.g_len _) fun q1 hq1=>?_
  (refine Zz ?_;intros)
  refine j4 hpk () (r:=.sl 2 (L9.map pg)) rfl .nil .nil fun _ _ _ _=>?_
  (refine Zz ?_;intros)
  by_cases hbad:D2 L9 D4=none∨C9 L9 (z7 r)=false
  ·have e:D0 L9 D4 (z7 r)=([],13):=by unfold D0;rw [if_pos hbad]
   refine j4 hpr ⟨(L9,D4,z7 r),b2z,hov⟩ (r:=.t [.c (.s []),.c (.i .i64 13)]) (by show r7.ret (prG _ _ _)=_;unfold prG;rw [e]) (.k (.sl _ _ _ _ _ (by simp) aS) (.k (.s _ _ _ rfl rfl) (.k (oV aS) .nil))) .nil fun _ _ _ _=>?_
   (refine Zz ?_;intros)
   refine j4 hpk () (r:=.sl 2 (L9.map pg)) rfl .nil .nil fun _ _ _ _=>?_
   (refine Zz ?_;intros)
   refine j4 hli ⟨(L9,D4,z7 r,n),b2z,hov,hn1,hn2⟩ (r:=.t [.sl 1 [],.c (.i .i64 13)]) (congrArg r7.ret (d1q hbad)) (.k (.sl _ _ _ _ _ (by simp) aS) (.k (.s _ _ _ rfl rfl) (.k (oV aS) (.k (.i _ _) .nil)))) .nil fun _ _ _ _=>?_
   (refine Zz ?_;intros)
   exact J3 fun e=>by subst e;exact ⟨.ret _ _ (U6 (by rw [a62];rfl)),.nil⟩
  ·have e:D0 L9 D4 (z7 r)=(A4 L9 D4 (z7 r),0):=by unfold D0;rw [if_neg hbad]
   have hh:=d06 hbad
   have hc:D2 L9 D4 ≠ none:=fun h=>hbad (.inl h)
   obtain ⟨t1,t2,t3,t4⟩:=e3v (L:=L9) (cur:=D4) (w:=max n 0) hf
   obtain ⟨p1,T1,T2,p2,p3,p4⟩:=d33 hc (c4k hov hh) t1 t2 t3 t4
   have h1:=f1u p1
   have h1:b6i (C3 (C6 L9 D4 (z7 r) (max n 0))).length (M4 L9 D4 (C3 (C6 L9 D4 (z7 r) (max n 0))))=.ret (.t [.a (z7 r).g,a81 0 0]):=h1
   have t2:(C3 (C6 L9 D4 (z7 r) (max n 0))).length≤6000:=t2
   have p3:C7 (C3 (C6 L9 D4 (z7 r) (max n 0)))=.ok T2:=p3
   have hlb:=(a8e (L:=L9) (cur:=D4) (w:=max n 0) (b8d (c4k hov hh)) hov.size).1
   have hln:=c6t (L:=L9) (cur:=D4) (o:=z7 r) (w:=n) (v:=max n 0) hbad oM
   generalize C6 L9 D4 (z7 r) (max n 0)=R at h1 t2 p3 hlb hln
   generalize A4 L9 D4 (z7 r)=T at e t1 p2
   have k1:=c3l p2
   have k2:=c3l p3
   refine j4 hpr ⟨(L9,D4,z7 r),b2z,hov⟩ (r:=.t [.c (.s T),.c (.i .i64 0)]) (by show r7.ret (prG _ _ _)=_;unfold prG;rw [e]) (.k (.sl _ _ _ _ _ (by simp) aS) (.k (.s _ _ _ rfl rfl) (.k (oV aS) .nil))) .nil fun _ _ _ _=>?_
   (refine Zz ?_;intros)
   refine j4 hpk () (r:=.sl 2 (L9.map pg)) rfl .nil .nil fun _ _ _ _=>?_
   (refine Zz ?_;intros)
   refine j4 hli ⟨(L9,D4,z7 r,n),b2z,hov,hn1,hn2⟩ (r:=.t [.sl 1 (R.map sr),.c (.i .i64 0)]) (congrArg r7.ret hln) (.k (.sl _ _ _ _ _ (by simp) aS) (.k (.s _ _ _ rfl rfl) (.k (oV aS) (.k (.i _ _) .nil)))) .nil fun _ _ _ _=>?_
   (refine Zz ?_;intros)
   refine j4 hcn ⟨(T,[10]),10,rfl⟩ (r:=.c (.b (decide (0≤Lib.indexByte T 10)))) rfl (.k (.s _ _ _ rfl rfl) (.k (.s _ _ _ rfl (by show 10=n7 [10];decide)) .nil)) .nil fun _ _ _ _=>?_
   (refine Zz ?_;with_reducible repeat' first|intro _|apply aI)
   ·exact J3 fun e=>by subst e;exact ⟨.ret _ _ (U6 (by rw [a62];rfl)),.nil⟩
   have hlt2:2 * (C3 R).length≤12000:=oM
   refine H2 (fun (i:Nat) vs bs=>∃ (t:j8 Q) (o:Nat) (acc:i6) (q:Q),vs=[.ptr 0 0,.str T.length (n7 T),.slice t 1 o R.length .no,.str acc.length (n7 acc),.int .i64 i]∧bs=[.opa q 7]∧p9 1 (R.map sr) t o∧A6 (z7 r).g q 0∧acc=C3 (R.take i)∧i≤R.length) (fun i=>R.length - i) 0 ⟨_,_,[],_,by simp;exact ⟨⟨rfl,rfl⟩,rfl⟩,rfl,aS,aS,rfl,Nat.zero_le _⟩ (by simp only [C4];omega) ?_
   rintro self i _ _ ⟨t,o,acc,q,rfl,rfl,ht,hq,hacc,hi⟩ ih
   have hal:=c2d R i
   rw [← hacc] at hal
   (refine Zq ?_;with_reducible repeat' first|intro _|apply aI)
   ·have hil:i < R.length:=oM
    have hs:R[i]?=some R[i]:=List.getElem?_eq_getElem hil
    have hsn:=d6q hs
    have hbl:=c2d R (i+1)
    rw [hsn,← hacc,List.length_append,List.length_append] at hbl
    simp only [List.length_cons,List.length_nil] at hbl
    have hle:R.length < 100000:=oM
    (refine Zq ?_;intros)
    refine b3e (x:=R[i]) (y:=[10]) rfl rfl rfl ?_
    (refine Zq ?_;intros)
    refine b3e (x:=acc) (y:=R[i] ++ [10]) rfl (by simp) rfl ?_
    (refine Zq ?_;intros)
    refine ih (i+1) _ _ ⟨t,o,acc ++ (R[i] ++ [10]),q,?_,rfl,ht,hq,by rw [hacc,hsn],oM⟩ oM
    simp
   ·have hir:i=R.length:=oM
    subst hir
    rw [List.take_length] at hacc
    subst hacc
    refine j4 hpk () (r:=.sl 2 (L9.map pg)) rfl .nil .nil fun _ _ _ _=>?_
    (refine Zq ?_;intros)
    refine j4 hon ⟨(L9,D4,C3 R),b2z,by show (C3 R).length < 8000;omega⟩ (r:=.t [.a (z7 r).g,.a [.i .i64 0,.i .i64 0]]) h1 (.k (.sl _ _ _ _ _ (by simp) aS) (.k (.s _ _ _ rfl rfl) (.k (.s _ _ _ rfl rfl) .nil))) .nil fun _ _ hv1 _=>?_
    have hv1:RV (.t [.a (z7 r).g,.a [.i .i64 0,.i .i64 0]]) _:=hv1
    (refine Zq ?_;intros)
    refine M5 aS (O.g_len _) fun q2 hq2=>?_
    (refine Zq ?_;intros)
    refine j4 htk ⟨T,oM⟩ (r:=.t [.sl 5 (T1.map A7),.a [.i .i64 0,.i .i64 0]]) (congrArg b9n p2) (.k (.s _ _ _ rfl rfl) .nil) .nil fun _ _ hv2 _=>?_
    have hv2:RV (.t [.sl 5 (T1.map A7),.a [.i .i64 0,.i .i64 0]]) _:=hv2
    (refine Zq ?_;intros)
    refine j4 htk ⟨C3 R,oM⟩ (r:=.t [.sl 5 (T2.map A7),.a [.i .i64 0,.i .i64 0]]) (congrArg b9n p3) (.k (.s _ _ _ rfl rfl) .nil) .nil fun _ _ hv3 _=>?_
    have hv3:RV (.t [.sl 5 (T2.map A7),.a [.i .i64 0,.i .i64 0]]) _:=hv3
    (refine Zq ?_;with_reducible repeat' first|intro _|apply aI)
    refine j4 heq (z7 r,z7 r) (r:=.c (.b true)) (congrArg (fun b=>r7.ret (.c (.b b))) (O.eqb_t.2 rfl)) (.k oV oA) .nil fun _ _ _ _=>?_
    (refine Zq ?_;intros)
    exact J3 fun e=>by subst e;exact ⟨.ret _ _ (U6 (by rw [a62,p4];simp)),.nil⟩
    exact absurd rfl ‹¬(0:Int)=0›
 ·exact good
end
end Go.Proofs.YtdldcfllnohkeaaGreatDoor
