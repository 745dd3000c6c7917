/- law6: packages, where, the sanity check. -/
import Derived.Test.YtdldcfllnohkeaaGreatDoorKJ2
import Derived.Test.YtdldcfllnohkeaaGreatDoorKJ9
set_option linter.all false
namespace Go.Proofs.YtdldcfllnohkeaaGreatDoor
open Go.Abs LQ
set_option maxRecDepth 100000
set_option maxHeartbeats 8000000
noncomputable section
theorem d0o:j3 9 (sp0 (.sl 2 (a5l.map pg))):=k7 (fun fn h=>f6a h) [(23,_),(27,_),(21,_)] (.cons c3h (.cons e3a (.cons b50 .nil))) fun U fn hfn _ vs bs hv hb=>by
 have hi:=hfn 23 _ rfl
 have hd:=hfn 27 _ rfl
 have hl:=hfn 21 _ rfl
 have hv:j5 [] vs:=hv
 have hb:RBs [] bs:=hb
 show g7 U _ fun v bs'=>j6 (.ret (.sl 2 (a5l.map pg))) v∧RBs [] bs'
 unfold r9
 (refine Zq ?_;intros)
 refine f6 hi () (r:=.fr 2 [pg (u0,[])]) rfl .nil .nil fun _ _ hv1 _=>?_
 refine f2s hv1 rfl fun t off ht=>?_
 (refine Zq ?_;intros)
 refine f6 hl ([99,97,114]:f5) (r:=.a (sg (u0,[99,97,114]))) rfl (.k (.s _ _ _ rfl dE) .nil) .nil fun _ _ hv3 _=>?_
 have hv3:RV (.a [.s u0,.s [99,97,114]]) _:=hv3
 (refine Zq ?_;intros)
 refine f6 hl ([110,105,108]:f5) (r:=.a (sg (u0,[110,105,108]))) rfl (.k (.s _ _ _ rfl dE) .nil) .nil fun _ _ hv4 _=>?_
 have hv4:RV (.a [.s u0,.s [110,105,108]]) _:=hv4
 (refine Zq ?_;intros)
 refine f6 hl ([116]:f5) (r:=.a (sg (u0,[116]))) rfl (.k (.s _ _ _ rfl dE) .nil) .nil fun _ _ hv5 _=>?_
 have hv5:RV (.a [.s u0,.s [116]]) _:=hv5
 (refine Zq ?_;intros)
 refine f6 hd ⟨d7a,e26⟩ (r:=.t [.sl 2 (a5l.map pg),.c (.i .i64 0)]) rfl (.k (.sl _ _ _ _ _ rfl ht) (.k (.ag _ _ (.k (.s _ _ _ rfl dE) (.k (.cl _ _ _ _ _ rfl (f6d aS aS aS)) .nil))) .nil)) .nil fun _ _ hv6 _=>?_
 (refine Zq ?_;intros)
 exact g9 ⟨.ret _ _ (.sl _ _ _ _ _ (by simp) aS),.nil⟩
def mA8:O:=.sy (u0,[97])
def fH:O:=b1f (qn (f7 [49]) (f7 [50]))
def fX:O:=Q5 [mA8,fH]
def mO8:O:=Q5 [z7,fX]
theorem f5n:fH=.num 1 2:=kR
theorem e2z:o8 N9 u0 mO8=[39,40,97,32,49,47,50,41]:=by
 have e1:mO8=.co z7 (.co fX A5):=rfl
 have e2:fX=.co mA8 (.co fH A5):=rfl
 rw [a6q (R0.2 e1),e2,a6p]
 ·have e3:(pT N9 u0 (.co fH A5)).2.1=32 :: (o8 N9 u0 fH ++ (pT N9 u0 A5).2.1):=rfl
  have e4:(pT N9 u0 A5).2.1=[41]:=if_pos rfl
  have e5:o8 N9 u0 fH=[49,47,50]:=by rw [f5n];show b4f 1 2=_;kernel_rfl
  have e6:o8 N9 u0 mA8=[97]:=by show (H9 N9 u0 (u0,[97])).1=_;kernel_rfl
  rw [e3,e4,e5,e6];rfl
 ·cases h:A7 (.co mA8 (.co fH A5)) with
  | none=>rfl
  | some x =>
   have:=R0.1 h
   injection this with h1 _
   injection h1 with h1
   injection h1 with _ h1
   exact absurd h1 dE
theorem f5o:okV mO8:=⟨kR,Nat.le_of_ble_eq_true kR⟩
theorem d61:x7 N9 u0 mO8=([39,40,97,32,49,47,50,41],0):=by
 unfold x7
 rw [if_neg,e2z]
 rintro (h | h)
 ·cases (show (some (u0,[]):Option Pk)=none from h)
 ·cases (show true=false from (show t8 N9 mO8=true by kernel_rfl).symm.trans h)
theorem f2n {a b:O} {x y:Q} (h1:u6 a.g x 0) (h2:u6 b.g y 0):m7 7 ([a,b].map O.g) (.node x (.node y .nil .nil) .nil) 0:=.of fun j r h=>by
 match j,h with
 | 0,h=>simp at h;subst h;exact f2i h1
 | 1,h=>simp at h;subst h;exact f2i h2
 | j+2,h=>simp at h
theorem e3c:j3 6 (sp0 (.c (.b true))):=k7 (fun fn h=>f57 h) [(23,_),(8,_),(21,_),(20,_),(22,_),(19,_)] (.cons c3h (.cons e7q (.cons b50 (.cons b2m (.cons b1b (.cons e1a .nil)))))) fun U fn hfn _ vs bs hv hb=>by
 have hi:=hfn 23 _ rfl
 have hp:=hfn 8 _ rfl
 have hl:=hfn 21 _ rfl
 have hs:=hfn 20 _ rfl
 have hr:=hfn 22 _ rfl
 have hL:=hfn 19 _ rfl
 have hv:j5 [] vs:=hv
 have hb:RBs [] bs:=hb
 show g7 U _ fun v bs'=>j6 (.ret (.c (.b true))) v∧RBs [] bs'
 unfold r6
 (refine Zq ?_;intros)
 refine f6 hl ([113,117,111,116,101]:f5) (r:=.a (sg (u0,[113,117,111,116,101]))) rfl (.k (.s _ _ _ rfl dE) .nil) .nil fun _ _ hv3 _=>?_
 have hv3:RV (.a [.s u0,.s [113,117,111,116,101]]) _:=hv3
 (refine Zq ?_;intros)
 rename_i xa ga
 refine f6 hs (u0,[113,117,111,116,101]) (r:=.a z7.g) rfl (.k (.a _ _ _ rfl ga) .nil) .nil fun _ _ hv4 _=>?_
 refine M5 hv4 (O.g_len _) fun qa ka=>?_
 (refine Zq ?_;intros)
 refine f6 hl ([97]:f5) (r:=.a (sg (u0,[97]))) rfl (.k (.s _ _ _ rfl dE) .nil) .nil fun _ _ hv5 _=>?_
 have hv5:RV (.a [.s u0,.s [97]]) _:=hv5
 (refine Zq ?_;intros)
 rename_i xb gb
 refine f6 hs (u0,[97]) (r:=.a mA8.g) rfl (.k (.a _ _ _ rfl gb) .nil) .nil fun _ _ hv6 _=>?_
 refine M5 hv6 (O.g_len _) fun qb kb=>?_
 (refine Zq ?_;intros)
 refine f6 hr ⟨([49],[50]),dE,dE⟩ (r:=.a fH.g) rfl (.k (.s _ _ _ rfl dE) (.k (.s _ _ _ rfl dE) .nil)) .nil fun _ _ hv7 _=>?_
 refine M5 hv7 (O.g_len _) fun qc kc=>?_
 (refine Zq ?_;intros)
 refine f6 hL ⟨[mA8,fH],dE⟩ (r:=.a fX.g) rfl (.k (.sl _ _ _ _ _ rfl (f2n kb kc)) .nil) .nil fun _ _ hv8 _=>?_
 refine M5 hv8 (O.g_len _) fun qd kd=>?_
 (refine Zq ?_;intros)
 refine f6 hL ⟨[z7,fX],dE⟩ (r:=.a mO8.g) rfl (.k (.sl _ _ _ _ _ rfl (f2n ka kd)) .nil) .nil fun _ _ hv9 _=>?_
 refine M5 hv9 (O.g_len _) fun qe ke=>?_
 (refine Zq ?_;intros)
 refine f6 hi () (r:=.fr 2 [pg (u0,[])]) rfl .nil .nil fun _ _ hv1 _=>?_
 refine f2s hv1 rfl fun t off ht=>?_
 (refine Zq ?_;intros)
 refine f6 hp ⟨(N9,u0,mO8),b1h,f5o⟩ (r:=.t [.c (.s [39,40,97,32,49,47,50,41]),.c (.i .i64 0)]) (by show n6.ret (prG N9 u0 mO8)=_;unfold prG;rw [d61]) (.k (.sl _ _ _ _ _ rfl ht) (.k (.s _ _ _ rfl dE) (.k (oV aS) .nil))) .nil fun _ _ _ _=>?_
 (refine Zz ?_;intros)
 refine G7 fun e=>?_
 subst e
 exact ⟨.ret _ _ (P9 kR),.nil⟩
theorem c08:j3 4 { ι:={ p:Raw × Int // (Lit.int .i64 p.2).wf=true },A:=fun p=>[.a p.1.1.g,.c (.i .i64 p.1.2)],B:=fun _=>[],R:=fun _=>.ret (.c (.b true)),B':=fun _=>[],inj:=fun _ _ _ _ _ _ _ _=>⟨rfl,rfl⟩ }:=k7 (fun fn h=>f56 h) [(6,_),(11,_),(12,_),(9,_),(13,_),(14,_)] (.cons e3c (.cons f8l (.cons (e3o e28) (.cons d0o (.cons e3j (.cons e3g .nil)))))) fun U fn hfn ⟨(r,n),hwf⟩ vs bs hv hb=>by
 have hfi:=hfn 6 _ rfl
 have hfe:=hfn 11 _ rfl
 have hob:=hfn 12 _ rfl
 have hpk:=hfn 9 _ rfl
 have hpr:=hfn 13 _ rfl
 have hp6:=hfn 14 _ rfl
 obtain ⟨hn1,hn2⟩:=f4a (n:=n) hwf
 have hv:j5 [.a r.g,.c (.i .i64 n)] vs:=hv
 have hb:RBs [] bs:=hb
 show g7 U _ fun v bs'=>j6 (.ret (.c (.b true))) v∧RBs [] bs'
 unfold r4
 have good:g7 U (some (.ret (.known true),[])) fun v bs'=>j6 (.ret (.c (.b true))) v∧RBs [] bs':=g9 ⟨.ret _ _ (.kn _),.nil⟩
 (refine Zz ?_;intros)
 refine M5 aS (Raw.g_len _) fun q0 hq0=>?_
 (refine Zz ?_;intros)
 refine f6 hfi () (r:=.c (.b true)) rfl .nil .nil fun _ _ _ _=>?_
 (refine Zz ?_;intros)
 refine f6 hfe ⟨(r,40),show 40≤1000 by decide⟩ (r:=.c (.b (r.few 40))) rfl (.k (.a _ _ _ (Raw.g_len _).symm aS) (.k (.i _ _) .nil)) .nil fun _ _ _ _=>?_
 (refine Zz ?_;with_reducible repeat' first|intro _|apply aI)
 ·have hf:r.few 40=true:=‹_›
  have h9:=Raw.few_ok hf
  have ho:=e20 hf
  have hov:okV (D3 r):=⟨ho.2,oM⟩
  refine f6 hob ⟨r,h9.1⟩ (r:=.a (D3 r).g) rfl (.k (.a _ _ _ (Raw.g_len _).symm aS) .nil) .nil fun _ _ _ _=>?_
  refine M5 aS (O.g_len _) fun q1 hq1=>?_
  (refine Zz ?_;intros)
  refine f6 hpk () (r:=.sl 2 (a5l.map pg)) rfl .nil .nil fun _ _ _ _=>?_
  (refine Zz ?_;intros)
  obtain ⟨R,E,hR,hRl⟩:∃ (R:List f5) (E:Int),a9a a5l J4 (D3 r) n=.t [.sl 1 (R.map sr),.c (.i .i64 E)]∧R.length≤1501:=by
   refine ⟨_,_,rfl,?_⟩
   split
   ·exact (a06 (a9f (b6e hov (by
     have h0:=‹(x7 a5l J4 (D3 r)).2=0›
     unfold x7 at h0
     split at h0
     ·cases h0
     ·rename_i hh;cases hx:t8 a5l (D3 r) with
      | true=>rfl
      | false=>exact absurd (.inr hx) hh))) hov.size).1
   ·exact Nat.zero_le _
  refine f6 hpr ⟨(a5l,J4,D3 r,n),d4j,hov,hn1,hn2⟩ (r:=.t [.sl 1 (R.map sr),.c (.i .i64 E)]) (congrArg n6.ret hR) (.k (.sl _ _ _ _ _ (by simp) aS) (.k (.s _ _ _ rfl rfl) (.k (oV aS) (.k (.i _ _) .nil)))) .nil fun _ _ _ _=>?_
  (refine Zz ?_;intros)
  refine f6 hpk () (r:=.sl 2 (a5l.map pg)) rfl .nil .nil fun _ _ _ _=>?_
  (refine Zz ?_;intros)
  refine f6 hp6 ⟨(a5l,J4,D3 r,n),d4j,hov,hn1,hn2⟩ (r:=.t [.sl 1 (R.map sr),.c (.i .i64 E)]) (congrArg n6.ret hR) (.k (.sl _ _ _ _ _ (by simp) aS) (.k (.s _ _ _ rfl rfl) (.k (oV aS) (.k (.i _ _) .nil)))) .nil fun _ _ _ _=>?_
  (refine Zz ?_;with_reducible repeat' first|intro _|apply aI)
  all_goals first
   | exact absurd rfl ‹¬E=E›
   | exact absurd rfl ‹¬(R.length:Int)=R.length›
   | skip
  refine E1 (fun (i:Nat) vs bs=>∃ (t1 t2:i7 Q) (o1 o2:Nat),vs=[.slice t1 1 o1 R.length .no,.slice t2 1 o2 R.length .no,.int .i64 i]∧bs=[]∧m7 1 (R.map sr) t1 o1∧m7 1 (R.map sr) t2 o2∧i≤R.length) (fun i=>R.length - i) 0 ⟨_,_,_,_,by simp;exact ⟨⟨rfl,rfl⟩,rfl,rfl⟩,rfl,aS,aS,oM⟩ (by simp only [x8];omega) ?_
  rintro self i _ _ ⟨t1,t2,o1,o2,rfl,rfl,ht1,ht2,hi⟩ ih
  (refine Zq ?_;with_reducible repeat' first|intro _|apply aI)
  all_goals first
   | exact ih (i+1) _ _ ⟨t1,t2,o1,o2,rfl,rfl,ht1,ht2,oM⟩ oM
   | exact g9 ⟨.ret _ _ (.kn _),.nil⟩
   | contradiction
   | skip
 ·exact good
end
end Go.Proofs.YtdldcfllnohkeaaGreatDoor
