/- law6: packages, where, the sanity check. -/
import Derived.Test.YtffaodopiifbkaaGreatDoorCJ6
import Derived.Test.YtffaodopiifbkaaGreatDoorCJ2
set_option linter.all false
namespace Go.Proofs.YtffaodopiifbkaaGreatDoor
open Go.Abs LQ
set_option maxRecDepth 100000
set_option maxHeartbeats 8000000
noncomputable section
theorem a5r:l5 33 (sp0 (.sl 2 (D2.map pg))):=n6 (fun fn h=>f1b h) [(45,_),(52,_),(47,_)] (.cons c6e (.cons f0y (.cons c4m .nil))) fun U fn hfn _ vs bs hv hb=>by
 have hi:=hfn 45 _ rfl
 have hd:=hfn 52 _ rfl
 have hl:=hfn 47 _ rfl
 have hv:l8 [] vs:=hv
 have hb:j5 [] bs:=hb
 show j6 U _ fun v bs'=>l9 (.ret (.sl 2 (D2.map pg))) v∧j5 [] bs'
 unfold r33
 (refine Zq ?_;intros)
 refine j3 hi () (r:=.fr 2 [pg (u1,[])]) rfl .nil .nil fun _ _ hv1 _=>?_
 refine f58 hv1 rfl fun t off ht=>?_
 (refine Zq ?_;intros)
 refine j3 hl ([99,97,114]:i6) (r:=.a (sg (u1,[99,97,114]))) rfl (.k (.s _ _ _ rfl dE) .nil) .nil fun _ _ hv3 _=>?_
 have hv3:RV (.a [.s u1,.s [99,97,114]]) _:=hv3
 (refine Zq ?_;intros)
 refine j3 hl ([110,105,108]:i6) (r:=.a (sg (u1,[110,105,108]))) rfl (.k (.s _ _ _ rfl dE) .nil) .nil fun _ _ hv4 _=>?_
 have hv4:RV (.a [.s u1,.s [110,105,108]]) _:=hv4
 (refine Zq ?_;intros)
 refine j3 hl ([116]:i6) (r:=.a (sg (u1,[116]))) rfl (.k (.s _ _ _ rfl dE) .nil) .nil fun _ _ hv5 _=>?_
 have hv5:RV (.a [.s u1,.s [116]]) _:=hv5
 (refine Zq ?_;intros)
 refine j3 hd ⟨c5t,e9g⟩ (r:=.t [.sl 2 (D2.map pg),.c (.i .i64 0)]) rfl (.k (.sl _ _ _ _ _ rfl ht) (.k (.ag _ _ (.k (.s _ _ _ rfl dE) (.k (.cl _ _ _ _ _ rfl (f8q aS aS aS)) .nil))) .nil)) .nil fun _ _ hv6 _=>?_
 (refine Zq ?_;intros)
 exact k9 ⟨.ret _ _ (.sl _ _ _ _ _ (by simp) aS),.nil⟩
def b9s:List i6:=[D1,u1,n5 4 1701736302]
def F5 (n:Int):i6:=b9s.getD (n % 3).toNat []
theorem c66:l5 34 (e48 fun n=>.c (.s (F5 n))):=n6 (fun fn h=>f4y h) [(29,_)] (.cons e3w .nil) fun U fn hfn (n:Int) vs bs hv hb=>by
 have hM:=hfn 29 _ rfl
 change l8 [.c (.i .i64 n)] vs at hv
 change j5 [] bs at hb
 show j6 U _ fun v bs'=>l9 (.ret (.c (.s (F5 n)))) v∧j5 [] bs'
 unfold r34
 (refine Zq ?_;intros)
 refine j3 hM ⟨(n,3),show 0 < 3 by decide,show 3 < 1000000 by decide⟩ (r:=.c (.i .i64 (n % 3))) rfl (.k (.i _ _) (.k (.i _ _) .nil)) .nil fun _ _ _ _=>?_
 have h1:0≤n % 3:=Int.emod_nonneg _ dE
 have h2:n % 3 < 3:=Int.emod_lt_of_pos _ dE
 unfold F5
 generalize n % 3=z at *
 obtain ⟨k,rfl⟩:∃ k:Nat,z=k:=⟨z.toNat,oM⟩
 (refine Zq ?_;intros)
 rw [Int.toNat_natCast]
 have hk:k < b9s.length:=by show k < 3;omega
 refine sfT (xs:=b9s.map fun s=>[.s s]) (r:=[.s (b9s.getD k [])]) (n:=1) (a5q (b98 2) (by rfl)) (by rw [Int.toNat_natCast,List.getElem?_map,List.getElem?_eq_getElem hk];simp [List.getD,List.getElem?_eq_getElem hk]) fun _ _=>?_
 (refine Zq ?_;intros)
 exact k9 ⟨.ret _ _ (.q _ _ aS),.nil⟩
def mA8:O:=.sy (u1,[97])
def fH:O:=a3s (qn (j0 [49]) (j0 [50]))
def fX:O:=E7 [mA8,fH]
def mO8:O:=E7 [z8,fX]
theorem f72:fH=.num 1 2:=kR
theorem e9h:C1 Q4 u1 mO8=[39,40,97,32,49,47,50,41]:=by
 have e1:mO8=.co z8 (.co fX x8):=rfl
 have e2:fX=.co mA8 (.co fH x8):=rfl
 rw [c1x (a0c.2 e1),e2,c29]
 ·have e3:(pT Q4 u1 (.co fH x8)).2.1=32 :: (C1 Q4 u1 fH ++ (pT Q4 u1 x8).2.1):=rfl
  have e4:(pT Q4 u1 x8).2.1=[41]:=if_pos rfl
  have e5:C1 Q4 u1 fH=[49,47,50]:=by rw [f72];show X2 1 2=_;kernel_rfl
  have e6:C1 Q4 u1 mA8=[97]:=by show (G2 Q4 u1 (u1,[97])).1=_;kernel_rfl
  rw [e3,e4,e5,e6];rfl
 ·cases h:M7 (.co mA8 (.co fH x8)) with
  | none=>rfl
  | some x =>
   have:=a0c.1 h
   injection this with h1 _
   injection h1 with h1
   injection h1 with _ h1
   exact absurd h1 dE
theorem f73:okV mO8:=⟨kR,Nat.le_of_ble_eq_true kR⟩
theorem e1m:G7 Q4 u1 mO8=([39,40,97,32,49,47,50,41],0):=by
 unfold G7
 rw [if_neg,e9h]
 rintro (h | h)
 ·cases (show (some (u1,[]):Option Pk)=none from h)
 ·cases (show true=false from (show C7 Q4 mO8=true by kernel_rfl).symm.trans h)
theorem f18 {a b:O} {x y:Q} (h1:A8 a.g x 0) (h2:A8 b.g y 0):r7 7 ([a,b].map O.g) (.node x (.node y .nil .nil) .nil) 0:=.of fun j r h=>by
 match j,h with
 | 0,h=>simp at h;subst h;exact f6u h1
 | 1,h=>simp at h;subst h;exact f6u h2
 | j+2,h=>simp at h
theorem b30:l5 30 (sp0 (.c (.b true))):=n6 (fun fn h=>f65 h) [(45,_),(38,_),(47,_),(43,_),(48,_),(46,_)] (.cons c6e (.cons c50 (.cons c4m (.cons b4p (.cons b2l (.cons e5e .nil)))))) fun U fn hfn _ vs bs hv hb=>by
 have hi:=hfn 45 _ rfl
 have hp:=hfn 38 _ rfl
 have hl:=hfn 47 _ rfl
 have hs:=hfn 43 _ rfl
 have hr:=hfn 48 _ rfl
 have hL:=hfn 46 _ rfl
 have hv:l8 [] vs:=hv
 have hb:j5 [] bs:=hb
 show j6 U _ fun v bs'=>l9 (.ret (.c (.b true))) v∧j5 [] bs'
 unfold r30
 (refine Zq ?_;intros)
 refine j3 hl ([113,117,111,116,101]:i6) (r:=.a (sg (u1,[113,117,111,116,101]))) rfl (.k (.s _ _ _ rfl dE) .nil) .nil fun _ _ hv3 _=>?_
 have hv3:RV (.a [.s u1,.s [113,117,111,116,101]]) _:=hv3
 (refine Zq ?_;intros)
 rename_i xa ga
 refine j3 hs (u1,[113,117,111,116,101]) (r:=.a z8.g) rfl (.k (.a _ _ _ rfl ga) .nil) .nil fun _ _ hv4 _=>?_
 refine L0 hv4 (O.g_len _) fun qa ka=>?_
 (refine Zq ?_;intros)
 refine j3 hl ([97]:i6) (r:=.a (sg (u1,[97]))) rfl (.k (.s _ _ _ rfl dE) .nil) .nil fun _ _ hv5 _=>?_
 have hv5:RV (.a [.s u1,.s [97]]) _:=hv5
 (refine Zq ?_;intros)
 rename_i xb gb
 refine j3 hs (u1,[97]) (r:=.a mA8.g) rfl (.k (.a _ _ _ rfl gb) .nil) .nil fun _ _ hv6 _=>?_
 refine L0 hv6 (O.g_len _) fun qb kb=>?_
 (refine Zq ?_;intros)
 refine j3 hr ⟨([49],[50]),dE,dE⟩ (r:=.a fH.g) rfl (.k (.s _ _ _ rfl dE) (.k (.s _ _ _ rfl dE) .nil)) .nil fun _ _ hv7 _=>?_
 refine L0 hv7 (O.g_len _) fun qc kc=>?_
 (refine Zq ?_;intros)
 refine j3 hL ⟨[mA8,fH],dE⟩ (r:=.a fX.g) rfl (.k (.sl _ _ _ _ _ rfl (f18 kb kc)) .nil) .nil fun _ _ hv8 _=>?_
 refine L0 hv8 (O.g_len _) fun qd kd=>?_
 (refine Zq ?_;intros)
 refine j3 hL ⟨[z8,fX],dE⟩ (r:=.a mO8.g) rfl (.k (.sl _ _ _ _ _ rfl (f18 ka kd)) .nil) .nil fun _ _ hv9 _=>?_
 refine L0 hv9 (O.g_len _) fun qe ke=>?_
 (refine Zq ?_;intros)
 refine j3 hi () (r:=.fr 2 [pg (u1,[])]) rfl .nil .nil fun _ _ hv1 _=>?_
 refine f58 hv1 rfl fun t off ht=>?_
 (refine Zq ?_;intros)
 refine j3 hp ⟨(Q4,u1,mO8),b28,f73⟩ (r:=.t [.c (.s [39,40,97,32,49,47,50,41]),.c (.i .i64 0)]) (by show s8.ret (prG Q4 u1 mO8)=_;unfold prG;rw [e1m]) (.k (.sl _ _ _ _ _ rfl ht) (.k (.s _ _ _ rfl dE) (.k (oV aS) .nil))) .nil fun _ _ _ _=>?_
 (refine Zz ?_;intros)
 refine L7 fun e=>?_
 subst e
 exact ⟨.ret _ _ (V9 kR),.nil⟩
theorem c61 {L:List Pk} {cur s:i6} {o:O} (h:a84 L cur s=.ok o):b16 s.length (H6 L cur s)=.ret (.t [.a o.g,a6u 0 0]):=by
 unfold a84 at h
 split at h
 ·cases h
 ·cases h
 ·rename_i x k hx
  injection h with h
  subst h
  rw [hx];rfl
 ·cases h
theorem rvU:RV (.c (.s D1)) (.str 4 1919251317):=.s _ _ _ rfl dE
end
end Go.Proofs.YtffaodopiifbkaaGreatDoor
