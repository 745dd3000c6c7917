/- Rules for parts of strings, for concatenation, for failures. -/
import Derived.Test.YtffaodopiifbkaaGreatDoorCR5e
import Derived.Test.YtffaodopiifbkaaGreatDoorCS
import Derived.Test.YtffaodopiifbkaaGreatDoorCN
set_option linter.all false
namespace Go.Abs
theorem f2s (n:Nat):2 ^ (8 * n)=256 ^ n:=by rw [Nat.pow_mul]
theorem d2x:∀ s:List UInt8,p9 s < 256 ^ s.length
 | []=>by simp [p9]
 | b :: l=>by
  have h1:=d2x l
  have h2:=b.toNat_lt
  simp only [p9,List.length_cons,Nat.pow_succ]
  omega
theorem b6a:∀ (l c:Nat),c < 256 ^ l→p9 (n5 l c)=c
 | 0,c,h=>by simp at h;subst h;rfl
 | l+1,c,h=>by
  rw [Nat.pow_succ] at h
  simp only [n5,p9]
  rw [b6a l (c / 256) oM,UInt8.toNat_ofNat']
  omega
theorem d7l {s:List UInt8} {a b:Nat} (h1:a≤b) (h2:b≤s.length):sSub (p9 s) a (b - a)=p9 ((s.take b).drop a):=by
 have h:=d2b (c:=p9 s) h1 h2
 rw [C0] at h
 rw [h,b6a]
 unfold sSub
 show Nat.mod _ (1 <<< (8 * (b - a))) < _
 rw [Nat.one_shiftLeft,f2s]
 exact Nat.mod_lt _ (Nat.pow_pos dE)
theorem c2t (x y:List UInt8):sCat x.length (p9 x) (p9 y)=p9 (x ++ y):=by
 have h:=d1e x.length (p9 x) y.length (p9 y)
 rw [C0,C0] at h
 rw [h,b6a]
 unfold sCat
 show Nat.mod (p9 x) (1 <<< (8 * x.length))+p9 y <<< (8 * x.length) < _
 rw [Nat.one_shiftLeft,Nat.shiftLeft_eq,f2s,Nat.pow_add]
 have h1:=d2x y
 have h2:Nat.mod (p9 x) (256 ^ x.length) < 256 ^ x.length:=Nat.mod_lt _ (Nat.pow_pos dE)
 have h3:=Nat.mul_le_mul_right (256 ^ x.length) h1
 rw [Nat.succ_mul] at h3
 rw [Nat.mul_comm (256 ^ x.length)]
 omega
theorem e7h {s:List UInt8} {a b:Nat} (h1:a≤b) (h2:b≤s.length):((s.take b).drop a).length=b - a:=by simp;omega
section
variable {U:x5} {P:L3→List Bx→Prop}
theorem e5z {s:List UInt8} {a b:Int} {K:Nat→Nat→Om} (h:0≤a∧a≤b∧b≤s.length) (k:j6 U (K ((s.take b.toNat).drop a.toNat).length (p9 ((s.take b.toNat).drop a.toNat))) P) :
  j6 U (U.fN (U.nSub (U.iNat b) (U.iNat a)) fun m=>U.fN (U.sSub (p9 s) (U.iNat a) m) fun d=>K m d) P:=fun e=>by
 have:=k e
 subst e
 rw [b1g,b1g]
 show ∃ v bs,K (iNat b - iNat a) (sSub (p9 s) (iNat a) (iNat b - iNat a))=some (v,bs)∧P v bs
 rw [F9,F9,d7l (show a.toNat≤b.toNat by omega) oM,← e7h (s:=s) (show a.toNat≤b.toNat by omega) oM]
 exact this
theorem f8t {s:List UInt8} {a:Int} {K:Nat→Nat→Om} (h:0≤a∧a≤s.length) (k:j6 U (K (s.drop a.toNat).length (p9 (s.drop a.toNat))) P) :
  j6 U (U.fN (U.nSub (U.iNat (U.iOfN s.length)) (U.iNat a)) fun m=>U.fN (U.sSub (p9 s) (U.iNat a) m) fun d=>K m d) P:=fun e=>by
 have:=k e
 subst e
 refine e5z (b:=(s.length:Int)) ⟨h.1,h.2,Int.le_refl _⟩ ?_ rfl
 rw [Int.toNat_natCast,List.take_length]
 exact fun _=>this
theorem d8z {n:Nat}:L9 U (U.iLe (U.iOfN n) (U.iOfN n)) (n≤n):=fun e=>by subst e;exact ⟨fun _=>Nat.le_refl _,fun _=>(a68 (U:=CU) rfl).2 (Int.le_refl _)⟩
theorem d6t {e m:Int} {K:Int→Om} (he:e=m) (hr:-2147483648≤m∧m < 2147483648) (h:j6 U (K m) P):j6 U (U.fI (U.wr .i32 e) K) P:=fun e'=>by
 have:=h e';subst e' he;rw [Z6]
 show ∃ v bs,K (wr .i32 e)=some (v,bs)∧P v bs
 rw [a3e,a4s .i32 _ (by show _ < ((2147483648:Nat):Int);omega) (by show -((2147483648:Nat):Int)≤_;omega)]
 exact this
theorem f9g {a b:Int} {K:Int→Om} (h:j6 U (K (a.tdiv b)) P):j6 U (U.fI (U.iQuo a b) K) P:=fun e=>by
 have:=h e;subst e;rw [Z6]
 show ∃ v bs,K (iQuo a b)=some (v,bs)∧P v bs
 rw [b4s];exact this
theorem g1t {k:IntKind} {n:Int} {x:Q} {K:IntKind→Int→Om} (hx:RG (.i k n) x) (h:j6 U (K k n) P):j6 U (U.cI0 x K) P:=fun e=>by
 have:=h e;subst e;cases hx;exact this
end
end Go.Abs
namespace Go.Proofs.YtffaodopiifbkaaGreatDoor
open Go.Abs LQ
theorem Zq {p q:Prop} (k:q) (h:Tr p q:=by ((repeat' (first | (with_reducible apply Tr.all) | (with_reducible intro _) | (apply Tr.b;(case f=>first | exact b9b | exact a2x aS | exact c7l | exact b35 aS | exact b7f | exact a7d aS | exact b14 | exact b31 aS | exact sP | exact sPR aS | exact sIV | exact sI aS | exact sBV | exact sBK | exact sB aS | exact sSV | exact sS aS | exact sA | exact L0 aS (by rfl) | exact b97 (by rfl) | exact c8r (by rfl) | exact c4n aS (by rfl) | exact c7q aS (by rfl) | exact d5s aS | exact sSl aS | exact sTu aS | exact sBo | exact a7l aS (by rfl) | exact sBc | exact d3q aS | exact sBt | exact sBs | exact sBr | exact a2j aS | exact b84 aS | exact b8w aS (by rfl) | exact d31 aS (by rfl) | exact sCI' aS (by rfl) | exact sCB' aS (by rfl) | exact sCS aS | exact sCI aS | exact sCB aS | exact b7h (by first | omega | (simp only [List.length_map] at *;omega)) | exact b9t (by first | omega | (simp only [List.length_map] at *;omega)) | exact c39 | exact f8t (by first | omega | (simp only [List.length_map] at *;omega)) | exact e5z (by first | omega | (simp only [List.length_map] at *;omega)) | exact sCI0' aS (by rfl) | exact g1t aS | exact b3u | exact b3z | exact c4f | exact b9v | exact b9i | exact sfSubN | exact b3y | exact sfBSelE | exact sfB | exact sJn | exact c4t | exact c4u | exact c4s | exact E2 aS (by (first | exact A3 O.g_len | exact A3 (fun _=>rfl))) | exact b19 aS (by (first | exact A3 O.g_len | exact A3 (fun _=>rfl))) | exact c4r (by first | omega | (simp only [List.length_map] at *;omega)) | exact b9o (by first | omega | (simp only [List.length_map] at *;omega)) | exact d4s aS (by first | assumption | omega | (simp only [List.length_map] at *;omega)) | exact sfT aS (by rfl))) | (apply Tr.chk;(case ht=>(repeat' (first | exact d8z | exact trT | exact trF | apply a5u | apply a6b | exact a5n | exact a5w | exact a7p | exact a68 | exact a7r | exact a2m | exact a2z | exact a2y | exact a2k | exact a2o | exact a5s | exact b1c | exact b0u | exact trS | exact trV)));(case hp=>first | omega | (simp only [List.length_map] at *;omega))) | (apply Tr.cnd;(case ht=>(repeat' (first | exact d8z | exact trT | exact trF | apply a5u | apply a6b | exact a5n | exact a5w | exact a7p | exact a68 | exact a7r | exact a2m | exact a2z | exact a2y | exact a2k | exact a2o | exact a5s | exact b1c | exact b0u | exact trS | exact trV))))));all_goals exact Tr.refl)):p:=h.go k
end Go.Proofs.YtffaodopiifbkaaGreatDoor
namespace Go.Proofs.YtffaodopiifbkaaGreatDoor
open Go.Abs LQ Go.RowKit
set_option maxRecDepth 100000
set_option maxHeartbeats 4000000
noncomputable section
theorem L1 {P:Program} {G:b27} {f:FuncId} {ds:List D} {d:D} (hcall:∀ args w,(callFunc f args).run P w=.ok (.enter f args) w)
  (h:∀ (w:World) (S:m9) (M:Mp) (vs:List Value),G.pred w→S.within w→v8 S M w vs ds→Calls P f vs.toArray w fun e w'=>Below w.heap.size w w'∧∃ v S',e=.returned v∧S.grown S' w∧S'.within w'∧Rd S' M w' v d∧a5g S' w w' v d):CM P G f ds [] (.ret d) []:=by
 refine ⟨hcall,fun w S M vs hg hM hwi hh hvs=>(h w S M vs hg hwi hvs).mono fun e w' ⟨hb,v,S',he,h1,h2,h3,h4⟩=>?_⟩
 exact ⟨⟨hb.os,hb.tape,hb.output,hb.size,fun k hk _=>hb.block k hk⟩,S',h1,h2,⟨fun id b h=>by simp at h,fun id hid=>hh.out id (by simp),fun i j x y b k l h=>by simp at h⟩,v,he,h3,h4⟩
theorem R0 {S:m9} {w w':World} (h:S.within w) (hb:Below w.heap.size w w'):S.within w':=fun b o hS=>Nat.lt_of_lt_of_le (h b o hS) hb.size
theorem R3 {S:m9} {w0 w:World} {v:Value} {d:D} (h:∀ l c z,d ≠ .slice l c (.fr z)) (h2:∀ ds,d ≠ .tuple ds):a5g S w0 w v d:=⟨fun l c z e=>absurd e (h l c z),fun _ ds _ e=>absurd e (h2 ds)⟩
theorem d6g {s:ByteArray} {l:List UInt8} (h:s.data.toList=l):s=⟨l.toArray⟩:=by subst h;rfl
theorem c4q {s:i6} {v:V} (h:RV (.c (.s s)) v):toD v=.str s:=by
 cases h with
 | s _ l c h1 h2=>subst h1 h2;simp only [toD,C0]
 | q _ x h=>cases h with | s _ l c h1 h2=>subst h1 h2;simp [toD,den,a1g,C0]
theorem d39 {k:IntKind} {n:Int} {v:V} (h:RV (.c (.i k n)) v):toD v=.int k n:=by
 cases h with
 | i=>rfl
 | q _ x h=>cases h;rfl
theorem c7u {s t:i6} {vs:List V} (h:l8 [.c (.s s),.c (.s t)] vs):vs.map toD=[.str s,.str t]:=by
 cases h with | cons _ _ v _ h1 h=>cases h with | cons _ _ v' _ h2 h=>cases h;simp [c4q h1,c4q h2]
theorem c5e {s:i6} {k:IntKind} {n:Int} {vs:List V} (h:l8 [.c (.s s),.c (.i k n)] vs):vs.map toD=[.str s,.int k n]:=by
 cases h with | cons _ _ v _ h1 h=>cases h with | cons _ _ v' _ h2 h=>cases h;simp [c4q h1,d39 h2]
theorem c41 {S:m9} {M:Mp} {w:World} {v:Value} {s:i6} (h:Rd S M w v (.str s)):v=.string ⟨s.toArray⟩:=by
 cases h with | str b _ hb=>rw [d6g hb]
theorem f7j {S:m9} {M:Mp} {w:World} {v:Value} {k:IntKind} {n:Int} (h:Rd S M w v (.int k n)):v=.int k n:=by cases h;rfl
theorem c46 {S:m9} {M:Mp} {w:World} {vs:List Value} {s t:i6} (h:v8 S M w vs [.str s,.str t]):vs=[.string ⟨s.toArray⟩,.string ⟨t.toArray⟩]:=by
 cases h with | cons _ _ _ _ h1 h=>cases h with | cons _ _ _ _ h2 h=>cases h;rw [c41 h1,c41 h2]
theorem c6m {S:m9} {M:Mp} {w:World} {vs:List Value} {s:i6} {k:IntKind} {n:Int} (h:v8 S M w vs [.str s,.int k n]):vs=[.string ⟨s.toArray⟩,.int k n]:=by
 cases h with | cons _ _ _ _ h1 h=>cases h with | cons _ _ _ _ h2 h=>cases h;rw [c41 h1,f7j h2]
def e3r (k:IntKind) (ok:i6→Int→Prop) (g:i6→Int→GV):Sp where
 ι:={ p:i6 × Int // ok p.1 p.2 }
 A p:=[.c (.s p.1.1),.c (.i k p.1.2)]
 B _:=[]
 R p:=.ret (g p.1.1 p.1.2)
 B' _:=[]
 inj i j vs bs h k _ _:=by
  obtain ⟨_,_,h1,k1,h,k⟩:=h.two k
  obtain ⟨_,_,h2,k2,h,k⟩:=h.two k
  rw [I7 h1 k1,a4h h2 k2];exact ⟨rfl,rfl⟩
def b3s (ok:i6→i6→Prop) (g:i6→i6→GV):Sp where
 ι:={ p:i6 × i6 // ok p.1 p.2 }
 A p:=[.c (.s p.1.1),.c (.s p.1.2)]
 B _:=[]
 R p:=.ret (g p.1.1 p.1.2)
 B' _:=[]
 inj i j vs bs h k _ _:=by
  obtain ⟨_,_,h1,k1,h,k⟩:=h.two k
  obtain ⟨_,_,h2,k2,h,k⟩:=h.two k
  rw [I7 h1 k1,I7 h2 k2];exact ⟨rfl,rfl⟩
theorem c3p:l5 158 (e3r .i32 (fun _ r=>0≤r∧r < 128) fun s r=>.c (.b (decide (0≤Lib.indexByte s r.toNat.toUInt8)))):=fun ⟨(s,r),h0,h1⟩ vs bs hv hb=>by
 change l8 [.c (.s s),.c (.i .i32 r)] vs at hv
 cases hb
 refine ⟨.ret (.bool (decide (0≤Lib.indexByte s r.toNat.toUInt8))),[],fun hok=>?_,.ret _ _ (.b _),.nil⟩
 rw [c5e hv]
 refine L1 (d:=.bool (decide (0≤Lib.indexByte s r.toNat.toUInt8))) Tryz.call158 fun w S M us hg hwi hr=>?_
 rw [c6m hr]
 refine (Any.strings_ContainsRune_ascii Tryz.lays151 ⟨s.toArray⟩ r w h0 h1).mono ?_
 rintro e w' ⟨rfl,rfl⟩
 exact ⟨Below.refl _ _,_,S,rfl,⟨fun _ _ h=>h,fun _ _ h=>.inl h⟩,hwi,.bool _,R3 (fun _ _ _ h=>by cases h) (fun _ h=>by cases h)⟩
theorem d22:l5 159 (e3r .u8 (fun _ r=>0≤r∧r < 256) fun s r=>.c (.i .i64 (Lib.indexByte s r.toNat.toUInt8))):=fun ⟨(s,r),h0,h1⟩ vs bs hv hb=>by
 change l8 [.c (.s s),.c (.i .u8 r)] vs at hv
 cases hb
 refine ⟨.ret (.int .i64 (Lib.indexByte s r.toNat.toUInt8)),[],fun hok=>?_,.ret _ _ (.i _ _),.nil⟩
 rw [c5e hv]
 refine L1 (d:=.int .i64 (Lib.indexByte s r.toNat.toUInt8)) Tryz.call159 fun w S M us hg hwi hr=>?_
 rw [c6m hr]
 refine (Any.strings_IndexByte Tryz.lays137 ⟨s.toArray⟩ r w).mono ?_
 rintro e w' ⟨rfl,rfl⟩
 exact ⟨Below.refl _ _,_,S,rfl,⟨fun _ _ h=>h,fun _ _ h=>.inl h⟩,hwi,.int _ _,R3 (fun _ _ _ h=>by cases h) (fun _ h=>by cases h)⟩
theorem e91:l5 123 (b3s (fun _ t=>∃ c,t=[c]) fun s t=>.c (.i .i64 (Lib.indexByte s (t.headD 0)))):=fun ⟨(s,t),c,hc⟩ vs bs hv hb=>by
 change l8 [.c (.s s),.c (.s t)] vs at hv
 cases hb
 have hc:t=[c]:=hc
 subst hc
 refine ⟨.ret (.int .i64 (Lib.indexByte s c)),[],fun hok=>?_,.ret _ _ (.i _ _),.nil⟩
 rw [c7u hv]
 refine L1 (d:=.int .i64 (Lib.indexByte s c)) Tryz.call123 fun w S M us hg hwi hr=>?_
 rw [c46 hr]
 refine (Any.stringslite_Index_one Tryz.lays219 ⟨s.toArray⟩ c w).mono ?_
 rintro e w' ⟨rfl,rfl⟩
 exact ⟨Below.refl _ _,_,S,rfl,⟨fun _ _ h=>h,fun _ _ h=>.inl h⟩,hwi,.int _ _,R3 (fun _ _ _ h=>by cases h) (fun _ h=>by cases h)⟩
def d9m (s t:i6):Prop:=s.length < 4294967281∧t.length < 4294967281∧∀ b ∈ t,b.toNat < 128
theorem d6s:l5 165 (b3s d9m fun s t=>.c (.s (Lib.trimS s t))):=fun ⟨(s,t),h0,h1,h2⟩ vs bs hv hb=>by
 change l8 [.c (.s s),.c (.s t)] vs at hv
 cases hb
 refine ⟨.ret (.str (Lib.trimS s t).length (p9 (Lib.trimS s t))),[],fun hok=>?_,.ret _ _ (.s _ _ _ rfl rfl),.nil⟩
 rw [c7u hv]
 show CM X0.P X0.G _ _ [] (.ret (.str (n5 _ (p9 _)))) []
 rw [C0]
 refine L1 Tryz.call165 fun w S M us hg hwi hr=>?_
 rw [c46 hr]
 refine (Any.strings_Trim_laid Tryz.lays160 kR ⟨s.toArray⟩ ⟨t.toArray⟩ w (by have h0:s.length < 4294967281:=h0;simp [ByteArray.size];omega) (by have h1:t.length < 4294967281:=h1;simp [ByteArray.size];omega) (fun j b hb=>h2 b (List.mem_of_getElem? hb))).mono ?_
 rintro e w' ⟨rfl,hb⟩
 exact ⟨hb,_,S,rfl,⟨fun _ _ h=>h,fun _ _ h=>.inl h⟩,R0 hwi hb,.str _ _ rfl,R3 (fun _ _ _ h=>by cases h) (fun _ h=>by cases h)⟩
theorem d45:l5 192 (b3s d9m fun s t=>.c (.s (Lib.trimLeftS s t))):=fun ⟨(s,t),h0,h1,h2⟩ vs bs hv hb=>by
 change l8 [.c (.s s),.c (.s t)] vs at hv
 cases hb
 refine ⟨.ret (.str (Lib.trimLeftS s t).length (p9 (Lib.trimLeftS s t))),[],fun hok=>?_,.ret _ _ (.s _ _ _ rfl rfl),.nil⟩
 rw [c7u hv]
 show CM X0.P X0.G _ _ [] (.ret (.str (n5 _ (p9 _)))) []
 rw [C0]
 refine L1 Tryz.call192 fun w S M us hg hwi hr=>?_
 rw [c46 hr]
 refine (Any.strings_TrimLeft_laid Tryz.lays161 kR ⟨s.toArray⟩ ⟨t.toArray⟩ w (by have h1:t.length < 4294967281:=h1;simp [ByteArray.size];omega) (fun j b hb=>h2 b (List.mem_of_getElem? hb))).mono ?_
 rintro e w' ⟨rfl,hb⟩
 exact ⟨hb,_,S,rfl,⟨fun _ _ h=>h,fun _ _ h=>.inl h⟩,R0 hwi hb,.str _ _ rfl,R3 (fun _ _ _ h=>by cases h) (fun _ h=>by cases h)⟩
end
end Go.Proofs.YtffaodopiifbkaaGreatDoor
namespace Go.Proofs.YtffaodopiifbkaaGreatDoor
open Go.Abs LQ
set_option maxRecDepth 100000
set_option maxHeartbeats 4000000
noncomputable section
def U0 (s t:i6):Bool:=decide (t.length≤s.length∧s.take t.length=t)
theorem b4v:l5 207 (b3s (fun _ _=>True) fun s t=>.c (.b (U0 s t))):=n6 (fun fn h=>f0v h) [] .nil fun U fn hfn ⟨(s,t),_⟩ vs bs hv hb=>by
 have hv:l8 [.c (.s s),.c (.s t)] vs:=hv
 have hb:j5 [] bs:=hb
 show j6 U _ fun v bs'=>l9 (.ret (.c (.b (U0 s t)))) v∧j5 [] bs'
 unfold e0n
 (refine Zq ?_;with_reducible repeat' first|intro _|apply aI)
 ·have hl:t.length≤s.length:=oM
  exact L7 fun e=>by subst e;exact ⟨.ret _ _ (V9 (by rw [cuS];unfold U0;simp [hl])),.nil⟩
 ·exact k9 ⟨.ret _ _ (M5 (by unfold U0;rw [decide_eq_false];omega)),.nil⟩
theorem d5n:l5 181 (b3s (fun _ _=>True) fun s t=>.c (.b (U0 s t))):=n6 (fun fn h=>e76 h) [(207,_)] (.cons b4v .nil) fun U fn hfn ⟨(s,t),_⟩ vs bs hv hb=>by
 have hp:=hfn 207 _ rfl
 have hv:l8 [.c (.s s),.c (.s t)] vs:=hv
 have hb:j5 [] bs:=hb
 show j6 U _ fun v bs'=>l9 (.ret (.c (.b (U0 s t)))) v∧j5 [] bs'
 unfold e4c
 (refine Zq ?_;intros)
 refine j3 hp ⟨(s,t),trivial⟩ (r:=.c (.b (U0 s t))) rfl l6 .nil fun _ _ _ _=>?_
 (refine Zq ?_;intros)
 exact k9 ⟨.ret _ _ (.b _),.nil⟩
def F3 (s t:i6):i6:=if U0 s t then s.drop t.length else s
theorem c81:l5 209 (b3s (fun _ _=>True) fun s t=>.c (.s (F3 s t))):=n6 (fun fn h=>e84 h) [(207,_)] (.cons b4v .nil) fun U fn hfn ⟨(s,t),_⟩ vs bs hv hb=>by
 have hp:=hfn 207 _ rfl
 have hv:l8 [.c (.s s),.c (.s t)] vs:=hv
 have hb:j5 [] bs:=hb
 show j6 U _ fun v bs'=>l9 (.ret (.c (.s (F3 s t)))) v∧j5 [] bs'
 unfold e19
 (refine Zq ?_;intros)
 refine j3 hp ⟨(s,t),trivial⟩ (r:=.c (.b (U0 s t))) rfl l6 .nil fun _ _ hv hb=>?_
 refine sB hv (a7d hb ?_)
 have hl:U0 s t=true→t.length≤s.length:=fun h=>by simp [U0] at h;exact h.1
 refine c1b trV (fun h=>?_) fun h=>?_
 ·have hp:=h
  have hl:=hl h
  (refine Zq ?_;intros)
  have e:F3 s t=s.drop t.length:=by unfold F3;rw [if_pos hp]
  rw [e,Int.toNat_natCast]
  exact k9 ⟨.ret _ _ (.s _ _ _ rfl rfl),.nil⟩
 ·have e:F3 s t=s:=by unfold F3;rw [if_neg h]
  rw [e]
  exact k9 ⟨.ret _ _ (.s _ _ _ rfl rfl),.nil⟩
theorem a1i:l5 184 (b3s (fun _ _=>True) fun s t=>.c (.s (F3 s t))):=n6 (fun fn h=>e66 h) [(209,_)] (.cons c81 .nil) fun U fn hfn ⟨(s,t),_⟩ vs bs hv hb=>by
 have hp:=hfn 209 _ rfl
 have hv:l8 [.c (.s s),.c (.s t)] vs:=hv
 have hb:j5 [] bs:=hb
 show j6 U _ fun v bs'=>l9 (.ret (.c (.s (F3 s t)))) v∧j5 [] bs'
 unfold e0q
 (refine Zq ?_;intros)
 refine j3 hp ⟨(s,t),trivial⟩ (r:=.c (.s (F3 s t))) rfl l6 .nil fun _ _ _ _=>?_
 (refine Zq ?_;intros)
 exact k9 ⟨.ret _ _ (.s _ _ _ rfl rfl),.nil⟩
theorem V3 (s:i6) (c:UInt8):Lib.indexByte s c < s.length∧-1≤Lib.indexByte s c:=by
 induction s with
 | nil=>simp [Lib.indexByte]
 | cons b l ih =>
  simp only [Lib.indexByte,List.length_cons]
  split
  ·omega
  ·split <;> omega
def K4 (s:i6) (c:UInt8):i6 × i6 × Bool:=if 0≤Lib.indexByte s c then (s.take (Lib.indexByte s c).toNat,s.drop (Lib.indexByte s c+1).toNat,true) else (s,[],false)
def e58:Sp:=b3s (fun s t=>s.length < 90000∧∃ c,t=[c]) fun s t=>.t [.c (.s (K4 s (t.headD 0)).1),.c (.s (K4 s (t.headD 0)).2.1),.c (.b (K4 s (t.headD 0)).2.2)]
theorem f91:l5 208 e58:=n6 (fun fn h=>f0z h) [(123,_)] (.cons e91 .nil) fun U fn hfn ⟨(s,t),hs,c,hc⟩ vs bs hv hb=>by
 have hp:=hfn 123 _ rfl
 have hv:l8 [.c (.s s),.c (.s t)] vs:=hv
 have hb:j5 [] bs:=hb
 have hc:t=[c]:=hc
 have hs:s.length < 90000:=hs
 subst hc
 show j6 U _ fun v bs'=>l9 (.ret (.t [.c (.s (K4 s c).1),.c (.s (K4 s c).2.1),.c (.b (K4 s c).2.2)])) v∧j5 [] bs'
 unfold e3x
 (refine Zq ?_;intros)
 refine j3 hp ⟨(s,[c]),c,rfl⟩ (r:=.c (.i .i64 (Lib.indexByte s c))) rfl l6 .nil fun _ _ _ _=>?_
 have hi:=V3 s c
 have e1:(([c]:i6).length:Int)=1:=rfl
 (refine Zq ?_;with_reducible repeat' first|intro _|apply aI)
 ·have h0:=‹0≤Lib.indexByte s c›
  have e:K4 s c=(s.take (Lib.indexByte s c).toNat,s.drop (Lib.indexByte s c+1).toNat,true):=by unfold K4;rw [if_pos h0]
  rw [e]
  simp only [Int.toNat_zero,List.drop_zero,e1]
  exact k9 ⟨.ret _ _ l6,.nil⟩
 ·have e:K4 s c=(s,[],false):=by unfold K4;rw [if_neg ‹_›]
  rw [e]
  exact k9 ⟨.ret _ _ l6,.nil⟩
theorem g1q:l5 182 e58:=n6 (fun fn h=>e7i h) [(208,_)] (.cons f91 .nil) fun U fn hfn ⟨(s,t),hs,c,hc⟩ vs bs hv hb=>by
 have hp:=hfn 208 _ rfl
 have hv:l8 [.c (.s s),.c (.s t)] vs:=hv
 have hb:j5 [] bs:=hb
 have hc:t=[c]:=hc
 subst hc
 show j6 U _ fun v bs'=>l9 (.ret (.t [.c (.s (K4 s c).1),.c (.s (K4 s c).2.1),.c (.b (K4 s c).2.2)])) v∧j5 [] bs'
 unfold e0h
 (refine Zq ?_;intros)
 refine j3 hp ⟨(s,[c]),hs,c,rfl⟩ (r:=.t [.c (.s (K4 s c).1),.c (.s (K4 s c).2.1),.c (.b (K4 s c).2.2)]) rfl l6 .nil fun _ _ _ _=>?_
 (refine Zq ?_;intros)
 exact k9 ⟨.ret _ _ l6,.nil⟩
theorem c9j (c:Int) (h1:32 < c) (h2:c < 127):(!(decide (0≤Lib.indexByte (n5 7 16462142067124520) c.toNat.toUInt8)))=y8 c:=by
 obtain ⟨n,rfl⟩:∃ n:Nat,c=n:=⟨c.toNat,oM⟩
 rw [Int.toNat_natCast]
 have h3:n < 127:=oM
 have h4:32 < n:=oM
 have key:∀ n:Fin 127,32 < n.1→(!(decide (0≤Lib.indexByte (n5 7 16462142067124520) n.1.toUInt8)))=y8 n.1:=dE
 exact key ⟨n,h3⟩ h4
def f3q (g:Int→GV):Sp where
 ι:={ c:Int // 0≤c∧c < 256 }
 A c:=[.c (.i .u8 c.1)]
 B _:=[]
 R c:=.ret (g c.1)
 B' _:=[]
 inj i j vs bs h k _ _:=by
  obtain ⟨_,_,h1,k1,h,k⟩:=h.two k
  rw [a4h h1 k1];exact ⟨rfl,rfl⟩
theorem b65:l5 138 (f3q fun c=>.c (.b (y8 c))):=n6 (fun fn h=>e6y h) [(158,_)] (.cons c3p .nil) fun U fn hfn ⟨c,h0,h1⟩ vs bs hv hb=>by
 have hp:=hfn 158 _ rfl
 have hv:l8 [.c (.i .u8 c)] vs:=hv
 have hb:j5 [] bs:=hb
 show j6 U _ fun v bs'=>l9 (.ret (.c (.b (y8 c)))) v∧j5 [] bs'
 unfold e4n
 (refine Zx ?_;with_reducible repeat' first|intro _|apply aI)
 ·refine d6t (m:=c) rfl oM ?_
  refine j3 hp ⟨(n5 7 16462142067124520,c),oM,oM⟩ (r:=.c (.b (decide (0≤Lib.indexByte (n5 7 16462142067124520) c.toNat.toUInt8)))) rfl l6 .nil fun _ _ _ _=>?_
  (refine Zx ?_;intros)
  exact L7 fun e=>by subst e;exact ⟨.ret _ _ (V9 (by rw [c4j,c9j c oM oM])),.nil⟩
 ·exact k9 ⟨.ret _ _ (M5 (by simp [y8];omega)),.nil⟩
 ·exact k9 ⟨.ret _ _ (M5 (by simp [y8];omega)),.nil⟩
theorem RB.bx {gs:List G} {q:Q} {m:Nat} (h:A8 gs q 0) (hm:m=gs.length):j5 [gs] [.opa q m]:=.k (.opa _ _ _ hm h) .nil
def J4 (s:i6) (i:Nat):List G:=[.s s,.i .i64 (i:Int)]
theorem a6g {s t:i6} {i j:Nat} (h:J4 s i=J4 t j):s=t∧i=j:=by
 simp only [J4,List.cons.injEq,G.s.injEq,G.i.injEq,and_true,true_and] at h
 exact ⟨h.1,oM⟩
theorem j5.one_inj {g g':List G} {bs:List Bx} (h:j5 [g] bs) (k:j5 [g'] bs):g=g':=by
 cases h with | cons _ _ b _ h1 _=>cases k with | cons _ _ _ _ k1 _=>exact h1.inj k1
abbrev ScI:={ p:i6 × Nat // p.2≤p.1.length∧p.1.length < 90000 }
def e0b (R:i6→Nat→s8) (b:i6→Nat→Nat):Sp where
 ι:=ScI
 A _:=[.p 0 0]
 B p:=[J4 p.1.1 p.1.2]
 R p:=R p.1.1 p.1.2
 B' p:=[J4 p.1.1 (b p.1.1 p.1.2)]
 inj i j vs bs _ _ h k:=by
  have:=a6g (j5.one_inj h k)
  rw [this.1,this.2];exact ⟨rfl,rfl⟩
def f8u (R:i6→Nat→i6→s8):Sp where
 ι:=ScI × i6
 A p:=[.p 0 0,.c (.s p.2)]
 B p:=[J4 p.1.1.1 p.1.1.2]
 R p:=R p.1.1.1 p.1.1.2 p.2
 B' p:=[J4 p.1.1.1 p.1.1.2]
 inj i j vs bs hv kv h k:=by
  have:=a6g (j5.one_inj h k)
  obtain ⟨_,_,_,_,hv,kv⟩:=hv.two kv
  obtain ⟨_,_,h2,k2,_,_⟩:=hv.two kv
  rw [this.1,this.2,I7 h2 k2];exact ⟨rfl,rfl⟩
theorem scQ {U:x5} (e:U=CU) {s:i6} {j:Int} {k:Nat} {x:Q} (h:A8 [.s s,.i .i64 j] x 0) {n:Int} (hn:n=(k:Int)):j5 [J4 s k] [.cells [.q (U.celQ x 0),.int .i64 n]]:=by
 subst e hn
 exact .k (.cells _ _ (.k (.q _ _ (A8.at h rfl)) (.k (.i _ _) .nil))) .nil
theorem scC {s:i6} {k:Nat} {n:Int} (hn:n=(k:Int)):j5 [J4 s k] [.cells [.str s.length (p9 s),.int .i64 n]]:=by
 subst hn
 exact .k (.cells _ _ (.k (.s _ _ _ rfl rfl) (.k (.i _ _) .nil))) .nil
theorem e42 {s:i6} {j:Nat} (h:j < s.length) (hc:y8 (bt s j)=true):m6 s j=m6 s (j+1):=by rw [m6,if_pos h,if_pos hc]
theorem f4o {s:i6} {j:Nat} (h:j < s.length) (hc:¬y8 (bt s j)=true):m6 s j=j:=by rw [m6,if_pos h,if_neg hc]
theorem f09 {s:i6} {j:Nat} (h:¬j < s.length):m6 s j=j:=by rw [m6,if_neg h]
theorem b7d:l5 135 (e0b (fun s i=>.ret (.c (.b (decide (i < s.length))))) fun _ i=>i):=n6 (fun fn h=>e8o h) [] .nil fun U fn hfn ⟨(s,i),h1,h2⟩ vs bs hv hb=>by
 have hv:l8 [.p 0 0] vs:=hv
 have hb:j5 [[.s s,.i .i64 (i:Int)]] bs:=hb
 show j6 U _ fun v bs'=>l9 (.ret (.c (.b (decide (i < s.length))))) v∧j5 [J4 s i] bs'
 unfold e07
 (refine Zq ?_;intros)
 exact L7 fun e=>by subst e;exact ⟨.ret _ _ (V9 (by rw [b5w];simp)),.k (.cells _ _ l6) .nil⟩
theorem c0j:l5 160 (f8u fun s i p=>.ret (.c (.b (U0 (s.drop i) p)))):=n6 (fun fn h=>e7j h) [(181,_)] (.cons d5n .nil) fun U fn hfn ⟨⟨(s,i),h1,h2⟩,p⟩ vs bs hv hb=>by
 have hp:=hfn 181 _ rfl
 have hv:l8 [.p 0 0,.c (.s p)] vs:=hv
 have hb:j5 [[.s s,.i .i64 (i:Int)]] bs:=hb
 have h1:i≤s.length:=h1
 show j6 U _ fun v bs'=>l9 (.ret (.c (.b (U0 (s.drop i) p)))) v∧j5 [J4 s i] bs'
 unfold e38
 (refine Zq ?_;intros)
 rw [Int.toNat_natCast]
 refine j3 hp ⟨(s.drop i,p),trivial⟩ (r:=.c (.b (U0 (s.drop i) p))) rfl l6 .nil fun _ _ _ _=>?_
 (refine Zq ?_;intros)
 exact k9 ⟨.ret _ _ (.b _),.k (.cells _ _ l6) .nil⟩
def J7 (s:i6) (i:Nat):i6:=(s.take (m6 s i)).drop i
theorem e5p:l5 140 (e0b (fun s i=>.ret (.c (.s (J7 s i)))) m6):=n6 (fun fn h=>e67 h) [(135,_),(138,_)] (.cons b7d (.cons b65 .nil)) fun U fn hfn ⟨(s,i),h1,h2⟩ vs bs hv hb=>by
 have hm:=hfn 135 _ rfl
 have hc:=hfn 138 _ rfl
 have hv:l8 [.p 0 0] vs:=hv
 have hb:j5 [[.s s,.i .i64 (i:Int)]] bs:=hb
 have h1:i≤s.length:=h1
 have h2:s.length < 90000:=h2
 show j6 U _ fun v bs'=>l9 (.ret (.c (.s (J7 s i)))) v∧j5 [J4 s (m6 s i)] bs'
 unfold e18
 (refine Zq ?_;intros)
 refine H0 (fun (j:Nat) vs bs=>vs=[.ptr 0 0,.int .i64 i]∧j5 [J4 s j] bs∧i≤j∧j≤s.length∧m6 s j=m6 s i) (fun j=>s.length - j) i ⟨rfl,.k (.cells _ _ l6) .nil,Nat.le_refl _,h1,rfl⟩ (by simp only [C2];omega) ?_
 rintro self j vs bs ⟨rfl,hb,hij,hj,he⟩ ih
 have hb:j5 [[.s s,.i .i64 (j:Int)]] bs:=hb
 (refine Zq ?_;intros)
 refine j3 hm ⟨(s,j),hj,h2⟩ (r:=.c (.b (decide (j < s.length)))) rfl l6 (RB.bx aS rfl) fun _ _ _ hb=>?_
 have hb:j5 [[.s s,.i .i64 (j:Int)]] _:=hb
 (refine Zq ?_;with_reducible repeat' first|intro _|apply aI)
 ·have hlt:j < s.length:=of_decide_eq_true ‹_›
  have hbt:((s.getD j 0).toNat:Int)=bt s j:=rfl
  have hb0:=a7w s j
  have hb1:=c4b s j
  (refine Zq ?_;intros)
  refine j3 hc ⟨bt s j,hb0,hb1⟩ (r:=.c (.b (y8 (bt s j)))) rfl l6 .nil fun _ _ _ _=>?_
  (refine Zq ?_;with_reducible repeat' first|intro _|apply aI)
  ·exact fun e=>ih (j+1) _ _ ⟨rfl,scQ e aS oM,oM,oM,by rw [← e42 hlt ‹_›];exact he⟩ oM e
  ·have e:=f4o hlt ‹_›
   rw [Int.toNat_natCast,Int.toNat_natCast]
   have ew:J7 s i=(s.take j).drop i:=by unfold J7;rw [← he,e]
   rw [ew,← he,e]
   exact k9 ⟨.ret _ _ (.s _ _ _ rfl rfl),RB.bx aS rfl⟩
 ·have hlt:¬j < s.length:=fun h=>‹¬decide (j < s.length)=true› (decide_eq_true h)
  (refine Zq ?_;intros)
  have e:=f09 hlt
  rw [Int.toNat_natCast,Int.toNat_natCast]
  have ew:J7 s i=(s.take j).drop i:=by unfold J7;rw [← he,e]
  rw [ew,← he,e]
  exact k9 ⟨.ret _ _ (.s _ _ _ rfl rfl),RB.bx aS rfl⟩
end
end Go.Proofs.YtffaodopiifbkaaGreatDoor
