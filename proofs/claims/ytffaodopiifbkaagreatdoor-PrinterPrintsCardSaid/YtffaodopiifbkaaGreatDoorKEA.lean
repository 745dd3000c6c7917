/- Rules for parts of strings, for concatenation, for failures. -/
import Derived.Test.YtffaodopiifbkaaGreatDoorKR5e
import Derived.Test.YtffaodopiifbkaaGreatDoorKS
import Derived.Test.YtffaodopiifbkaaGreatDoorKN
set_option linter.all false
namespace Go.Abs
theorem f0n (n:Nat):2 ^ (8 * n)=256 ^ n:=by rw [Nat.pow_mul]
theorem c8a:∀ s:List UInt8,j9 s < 256 ^ s.length
 | []=>by simp [j9]
 | b :: l=>by
  have h1:=c8a l
  have h2:=b.toNat_lt
  simp only [j9,List.length_cons,Nat.pow_succ]
  omega
theorem b3p:∀ (l c:Nat),c < 256 ^ l→j9 (k7 l c)=c
 | 0,c,h=>by simp at h;subst h;rfl
 | l+1,c,h=>by
  rw [Nat.pow_succ] at h
  simp only [k7,j9]
  rw [b3p l (c / 256) oM,UInt8.toNat_ofNat']
  omega
theorem b85 {s:List UInt8} {a b:Nat} (h1:a≤b) (h2:b≤s.length):sSub (j9 s) a (b - a)=j9 ((s.take b).drop a):=by
 have h:=c7t (c:=j9 s) h1 h2
 rw [x5] at h
 rw [h,b3p]
 unfold sSub
 show Nat.mod _ (1 <<< (8 * (b - a))) < _
 rw [Nat.one_shiftLeft,f0n]
 exact Nat.mod_lt _ (Nat.pow_pos dE)
theorem b0q (x y:List UInt8):sCat x.length (j9 x) (j9 y)=j9 (x ++ y):=by
 have h:=c7s x.length (j9 x) y.length (j9 y)
 rw [x5,x5] at h
 rw [h,b3p]
 unfold sCat
 show Nat.mod (j9 x) (1 <<< (8 * x.length))+j9 y <<< (8 * x.length) < _
 rw [Nat.one_shiftLeft,Nat.shiftLeft_eq,f0n,Nat.pow_add]
 have h1:=c8a y
 have h2:Nat.mod (j9 x) (256 ^ x.length) < 256 ^ x.length:=Nat.mod_lt _ (Nat.pow_pos dE)
 have h3:=Nat.mul_le_mul_right (256 ^ x.length) h1
 rw [Nat.succ_mul] at h3
 rw [Nat.mul_comm (256 ^ x.length)]
 omega
theorem e5q {s:List UInt8} {a b:Nat} (h1:a≤b) (h2:b≤s.length):((s.take b).drop a).length=b - a:=by simp;omega
section
variable {U:q8} {P:H6→List Bx→Prop}
theorem e0w {s:List UInt8} {a b:Int} {K:Nat→Nat→Om} (h:0≤a∧a≤b∧b≤s.length) (k:g8 U (K ((s.take b.toNat).drop a.toNat).length (j9 ((s.take b.toNat).drop a.toNat))) P) :
  g8 U (U.fN (U.nSub (U.iNat b) (U.iNat a)) fun m=>U.fN (U.sSub (j9 s) (U.iNat a) m) fun d=>K m d) P:=fun e=>by
 have:=k e
 subst e
 rw [a3b,a3b]
 show ∃ v bs,K (iNat b - iNat a) (sSub (j9 s) (iNat a) (iNat b - iNat a))=some (v,bs)∧P v bs
 rw [C5,C5,b85 (show a.toNat≤b.toNat by omega) oM,← e5q (s:=s) (show a.toNat≤b.toNat by omega) oM]
 exact this
theorem f3k {s:List UInt8} {a:Int} {K:Nat→Nat→Om} (h:0≤a∧a≤s.length) (k:g8 U (K (s.drop a.toNat).length (j9 (s.drop a.toNat))) P) :
  g8 U (U.fN (U.nSub (U.iNat (U.iOfN s.length)) (U.iNat a)) fun m=>U.fN (U.sSub (j9 s) (U.iNat a) m) fun d=>K m d) P:=fun e=>by
 have:=k e
 subst e
 refine e0w (b:=(s.length:Int)) ⟨h.1,h.2,Int.le_refl _⟩ ?_ rfl
 rw [Int.toNat_natCast,List.take_length]
 exact fun _=>this
theorem f44 {x y:List UInt8} {l1 c1 l2 c2:Nat} {K:Nat→Nat→Om} (h1:l1=x.length) (e1:c1=j9 x) (h2:l2=y.length) (e2:c2=j9 y) (hl:x.length+y.length≤9223372036854775807) (k:g8 U (K (x ++ y).length (j9 (x ++ y))) P) :
  g8 U (U.chk (U.nLe (U.nAdd l1 l2) 9223372036854775807) (U.fN (U.nAdd l1 l2) fun m=>U.fN (U.sCat l1 c1 c2) fun d=>K m d)) P:=by
 subst h1 e1 h2 e2
 refine d9u (p:=x.length+y.length≤9223372036854775807) (fun e=>by subst e;exact Z7 rfl) hl fun e=>?_
 have:=k e
 subst e
 rw [a3b,a3b]
 show ∃ v bs,K (x.length+y.length) (sCat x.length (j9 x) (j9 y))=some (v,bs)∧P v bs
 rw [b0q,← List.length_append]
 exact this
theorem d1d {n:Nat}:H8 U (U.iLe (U.iOfN n) (U.iOfN n)) (n≤n):=fun e=>by subst e;exact ⟨fun _=>Nat.le_refl _,fun _=>(a49 (U:=CU) rfl).2 (Int.le_refl _)⟩
theorem d12 {e m:Int} {K:Int→Om} (he:e=m) (hr:-2147483648≤m∧m < 2147483648) (h:g8 U (K m) P):g8 U (U.fI (U.wr .i32 e) K) P:=fun e'=>by
 have:=h e';subst e' he;rw [U7]
 show ∃ v bs,K (wr .i32 e)=some (v,bs)∧P v bs
 rw [a1i,a2v .i32 _ (by show _ < ((2147483648:Nat):Int);omega) (by show -((2147483648:Nat):Int)≤_;omega)]
 exact this
theorem f3l {a b:Int} {K:Int→Om} (h:g8 U (K (a.tdiv b)) P):g8 U (U.fI (U.iQuo a b) K) P:=fun e=>by
 have:=h e;subst e;rw [U7]
 show ∃ v bs,K (iQuo a b)=some (v,bs)∧P v bs
 rw [b1p];exact this
theorem f7h {k:IntKind} {n:Int} {x:Q} {K:IntKind→Int→Om} (hx:RG (.i k n) x) (h:g8 U (K k n) P):g8 U (U.cI0 x K) P:=fun e=>by
 have:=h e;subst e;cases hx;exact this
end
end Go.Abs
namespace Go.Proofs.YtffaodopiifbkaaGreatDoor
open Go.Abs LQ
theorem Zq {p q:Prop} (k:q) (h:Tr p q:=by ((repeat' (first | (with_reducible apply Tr.all) | (with_reducible intro _) | (apply Tr.b;(case f=>first | exact b6k | exact W2 aS | exact c2d | exact b48 aS | exact b4m | exact a7t aS | exact a9z | exact b2g aS | exact sP | exact sPR aS | exact sIV | exact sI aS | exact sBV | exact sBK | exact sB aS | exact sSV | exact sS aS | exact sA | exact N2 aS (by rfl) | exact b71 (by rfl) | exact c4g (by rfl) | exact c1a aS (by rfl) | exact c26 aS (by rfl) | exact c91 aS | exact sSl aS | exact sTu aS | exact sBo | exact a97 aS (by rfl) | exact sBc | exact c82 aS | exact sBt | exact sBs | exact sBr | exact a7o aS | exact b5g aS | exact b4k aS (by rfl) | exact c83 aS (by rfl) | exact sCI' aS (by rfl) | exact sCB' aS (by rfl) | exact sCS aS | exact sCI aS | exact sCB aS | exact b5v (by first | omega | (simp only [List.length_map] at *;omega)) | exact b6w (by first | omega | (simp only [List.length_map] at *;omega)) | exact c0v | exact f3k (by first | omega | (simp only [List.length_map] at *;omega)) | exact e0w (by first | omega | (simp only [List.length_map] at *;omega)) | exact sCI0' aS (by rfl) | exact f7h aS | exact b18 | exact b1s | exact c0r | exact b47 | exact b5c | exact sfSubN | exact b10 | exact sfBSelE | exact sfB | exact sJn | exact c09 | exact c04 | exact c01 | exact C0 aS (by (first | exact u2 O.g_len | exact u2 (fun _=>rfl))) | exact b0x aS (by (first | exact u2 O.g_len | exact u2 (fun _=>rfl))) | exact c02 (by first | omega | (simp only [List.length_map] at *;omega)) | exact b4n (by first | omega | (simp only [List.length_map] at *;omega)) | exact d0r aS (by first | assumption | omega | (simp only [List.length_map] at *;omega)) | exact sfT aS (by rfl))) | (apply Tr.chk;(case ht=>(repeat' (first | exact d1d | exact trT | exact trF | apply a3l | apply a4b | exact a33 | exact a3o | exact a3e | exact a49 | exact a5c | exact a06 | exact a07 | exact a08 | exact a03 | exact Z7 | exact a4c | exact a8k | exact a6x | exact trS | exact trV)));(case hp=>first | omega | (simp only [List.length_map] at *;omega))) | (apply Tr.cnd;(case ht=>(repeat' (first | exact d1d | exact trT | exact trF | apply a3l | apply a4b | exact a33 | exact a3o | exact a3e | exact a49 | exact a5c | exact a06 | exact a07 | exact a08 | exact a03 | exact Z7 | exact a4c | exact a8k | exact a6x | exact trS | exact trV))))));all_goals exact Tr.refl)):p:=h.go k
end Go.Proofs.YtffaodopiifbkaaGreatDoor
namespace Go.Proofs.YtffaodopiifbkaaGreatDoor
open Go.Abs LQ Go.RowKit
set_option maxRecDepth 100000
set_option maxHeartbeats 4000000
noncomputable section
theorem H0 {P:Program} {G:b0h} {f:FuncId} {ds:List D} {d:D} (hcall:∀ args w,(callFunc f args).run P w=.ok (.enter f args) w)
  (h:∀ (w:World) (S:k6) (M:Mp) (vs:List Value),G.pred w→S.within w→p9 S M w vs ds→Calls P f vs.toArray w fun e w'=>Below w.heap.size w w'∧∃ v S',e=.returned v∧S.grown S' w∧S'.within w'∧Rd S' M w' v d∧a3a S' w w' v d):CM P G f ds [] (.ret d) []:=by
 refine ⟨hcall,fun w S M vs hg hM hwi hh hvs=>(h w S M vs hg hwi hvs).mono fun e w' ⟨hb,v,S',he,h1,h2,h3,h4⟩=>?_⟩
 exact ⟨⟨hb.os,hb.tape,hb.output,hb.size,fun k hk _=>hb.block k hk⟩,S',h1,h2,⟨fun id b h=>by simp at h,fun id hid=>hh.out id (by simp),fun i j x y b k l h=>by simp at h⟩,v,he,h3,h4⟩
theorem N7 {S:k6} {w w':World} (h:S.within w) (hb:Below w.heap.size w w'):S.within w':=fun b o hS=>Nat.lt_of_lt_of_le (h b o hS) hb.size
theorem N5 {S:k6} {w0 w:World} {v:Value} {d:D} (h:∀ l c z,d ≠ .slice l c (.fr z)) (h2:∀ ds,d ≠ .tuple ds):a3a S w0 w v d:=⟨fun l c z e=>absurd e (h l c z),fun _ ds _ e=>absurd e (h2 ds)⟩
theorem d36 {s:ByteArray} {l:List UInt8} (h:s.data.toList=l):s=⟨l.toArray⟩:=by subst h;rfl
theorem c0t {s:f4} {v:V} (h:RV (.c (.s s)) v):toD v=.str s:=by
 cases h with
 | s _ l c h1 h2=>subst h1 h2;simp only [toD,x5]
 | q _ x h=>cases h with | s _ l c h1 h2=>subst h1 h2;simp [toD,den,Y8,x5]
theorem d1a {k:IntKind} {n:Int} {v:V} (h:RV (.c (.i k n)) v):toD v=.int k n:=by
 cases h with
 | i=>rfl
 | q _ x h=>cases h;rfl
theorem c14 {s t:f4} {vs:List V} (h:j6 [.c (.s s),.c (.s t)] vs):vs.map toD=[.str s,.str t]:=by
 cases h with | cons _ _ v _ h1 h=>cases h with | cons _ _ v' _ h2 h=>cases h;simp [c0t h1,c0t h2]
theorem c4n {s:f4} {k:IntKind} {n:Int} {vs:List V} (h:j6 [.c (.s s),.c (.i k n)] vs):vs.map toD=[.str s,.int k n]:=by
 cases h with | cons _ _ v _ h1 h=>cases h with | cons _ _ v' _ h2 h=>cases h;simp [c0t h1,d1a h2]
theorem c4s {S:k6} {M:Mp} {w:World} {v:Value} {s:f4} (h:Rd S M w v (.str s)):v=.string ⟨s.toArray⟩:=by
 cases h with | str b _ hb=>rw [d36 hb]
theorem f0z {S:k6} {M:Mp} {w:World} {v:Value} {k:IntKind} {n:Int} (h:Rd S M w v (.int k n)):v=.int k n:=by cases h;rfl
theorem c4y {S:k6} {M:Mp} {w:World} {vs:List Value} {s t:f4} (h:p9 S M w vs [.str s,.str t]):vs=[.string ⟨s.toArray⟩,.string ⟨t.toArray⟩]:=by
 cases h with | cons _ _ _ _ h1 h=>cases h with | cons _ _ _ _ h2 h=>cases h;rw [c4s h1,c4s h2]
theorem c4o {S:k6} {M:Mp} {w:World} {vs:List Value} {s:f4} {k:IntKind} {n:Int} (h:p9 S M w vs [.str s,.int k n]):vs=[.string ⟨s.toArray⟩,.int k n]:=by
 cases h with | cons _ _ _ _ h1 h=>cases h with | cons _ _ _ _ h2 h=>cases h;rw [c4s h1,f0z h2]
def d7o (k:IntKind) (ok:f4→Int→Prop) (g:f4→Int→GV):Sp where
 ι:={ p:f4 × Int // ok p.1 p.2 }
 A p:=[.c (.s p.1.1),.c (.i k p.1.2)]
 B _:=[]
 R p:=.ret (g p.1.1 p.1.2)
 B' _:=[]
 inj i j vs bs h k _ _:=by
  obtain ⟨_,_,h1,k1,h,k⟩:=h.two k
  obtain ⟨_,_,h2,k2,h,k⟩:=h.two k
  rw [F2 h1 k1,a1q h2 k2];exact ⟨rfl,rfl⟩
def b0z (ok:f4→f4→Prop) (g:f4→f4→GV):Sp where
 ι:={ p:f4 × f4 // ok p.1 p.2 }
 A p:=[.c (.s p.1.1),.c (.s p.1.2)]
 B _:=[]
 R p:=.ret (g p.1.1 p.1.2)
 B' _:=[]
 inj i j vs bs h k _ _:=by
  obtain ⟨_,_,h1,k1,h,k⟩:=h.two k
  obtain ⟨_,_,h2,k2,h,k⟩:=h.two k
  rw [F2 h1 k1,F2 h2 k2];exact ⟨rfl,rfl⟩
theorem b81:j5 158 (d7o .i32 (fun _ r=>0≤r∧r < 128) fun s r=>.c (.b (decide (0≤Lib.indexByte s r.toNat.toUInt8)))):=fun ⟨(s,r),h0,h1⟩ vs bs hv hb=>by
 change j6 [.c (.s s),.c (.i .i32 r)] vs at hv
 cases hb
 refine ⟨.ret (.bool (decide (0≤Lib.indexByte s r.toNat.toUInt8))),[],fun hok=>?_,.ret _ _ (.b _),.nil⟩
 rw [c4n hv]
 refine H0 (d:=.bool (decide (0≤Lib.indexByte s r.toNat.toUInt8))) Tryz.call158 fun w S M us hg hwi hr=>?_
 rw [c4o hr]
 refine (Any.strings_ContainsRune_ascii Tryz.lays151 ⟨s.toArray⟩ r w h0 h1).mono ?_
 rintro e w' ⟨rfl,rfl⟩
 exact ⟨Below.refl _ _,_,S,rfl,⟨fun _ _ h=>h,fun _ _ h=>.inl h⟩,hwi,.bool _,N5 (fun _ _ _ h=>by cases h) (fun _ h=>by cases h)⟩
theorem c9b:j5 159 (d7o .u8 (fun _ r=>0≤r∧r < 256) fun s r=>.c (.i .i64 (Lib.indexByte s r.toNat.toUInt8))):=fun ⟨(s,r),h0,h1⟩ vs bs hv hb=>by
 change j6 [.c (.s s),.c (.i .u8 r)] vs at hv
 cases hb
 refine ⟨.ret (.int .i64 (Lib.indexByte s r.toNat.toUInt8)),[],fun hok=>?_,.ret _ _ (.i _ _),.nil⟩
 rw [c4n hv]
 refine H0 (d:=.int .i64 (Lib.indexByte s r.toNat.toUInt8)) Tryz.call159 fun w S M us hg hwi hr=>?_
 rw [c4o hr]
 refine (Any.strings_IndexByte Tryz.lays137 ⟨s.toArray⟩ r w).mono ?_
 rintro e w' ⟨rfl,rfl⟩
 exact ⟨Below.refl _ _,_,S,rfl,⟨fun _ _ h=>h,fun _ _ h=>.inl h⟩,hwi,.int _ _,N5 (fun _ _ _ h=>by cases h) (fun _ h=>by cases h)⟩
theorem e3c:j5 123 (b0z (fun _ t=>∃ c,t=[c]) fun s t=>.c (.i .i64 (Lib.indexByte s (t.headD 0)))):=fun ⟨(s,t),c,hc⟩ vs bs hv hb=>by
 change j6 [.c (.s s),.c (.s t)] vs at hv
 cases hb
 have hc:t=[c]:=hc
 subst hc
 refine ⟨.ret (.int .i64 (Lib.indexByte s c)),[],fun hok=>?_,.ret _ _ (.i _ _),.nil⟩
 rw [c14 hv]
 refine H0 (d:=.int .i64 (Lib.indexByte s c)) Tryz.call123 fun w S M us hg hwi hr=>?_
 rw [c4y hr]
 refine (Any.stringslite_Index_one Tryz.lays219 ⟨s.toArray⟩ c w).mono ?_
 rintro e w' ⟨rfl,rfl⟩
 exact ⟨Below.refl _ _,_,S,rfl,⟨fun _ _ h=>h,fun _ _ h=>.inl h⟩,hwi,.int _ _,N5 (fun _ _ _ h=>by cases h) (fun _ h=>by cases h)⟩
def d28 (s t:f4):Prop:=s.length < 4294967281∧t.length < 4294967281∧∀ b ∈ t,b.toNat < 128
theorem d1l:j5 165 (b0z d28 fun s t=>.c (.s (Lib.trimS s t))):=fun ⟨(s,t),h0,h1,h2⟩ vs bs hv hb=>by
 change j6 [.c (.s s),.c (.s t)] vs at hv
 cases hb
 refine ⟨.ret (.str (Lib.trimS s t).length (j9 (Lib.trimS s t))),[],fun hok=>?_,.ret _ _ (.s _ _ _ rfl rfl),.nil⟩
 rw [c14 hv]
 show CM X0.P X0.G _ _ [] (.ret (.str (k7 _ (j9 _)))) []
 rw [x5]
 refine H0 Tryz.call165 fun w S M us hg hwi hr=>?_
 rw [c4y hr]
 refine (Any.strings_Trim_laid Tryz.lays160 kR ⟨s.toArray⟩ ⟨t.toArray⟩ w (by have h0:s.length < 4294967281:=h0;simp [ByteArray.size];omega) (by have h1:t.length < 4294967281:=h1;simp [ByteArray.size];omega) (fun j b hb=>h2 b (List.mem_of_getElem? hb))).mono ?_
 rintro e w' ⟨rfl,hb⟩
 exact ⟨hb,_,S,rfl,⟨fun _ _ h=>h,fun _ _ h=>.inl h⟩,N7 hwi hb,.str _ _ rfl,N5 (fun _ _ _ h=>by cases h) (fun _ h=>by cases h)⟩
theorem d05:j5 192 (b0z d28 fun s t=>.c (.s (Lib.trimLeftS s t))):=fun ⟨(s,t),h0,h1,h2⟩ vs bs hv hb=>by
 change j6 [.c (.s s),.c (.s t)] vs at hv
 cases hb
 refine ⟨.ret (.str (Lib.trimLeftS s t).length (j9 (Lib.trimLeftS s t))),[],fun hok=>?_,.ret _ _ (.s _ _ _ rfl rfl),.nil⟩
 rw [c14 hv]
 show CM X0.P X0.G _ _ [] (.ret (.str (k7 _ (j9 _)))) []
 rw [x5]
 refine H0 Tryz.call192 fun w S M us hg hwi hr=>?_
 rw [c4y hr]
 refine (Any.strings_TrimLeft_laid Tryz.lays161 kR ⟨s.toArray⟩ ⟨t.toArray⟩ w (by have h1:t.length < 4294967281:=h1;simp [ByteArray.size];omega) (fun j b hb=>h2 b (List.mem_of_getElem? hb))).mono ?_
 rintro e w' ⟨rfl,hb⟩
 exact ⟨hb,_,S,rfl,⟨fun _ _ h=>h,fun _ _ h=>.inl h⟩,N7 hwi hb,.str _ _ rfl,N5 (fun _ _ _ h=>by cases h) (fun _ h=>by cases h)⟩
end
end Go.Proofs.YtffaodopiifbkaaGreatDoor
namespace Go.Proofs.YtffaodopiifbkaaGreatDoor
open Go.Abs LQ
set_option maxRecDepth 100000
set_option maxHeartbeats 4000000
noncomputable section
def Q2 (s t:f4):Bool:=decide (t.length≤s.length∧s.take t.length=t)
theorem b2m:j5 207 (b0z (fun _ _=>True) fun s t=>.c (.b (Q2 s t))):=k8 (fun fn h=>e5p h) [] .nil fun U fn hfn ⟨(s,t),_⟩ vs bs hv hb=>by
 have hv:j6 [.c (.s s),.c (.s t)] vs:=hv
 have hb:g9 [] bs:=hb
 show g8 U _ fun v bs'=>j7 (.ret (.c (.b (Q2 s t)))) v∧g9 [] bs'
 unfold d75
 (refine Zq ?_;with_reducible repeat' first|intro _|apply aI)
 ·have hl:t.length≤s.length:=oM
  exact D8 fun e=>by subst e;exact ⟨.ret _ _ (K9 (by rw [cuS];unfold Q2;simp [hl])),.nil⟩
 ·exact i6 ⟨.ret _ _ (F1 (by unfold Q2;rw [decide_eq_false];omega)),.nil⟩
theorem c8s:j5 181 (b0z (fun _ _=>True) fun s t=>.c (.b (Q2 s t))):=k8 (fun fn h=>e5z h) [(207,_)] (.cons b2m .nil) fun U fn hfn ⟨(s,t),_⟩ vs bs hv hb=>by
 have hp:=hfn 207 _ rfl
 have hv:j6 [.c (.s s),.c (.s t)] vs:=hv
 have hb:g9 [] bs:=hb
 show g8 U _ fun v bs'=>j7 (.ret (.c (.b (Q2 s t)))) v∧g9 [] bs'
 unfold d5l
 (refine Zq ?_;intros)
 refine f5 hp ⟨(s,t),trivial⟩ (r:=.c (.b (Q2 s t))) rfl j4 .nil fun _ _ _ _=>?_
 (refine Zq ?_;intros)
 exact i6 ⟨.ret _ _ (.b _),.nil⟩
def C4 (s t:f4):f4:=if Q2 s t then s.drop t.length else s
theorem c21:j5 209 (b0z (fun _ _=>True) fun s t=>.c (.s (C4 s t))):=k8 (fun fn h=>e2c h) [(207,_)] (.cons b2m .nil) fun U fn hfn ⟨(s,t),_⟩ vs bs hv hb=>by
 have hp:=hfn 207 _ rfl
 have hv:j6 [.c (.s s),.c (.s t)] vs:=hv
 have hb:g9 [] bs:=hb
 show g8 U _ fun v bs'=>j7 (.ret (.c (.s (C4 s t)))) v∧g9 [] bs'
 unfold d8j
 (refine Zq ?_;intros)
 refine f5 hp ⟨(s,t),trivial⟩ (r:=.c (.b (Q2 s t))) rfl j4 .nil fun _ _ hv hb=>?_
 refine sB hv (a7t hb ?_)
 have hl:Q2 s t=true→t.length≤s.length:=fun h=>by simp [Q2] at h;exact h.1
 refine b31 trV (fun h=>?_) fun h=>?_
 ·have hp:=h
  have hl:=hl h
  (refine Zq ?_;intros)
  have e:C4 s t=s.drop t.length:=by unfold C4;rw [if_pos hp]
  rw [e,Int.toNat_natCast]
  exact i6 ⟨.ret _ _ (.s _ _ _ rfl rfl),.nil⟩
 ·have e:C4 s t=s:=by unfold C4;rw [if_neg h]
  rw [e]
  exact i6 ⟨.ret _ _ (.s _ _ _ rfl rfl),.nil⟩
theorem Y3:j5 184 (b0z (fun _ _=>True) fun s t=>.c (.s (C4 s t))):=k8 (fun fn h=>e26 h) [(209,_)] (.cons c21 .nil) fun U fn hfn ⟨(s,t),_⟩ vs bs hv hb=>by
 have hp:=hfn 209 _ rfl
 have hv:j6 [.c (.s s),.c (.s t)] vs:=hv
 have hb:g9 [] bs:=hb
 show g8 U _ fun v bs'=>j7 (.ret (.c (.s (C4 s t)))) v∧g9 [] bs'
 unfold d41
 (refine Zq ?_;intros)
 refine f5 hp ⟨(s,t),trivial⟩ (r:=.c (.s (C4 s t))) rfl j4 .nil fun _ _ _ _=>?_
 (refine Zq ?_;intros)
 exact i6 ⟨.ret _ _ (.s _ _ _ rfl rfl),.nil⟩
theorem R7 (s:f4) (c:UInt8):Lib.indexByte s c < s.length∧-1≤Lib.indexByte s c:=by
 induction s with
 | nil=>simp [Lib.indexByte]
 | cons b l ih =>
  simp only [Lib.indexByte,List.length_cons]
  split
  ·omega
  ·split <;> omega
def G6 (s:f4) (c:UInt8):f4 × f4 × Bool:=if 0≤Lib.indexByte s c then (s.take (Lib.indexByte s c).toNat,s.drop (Lib.indexByte s c+1).toNat,true) else (s,[],false)
def e1l:Sp:=b0z (fun s t=>s.length < 90000∧∃ c,t=[c]) fun s t=>.t [.c (.s (G6 s (t.headD 0)).1),.c (.s (G6 s (t.headD 0)).2.1),.c (.b (G6 s (t.headD 0)).2.2)]
theorem f5s:j5 208 e1l:=k8 (fun fn h=>e2b h) [(123,_)] (.cons e3c .nil) fun U fn hfn ⟨(s,t),hs,c,hc⟩ vs bs hv hb=>by
 have hp:=hfn 123 _ rfl
 have hv:j6 [.c (.s s),.c (.s t)] vs:=hv
 have hb:g9 [] bs:=hb
 have hc:t=[c]:=hc
 have hs:s.length < 90000:=hs
 subst hc
 show g8 U _ fun v bs'=>j7 (.ret (.t [.c (.s (G6 s c).1),.c (.s (G6 s c).2.1),.c (.b (G6 s c).2.2)])) v∧g9 [] bs'
 unfold d8i
 (refine Zq ?_;intros)
 refine f5 hp ⟨(s,[c]),c,rfl⟩ (r:=.c (.i .i64 (Lib.indexByte s c))) rfl j4 .nil fun _ _ _ _=>?_
 have hi:=R7 s c
 have e1:(([c]:f4).length:Int)=1:=rfl
 (refine Zq ?_;with_reducible repeat' first|intro _|apply aI)
 ·have h0:=‹0≤Lib.indexByte s c›
  have e:G6 s c=(s.take (Lib.indexByte s c).toNat,s.drop (Lib.indexByte s c+1).toNat,true):=by unfold G6;rw [if_pos h0]
  rw [e]
  simp only [Int.toNat_zero,List.drop_zero,e1]
  exact i6 ⟨.ret _ _ j4,.nil⟩
 ·have e:G6 s c=(s,[],false):=by unfold G6;rw [if_neg ‹_›]
  rw [e]
  exact i6 ⟨.ret _ _ j4,.nil⟩
theorem f7e:j5 182 e1l:=k8 (fun fn h=>e3e h) [(208,_)] (.cons f5s .nil) fun U fn hfn ⟨(s,t),hs,c,hc⟩ vs bs hv hb=>by
 have hp:=hfn 208 _ rfl
 have hv:j6 [.c (.s s),.c (.s t)] vs:=hv
 have hb:g9 [] bs:=hb
 have hc:t=[c]:=hc
 subst hc
 show g8 U _ fun v bs'=>j7 (.ret (.t [.c (.s (G6 s c).1),.c (.s (G6 s c).2.1),.c (.b (G6 s c).2.2)])) v∧g9 [] bs'
 unfold d8c
 (refine Zq ?_;intros)
 refine f5 hp ⟨(s,[c]),hs,c,rfl⟩ (r:=.t [.c (.s (G6 s c).1),.c (.s (G6 s c).2.1),.c (.b (G6 s c).2.2)]) rfl j4 .nil fun _ _ _ _=>?_
 (refine Zq ?_;intros)
 exact i6 ⟨.ret _ _ j4,.nil⟩
theorem c5a (c:Int) (h1:32 < c) (h2:c < 127):(!(decide (0≤Lib.indexByte (k7 7 16462142067124520) c.toNat.toUInt8)))=r8 c:=by
 obtain ⟨n,rfl⟩:∃ n:Nat,c=n:=⟨c.toNat,oM⟩
 rw [Int.toNat_natCast]
 have h3:n < 127:=oM
 have h4:32 < n:=oM
 have key:∀ n:Fin 127,32 < n.1→(!(decide (0≤Lib.indexByte (k7 7 16462142067124520) n.1.toUInt8)))=r8 n.1:=dE
 exact key ⟨n,h3⟩ h4
def f1q (g:Int→GV):Sp where
 ι:={ c:Int // 0≤c∧c < 256 }
 A c:=[.c (.i .u8 c.1)]
 B _:=[]
 R c:=.ret (g c.1)
 B' _:=[]
 inj i j vs bs h k _ _:=by
  obtain ⟨_,_,h1,k1,h,k⟩:=h.two k
  rw [a1q h1 k1];exact ⟨rfl,rfl⟩
theorem b3e:j5 138 (f1q fun c=>.c (.b (r8 c))):=k8 (fun fn h=>e43 h) [(158,_)] (.cons b81 .nil) fun U fn hfn ⟨c,h0,h1⟩ vs bs hv hb=>by
 have hp:=hfn 158 _ rfl
 have hv:j6 [.c (.i .u8 c)] vs:=hv
 have hb:g9 [] bs:=hb
 show g8 U _ fun v bs'=>j7 (.ret (.c (.b (r8 c)))) v∧g9 [] bs'
 unfold d7y
 (refine Zx ?_;with_reducible repeat' first|intro _|apply aI)
 ·refine d12 (m:=c) rfl oM ?_
  refine f5 hp ⟨(k7 7 16462142067124520,c),oM,oM⟩ (r:=.c (.b (decide (0≤Lib.indexByte (k7 7 16462142067124520) c.toNat.toUInt8)))) rfl j4 .nil fun _ _ _ _=>?_
  (refine Zx ?_;intros)
  exact D8 fun e=>by subst e;exact ⟨.ret _ _ (K9 (by rw [c0w,c5a c oM oM])),.nil⟩
 ·exact i6 ⟨.ret _ _ (F1 (by simp [r8];omega)),.nil⟩
 ·exact i6 ⟨.ret _ _ (F1 (by simp [r8];omega)),.nil⟩
theorem RB.bx {gs:List G} {q:Q} {m:Nat} (h:u1 gs q 0) (hm:m=gs.length):g9 [gs] [.opa q m]:=.k (.opa _ _ _ hm h) .nil
def G1 (s:f4) (i:Nat):List G:=[.s s,.i .i64 (i:Int)]
theorem a4k {s t:f4} {i j:Nat} (h:G1 s i=G1 t j):s=t∧i=j:=by
 simp only [G1,List.cons.injEq,G.s.injEq,G.i.injEq,and_true,true_and] at h
 exact ⟨h.1,oM⟩
theorem g9.one_inj {g g':List G} {bs:List Bx} (h:g9 [g] bs) (k:g9 [g'] bs):g=g':=by
 cases h with | cons _ _ b _ h1 _=>cases k with | cons _ _ _ _ k1 _=>exact h1.inj k1
abbrev ScI:={ p:f4 × Nat // p.2≤p.1.length∧p.1.length < 90000 }
def d60 (R:f4→Nat→n5) (b:f4→Nat→Nat):Sp where
 ι:=ScI
 A _:=[.p 0 0]
 B p:=[G1 p.1.1 p.1.2]
 R p:=R p.1.1 p.1.2
 B' p:=[G1 p.1.1 (b p.1.1 p.1.2)]
 inj i j vs bs _ _ h k:=by
  have:=a4k (g9.one_inj h k)
  rw [this.1,this.2];exact ⟨rfl,rfl⟩
def f3j (R:f4→Nat→f4→n5):Sp where
 ι:=ScI × f4
 A p:=[.p 0 0,.c (.s p.2)]
 B p:=[G1 p.1.1.1 p.1.1.2]
 R p:=R p.1.1.1 p.1.1.2 p.2
 B' p:=[G1 p.1.1.1 p.1.1.2]
 inj i j vs bs hv kv h k:=by
  have:=a4k (g9.one_inj h k)
  obtain ⟨_,_,_,_,hv,kv⟩:=hv.two kv
  obtain ⟨_,_,h2,k2,_,_⟩:=hv.two kv
  rw [this.1,this.2,F2 h2 k2];exact ⟨rfl,rfl⟩
theorem scQ {U:q8} (e:U=CU) {s:f4} {j:Int} {k:Nat} {x:Q} (h:u1 [.s s,.i .i64 j] x 0) {n:Int} (hn:n=(k:Int)):g9 [G1 s k] [.cells [.q (U.celQ x 0),.int .i64 n]]:=by
 subst e hn
 exact .k (.cells _ _ (.k (.q _ _ (u1.at h rfl)) (.k (.i _ _) .nil))) .nil
theorem Y1 {s:f4} {k:Nat} {n:Int} (hn:n=(k:Int)):g9 [G1 s k] [.cells [.str s.length (j9 s),.int .i64 n]]:=by
 subst hn
 exact .k (.cells _ _ (.k (.s _ _ _ rfl rfl) (.k (.i _ _) .nil))) .nil
theorem e0h {s:f4} {j:Nat} (h:j < s.length) (hc:r8 (bt s j)=true):l5 s j=l5 s (j+1):=by rw [l5,if_pos h,if_pos hc]
theorem e9f {s:f4} {j:Nat} (h:j < s.length) (hc:¬r8 (bt s j)=true):l5 s j=j:=by rw [l5,if_pos h,if_neg hc]
theorem f07 {s:f4} {j:Nat} (h:¬j < s.length):l5 s j=j:=by rw [l5,if_neg h]
theorem b5a:j5 135 (d60 (fun s i=>.ret (.c (.b (decide (i < s.length))))) fun _ i=>i):=k8 (fun fn h=>e5g h) [] .nil fun U fn hfn ⟨(s,i),h1,h2⟩ vs bs hv hb=>by
 have hv:j6 [.p 0 0] vs:=hv
 have hb:g9 [[.s s,.i .i64 (i:Int)]] bs:=hb
 show g8 U _ fun v bs'=>j7 (.ret (.c (.b (decide (i < s.length))))) v∧g9 [G1 s i] bs'
 unfold d6l
 (refine Zq ?_;intros)
 exact D8 fun e=>by subst e;exact ⟨.ret _ _ (K9 (by rw [b0w];simp)),.k (.cells _ _ j4) .nil⟩
theorem b7m:j5 160 (f3j fun s i p=>.ret (.c (.b (Q2 (s.drop i) p)))):=k8 (fun fn h=>e21 h) [(181,_)] (.cons c8s .nil) fun U fn hfn ⟨⟨(s,i),h1,h2⟩,p⟩ vs bs hv hb=>by
 have hp:=hfn 181 _ rfl
 have hv:j6 [.p 0 0,.c (.s p)] vs:=hv
 have hb:g9 [[.s s,.i .i64 (i:Int)]] bs:=hb
 have h1:i≤s.length:=h1
 show g8 U _ fun v bs'=>j7 (.ret (.c (.b (Q2 (s.drop i) p)))) v∧g9 [G1 s i] bs'
 unfold d8l
 (refine Zq ?_;intros)
 rw [Int.toNat_natCast]
 refine f5 hp ⟨(s.drop i,p),trivial⟩ (r:=.c (.b (Q2 (s.drop i) p))) rfl j4 .nil fun _ _ _ _=>?_
 (refine Zq ?_;intros)
 exact i6 ⟨.ret _ _ (.b _),.k (.cells _ _ j4) .nil⟩
def G3 (s:f4) (i:Nat):f4:=(s.take (l5 s i)).drop i
theorem e1h:j5 140 (d60 (fun s i=>.ret (.c (.s (G3 s i)))) l5):=k8 (fun fn h=>e19 h) [(135,_),(138,_)] (.cons b5a (.cons b3e .nil)) fun U fn hfn ⟨(s,i),h1,h2⟩ vs bs hv hb=>by
 have hm:=hfn 135 _ rfl
 have hc:=hfn 138 _ rfl
 have hv:j6 [.p 0 0] vs:=hv
 have hb:g9 [[.s s,.i .i64 (i:Int)]] bs:=hb
 have h1:i≤s.length:=h1
 have h2:s.length < 90000:=h2
 show g8 U _ fun v bs'=>j7 (.ret (.c (.s (G3 s i)))) v∧g9 [G1 s (l5 s i)] bs'
 unfold d9b
 (refine Zq ?_;intros)
 refine D3 (fun (j:Nat) vs bs=>vs=[.ptr 0 0,.int .i64 i]∧g9 [G1 s j] bs∧i≤j∧j≤s.length∧l5 s j=l5 s i) (fun j=>s.length - j) i ⟨rfl,.k (.cells _ _ j4) .nil,Nat.le_refl _,h1,rfl⟩ (by simp only [v8];omega) ?_
 rintro self j vs bs ⟨rfl,hb,hij,hj,he⟩ ih
 have hb:g9 [[.s s,.i .i64 (j:Int)]] bs:=hb
 (refine Zq ?_;intros)
 refine f5 hm ⟨(s,j),hj,h2⟩ (r:=.c (.b (decide (j < s.length)))) rfl j4 (RB.bx aS rfl) fun _ _ _ hb=>?_
 have hb:g9 [[.s s,.i .i64 (j:Int)]] _:=hb
 (refine Zq ?_;with_reducible repeat' first|intro _|apply aI)
 ·have hlt:j < s.length:=of_decide_eq_true ‹_›
  have hbt:((s.getD j 0).toNat:Int)=bt s j:=rfl
  have hb0:=a5u s j
  have hb1:=c0n s j
  (refine Zq ?_;intros)
  refine f5 hc ⟨bt s j,hb0,hb1⟩ (r:=.c (.b (r8 (bt s j)))) rfl j4 .nil fun _ _ _ _=>?_
  (refine Zq ?_;with_reducible repeat' first|intro _|apply aI)
  ·exact fun e=>ih (j+1) _ _ ⟨rfl,scQ e aS oM,oM,oM,by rw [← e0h hlt ‹_›];exact he⟩ oM e
  ·have e:=e9f hlt ‹_›
   rw [Int.toNat_natCast,Int.toNat_natCast]
   have ew:G3 s i=(s.take j).drop i:=by unfold G3;rw [← he,e]
   rw [ew,← he,e]
   exact i6 ⟨.ret _ _ (.s _ _ _ rfl rfl),RB.bx aS rfl⟩
 ·have hlt:¬j < s.length:=fun h=>‹¬decide (j < s.length)=true› (decide_eq_true h)
  (refine Zq ?_;intros)
  have e:=f07 hlt
  rw [Int.toNat_natCast,Int.toNat_natCast]
  have ew:G3 s i=(s.take j).drop i:=by unfold G3;rw [← he,e]
  rw [ew,← he,e]
  exact i6 ⟨.ret _ _ (.s _ _ _ rfl rfl),RB.bx aS rfl⟩
end
end Go.Proofs.YtffaodopiifbkaaGreatDoor
