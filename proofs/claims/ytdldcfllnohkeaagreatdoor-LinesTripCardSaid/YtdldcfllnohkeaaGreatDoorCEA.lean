/- Rules for parts of strings, for concatenation, for failures. -/
import Derived.Test.YtdldcfllnohkeaaGreatDoorCR5e
import Derived.Test.YtdldcfllnohkeaaGreatDoorCS
import Derived.Test.YtdldcfllnohkeaaGreatDoorCN
set_option linter.all false
namespace Go.Abs
theorem f12 (n:Nat):2 ^ (8 * n)=256 ^ n:=by rw [Nat.pow_mul]
theorem d0q:∀ s:List UInt8,n7 s < 256 ^ s.length
 | []=>by simp [n7]
 | b :: l=>by
  have h1:=d0q l
  have h2:=b.toNat_lt
  simp only [n7,List.length_cons,Nat.pow_succ]
  omega
theorem b5y:∀ (l c:Nat),c < 256 ^ l→n7 (m8 l c)=c
 | 0,c,h=>by simp at h;subst h;rfl
 | l+1,c,h=>by
  rw [Nat.pow_succ] at h
  simp only [m8,n7]
  rw [b5y l (c / 256) oM,UInt8.toNat_ofNat']
  omega
theorem d8a {s:List UInt8} {a b:Nat} (h1:a≤b) (h2:b≤s.length):sSub (n7 s) a (b - a)=n7 ((s.take b).drop a):=by
 have h:=d2l (c:=n7 s) h1 h2
 rw [C2] at h
 rw [h,b5y]
 unfold sSub
 show Nat.mod _ (1 <<< (8 * (b - a))) < _
 rw [Nat.one_shiftLeft,f12]
 exact Nat.mod_lt _ (Nat.pow_pos dE)
theorem c29 (x y:List UInt8):sCat x.length (n7 x) (n7 y)=n7 (x ++ y):=by
 have h:=d2j x.length (n7 x) y.length (n7 y)
 rw [C2,C2] at h
 rw [h,b5y]
 unfold sCat
 show Nat.mod (n7 x) (1 <<< (8 * x.length))+n7 y <<< (8 * x.length) < _
 rw [Nat.one_shiftLeft,Nat.shiftLeft_eq,f12,Nat.pow_add]
 have h1:=d0q y
 have h2:Nat.mod (n7 x) (256 ^ x.length) < 256 ^ x.length:=Nat.mod_lt _ (Nat.pow_pos dE)
 have h3:=Nat.mul_le_mul_right (256 ^ x.length) h1
 rw [Nat.succ_mul] at h3
 rw [Nat.mul_comm (256 ^ x.length)]
 omega
theorem e9l {s:List UInt8} {a b:Nat} (h1:a≤b) (h2:b≤s.length):((s.take b).drop a).length=b - a:=by simp;omega
section
variable {U:v8} {P:L6→List Bx→Prop}
theorem e5a {s:List UInt8} {a b:Int} {K:Nat→Nat→Om} (h:0≤a∧a≤b∧b≤s.length) (k:j5 U (K ((s.take b.toNat).drop a.toNat).length (n7 ((s.take b.toNat).drop a.toNat))) P) :
  j5 U (U.fN (U.nSub (U.iNat b) (U.iNat a)) fun m=>U.fN (U.sSub (n7 s) (U.iNat a) m) fun d=>K m d) P:=fun e=>by
 have:=k e
 subst e
 rw [b0d,b0d]
 show ∃ v bs,K (iNat b - iNat a) (sSub (n7 s) (iNat a) (iNat b - iNat a))=some (v,bs)∧P v bs
 rw [F8,F8,d8a (show a.toNat≤b.toNat by omega) oM,← e9l (s:=s) (show a.toNat≤b.toNat by omega) oM]
 exact this
theorem f9o {s:List UInt8} {a:Int} {K:Nat→Nat→Om} (h:0≤a∧a≤s.length) (k:j5 U (K (s.drop a.toNat).length (n7 (s.drop a.toNat))) P) :
  j5 U (U.fN (U.nSub (U.iNat (U.iOfN s.length)) (U.iNat a)) fun m=>U.fN (U.sSub (n7 s) (U.iNat a) m) fun d=>K m d) P:=fun e=>by
 have:=k e
 subst e
 refine e5a (b:=(s.length:Int)) ⟨h.1,h.2,Int.le_refl _⟩ ?_ rfl
 rw [Int.toNat_natCast,List.take_length]
 exact fun _=>this
theorem d84 {n:Nat}:M9 U (U.iLe (U.iOfN n) (U.iOfN n)) (n≤n):=fun e=>by subst e;exact ⟨fun _=>Nat.le_refl _,fun _=>(a7u (U:=CU) rfl).2 (Int.le_refl _)⟩
theorem d8f {e m:Int} {K:Int→Om} (he:e=m) (hr:-2147483648≤m∧m < 2147483648) (h:j5 U (K m) P):j5 U (U.fI (U.wr .i32 e) K) P:=fun e'=>by
 have:=h e';subst e' he;rw [a0c]
 show ∃ v bs,K (wr .i32 e)=some (v,bs)∧P v bs
 rw [a3l,a5b .i32 _ (by show _ < ((2147483648:Nat):Int);omega) (by show -((2147483648:Nat):Int)≤_;omega)]
 exact this
theorem f9q {a b:Int} {K:Int→Om} (h:j5 U (K (a.tdiv b)) P):j5 U (U.fI (U.iQuo a b) K) P:=fun e=>by
 have:=h e;subst e;rw [a0c]
 show ∃ v bs,K (iQuo a b)=some (v,bs)∧P v bs
 rw [b35];exact this
theorem g1z {k:IntKind} {n:Int} {x:Q} {K:IntKind→Int→Om} (hx:RG (.i k n) x) (h:j5 U (K k n) P):j5 U (U.cI0 x K) P:=fun e=>by
 have:=h e;subst e;cases hx;exact this
end
end Go.Abs
namespace Go.Proofs.YtdldcfllnohkeaaGreatDoor
open Go.Abs LQ
theorem Zq {p q:Prop} (k:q) (h:Tr p q:=by ((repeat' (first | (with_reducible apply Tr.all) | (with_reducible intro _) | (apply Tr.b;(case f=>first | exact b8y | exact a26 aS | exact c79 | exact b4k aS | exact b8z | exact a7r aS | exact b3a | exact b4j aS | exact sP | exact sPR aS | exact sIV | exact sI aS | exact sBV | exact sBK | exact sB aS | exact sSV | exact sS aS | exact sA | exact M5 aS (by rfl) | exact c1b (by rfl) | exact c8b (by rfl) | exact c4p aS (by rfl) | exact c8c aS (by rfl) | exact d40 aS | exact sSl aS | exact sTu aS | exact sBo | exact a7q aS (by rfl) | exact sBc | exact d4y aS | exact sBt | exact sBs | exact sBr | exact a28 aS | exact b85 aS | exact b81 aS (by rfl) | exact d4z aS (by rfl) | exact sCI' aS (by rfl) | exact sCB' aS (by rfl) | exact sCS aS | exact sCI aS | exact sCB aS | exact b83 (by first | omega | (simp only [List.length_map] at *;omega)) | exact b82 (by first | omega | (simp only [List.length_map] at *;omega)) | exact c4r | exact f9o (by first | omega | (simp only [List.length_map] at *;omega)) | exact e5a (by first | omega | (simp only [List.length_map] at *;omega)) | exact sCI0' aS (by rfl) | exact g1z aS | exact b4l | exact b4n | exact c4q | exact b84 | exact b80 | exact sfSubN | exact b4m | exact sfBSelE | exact sfB | exact sJn | exact c4o | exact c4m | exact c4n | exact E8 aS (by (first | exact A0 O.g_len | exact A0 (fun _=>rfl))) | exact b29 aS (by (first | exact A0 O.g_len | exact A0 (fun _=>rfl))) | exact c4t (by first | omega | (simp only [List.length_map] at *;omega)) | exact b86 (by first | omega | (simp only [List.length_map] at *;omega)) | exact d42 aS (by first | assumption | omega | (simp only [List.length_map] at *;omega)) | exact sfT aS (by rfl))) | (apply Tr.chk;(case ht=>(repeat' (first | exact d84 | exact trT | exact trF | apply a6c | apply a58 | exact a6b | exact a6a | exact a5l | exact a7u | exact a7t | exact a3h | exact a3i | exact a3g | exact a3f | exact a3e | exact a6e | exact b1i | exact b1h | exact trS | exact trV)));(case hp=>first | omega | (simp only [List.length_map] at *;omega))) | (apply Tr.cnd;(case ht=>(repeat' (first | exact d84 | exact trT | exact trF | apply a6c | apply a58 | exact a6b | exact a6a | exact a5l | exact a7u | exact a7t | exact a3h | exact a3i | exact a3g | exact a3f | exact a3e | exact a6e | exact b1i | exact b1h | exact trS | exact trV))))));all_goals exact Tr.refl)):p:=h.go k
end Go.Proofs.YtdldcfllnohkeaaGreatDoor
namespace Go.Proofs.YtdldcfllnohkeaaGreatDoor
open Go.Abs LQ Go.RowKit
set_option maxRecDepth 100000
set_option maxHeartbeats 4000000
noncomputable section
theorem L5 {P:Program} {G:b1z} {f:FuncId} {ds:List D} {d:D} (hcall:∀ args w,(callFunc f args).run P w=.ok (.enter f args) w)
  (h:∀ (w:World) (S:l9) (M:Mp) (vs:List Value),G.pred w→S.within w→u3 S M w vs ds→Calls P f vs.toArray w fun e w'=>Below w.heap.size w w'∧∃ v S',e=.returned v∧S.grown S' w∧S'.within w'∧Rd S' M w' v d∧a5d S' w w' v d):CM P G f ds [] (.ret d) []:=by
 refine ⟨hcall,fun w S M vs hg hM hwi hh hvs=>(h w S M vs hg hwi hvs).mono fun e w' ⟨hb,v,S',he,h1,h2,h3,h4⟩=>?_⟩
 exact ⟨⟨hb.os,hb.tape,hb.output,hb.size,fun k hk _=>hb.block k hk⟩,S',h1,h2,⟨fun id b h=>by simp at h,fun id hid=>hh.out id (by simp),fun i j x y b k l h=>by simp at h⟩,v,he,h3,h4⟩
theorem S8 {S:l9} {w w':World} (h:S.within w) (hb:Below w.heap.size w w'):S.within w':=fun b o hS=>Nat.lt_of_lt_of_le (h b o hS) hb.size
theorem P6 {S:l9} {w0 w:World} {v:Value} {d:D} (h:∀ l c z,d ≠ .slice l c (.fr z)) (h2:∀ ds,d ≠ .tuple ds):a5d S w0 w v d:=⟨fun l c z e=>absurd e (h l c z),fun _ ds _ e=>absurd e (h2 ds)⟩
theorem d8q {s:ByteArray} {l:List UInt8} (h:s.data.toList=l):s=⟨l.toArray⟩:=by subst h;rfl
theorem c4x {s:i6} {v:V} (h:RV (.c (.s s)) v):toD v=.str s:=by
 cases h with
 | s _ l c h1 h2=>subst h1 h2;simp only [toD,C2]
 | q _ x h=>cases h with | s _ l c h1 h2=>subst h1 h2;simp [toD,den,a1o,C2]
theorem d5e {k:IntKind} {n:Int} {v:V} (h:RV (.c (.i k n)) v):toD v=.int k n:=by
 cases h with
 | i=>rfl
 | q _ x h=>cases h;rfl
theorem c8q {s t:i6} {vs:List V} (h:l7 [.c (.s s),.c (.s t)] vs):vs.map toD=[.str s,.str t]:=by
 cases h with | cons _ _ v _ h1 h=>cases h with | cons _ _ v' _ h2 h=>cases h;simp [c4x h1,c4x h2]
theorem c8p {s:i6} {k:IntKind} {n:Int} {vs:List V} (h:l7 [.c (.s s),.c (.i k n)] vs):vs.map toD=[.str s,.int k n]:=by
 cases h with | cons _ _ v _ h1 h=>cases h with | cons _ _ v' _ h2 h=>cases h;simp [c4x h1,d5e h2]
theorem c7w {S:l9} {M:Mp} {w:World} {v:Value} {s:i6} (h:Rd S M w v (.str s)):v=.string ⟨s.toArray⟩:=by
 cases h with | str b _ hb=>rw [d8q hb]
theorem f54 {S:l9} {M:Mp} {w:World} {v:Value} {k:IntKind} {n:Int} (h:Rd S M w v (.int k n)):v=.int k n:=by cases h;rfl
theorem c7z {S:l9} {M:Mp} {w:World} {vs:List Value} {s t:i6} (h:u3 S M w vs [.str s,.str t]):vs=[.string ⟨s.toArray⟩,.string ⟨t.toArray⟩]:=by
 cases h with | cons _ _ _ _ h1 h=>cases h with | cons _ _ _ _ h2 h=>cases h;rw [c7w h1,c7w h2]
theorem c7y {S:l9} {M:Mp} {w:World} {vs:List Value} {s:i6} {k:IntKind} {n:Int} (h:u3 S M w vs [.str s,.int k n]):vs=[.string ⟨s.toArray⟩,.int k n]:=by
 cases h with | cons _ _ _ _ h1 h=>cases h with | cons _ _ _ _ h2 h=>cases h;rw [c7w h1,f54 h2]
def e3g (k:IntKind) (ok:i6→Int→Prop) (g:i6→Int→GV):Sp where
 ι:={ p:i6 × Int // ok p.1 p.2 }
 A p:=[.c (.s p.1.1),.c (.i k p.1.2)]
 B _:=[]
 R p:=.ret (g p.1.1 p.1.2)
 B' _:=[]
 inj i j vs bs h k _ _:=by
  obtain ⟨_,_,h1,k1,h,k⟩:=h.two k
  obtain ⟨_,_,h2,k2,h,k⟩:=h.two k
  rw [H3 h1 k1,a2v h2 k2];exact ⟨rfl,rfl⟩
def a9h (ok:i6→i6→Prop) (g:i6→i6→GV):Sp where
 ι:={ p:i6 × i6 // ok p.1 p.2 }
 A p:=[.c (.s p.1.1),.c (.s p.1.2)]
 B _:=[]
 R p:=.ret (g p.1.1 p.1.2)
 B' _:=[]
 inj i j vs bs h k _ _:=by
  obtain ⟨_,_,h1,k1,h,k⟩:=h.two k
  obtain ⟨_,_,h2,k2,h,k⟩:=h.two k
  rw [H3 h1 k1,H3 h2 k2];exact ⟨rfl,rfl⟩
theorem c2h:k9 132 (e3g .i32 (fun _ r=>0≤r∧r < 128) fun s r=>.c (.b (decide (0≤Lib.indexByte s r.toNat.toUInt8)))):=fun ⟨(s,r),h0,h1⟩ vs bs hv hb=>by
 change l7 [.c (.s s),.c (.i .i32 r)] vs at hv
 cases hb
 refine ⟨.ret (.bool (decide (0≤Lib.indexByte s r.toNat.toUInt8))),[],fun hok=>?_,.ret _ _ (.b _),.nil⟩
 rw [c8p hv]
 refine L5 (d:=.bool (decide (0≤Lib.indexByte s r.toNat.toUInt8))) Tryz.call132 fun w S M us hg hwi hr=>?_
 rw [c7y hr]
 refine (Any.strings_ContainsRune_ascii Tryz.lays151 ⟨s.toArray⟩ r w h0 h1).mono ?_
 rintro e w' ⟨rfl,rfl⟩
 exact ⟨Below.refl _ _,_,S,rfl,⟨fun _ _ h=>h,fun _ _ h=>.inl h⟩,hwi,.bool _,P6 (fun _ _ _ h=>by cases h) (fun _ h=>by cases h)⟩
theorem d3u:k9 133 (e3g .u8 (fun _ r=>0≤r∧r < 256) fun s r=>.c (.i .i64 (Lib.indexByte s r.toNat.toUInt8))):=fun ⟨(s,r),h0,h1⟩ vs bs hv hb=>by
 change l7 [.c (.s s),.c (.i .u8 r)] vs at hv
 cases hb
 refine ⟨.ret (.int .i64 (Lib.indexByte s r.toNat.toUInt8)),[],fun hok=>?_,.ret _ _ (.i _ _),.nil⟩
 rw [c8p hv]
 refine L5 (d:=.int .i64 (Lib.indexByte s r.toNat.toUInt8)) Tryz.call133 fun w S M us hg hwi hr=>?_
 rw [c7y hr]
 refine (Any.strings_IndexByte Tryz.lays137 ⟨s.toArray⟩ r w).mono ?_
 rintro e w' ⟨rfl,rfl⟩
 exact ⟨Below.refl _ _,_,S,rfl,⟨fun _ _ h=>h,fun _ _ h=>.inl h⟩,hwi,.int _ _,P6 (fun _ _ _ h=>by cases h) (fun _ h=>by cases h)⟩
theorem d1e:k9 71 (a9h (fun _ t=>∃ c,t=[c]) fun s t=>.c (.i .i64 (Lib.indexByte s (t.headD 0)))):=fun ⟨(s,t),c,hc⟩ vs bs hv hb=>by
 change l7 [.c (.s s),.c (.s t)] vs at hv
 cases hb
 have hc:t=[c]:=hc
 subst hc
 refine ⟨.ret (.int .i64 (Lib.indexByte s c)),[],fun hok=>?_,.ret _ _ (.i _ _),.nil⟩
 rw [c8q hv]
 refine L5 (d:=.int .i64 (Lib.indexByte s c)) Tryz.call71 fun w S M us hg hwi hr=>?_
 rw [c7z hr]
 refine (Any.stringslite_Index_one Tryz.lays219 ⟨s.toArray⟩ c w).mono ?_
 rintro e w' ⟨rfl,rfl⟩
 exact ⟨Below.refl _ _,_,S,rfl,⟨fun _ _ h=>h,fun _ _ h=>.inl h⟩,hwi,.int _ _,P6 (fun _ _ _ h=>by cases h) (fun _ h=>by cases h)⟩
def d7m (s t:i6):Prop:=s.length < 4294967281∧t.length < 4294967281∧∀ b ∈ t,b.toNat < 128
theorem d64:k9 139 (a9h d7m fun s t=>.c (.s (Lib.trimS s t))):=fun ⟨(s,t),h0,h1,h2⟩ vs bs hv hb=>by
 change l7 [.c (.s s),.c (.s t)] vs at hv
 cases hb
 refine ⟨.ret (.str (Lib.trimS s t).length (n7 (Lib.trimS s t))),[],fun hok=>?_,.ret _ _ (.s _ _ _ rfl rfl),.nil⟩
 rw [c8q hv]
 show CM X0.P X0.G _ _ [] (.ret (.str (m8 _ (n7 _)))) []
 rw [C2]
 refine L5 Tryz.call139 fun w S M us hg hwi hr=>?_
 rw [c7z hr]
 refine (Any.strings_Trim_laid Tryz.lays160 kR ⟨s.toArray⟩ ⟨t.toArray⟩ w (by have h0:s.length < 4294967281:=h0;simp [ByteArray.size];omega) (by have h1:t.length < 4294967281:=h1;simp [ByteArray.size];omega) (fun j b hb=>h2 b (List.mem_of_getElem? hb))).mono ?_
 rintro e w' ⟨rfl,hb⟩
 exact ⟨hb,_,S,rfl,⟨fun _ _ h=>h,fun _ _ h=>.inl h⟩,S8 hwi hb,.str _ _ rfl,P6 (fun _ _ _ h=>by cases h) (fun _ h=>by cases h)⟩
theorem d31:k9 167 (a9h d7m fun s t=>.c (.s (Lib.trimLeftS s t))):=fun ⟨(s,t),h0,h1,h2⟩ vs bs hv hb=>by
 change l7 [.c (.s s),.c (.s t)] vs at hv
 cases hb
 refine ⟨.ret (.str (Lib.trimLeftS s t).length (n7 (Lib.trimLeftS s t))),[],fun hok=>?_,.ret _ _ (.s _ _ _ rfl rfl),.nil⟩
 rw [c8q hv]
 show CM X0.P X0.G _ _ [] (.ret (.str (m8 _ (n7 _)))) []
 rw [C2]
 refine L5 Tryz.call167 fun w S M us hg hwi hr=>?_
 rw [c7z hr]
 refine (Any.strings_TrimLeft_laid Tryz.lays161 kR ⟨s.toArray⟩ ⟨t.toArray⟩ w (by have h1:t.length < 4294967281:=h1;simp [ByteArray.size];omega) (fun j b hb=>h2 b (List.mem_of_getElem? hb))).mono ?_
 rintro e w' ⟨rfl,hb⟩
 exact ⟨hb,_,S,rfl,⟨fun _ _ h=>h,fun _ _ h=>.inl h⟩,S8 hwi hb,.str _ _ rfl,P6 (fun _ _ _ h=>by cases h) (fun _ h=>by cases h)⟩
end
end Go.Proofs.YtdldcfllnohkeaaGreatDoor
namespace Go.Proofs.YtdldcfllnohkeaaGreatDoor
open Go.Abs LQ
set_option maxRecDepth 100000
set_option maxHeartbeats 4000000
noncomputable section
def V1 (s t:i6):Bool:=decide (t.length≤s.length∧s.take t.length=t)
theorem b42:k9 183 (a9h (fun _ _=>True) fun s t=>.c (.b (V1 s t))):=n9 (fun fn h=>e8u h) [] .nil fun U fn hfn ⟨(s,t),_⟩ vs bs hv hb=>by
 have hv:l7 [.c (.s s),.c (.s t)] vs:=hv
 have hb:RBs [] bs:=hb
 show j5 U _ fun v bs'=>l8 (.ret (.c (.b (V1 s t)))) v∧RBs [] bs'
 unfold e2r
 (refine Zq ?_;with_reducible repeat' first|intro _|apply aI)
 ·have hl:t.length≤s.length:=oM
  exact J3 fun e=>by subst e;exact ⟨.ret _ _ (U6 (by rw [cuS];unfold V1;simp [hl])),.nil⟩
 ·exact j9 ⟨.ret _ _ (N7 (by unfold V1;rw [decide_eq_false];omega)),.nil⟩
theorem d3t:k9 156 (a9h (fun _ _=>True) fun s t=>.c (.b (V1 s t))):=n9 (fun fn h=>e8n h) [(183,_)] (.cons b42 .nil) fun U fn hfn ⟨(s,t),_⟩ vs bs hv hb=>by
 have hp:=hfn 183 _ rfl
 have hv:l7 [.c (.s s),.c (.s t)] vs:=hv
 have hb:RBs [] bs:=hb
 show j5 U _ fun v bs'=>l8 (.ret (.c (.b (V1 s t)))) v∧RBs [] bs'
 unfold e2l
 (refine Zq ?_;intros)
 refine j4 hp ⟨(s,t),trivial⟩ (r:=.c (.b (V1 s t))) rfl l5 .nil fun _ _ _ _=>?_
 (refine Zq ?_;intros)
 exact j9 ⟨.ret _ _ (.b _),.nil⟩
def F3 (s t:i6):i6:=if V1 s t then s.drop t.length else s
theorem c6f:k9 185 (a9h (fun _ _=>True) fun s t=>.c (.s (F3 s t))):=n9 (fun fn h=>e8w h) [(183,_)] (.cons b42 .nil) fun U fn hfn ⟨(s,t),_⟩ vs bs hv hb=>by
 have hp:=hfn 183 _ rfl
 have hv:l7 [.c (.s s),.c (.s t)] vs:=hv
 have hb:RBs [] bs:=hb
 show j5 U _ fun v bs'=>l8 (.ret (.c (.s (F3 s t)))) v∧RBs [] bs'
 unfold e2t
 (refine Zq ?_;intros)
 refine j4 hp ⟨(s,t),trivial⟩ (r:=.c (.b (V1 s t))) rfl l5 .nil fun _ _ hv hb=>?_
 refine sB hv (a7r hb ?_)
 have hl:V1 s t=true→t.length≤s.length:=fun h=>by simp [V1] at h;exact h.1
 refine c1a trV (fun h=>?_) fun h=>?_
 ·have hp:=h
  have hl:=hl h
  (refine Zq ?_;intros)
  have e:F3 s t=s.drop t.length:=by unfold F3;rw [if_pos hp]
  rw [e,Int.toNat_natCast]
  exact j9 ⟨.ret _ _ (.s _ _ _ rfl rfl),.nil⟩
 ·have e:F3 s t=s:=by unfold F3;rw [if_neg h]
  rw [e]
  exact j9 ⟨.ret _ _ (.s _ _ _ rfl rfl),.nil⟩
theorem a1m:k9 159 (a9h (fun _ _=>True) fun s t=>.c (.s (F3 s t))):=n9 (fun fn h=>e8q h) [(185,_)] (.cons c6f .nil) fun U fn hfn ⟨(s,t),_⟩ vs bs hv hb=>by
 have hp:=hfn 185 _ rfl
 have hv:l7 [.c (.s s),.c (.s t)] vs:=hv
 have hb:RBs [] bs:=hb
 show j5 U _ fun v bs'=>l8 (.ret (.c (.s (F3 s t)))) v∧RBs [] bs'
 unfold e2o
 (refine Zq ?_;intros)
 refine j4 hp ⟨(s,t),trivial⟩ (r:=.c (.s (F3 s t))) rfl l5 .nil fun _ _ _ _=>?_
 (refine Zq ?_;intros)
 exact j9 ⟨.ret _ _ (.s _ _ _ rfl rfl),.nil⟩
theorem W6 (s:i6) (c:UInt8):Lib.indexByte s c < s.length∧-1≤Lib.indexByte s c:=by
 induction s with
 | nil=>simp [Lib.indexByte]
 | cons b l ih =>
  simp only [Lib.indexByte,List.length_cons]
  split
  ·omega
  ·split <;> omega
def K6 (s:i6) (c:UInt8):i6 × i6 × Bool:=if 0≤Lib.indexByte s c then (s.take (Lib.indexByte s c).toNat,s.drop (Lib.indexByte s c+1).toNat,true) else (s,[],false)
def e5j:Sp:=a9h (fun s t=>s.length < 90000∧∃ c,t=[c]) fun s t=>.t [.c (.s (K6 s (t.headD 0)).1),.c (.s (K6 s (t.headD 0)).2.1),.c (.b (K6 s (t.headD 0)).2.2)]
theorem f81:k9 184 e5j:=n9 (fun fn h=>e8v h) [(71,_)] (.cons d1e .nil) fun U fn hfn ⟨(s,t),hs,c,hc⟩ vs bs hv hb=>by
 have hp:=hfn 71 _ rfl
 have hv:l7 [.c (.s s),.c (.s t)] vs:=hv
 have hb:RBs [] bs:=hb
 have hc:t=[c]:=hc
 have hs:s.length < 90000:=hs
 subst hc
 show j5 U _ fun v bs'=>l8 (.ret (.t [.c (.s (K6 s c).1),.c (.s (K6 s c).2.1),.c (.b (K6 s c).2.2)])) v∧RBs [] bs'
 unfold e2s
 (refine Zq ?_;intros)
 refine j4 hp ⟨(s,[c]),c,rfl⟩ (r:=.c (.i .i64 (Lib.indexByte s c))) rfl l5 .nil fun _ _ _ _=>?_
 have hi:=W6 s c
 have e1:(([c]:i6).length:Int)=1:=rfl
 (refine Zq ?_;with_reducible repeat' first|intro _|apply aI)
 ·have h0:=‹0≤Lib.indexByte s c›
  have e:K6 s c=(s.take (Lib.indexByte s c).toNat,s.drop (Lib.indexByte s c+1).toNat,true):=by unfold K6;rw [if_pos h0]
  rw [e]
  simp only [Int.toNat_zero,List.drop_zero,e1]
  exact j9 ⟨.ret _ _ l5,.nil⟩
 ·have e:K6 s c=(s,[],false):=by unfold K6;rw [if_neg ‹_›]
  rw [e]
  exact j9 ⟨.ret _ _ l5,.nil⟩
theorem g1k:k9 157 e5j:=n9 (fun fn h=>e8o h) [(184,_)] (.cons f81 .nil) fun U fn hfn ⟨(s,t),hs,c,hc⟩ vs bs hv hb=>by
 have hp:=hfn 184 _ rfl
 have hv:l7 [.c (.s s),.c (.s t)] vs:=hv
 have hb:RBs [] bs:=hb
 have hc:t=[c]:=hc
 subst hc
 show j5 U _ fun v bs'=>l8 (.ret (.t [.c (.s (K6 s c).1),.c (.s (K6 s c).2.1),.c (.b (K6 s c).2.2)])) v∧RBs [] bs'
 unfold e2m
 (refine Zq ?_;intros)
 refine j4 hp ⟨(s,[c]),hs,c,rfl⟩ (r:=.t [.c (.s (K6 s c).1),.c (.s (K6 s c).2.1),.c (.b (K6 s c).2.2)]) rfl l5 .nil fun _ _ _ _=>?_
 (refine Zq ?_;intros)
 exact j9 ⟨.ret _ _ l5,.nil⟩
theorem c89 (c:Int) (h1:32 < c) (h2:c < 127):(!(decide (0≤Lib.indexByte (m8 7 16462142067124520) c.toNat.toUInt8)))=A5 c:=by
 obtain ⟨n,rfl⟩:∃ n:Nat,c=n:=⟨c.toNat,oM⟩
 rw [Int.toNat_natCast]
 have h3:n < 127:=oM
 have h4:32 < n:=oM
 have key:∀ n:Fin 127,32 < n.1→(!(decide (0≤Lib.indexByte (m8 7 16462142067124520) n.1.toUInt8)))=A5 n.1:=dE
 exact key ⟨n,h3⟩ h4
def f6t (g:Int→GV):Sp where
 ι:={ c:Int // 0≤c∧c < 256 }
 A c:=[.c (.i .u8 c.1)]
 B _:=[]
 R c:=.ret (g c.1)
 B' _:=[]
 inj i j vs bs h k _ _:=by
  obtain ⟨_,_,h1,k1,h,k⟩:=h.two k
  rw [a2v h1 k1];exact ⟨rfl,rfl⟩
theorem b57:k9 111 (f6t fun c=>.c (.b (A5 c))):=n9 (fun fn h=>e7y h) [(132,_)] (.cons c2h .nil) fun U fn hfn ⟨c,h0,h1⟩ vs bs hv hb=>by
 have hp:=hfn 132 _ rfl
 have hv:l7 [.c (.i .u8 c)] vs:=hv
 have hb:RBs [] bs:=hb
 show j5 U _ fun v bs'=>l8 (.ret (.c (.b (A5 c)))) v∧RBs [] bs'
 unfold e1u
 (refine Zx ?_;with_reducible repeat' first|intro _|apply aI)
 ·refine d8f (m:=c) rfl oM ?_
  refine j4 hp ⟨(m8 7 16462142067124520,c),oM,oM⟩ (r:=.c (.b (decide (0≤Lib.indexByte (m8 7 16462142067124520) c.toNat.toUInt8)))) rfl l5 .nil fun _ _ _ _=>?_
  (refine Zx ?_;intros)
  exact J3 fun e=>by subst e;exact ⟨.ret _ _ (U6 (by rw [c4e,c89 c oM oM])),.nil⟩
 ·exact j9 ⟨.ret _ _ (N7 (by simp [A5];omega)),.nil⟩
 ·exact j9 ⟨.ret _ _ (N7 (by simp [A5];omega)),.nil⟩
theorem RB.bx {gs:List G} {q:Q} {m:Nat} (h:A6 gs q 0) (hm:m=gs.length):RBs [gs] [.opa q m]:=.k (.opa _ _ _ hm h) .nil
def J4 (s:i6) (i:Nat):List G:=[.s s,.i .i64 (i:Int)]
theorem a6t {s t:i6} {i j:Nat} (h:J4 s i=J4 t j):s=t∧i=j:=by
 simp only [J4,List.cons.injEq,G.s.injEq,G.i.injEq,and_true,true_and] at h
 exact ⟨h.1,oM⟩
theorem RBs.one_inj {g g':List G} {bs:List Bx} (h:RBs [g] bs) (k:RBs [g'] bs):g=g':=by
 cases h with | cons _ _ b _ h1 _=>cases k with | cons _ _ _ _ k1 _=>exact h1.inj k1
abbrev ScI:={ p:i6 × Nat // p.2≤p.1.length∧p.1.length < 90000 }
def e3h (R:i6→Nat→r7) (b:i6→Nat→Nat):Sp where
 ι:=ScI
 A _:=[.p 0 0]
 B p:=[J4 p.1.1 p.1.2]
 R p:=R p.1.1 p.1.2
 B' p:=[J4 p.1.1 (b p.1.1 p.1.2)]
 inj i j vs bs _ _ h k:=by
  have:=a6t (RBs.one_inj h k)
  rw [this.1,this.2];exact ⟨rfl,rfl⟩
def f9v (R:i6→Nat→i6→r7):Sp where
 ι:=ScI × i6
 A p:=[.p 0 0,.c (.s p.2)]
 B p:=[J4 p.1.1.1 p.1.1.2]
 R p:=R p.1.1.1 p.1.1.2 p.2
 B' p:=[J4 p.1.1.1 p.1.1.2]
 inj i j vs bs hv kv h k:=by
  have:=a6t (RBs.one_inj h k)
  obtain ⟨_,_,_,_,hv,kv⟩:=hv.two kv
  obtain ⟨_,_,h2,k2,_,_⟩:=hv.two kv
  rw [this.1,this.2,H3 h2 k2];exact ⟨rfl,rfl⟩
theorem scQ {U:v8} (e:U=CU) {s:i6} {j:Int} {k:Nat} {x:Q} (h:A6 [.s s,.i .i64 j] x 0) {n:Int} (hn:n=(k:Int)):RBs [J4 s k] [.cells [.q (U.celQ x 0),.int .i64 n]]:=by
 subst e hn
 exact .k (.cells _ _ (.k (.q _ _ (A6.at h rfl)) (.k (.i _ _) .nil))) .nil
theorem scC {s:i6} {k:Nat} {n:Int} (hn:n=(k:Int)):RBs [J4 s k] [.cells [.str s.length (n7 s),.int .i64 n]]:=by
 subst hn
 exact .k (.cells _ _ (.k (.s _ _ _ rfl rfl) (.k (.i _ _) .nil))) .nil
theorem e5s {s:i6} {j:Nat} (h:j < s.length) (hc:A5 (bt s j)=true):n5 s j=n5 s (j+1):=by rw [n5,if_pos h,if_pos hc]
theorem f7e {s:i6} {j:Nat} (h:j < s.length) (hc:¬A5 (bt s j)=true):n5 s j=j:=by rw [n5,if_pos h,if_neg hc]
theorem f7d {s:i6} {j:Nat} (h:¬j < s.length):n5 s j=j:=by rw [n5,if_neg h]
theorem b71:k9 108 (e3h (fun s i=>.ret (.c (.b (decide (i < s.length))))) fun _ i=>i):=n9 (fun fn h=>e7w h) [] .nil fun U fn hfn ⟨(s,i),h1,h2⟩ vs bs hv hb=>by
 have hv:l7 [.p 0 0] vs:=hv
 have hb:RBs [[.s s,.i .i64 (i:Int)]] bs:=hb
 show j5 U _ fun v bs'=>l8 (.ret (.c (.b (decide (i < s.length))))) v∧RBs [J4 s i] bs'
 unfold e1s
 (refine Zq ?_;intros)
 exact J3 fun e=>by subst e;exact ⟨.ret _ _ (U6 (by rw [b92];simp)),.k (.cells _ _ l5) .nil⟩
theorem c0j:k9 134 (f9v fun s i p=>.ret (.c (.b (V1 (s.drop i) p)))):=n9 (fun fn h=>e8c h) [(156,_)] (.cons d3t .nil) fun U fn hfn ⟨⟨(s,i),h1,h2⟩,p⟩ vs bs hv hb=>by
 have hp:=hfn 156 _ rfl
 have hv:l7 [.p 0 0,.c (.s p)] vs:=hv
 have hb:RBs [[.s s,.i .i64 (i:Int)]] bs:=hb
 have h1:i≤s.length:=h1
 show j5 U _ fun v bs'=>l8 (.ret (.c (.b (V1 (s.drop i) p)))) v∧RBs [J4 s i] bs'
 unfold e2a
 (refine Zq ?_;intros)
 rw [Int.toNat_natCast]
 refine j4 hp ⟨(s.drop i,p),trivial⟩ (r:=.c (.b (V1 (s.drop i) p))) rfl l5 .nil fun _ _ _ _=>?_
 (refine Zq ?_;intros)
 exact j9 ⟨.ret _ _ (.b _),.k (.cells _ _ l5) .nil⟩
def K0 (s:i6) (i:Nat):i6:=(s.take (n5 s i)).drop i
theorem e4s:k9 113 (e3h (fun s i=>.ret (.c (.s (K0 s i)))) n5):=n9 (fun fn h=>e70 h) [(108,_),(111,_)] (.cons b71 (.cons b57 .nil)) fun U fn hfn ⟨(s,i),h1,h2⟩ vs bs hv hb=>by
 have hm:=hfn 108 _ rfl
 have hc:=hfn 111 _ rfl
 have hv:l7 [.p 0 0] vs:=hv
 have hb:RBs [[.s s,.i .i64 (i:Int)]] bs:=hb
 have h1:i≤s.length:=h1
 have h2:s.length < 90000:=h2
 show j5 U _ fun v bs'=>l8 (.ret (.c (.s (K0 s i)))) v∧RBs [J4 s (n5 s i)] bs'
 unfold e1w
 (refine Zq ?_;intros)
 refine H2 (fun (j:Nat) vs bs=>vs=[.ptr 0 0,.int .i64 i]∧RBs [J4 s j] bs∧i≤j∧j≤s.length∧n5 s j=n5 s i) (fun j=>s.length - j) i ⟨rfl,.k (.cells _ _ l5) .nil,Nat.le_refl _,h1,rfl⟩ (by simp only [C4];omega) ?_
 rintro self j vs bs ⟨rfl,hb,hij,hj,he⟩ ih
 have hb:RBs [[.s s,.i .i64 (j:Int)]] bs:=hb
 (refine Zq ?_;intros)
 refine j4 hm ⟨(s,j),hj,h2⟩ (r:=.c (.b (decide (j < s.length)))) rfl l5 (RB.bx aS rfl) fun _ _ _ hb=>?_
 have hb:RBs [[.s s,.i .i64 (j:Int)]] _:=hb
 (refine Zq ?_;with_reducible repeat' first|intro _|apply aI)
 ·have hlt:j < s.length:=of_decide_eq_true ‹_›
  have hbt:((s.getD j 0).toNat:Int)=bt s j:=rfl
  have hb0:=a74 s j
  have hb1:=c4c s j
  (refine Zq ?_;intros)
  refine j4 hc ⟨bt s j,hb0,hb1⟩ (r:=.c (.b (A5 (bt s j)))) rfl l5 .nil fun _ _ _ _=>?_
  (refine Zq ?_;with_reducible repeat' first|intro _|apply aI)
  ·exact fun e=>ih (j+1) _ _ ⟨rfl,scQ e aS oM,oM,oM,by rw [← e5s hlt ‹_›];exact he⟩ oM e
  ·have e:=f7e hlt ‹_›
   rw [Int.toNat_natCast,Int.toNat_natCast]
   have ew:K0 s i=(s.take j).drop i:=by unfold K0;rw [← he,e]
   rw [ew,← he,e]
   exact j9 ⟨.ret _ _ (.s _ _ _ rfl rfl),RB.bx aS rfl⟩
 ·have hlt:¬j < s.length:=fun h=>‹¬decide (j < s.length)=true› (decide_eq_true h)
  (refine Zq ?_;intros)
  have e:=f7d hlt
  rw [Int.toNat_natCast,Int.toNat_natCast]
  have ew:K0 s i=(s.take j).drop i:=by unfold K0;rw [← he,e]
  rw [ew,← he,e]
  exact j9 ⟨.ret _ _ (.s _ _ _ rfl rfl),RB.bx aS rfl⟩
end
end Go.Proofs.YtdldcfllnohkeaaGreatDoor
