/- Rules for parts of strings, for concatenation, for failures. -/
import Derived.Test.YtdldcfllnohkeaaGreatDoorKR5e
import Derived.Test.YtdldcfllnohkeaaGreatDoorKS
import Derived.Test.YtdldcfllnohkeaaGreatDoorKN
set_option linter.all false
namespace Go.Abs
theorem e8e (n:Nat):2 ^ (8 * n)=256 ^ n:=by rw [Nat.pow_mul]
theorem c7i:∀ s:List UInt8,j9 s < 256 ^ s.length
 | []=>by simp [j9]
 | b :: l=>by
  have h1:=c7i l
  have h2:=b.toNat_lt
  simp only [j9,List.length_cons,Nat.pow_succ]
  omega
theorem b32:∀ (l c:Nat),c < 256 ^ l→j9 (k6 l c)=c
 | 0,c,h=>by simp at h;subst h;rfl
 | l+1,c,h=>by
  rw [Nat.pow_succ] at h
  simp only [k6,j9]
  rw [b32 l (c / 256) oM,UInt8.toNat_ofNat']
  omega
theorem c0i {s:List UInt8} {a b:Nat} (h1:a≤b) (h2:b≤s.length):sSub (j9 s) a (b - a)=j9 ((s.take b).drop a):=by
 have h:=c9e (c:=j9 s) h1 h2
 rw [y7] at h
 rw [h,b32]
 unfold sSub
 show Nat.mod _ (1 <<< (8 * (b - a))) < _
 rw [Nat.one_shiftLeft,e8e]
 exact Nat.mod_lt _ (Nat.pow_pos dE)
theorem c0h (x y:List UInt8):sCat x.length (j9 x) (j9 y)=j9 (x ++ y):=by
 have h:=c9c x.length (j9 x) y.length (j9 y)
 rw [y7,y7] at h
 rw [h,b32]
 unfold sCat
 show Nat.mod (j9 x) (1 <<< (8 * x.length))+j9 y <<< (8 * x.length) < _
 rw [Nat.one_shiftLeft,Nat.shiftLeft_eq,e8e,Nat.pow_add]
 have h1:=c7i y
 have h2:Nat.mod (j9 x) (256 ^ x.length) < 256 ^ x.length:=Nat.mod_lt _ (Nat.pow_pos dE)
 have h3:=Nat.mul_le_mul_right (256 ^ x.length) h1
 rw [Nat.succ_mul] at h3
 rw [Nat.mul_comm (256 ^ x.length)]
 omega
theorem e56 {s:List UInt8} {a b:Nat} (h1:a≤b) (h2:b≤s.length):((s.take b).drop a).length=b - a:=by simp;omega
section
variable {U:s7} {P:J7→List Bx→Prop}
theorem e1y {s:List UInt8} {a b:Int} {K:Nat→Nat→Om} (h:0≤a∧a≤b∧b≤s.length) (k:g7 U (K ((s.take b.toNat).drop a.toNat).length (j9 ((s.take b.toNat).drop a.toNat))) P) :
  g7 U (U.fN (U.nSub (U.iNat b) (U.iNat a)) fun m=>U.fN (U.sSub (j9 s) (U.iNat a) m) fun d=>K m d) P:=fun e=>by
 have:=k e
 subst e
 rw [a6u,a6u]
 show ∃ v bs,K (iNat b - iNat a) (sSub (j9 s) (iNat a) (iNat b - iNat a))=some (v,bs)∧P v bs
 rw [D2,D2,c0i (show a.toNat≤b.toNat by omega) oM,← e56 (s:=s) (show a.toNat≤b.toNat by omega) oM]
 exact this
theorem f6g {s:List UInt8} {a:Int} {K:Nat→Nat→Om} (h:0≤a∧a≤s.length) (k:g7 U (K (s.drop a.toNat).length (j9 (s.drop a.toNat))) P) :
  g7 U (U.fN (U.nSub (U.iNat (U.iOfN s.length)) (U.iNat a)) fun m=>U.fN (U.sSub (j9 s) (U.iNat a) m) fun d=>K m d) P:=fun e=>by
 have:=k e
 subst e
 refine e1y (b:=(s.length:Int)) ⟨h.1,h.2,Int.le_refl _⟩ ?_ rfl
 rw [Int.toNat_natCast,List.take_length]
 exact fun _=>this
theorem d5z {n:Nat}:J6 U (U.iLe (U.iOfN n) (U.iOfN n)) (n≤n):=fun e=>by subst e;exact ⟨fun _=>Nat.le_refl _,fun _=>(a5u (U:=CU) rfl).2 (Int.le_refl _)⟩
theorem d5b {e m:Int} {K:Int→Om} (he:e=m) (hr:-2147483648≤m∧m < 2147483648) (h:g7 U (K m) P):g7 U (U.fI (U.wr .i32 e) K) P:=fun e'=>by
 have:=h e';subst e' he;rw [W2]
 show ∃ v bs,K (wr .i32 e)=some (v,bs)∧P v bs
 rw [a16,a3l .i32 _ (by show _ < ((2147483648:Nat):Int);omega) (by show -((2147483648:Nat):Int)≤_;omega)]
 exact this
theorem f6i {a b:Int} {K:Int→Om} (h:g7 U (K (a.tdiv b)) P):g7 U (U.fI (U.iQuo a b) K) P:=fun e=>by
 have:=h e;subst e;rw [W2]
 show ∃ v bs,K (iQuo a b)=some (v,bs)∧P v bs
 rw [b2i];exact this
theorem f8u {k:IntKind} {n:Int} {x:Q} {K:IntKind→Int→Om} (hx:RG (.i k n) x) (h:g7 U (K k n) P):g7 U (U.cI0 x K) P:=fun e=>by
 have:=h e;subst e;cases hx;exact this
end
end Go.Abs
namespace Go.Proofs.YtdldcfllnohkeaaGreatDoor
open Go.Abs LQ
theorem Zq {p q:Prop} (k:q) (h:Tr p q:=by ((repeat' (first | (with_reducible apply Tr.all) | (with_reducible intro _) | (apply Tr.b;(case f=>first | exact b6v | exact X8 aS | exact c44 | exact b6x aS | exact b6w | exact a8f aS | exact b1q | exact b2x aS | exact sP | exact sPR aS | exact sIV | exact sI aS | exact sBV | exact sBK | exact sB aS | exact sSV | exact sS aS | exact sA | exact M5 aS (by rfl) | exact b8o (by rfl) | exact c46 (by rfl) | exact c1v aS (by rfl) | exact c47 aS (by rfl) | exact d1r aS | exact sSl aS | exact sTu aS | exact sBo | exact b1o aS (by rfl) | exact sBc | exact d1p aS | exact sBt | exact sBs | exact sBr | exact a8g aS | exact b64 aS | exact b6z aS (by rfl) | exact d1q aS (by rfl) | exact sCI' aS (by rfl) | exact sCB' aS (by rfl) | exact sCS aS | exact sCI aS | exact sCB aS | exact b61 (by first | omega | (simp only [List.length_map] at *;omega)) | exact b60 (by first | omega | (simp only [List.length_map] at *;omega)) | exact c1x | exact f6g (by first | omega | (simp only [List.length_map] at *;omega)) | exact e1y (by first | omega | (simp only [List.length_map] at *;omega)) | exact sCI0' aS (by rfl) | exact f8u aS | exact b2y | exact b20 | exact c1w | exact b63 | exact b6y | exact sfSubN | exact b2z | exact sfBSelE | exact sfB | exact sJn | exact c1u | exact c1s | exact c1t | exact C7 aS (by (first | exact u7 O.g_len | exact u7 (fun _=>rfl))) | exact b1p aS (by (first | exact u7 O.g_len | exact u7 (fun _=>rfl))) | exact c1z (by first | omega | (simp only [List.length_map] at *;omega)) | exact b65 (by first | omega | (simp only [List.length_map] at *;omega)) | exact d1u aS (by first | assumption | omega | (simp only [List.length_map] at *;omega)) | exact sfT aS (by rfl))) | (apply Tr.chk;(case ht=>(repeat' (first | exact d5z | exact trT | exact trF | apply a4i | apply a4f | exact a4h | exact a4g | exact a1x | exact a5u | exact a5t | exact a11 | exact a12 | exact a10 | exact a1z | exact a1y | exact a4k | exact a91 | exact a7n | exact trS | exact trV)));(case hp=>first | omega | (simp only [List.length_map] at *;omega))) | (apply Tr.cnd;(case ht=>(repeat' (first | exact d5z | exact trT | exact trF | apply a4i | apply a4f | exact a4h | exact a4g | exact a1x | exact a5u | exact a5t | exact a11 | exact a12 | exact a10 | exact a1z | exact a1y | exact a4k | exact a91 | exact a7n | exact trS | exact trV))))));all_goals exact Tr.refl)):p:=h.go k
end Go.Proofs.YtdldcfllnohkeaaGreatDoor
namespace Go.Proofs.YtdldcfllnohkeaaGreatDoor
open Go.Abs LQ Go.RowKit
set_option maxRecDepth 100000
set_option maxHeartbeats 4000000
noncomputable section
theorem I8 {P:Program} {G:b0k} {f:FuncId} {ds:List D} {d:D} (hcall:∀ args w,(callFunc f args).run P w=.ok (.enter f args) w)
  (h:∀ (w:World) (S:j8) (M:Mp) (vs:List Value),G.pred w→S.within w→p9 S M w vs ds→Calls P f vs.toArray w fun e w'=>Below w.heap.size w w'∧∃ v S',e=.returned v∧S.grown S' w∧S'.within w'∧Rd S' M w' v d∧a3n S' w w' v d):CM P G f ds [] (.ret d) []:=by
 refine ⟨hcall,fun w S M vs hg hM hwi hh hvs=>(h w S M vs hg hwi hvs).mono fun e w' ⟨hb,v,S',he,h1,h2,h3,h4⟩=>?_⟩
 exact ⟨⟨hb.os,hb.tape,hb.output,hb.size,fun k hk _=>hb.block k hk⟩,S',h1,h2,⟨fun id b h=>by simp at h,fun id hid=>hh.out id (by simp),fun i j x y b k l h=>by simp at h⟩,v,he,h3,h4⟩
theorem P5 {S:j8} {w w':World} (h:S.within w) (hb:Below w.heap.size w w'):S.within w':=fun b o hS=>Nat.lt_of_lt_of_le (h b o hS) hb.size
theorem M6 {S:j8} {w0 w:World} {v:Value} {d:D} (h:∀ l c z,d ≠ .slice l c (.fr z)) (h2:∀ ds,d ≠ .tuple ds):a3n S w0 w v d:=⟨fun l c z e=>absurd e (h l c z),fun _ ds _ e=>absurd e (h2 ds)⟩
theorem d5k {s:ByteArray} {l:List UInt8} (h:s.data.toList=l):s=⟨l.toArray⟩:=by subst h;rfl
theorem c13 {s:f5} {v:V} (h:RV (.c (.s s)) v):toD v=.str s:=by
 cases h with
 | s _ l c h1 h2=>subst h1 h2;simp only [toD,y7]
 | q _ x h=>cases h with | s _ l c h1 h2=>subst h1 h2;simp [toD,den,a0f,y7]
theorem d2c {k:IntKind} {n:Int} {v:V} (h:RV (.c (.i k n)) v):toD v=.int k n:=by
 cases h with
 | i=>rfl
 | q _ x h=>cases h;rfl
theorem c5l {s t:f5} {vs:List V} (h:j5 [.c (.s s),.c (.s t)] vs):vs.map toD=[.str s,.str t]:=by
 cases h with | cons _ _ v _ h1 h=>cases h with | cons _ _ v' _ h2 h=>cases h;simp [c13 h1,c13 h2]
theorem c5k {s:f5} {k:IntKind} {n:Int} {vs:List V} (h:j5 [.c (.s s),.c (.i k n)] vs):vs.map toD=[.str s,.int k n]:=by
 cases h with | cons _ _ v _ h1 h=>cases h with | cons _ _ v' _ h2 h=>cases h;simp [c13 h1,d2c h2]
theorem c4r {S:j8} {M:Mp} {w:World} {v:Value} {s:f5} (h:Rd S M w v (.str s)):v=.string ⟨s.toArray⟩:=by
 cases h with | str b _ hb=>rw [d5k hb]
theorem f2e {S:j8} {M:Mp} {w:World} {v:Value} {k:IntKind} {n:Int} (h:Rd S M w v (.int k n)):v=.int k n:=by cases h;rfl
theorem c4u {S:j8} {M:Mp} {w:World} {vs:List Value} {s t:f5} (h:p9 S M w vs [.str s,.str t]):vs=[.string ⟨s.toArray⟩,.string ⟨t.toArray⟩]:=by
 cases h with | cons _ _ _ _ h1 h=>cases h with | cons _ _ _ _ h2 h=>cases h;rw [c4r h1,c4r h2]
theorem c4t {S:j8} {M:Mp} {w:World} {vs:List Value} {s:f5} {k:IntKind} {n:Int} (h:p9 S M w vs [.str s,.int k n]):vs=[.string ⟨s.toArray⟩,.int k n]:=by
 cases h with | cons _ _ _ _ h1 h=>cases h with | cons _ _ _ _ h2 h=>cases h;rw [c4r h1,f2e h2]
def e0a (k:IntKind) (ok:f5→Int→Prop) (g:f5→Int→GV):Sp where
 ι:={ p:f5 × Int // ok p.1 p.2 }
 A p:=[.c (.s p.1.1),.c (.i k p.1.2)]
 B _:=[]
 R p:=.ret (g p.1.1 p.1.2)
 B' _:=[]
 inj i j vs bs h k _ _:=by
  obtain ⟨_,_,h1,k1,h,k⟩:=h.two k
  obtain ⟨_,_,h2,k2,h,k⟩:=h.two k
  rw [F7 h1 k1,a0l h2 k2];exact ⟨rfl,rfl⟩
def b1z (ok:f5→f5→Prop) (g:f5→f5→GV):Sp where
 ι:={ p:f5 × f5 // ok p.1 p.2 }
 A p:=[.c (.s p.1.1),.c (.s p.1.2)]
 B _:=[]
 R p:=.ret (g p.1.1 p.1.2)
 B' _:=[]
 inj i j vs bs h k _ _:=by
  obtain ⟨_,_,h1,k1,h,k⟩:=h.two k
  obtain ⟨_,_,h2,k2,h,k⟩:=h.two k
  rw [F7 h1 k1,F7 h2 k2];exact ⟨rfl,rfl⟩
theorem b9s:j3 132 (e0a .i32 (fun _ r=>0≤r∧r < 128) fun s r=>.c (.b (decide (0≤Lib.indexByte s r.toNat.toUInt8)))):=fun ⟨(s,r),h0,h1⟩ vs bs hv hb=>by
 change j5 [.c (.s s),.c (.i .i32 r)] vs at hv
 cases hb
 refine ⟨.ret (.bool (decide (0≤Lib.indexByte s r.toNat.toUInt8))),[],fun hok=>?_,.ret _ _ (.b _),.nil⟩
 rw [c5k hv]
 refine I8 (d:=.bool (decide (0≤Lib.indexByte s r.toNat.toUInt8))) Tryz.call132 fun w S M us hg hwi hr=>?_
 rw [c4t hr]
 refine (Any.strings_ContainsRune_ascii Tryz.lays151 ⟨s.toArray⟩ r w h0 h1).mono ?_
 rintro e w' ⟨rfl,rfl⟩
 exact ⟨Below.refl _ _,_,S,rfl,⟨fun _ _ h=>h,fun _ _ h=>.inl h⟩,hwi,.bool _,M6 (fun _ _ _ h=>by cases h) (fun _ h=>by cases h)⟩
theorem d0m:j3 133 (e0a .u8 (fun _ r=>0≤r∧r < 256) fun s r=>.c (.i .i64 (Lib.indexByte s r.toNat.toUInt8))):=fun ⟨(s,r),h0,h1⟩ vs bs hv hb=>by
 change j5 [.c (.s s),.c (.i .u8 r)] vs at hv
 cases hb
 refine ⟨.ret (.int .i64 (Lib.indexByte s r.toNat.toUInt8)),[],fun hok=>?_,.ret _ _ (.i _ _),.nil⟩
 rw [c5k hv]
 refine I8 (d:=.int .i64 (Lib.indexByte s r.toNat.toUInt8)) Tryz.call133 fun w S M us hg hwi hr=>?_
 rw [c4t hr]
 refine (Any.strings_IndexByte Tryz.lays137 ⟨s.toArray⟩ r w).mono ?_
 rintro e w' ⟨rfl,rfl⟩
 exact ⟨Below.refl _ _,_,S,rfl,⟨fun _ _ h=>h,fun _ _ h=>.inl h⟩,hwi,.int _ _,M6 (fun _ _ _ h=>by cases h) (fun _ h=>by cases h)⟩
theorem e3f:j3 71 (b1z (fun _ t=>∃ c,t=[c]) fun s t=>.c (.i .i64 (Lib.indexByte s (t.headD 0)))):=fun ⟨(s,t),c,hc⟩ vs bs hv hb=>by
 change j5 [.c (.s s),.c (.s t)] vs at hv
 cases hb
 have hc:t=[c]:=hc
 subst hc
 refine ⟨.ret (.int .i64 (Lib.indexByte s c)),[],fun hok=>?_,.ret _ _ (.i _ _),.nil⟩
 rw [c5l hv]
 refine I8 (d:=.int .i64 (Lib.indexByte s c)) Tryz.call71 fun w S M us hg hwi hr=>?_
 rw [c4u hr]
 refine (Any.stringslite_Index_one Tryz.lays219 ⟨s.toArray⟩ c w).mono ?_
 rintro e w' ⟨rfl,rfl⟩
 exact ⟨Below.refl _ _,_,S,rfl,⟨fun _ _ h=>h,fun _ _ h=>.inl h⟩,hwi,.int _ _,M6 (fun _ _ _ h=>by cases h) (fun _ h=>by cases h)⟩
def d4k (s t:f5):Prop:=s.length < 4294967281∧t.length < 4294967281∧∀ b ∈ t,b.toNat < 128
theorem d3z:j3 139 (b1z d4k fun s t=>.c (.s (Lib.trimS s t))):=fun ⟨(s,t),h0,h1,h2⟩ vs bs hv hb=>by
 change j5 [.c (.s s),.c (.s t)] vs at hv
 cases hb
 refine ⟨.ret (.str (Lib.trimS s t).length (j9 (Lib.trimS s t))),[],fun hok=>?_,.ret _ _ (.s _ _ _ rfl rfl),.nil⟩
 rw [c5l hv]
 show CM X0.P X0.G _ _ [] (.ret (.str (k6 _ (j9 _)))) []
 rw [y7]
 refine I8 Tryz.call139 fun w S M us hg hwi hr=>?_
 rw [c4u hr]
 refine (Any.strings_Trim_laid Tryz.lays160 kR ⟨s.toArray⟩ ⟨t.toArray⟩ w (by have h0:s.length < 4294967281:=h0;simp [ByteArray.size];omega) (by have h1:t.length < 4294967281:=h1;simp [ByteArray.size];omega) (fun j b hb=>h2 b (List.mem_of_getElem? hb))).mono ?_
 rintro e w' ⟨rfl,hb⟩
 exact ⟨hb,_,S,rfl,⟨fun _ _ h=>h,fun _ _ h=>.inl h⟩,P5 hwi hb,.str _ _ rfl,M6 (fun _ _ _ h=>by cases h) (fun _ h=>by cases h)⟩
theorem d0q:j3 167 (b1z d4k fun s t=>.c (.s (Lib.trimLeftS s t))):=fun ⟨(s,t),h0,h1,h2⟩ vs bs hv hb=>by
 change j5 [.c (.s s),.c (.s t)] vs at hv
 cases hb
 refine ⟨.ret (.str (Lib.trimLeftS s t).length (j9 (Lib.trimLeftS s t))),[],fun hok=>?_,.ret _ _ (.s _ _ _ rfl rfl),.nil⟩
 rw [c5l hv]
 show CM X0.P X0.G _ _ [] (.ret (.str (k6 _ (j9 _)))) []
 rw [y7]
 refine I8 Tryz.call167 fun w S M us hg hwi hr=>?_
 rw [c4u hr]
 refine (Any.strings_TrimLeft_laid Tryz.lays161 kR ⟨s.toArray⟩ ⟨t.toArray⟩ w (by have h1:t.length < 4294967281:=h1;simp [ByteArray.size];omega) (fun j b hb=>h2 b (List.mem_of_getElem? hb))).mono ?_
 rintro e w' ⟨rfl,hb⟩
 exact ⟨hb,_,S,rfl,⟨fun _ _ h=>h,fun _ _ h=>.inl h⟩,P5 hwi hb,.str _ _ rfl,M6 (fun _ _ _ h=>by cases h) (fun _ h=>by cases h)⟩
end
end Go.Proofs.YtdldcfllnohkeaaGreatDoor
namespace Go.Proofs.YtdldcfllnohkeaaGreatDoor
open Go.Abs LQ
set_option maxRecDepth 100000
set_option maxHeartbeats 4000000
noncomputable section
def R5 (s t:f5):Bool:=decide (t.length≤s.length∧s.take t.length=t)
theorem b3f:j3 183 (b1z (fun _ _=>True) fun s t=>.c (.b (R5 s t))):=k7 (fun fn h=>e5k h) [] .nil fun U fn hfn ⟨(s,t),_⟩ vs bs hv hb=>by
 have hv:j5 [.c (.s s),.c (.s t)] vs:=hv
 have hb:RBs [] bs:=hb
 show g7 U _ fun v bs'=>j6 (.ret (.c (.b (R5 s t)))) v∧RBs [] bs'
 unfold d9p
 (refine Zq ?_;with_reducible repeat' first|intro _|apply aI)
 ·have hl:t.length≤s.length:=oM
  exact G7 fun e=>by subst e;exact ⟨.ret _ _ (P9 (by rw [cuS];unfold R5;simp [hl])),.nil⟩
 ·exact g9 ⟨.ret _ _ (G2 (by unfold R5;rw [decide_eq_false];omega)),.nil⟩
theorem d0l:j3 156 (b1z (fun _ _=>True) fun s t=>.c (.b (R5 s t))):=k7 (fun fn h=>e5d h) [(183,_)] (.cons b3f .nil) fun U fn hfn ⟨(s,t),_⟩ vs bs hv hb=>by
 have hp:=hfn 183 _ rfl
 have hv:j5 [.c (.s s),.c (.s t)] vs:=hv
 have hb:RBs [] bs:=hb
 show g7 U _ fun v bs'=>j6 (.ret (.c (.b (R5 s t)))) v∧RBs [] bs'
 unfold d9j
 (refine Zq ?_;intros)
 refine f6 hp ⟨(s,t),trivial⟩ (r:=.c (.b (R5 s t))) rfl j4 .nil fun _ _ _ _=>?_
 (refine Zq ?_;intros)
 exact g9 ⟨.ret _ _ (.b _),.nil⟩
def D1 (s t:f5):f5:=if R5 s t then s.drop t.length else s
theorem c3m:j3 185 (b1z (fun _ _=>True) fun s t=>.c (.s (D1 s t))):=k7 (fun fn h=>e5m h) [(183,_)] (.cons b3f .nil) fun U fn hfn ⟨(s,t),_⟩ vs bs hv hb=>by
 have hp:=hfn 183 _ rfl
 have hv:j5 [.c (.s s),.c (.s t)] vs:=hv
 have hb:RBs [] bs:=hb
 show g7 U _ fun v bs'=>j6 (.ret (.c (.s (D1 s t)))) v∧RBs [] bs'
 unfold d9r
 (refine Zq ?_;intros)
 refine f6 hp ⟨(s,t),trivial⟩ (r:=.c (.b (R5 s t))) rfl j4 .nil fun _ _ hv hb=>?_
 refine sB hv (a8f hb ?_)
 have hl:R5 s t=true→t.length≤s.length:=fun h=>by simp [R5] at h;exact h.1
 refine b4u trV (fun h=>?_) fun h=>?_
 ·have hp:=h
  have hl:=hl h
  (refine Zq ?_;intros)
  have e:D1 s t=s.drop t.length:=by unfold D1;rw [if_pos hp]
  rw [e,Int.toNat_natCast]
  exact g9 ⟨.ret _ _ (.s _ _ _ rfl rfl),.nil⟩
 ·have e:D1 s t=s:=by unfold D1;rw [if_neg h]
  rw [e]
  exact g9 ⟨.ret _ _ (.s _ _ _ rfl rfl),.nil⟩
theorem a0a:j3 159 (b1z (fun _ _=>True) fun s t=>.c (.s (D1 s t))):=k7 (fun fn h=>e5g h) [(185,_)] (.cons c3m .nil) fun U fn hfn ⟨(s,t),_⟩ vs bs hv hb=>by
 have hp:=hfn 185 _ rfl
 have hv:j5 [.c (.s s),.c (.s t)] vs:=hv
 have hb:RBs [] bs:=hb
 show g7 U _ fun v bs'=>j6 (.ret (.c (.s (D1 s t)))) v∧RBs [] bs'
 unfold d9m
 (refine Zq ?_;intros)
 refine f6 hp ⟨(s,t),trivial⟩ (r:=.c (.s (D1 s t))) rfl j4 .nil fun _ _ _ _=>?_
 (refine Zq ?_;intros)
 exact g9 ⟨.ret _ _ (.s _ _ _ rfl rfl),.nil⟩
theorem T4 (s:f5) (c:UInt8):Lib.indexByte s c < s.length∧-1≤Lib.indexByte s c:=by
 induction s with
 | nil=>simp [Lib.indexByte]
 | cons b l ih =>
  simp only [Lib.indexByte,List.length_cons]
  split
  ·omega
  ·split <;> omega
def H6 (s:f5) (c:UInt8):f5 × f5 × Bool:=if 0≤Lib.indexByte s c then (s.take (Lib.indexByte s c).toNat,s.drop (Lib.indexByte s c+1).toNat,true) else (s,[],false)
def e2a:Sp:=b1z (fun s t=>s.length < 90000∧∃ c,t=[c]) fun s t=>.t [.c (.s (H6 s (t.headD 0)).1),.c (.s (H6 s (t.headD 0)).2.1),.c (.b (H6 s (t.headD 0)).2.2)]
theorem f5u:j3 184 e2a:=k7 (fun fn h=>e5l h) [(71,_)] (.cons e3f .nil) fun U fn hfn ⟨(s,t),hs,c,hc⟩ vs bs hv hb=>by
 have hp:=hfn 71 _ rfl
 have hv:j5 [.c (.s s),.c (.s t)] vs:=hv
 have hb:RBs [] bs:=hb
 have hc:t=[c]:=hc
 have hs:s.length < 90000:=hs
 subst hc
 show g7 U _ fun v bs'=>j6 (.ret (.t [.c (.s (H6 s c).1),.c (.s (H6 s c).2.1),.c (.b (H6 s c).2.2)])) v∧RBs [] bs'
 unfold d9q
 (refine Zq ?_;intros)
 refine f6 hp ⟨(s,[c]),c,rfl⟩ (r:=.c (.i .i64 (Lib.indexByte s c))) rfl j4 .nil fun _ _ _ _=>?_
 have hi:=T4 s c
 have e1:(([c]:f5).length:Int)=1:=rfl
 (refine Zq ?_;with_reducible repeat' first|intro _|apply aI)
 ·have h0:=‹0≤Lib.indexByte s c›
  have e:H6 s c=(s.take (Lib.indexByte s c).toNat,s.drop (Lib.indexByte s c+1).toNat,true):=by unfold H6;rw [if_pos h0]
  rw [e]
  simp only [Int.toNat_zero,List.drop_zero,e1]
  exact g9 ⟨.ret _ _ j4,.nil⟩
 ·have e:H6 s c=(s,[],false):=by unfold H6;rw [if_neg ‹_›]
  rw [e]
  exact g9 ⟨.ret _ _ j4,.nil⟩
theorem f8i:j3 157 e2a:=k7 (fun fn h=>e5e h) [(184,_)] (.cons f5u .nil) fun U fn hfn ⟨(s,t),hs,c,hc⟩ vs bs hv hb=>by
 have hp:=hfn 184 _ rfl
 have hv:j5 [.c (.s s),.c (.s t)] vs:=hv
 have hb:RBs [] bs:=hb
 have hc:t=[c]:=hc
 subst hc
 show g7 U _ fun v bs'=>j6 (.ret (.t [.c (.s (H6 s c).1),.c (.s (H6 s c).2.1),.c (.b (H6 s c).2.2)])) v∧RBs [] bs'
 unfold d9k
 (refine Zq ?_;intros)
 refine f6 hp ⟨(s,[c]),hs,c,rfl⟩ (r:=.t [.c (.s (H6 s c).1),.c (.s (H6 s c).2.1),.c (.b (H6 s c).2.2)]) rfl j4 .nil fun _ _ _ _=>?_
 (refine Zq ?_;intros)
 exact g9 ⟨.ret _ _ j4,.nil⟩
theorem c52 (c:Int) (h1:32 < c) (h2:c < 127):(!(decide (0≤Lib.indexByte (k6 7 16462142067124520) c.toNat.toUInt8)))=t6 c:=by
 obtain ⟨n,rfl⟩:∃ n:Nat,c=n:=⟨c.toNat,oM⟩
 rw [Int.toNat_natCast]
 have h3:n < 127:=oM
 have h4:32 < n:=oM
 have key:∀ n:Fin 127,32 < n.1→(!(decide (0≤Lib.indexByte (k6 7 16462142067124520) n.1.toUInt8)))=t6 n.1:=dE
 exact key ⟨n,h3⟩ h4
def f3g (g:Int→GV):Sp where
 ι:={ c:Int // 0≤c∧c < 256 }
 A c:=[.c (.i .u8 c.1)]
 B _:=[]
 R c:=.ret (g c.1)
 B' _:=[]
 inj i j vs bs h k _ _:=by
  obtain ⟨_,_,h1,k1,h,k⟩:=h.two k
  rw [a0l h1 k1];exact ⟨rfl,rfl⟩
theorem b4b:j3 111 (f3g fun c=>.c (.b (t6 c))):=k7 (fun fn h=>e4n h) [(132,_)] (.cons b9s .nil) fun U fn hfn ⟨c,h0,h1⟩ vs bs hv hb=>by
 have hp:=hfn 132 _ rfl
 have hv:j5 [.c (.i .u8 c)] vs:=hv
 have hb:RBs [] bs:=hb
 show g7 U _ fun v bs'=>j6 (.ret (.c (.b (t6 c)))) v∧RBs [] bs'
 unfold d8t
 (refine Zx ?_;with_reducible repeat' first|intro _|apply aI)
 ·refine d5b (m:=c) rfl oM ?_
  refine f6 hp ⟨(k6 7 16462142067124520,c),oM,oM⟩ (r:=.c (.b (decide (0≤Lib.indexByte (k6 7 16462142067124520) c.toNat.toUInt8)))) rfl j4 .nil fun _ _ _ _=>?_
  (refine Zx ?_;intros)
  exact G7 fun e=>by subst e;exact ⟨.ret _ _ (P9 (by rw [c1m,c52 c oM oM])),.nil⟩
 ·exact g9 ⟨.ret _ _ (G2 (by simp [t6];omega)),.nil⟩
 ·exact g9 ⟨.ret _ _ (G2 (by simp [t6];omega)),.nil⟩
theorem RB.bx {gs:List G} {q:Q} {m:Nat} (h:u6 gs q 0) (hm:m=gs.length):RBs [gs] [.opa q m]:=.k (.opa _ _ _ hm h) .nil
def H3 (s:f5) (i:Nat):List G:=[.s s,.i .i64 (i:Int)]
theorem a4z {s t:f5} {i j:Nat} (h:H3 s i=H3 t j):s=t∧i=j:=by
 simp only [H3,List.cons.injEq,G.s.injEq,G.i.injEq,and_true,true_and] at h
 exact ⟨h.1,oM⟩
theorem RBs.one_inj {g g':List G} {bs:List Bx} (h:RBs [g] bs) (k:RBs [g'] bs):g=g':=by
 cases h with | cons _ _ b _ h1 _=>cases k with | cons _ _ _ _ k1 _=>exact h1.inj k1
abbrev ScI:={ p:f5 × Nat // p.2≤p.1.length∧p.1.length < 90000 }
def e0b (R:f5→Nat→n6) (b:f5→Nat→Nat):Sp where
 ι:=ScI
 A _:=[.p 0 0]
 B p:=[H3 p.1.1 p.1.2]
 R p:=R p.1.1 p.1.2
 B' p:=[H3 p.1.1 (b p.1.1 p.1.2)]
 inj i j vs bs _ _ h k:=by
  have:=a4z (RBs.one_inj h k)
  rw [this.1,this.2];exact ⟨rfl,rfl⟩
def f6o (R:f5→Nat→f5→n6):Sp where
 ι:=ScI × f5
 A p:=[.p 0 0,.c (.s p.2)]
 B p:=[H3 p.1.1.1 p.1.1.2]
 R p:=R p.1.1.1 p.1.1.2 p.2
 B' p:=[H3 p.1.1.1 p.1.1.2]
 inj i j vs bs hv kv h k:=by
  have:=a4z (RBs.one_inj h k)
  obtain ⟨_,_,_,_,hv,kv⟩:=hv.two kv
  obtain ⟨_,_,h2,k2,_,_⟩:=hv.two kv
  rw [this.1,this.2,F7 h2 k2];exact ⟨rfl,rfl⟩
theorem scQ {U:s7} (e:U=CU) {s:f5} {j:Int} {k:Nat} {x:Q} (h:u6 [.s s,.i .i64 j] x 0) {n:Int} (hn:n=(k:Int)):RBs [H3 s k] [.cells [.q (U.celQ x 0),.int .i64 n]]:=by
 subst e hn
 exact .k (.cells _ _ (.k (.q _ _ (u6.at h rfl)) (.k (.i _ _) .nil))) .nil
theorem Z3 {s:f5} {k:Nat} {n:Int} (hn:n=(k:Int)):RBs [H3 s k] [.cells [.str s.length (j9 s),.int .i64 n]]:=by
 subst hn
 exact .k (.cells _ _ (.k (.s _ _ _ rfl rfl) (.k (.i _ _) .nil))) .nil
theorem e2i {s:f5} {j:Nat} (h:j < s.length) (hc:t6 (bt s j)=true):k9 s j=k9 s (j+1):=by rw [k9,if_pos h,if_pos hc]
theorem f3z {s:f5} {j:Nat} (h:j < s.length) (hc:¬t6 (bt s j)=true):k9 s j=j:=by rw [k9,if_pos h,if_neg hc]
theorem f3y {s:f5} {j:Nat} (h:¬j < s.length):k9 s j=j:=by rw [k9,if_neg h]
theorem b51:j3 108 (e0b (fun s i=>.ret (.c (.b (decide (i < s.length))))) fun _ i=>i):=k7 (fun fn h=>e4l h) [] .nil fun U fn hfn ⟨(s,i),h1,h2⟩ vs bs hv hb=>by
 have hv:j5 [.p 0 0] vs:=hv
 have hb:RBs [[.s s,.i .i64 (i:Int)]] bs:=hb
 show g7 U _ fun v bs'=>j6 (.ret (.c (.b (decide (i < s.length))))) v∧RBs [H3 s i] bs'
 unfold d8r
 (refine Zq ?_;intros)
 exact G7 fun e=>by subst e;exact ⟨.ret _ _ (P9 (by rw [b33];simp)),.k (.cells _ _ j4) .nil⟩
theorem b75:j3 134 (f6o fun s i p=>.ret (.c (.b (R5 (s.drop i) p)))):=k7 (fun fn h=>e41 h) [(156,_)] (.cons d0l .nil) fun U fn hfn ⟨⟨(s,i),h1,h2⟩,p⟩ vs bs hv hb=>by
 have hp:=hfn 156 _ rfl
 have hv:j5 [.p 0 0,.c (.s p)] vs:=hv
 have hb:RBs [[.s s,.i .i64 (i:Int)]] bs:=hb
 have h1:i≤s.length:=h1
 show g7 U _ fun v bs'=>j6 (.ret (.c (.b (R5 (s.drop i) p)))) v∧RBs [H3 s i] bs'
 unfold d87
 (refine Zq ?_;intros)
 rw [Int.toNat_natCast]
 refine f6 hp ⟨(s.drop i,p),trivial⟩ (r:=.c (.b (R5 (s.drop i) p))) rfl j4 .nil fun _ _ _ _=>?_
 (refine Zq ?_;intros)
 exact g9 ⟨.ret _ _ (.b _),.k (.cells _ _ j4) .nil⟩
def H4 (s:f5) (i:Nat):f5:=(s.take (k9 s i)).drop i
theorem e1f:j3 113 (e0b (fun s i=>.ret (.c (.s (H4 s i)))) k9):=k7 (fun fn h=>e4p h) [(108,_),(111,_)] (.cons b51 (.cons b4b .nil)) fun U fn hfn ⟨(s,i),h1,h2⟩ vs bs hv hb=>by
 have hm:=hfn 108 _ rfl
 have hc:=hfn 111 _ rfl
 have hv:j5 [.p 0 0] vs:=hv
 have hb:RBs [[.s s,.i .i64 (i:Int)]] bs:=hb
 have h1:i≤s.length:=h1
 have h2:s.length < 90000:=h2
 show g7 U _ fun v bs'=>j6 (.ret (.c (.s (H4 s i)))) v∧RBs [H3 s (k9 s i)] bs'
 unfold d8v
 (refine Zq ?_;intros)
 refine E1 (fun (j:Nat) vs bs=>vs=[.ptr 0 0,.int .i64 i]∧RBs [H3 s j] bs∧i≤j∧j≤s.length∧k9 s j=k9 s i) (fun j=>s.length - j) i ⟨rfl,.k (.cells _ _ j4) .nil,Nat.le_refl _,h1,rfl⟩ (by simp only [x8];omega) ?_
 rintro self j vs bs ⟨rfl,hb,hij,hj,he⟩ ih
 have hb:RBs [[.s s,.i .i64 (j:Int)]] bs:=hb
 (refine Zq ?_;intros)
 refine f6 hm ⟨(s,j),hj,h2⟩ (r:=.c (.b (decide (j < s.length)))) rfl j4 (RB.bx aS rfl) fun _ _ _ hb=>?_
 have hb:RBs [[.s s,.i .i64 (j:Int)]] _:=hb
 (refine Zq ?_;with_reducible repeat' first|intro _|apply aI)
 ·have hlt:j < s.length:=of_decide_eq_true ‹_›
  have hbt:((s.getD j 0).toNat:Int)=bt s j:=rfl
  have hb0:=a57 s j
  have hb1:=c1k s j
  (refine Zq ?_;intros)
  refine f6 hc ⟨bt s j,hb0,hb1⟩ (r:=.c (.b (t6 (bt s j)))) rfl j4 .nil fun _ _ _ _=>?_
  (refine Zq ?_;with_reducible repeat' first|intro _|apply aI)
  ·exact fun e=>ih (j+1) _ _ ⟨rfl,scQ e aS oM,oM,oM,by rw [← e2i hlt ‹_›];exact he⟩ oM e
  ·have e:=f3z hlt ‹_›
   rw [Int.toNat_natCast,Int.toNat_natCast]
   have ew:H4 s i=(s.take j).drop i:=by unfold H4;rw [← he,e]
   rw [ew,← he,e]
   exact g9 ⟨.ret _ _ (.s _ _ _ rfl rfl),RB.bx aS rfl⟩
 ·have hlt:¬j < s.length:=fun h=>‹¬decide (j < s.length)=true› (decide_eq_true h)
  (refine Zq ?_;intros)
  have e:=f3y hlt
  rw [Int.toNat_natCast,Int.toNat_natCast]
  have ew:H4 s i=(s.take j).drop i:=by unfold H4;rw [← he,e]
  rw [ew,← he,e]
  exact g9 ⟨.ret _ _ (.s _ _ _ rfl rfl),RB.bx aS rfl⟩
end
end Go.Proofs.YtdldcfllnohkeaaGreatDoor
