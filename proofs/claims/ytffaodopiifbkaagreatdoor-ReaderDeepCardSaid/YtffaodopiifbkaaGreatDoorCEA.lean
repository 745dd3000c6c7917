/- Rules for parts of strings, for concatenation, for failures. -/
import Derived.Test.YtffaodopiifbkaaGreatDoorCR5e
import Derived.Test.YtffaodopiifbkaaGreatDoorCS
import Derived.Test.YtffaodopiifbkaaGreatDoorCN
set_option linter.all false
namespace Go.Abs
theorem e54 (n:Nat):2 ^ (8 * n)=256 ^ n:=by rw [Nat.pow_mul]
theorem c8a:∀ s:List UInt8,m8 s < 256 ^ s.length
 | []=>by simp [m8]
 | b :: l=>by
  have h1:=c8a l
  have h2:=b.toNat_lt
  simp only [m8,List.length_cons,Nat.pow_succ]
  omega
theorem b4d:∀ (l c:Nat),c < 256 ^ l→m8 (q8 l c)=c
 | 0,c,h=>by simp at h;subst h;rfl
 | l+1,c,h=>by
  rw [Nat.pow_succ] at h
  simp only [q8,m8]
  rw [b4d l (c / 256) oM,UInt8.toNat_ofNat']
  omega
theorem b9u {s:List UInt8} {a b:Nat} (h1:a≤b) (h2:b≤s.length):sSub (m8 s) a (b - a)=m8 ((s.take b).drop a):=by
 have h:=c75 (c:=m8 s) h1 h2
 rw [A4] at h
 rw [h,b4d]
 unfold sSub
 show Nat.mod _ (1 <<< (8 * (b - a))) < _
 rw [Nat.one_shiftLeft,e54]
 exact Nat.mod_lt _ (Nat.pow_pos dE)
theorem b0p (x y:List UInt8):sCat x.length (m8 x) (m8 y)=m8 (x ++ y):=by
 have h:=c6n x.length (m8 x) y.length (m8 y)
 rw [A4,A4] at h
 rw [h,b4d]
 unfold sCat
 show Nat.mod (m8 x) (1 <<< (8 * x.length))+m8 y <<< (8 * x.length) < _
 rw [Nat.one_shiftLeft,Nat.shiftLeft_eq,e54,Nat.pow_add]
 have h1:=c8a y
 have h2:Nat.mod (m8 x) (256 ^ x.length) < 256 ^ x.length:=Nat.mod_lt _ (Nat.pow_pos dE)
 have h3:=Nat.mul_le_mul_right (256 ^ x.length) h1
 rw [Nat.succ_mul] at h3
 rw [Nat.mul_comm (256 ^ x.length)]
 omega
theorem e2z {s:List UInt8} {a b:Nat} (h1:a≤b) (h2:b≤s.length):((s.take b).drop a).length=b - a:=by simp;omega
section
variable {U:t6} {P:E6→List Bx→Prop}
theorem d80 {s:List UInt8} {a b:Int} {K:Nat→Nat→Om} (h:0≤a∧a≤b∧b≤s.length) (k:j3 U (K ((s.take b.toNat).drop a.toNat).length (m8 ((s.take b.toNat).drop a.toNat))) P) :
  j3 U (U.fN (U.nSub (U.iNat b) (U.iNat a)) fun m=>U.fN (U.sSub (m8 s) (U.iNat a) m) fun d=>K m d) P:=fun e=>by
 have:=k e
 subst e
 rw [a3u,a3u]
 show ∃ v bs,K (iNat b - iNat a) (sSub (m8 s) (iNat a) (iNat b - iNat a))=some (v,bs)∧P v bs
 rw [D2,D2,b9u (show a.toNat≤b.toNat by omega) oM,← e2z (s:=s) (show a.toNat≤b.toNat by omega) oM]
 exact this
theorem f04 {s:List UInt8} {a:Int} {K:Nat→Nat→Om} (h:0≤a∧a≤s.length) (k:j3 U (K (s.drop a.toNat).length (m8 (s.drop a.toNat))) P) :
  j3 U (U.fN (U.nSub (U.iNat (U.iOfN s.length)) (U.iNat a)) fun m=>U.fN (U.sSub (m8 s) (U.iNat a) m) fun d=>K m d) P:=fun e=>by
 have:=k e
 subst e
 refine d80 (b:=(s.length:Int)) ⟨h.1,h.2,Int.le_refl _⟩ ?_ rfl
 rw [Int.toNat_natCast,List.take_length]
 exact fun _=>this
theorem f0w {x y:List UInt8} {l1 c1 l2 c2:Nat} {K:Nat→Nat→Om} (h1:l1=x.length) (e1:c1=m8 x) (h2:l2=y.length) (e2:c2=m8 y) (hl:x.length+y.length≤9223372036854775807) (k:j3 U (K (x ++ y).length (m8 (x ++ y))) P) :
  j3 U (U.chk (U.nLe (U.nAdd l1 l2) 9223372036854775807) (U.fN (U.nAdd l1 l2) fun m=>U.fN (U.sCat l1 c1 c2) fun d=>K m d)) P:=by
 subst h1 e1 h2 e2
 refine d0p (p:=x.length+y.length≤9223372036854775807) (fun e=>by subst e;exact a0j rfl) hl fun e=>?_
 have:=k e
 subst e
 rw [a3u,a3u]
 show ∃ v bs,K (x.length+y.length) (sCat x.length (m8 x) (m8 y))=some (v,bs)∧P v bs
 rw [b0p,← List.length_append]
 exact this
theorem d15 {n:Nat}:I9 U (U.iLe (U.iOfN n) (U.iOfN n)) (n≤n):=fun e=>by subst e;exact ⟨fun _=>Nat.le_refl _,fun _=>(a5t (U:=CU) rfl).2 (Int.le_refl _)⟩
theorem d1w {e m:Int} {K:Int→Om} (he:e=m) (hr:-2147483648≤m∧m < 2147483648) (h:j3 U (K m) P):j3 U (U.fI (U.wr .i32 e) K) P:=fun e'=>by
 have:=h e';subst e' he;rw [V7]
 show ∃ v bs,K (wr .i32 e)=some (v,bs)∧P v bs
 rw [a1j,a3d .i32 _ (by show _ < ((2147483648:Nat):Int);omega) (by show -((2147483648:Nat):Int)≤_;omega)]
 exact this
theorem f01 {a b:Int} {K:Int→Om} (h:j3 U (K (a.tdiv b)) P):j3 U (U.fI (U.iQuo a b) K) P:=fun e=>by
 have:=h e;subst e;rw [V7]
 show ∃ v bs,K (iQuo a b)=some (v,bs)∧P v bs
 rw [b10];exact this
theorem b4n {k:IntKind} {n:Int} {x:Q} {K:IntKind→Int→Om} (hx:RG (.i k n) x) (h:j3 U (K k n) P):j3 U (U.cI0 x K) P:=fun e=>by
 have:=h e;subst e;cases hx;exact this
theorem f2h {gs:List G} {q:Q} {i:Nat} {k:IntKind} {n:Int} {K:IntKind→Int→Om} (hq:x4 gs q 0) (hi:gs[i]?=some (.i k n)) (h:j3 U (K k n) P):j3 U (U.cI0 (U.celQ q i) K) P:=fun e=>by
 subst e;exact b4n (by have:=hq.get hi;rw [Nat.zero_add] at this;exact this) h rfl
end
end Go.Abs
namespace Go.Proofs.YtffaodopiifbkaaGreatDoor
open Go.Abs LQ
theorem Zq {p q:Prop} (k:q) (h:Tr p q:=by ((repeat' (first | (with_reducible apply Tr.all) | (with_reducible intro _) | (apply Tr.b;(case f=>first | exact b56 | exact a1i aS | exact c20 | exact b1w aS | exact b54 | exact a5i aS | exact b0i | exact b1z aS | exact sP | exact sPR aS | exact sIV | exact sI aS | exact sBV | exact sBK | exact sB aS | exact sSV | exact sS aS | exact sA | exact H4 aS (by rfl) | exact b8s (by rfl) | exact c5a (by rfl) | exact c1l aS (by rfl) | exact c18 aS (by rfl) | exact c8k aS | exact sSl aS | exact sTu aS | exact sBo | exact X8 aS (by rfl) | exact sBc | exact d0t aS | exact sBt | exact sBs | exact sBr | exact a1z aS | exact b6n aS | exact b5k aS (by rfl) | exact c9q aS (by rfl) | exact sCI' aS (by rfl) | exact sCB' aS (by rfl) | exact sCS aS | exact sCI aS | exact sCB aS | exact b41 (by first | omega | (simp only [List.length_map] at *;omega)) | exact b6p (by first | omega | (simp only [List.length_map] at *;omega)) | exact c09 | exact f04 (by first | omega | (simp only [List.length_map] at *;omega)) | exact d80 (by first | omega | (simp only [List.length_map] at *;omega)) | exact f2h aS (by rfl) | exact b4n aS | exact b2c | exact b1t | exact c05 | exact b58 | exact b44 | exact sfSubN | exact b15 | exact sfBSelE | exact sfB | exact sJn | exact c00 | exact c1d | exact c1n | exact D1 aS (by (first | exact w8 O.g_len | exact w8 (fun _=>rfl))) | exact b1g aS (by (first | exact w8 O.g_len | exact w8 (fun _=>rfl))) | exact c04 (by first | omega | (simp only [List.length_map] at *;omega)) | exact b5l (by first | omega | (simp only [List.length_map] at *;omega)) | exact c87 aS (by first | assumption | omega | (simp only [List.length_map] at *;omega)) | exact sfT aS (by rfl))) | (apply Tr.chk;(case ht=>(repeat' (first | exact d15 | exact trT | exact trF | apply a4r | apply a33 | exact a3z | exact a4o | exact a3p | exact a5t | exact a9b | exact a11 | exact a1t | exact a1c | exact a1o | exact a0j | exact a4p | exact a9u | exact a9k | exact trS | exact trV)));(case hp=>first | omega | (simp only [List.length_map] at *;omega))) | (apply Tr.cnd;(case ht=>(repeat' (first | exact d15 | exact trT | exact trF | apply a4r | apply a33 | exact a3z | exact a4o | exact a3p | exact a5t | exact a9b | exact a11 | exact a1t | exact a1c | exact a1o | exact a0j | exact a4p | exact a9u | exact a9k | exact trS | exact trV))))));all_goals exact Tr.refl)):p:=h.go k
end Go.Proofs.YtffaodopiifbkaaGreatDoor
namespace Go.Proofs.YtffaodopiifbkaaGreatDoor
open Go.Abs LQ Go.RowKit
set_option maxRecDepth 100000
set_option maxHeartbeats 4000000
noncomputable section
theorem M9 {P:Program} {G:b8q} {f:FuncId} {ds:List D} {d:D} (hcall:∀ args w,(callFunc f args).run P w=.ok (.enter f args) w)
  (h:∀ (w:World) (S:o8) (M:Mp) (vs:List Value),G.pred w→S.within w→u7 S M w vs ds→Calls P f vs.toArray w fun e w'=>Below w.heap.size w w'∧∃ v S',e=.returned v∧S.grown S' w∧S'.within w'∧Rd S' M w' v d∧a5m S' w w' v d):CM P G f ds [] (.ret d) []:=by
 refine ⟨hcall,fun w S M vs hg hM hwi hh hvs=>(h w S M vs hg hwi hvs).mono fun e w' ⟨hb,v,S',he,h1,h2,h3,h4⟩=>?_⟩
 exact ⟨⟨hb.os,hb.tape,hb.output,hb.size,fun k hk _=>hb.block k hk⟩,S',h1,h2,⟨fun id b h=>by simp at h,fun id hid=>hh.out id (by simp),fun i j x y b k l h=>by simp at h⟩,v,he,h3,h4⟩
theorem a1k {S:o8} {w w':World} (h:S.within w) (hb:Below w.heap.size w w'):S.within w':=fun b o hS=>Nat.lt_of_lt_of_le (h b o hS) hb.size
theorem X4 {S:o8} {w0 w:World} {v:Value} {d:D} (h:∀ l c z,d ≠ .slice l c (.fr z)) (h2:∀ ds,d ≠ .tuple ds):a5m S w0 w v d:=⟨fun l c z e=>absurd e (h l c z),fun _ ds _ e=>absurd e (h2 ds)⟩
theorem d3j {s:ByteArray} {l:List UInt8} (h:s.data.toList=l):s=⟨l.toArray⟩:=by subst h;rfl
theorem c1i {s:j0} {v:V} (h:RV (.c (.s s)) v):toD v=.str s:=by
 cases h with
 | s _ l c h1 h2=>subst h1 h2;simp only [toD,A4]
 | q _ x h=>cases h with | s _ l c h1 h2=>subst h1 h2;simp [toD,den,a0a,A4]
theorem d0o {k:IntKind} {n:Int} {v:V} (h:RV (.c (.i k n)) v):toD v=.int k n:=by
 cases h with
 | i=>rfl
 | q _ x h=>cases h;rfl
theorem c2x {s t:j0} {vs:List V} (h:l8 [.c (.s s),.c (.s t)] vs):vs.map toD=[.str s,.str t]:=by
 cases h with | cons _ _ v _ h1 h=>cases h with | cons _ _ v' _ h2 h=>cases h;simp [c1i h1,c1i h2]
theorem c4m {s:j0} {k:IntKind} {n:Int} {vs:List V} (h:l8 [.c (.s s),.c (.i k n)] vs):vs.map toD=[.str s,.int k n]:=by
 cases h with | cons _ _ v _ h1 h=>cases h with | cons _ _ v' _ h2 h=>cases h;simp [c1i h1,d0o h2]
theorem c3f {S:o8} {M:Mp} {w:World} {v:Value} {s:j0} (h:Rd S M w v (.str s)):v=.string ⟨s.toArray⟩:=by
 cases h with | str b _ hb=>rw [d3j hb]
theorem e8s {S:o8} {M:Mp} {w:World} {v:Value} {k:IntKind} {n:Int} (h:Rd S M w v (.int k n)):v=.int k n:=by cases h;rfl
theorem c4l {S:o8} {M:Mp} {w:World} {vs:List Value} {s t:j0} (h:u7 S M w vs [.str s,.str t]):vs=[.string ⟨s.toArray⟩,.string ⟨t.toArray⟩]:=by
 cases h with | cons _ _ _ _ h1 h=>cases h with | cons _ _ _ _ h2 h=>cases h;rw [c3f h1,c3f h2]
theorem c3v {S:o8} {M:Mp} {w:World} {vs:List Value} {s:j0} {k:IntKind} {n:Int} (h:u7 S M w vs [.str s,.int k n]):vs=[.string ⟨s.toArray⟩,.int k n]:=by
 cases h with | cons _ _ _ _ h1 h=>cases h with | cons _ _ _ _ h2 h=>cases h;rw [c3f h1,e8s h2]
def d8a (k:IntKind) (ok:j0→Int→Prop) (g:j0→Int→GV):Sp where
 ι:={ p:j0 × Int // ok p.1 p.2 }
 A p:=[.c (.s p.1.1),.c (.i k p.1.2)]
 B _:=[]
 R p:=.ret (g p.1.1 p.1.2)
 B' _:=[]
 inj i j vs bs h k _ _:=by
  obtain ⟨_,_,h1,k1,h,k⟩:=h.two k
  obtain ⟨_,_,h2,k2,h,k⟩:=h.two k
  rw [F1 h1 k1,K7 h2 k2];exact ⟨rfl,rfl⟩
def b05 (ok:j0→j0→Prop) (g:j0→j0→GV):Sp where
 ι:={ p:j0 × j0 // ok p.1 p.2 }
 A p:=[.c (.s p.1.1),.c (.s p.1.2)]
 B _:=[]
 R p:=.ret (g p.1.1 p.1.2)
 B' _:=[]
 inj i j vs bs h k _ _:=by
  obtain ⟨_,_,h1,k1,h,k⟩:=h.two k
  obtain ⟨_,_,h2,k2,h,k⟩:=h.two k
  rw [F1 h1 k1,F1 h2 k2];exact ⟨rfl,rfl⟩
theorem b8u:l6 158 (d8a .i32 (fun _ r=>0≤r∧r < 128) fun s r=>.c (.b (decide (0≤Lib.indexByte s r.toNat.toUInt8)))):=fun ⟨(s,r),h0,h1⟩ vs bs hv hb=>by
 change l8 [.c (.s s),.c (.i .i32 r)] vs at hv
 cases hb
 refine ⟨.ret (.bool (decide (0≤Lib.indexByte s r.toNat.toUInt8))),[],fun hok=>?_,.ret _ _ (.b _),.nil⟩
 rw [c4m hv]
 refine M9 (d:=.bool (decide (0≤Lib.indexByte s r.toNat.toUInt8))) Tryz.call158 fun w S M us hg hwi hr=>?_
 rw [c3v hr]
 refine (Any.strings_ContainsRune_ascii Tryz.lays151 ⟨s.toArray⟩ r w h0 h1).mono ?_
 rintro e w' ⟨rfl,rfl⟩
 exact ⟨Below.refl _ _,_,S,rfl,⟨fun _ _ h=>h,fun _ _ h=>.inl h⟩,hwi,.bool _,X4 (fun _ _ _ h=>by cases h) (fun _ h=>by cases h)⟩
theorem d0j:l6 159 (d8a .u8 (fun _ r=>0≤r∧r < 256) fun s r=>.c (.i .i64 (Lib.indexByte s r.toNat.toUInt8))):=fun ⟨(s,r),h0,h1⟩ vs bs hv hb=>by
 change l8 [.c (.s s),.c (.i .u8 r)] vs at hv
 cases hb
 refine ⟨.ret (.int .i64 (Lib.indexByte s r.toNat.toUInt8)),[],fun hok=>?_,.ret _ _ (.i _ _),.nil⟩
 rw [c4m hv]
 refine M9 (d:=.int .i64 (Lib.indexByte s r.toNat.toUInt8)) Tryz.call159 fun w S M us hg hwi hr=>?_
 rw [c3v hr]
 refine (Any.strings_IndexByte Tryz.lays137 ⟨s.toArray⟩ r w).mono ?_
 rintro e w' ⟨rfl,rfl⟩
 exact ⟨Below.refl _ _,_,S,rfl,⟨fun _ _ h=>h,fun _ _ h=>.inl h⟩,hwi,.int _ _,X4 (fun _ _ _ h=>by cases h) (fun _ h=>by cases h)⟩
theorem e3i:l6 123 (b05 (fun _ t=>∃ c,t=[c]) fun s t=>.c (.i .i64 (Lib.indexByte s (t.headD 0)))):=fun ⟨(s,t),c,hc⟩ vs bs hv hb=>by
 change l8 [.c (.s s),.c (.s t)] vs at hv
 cases hb
 have hc:t=[c]:=hc
 subst hc
 refine ⟨.ret (.int .i64 (Lib.indexByte s c)),[],fun hok=>?_,.ret _ _ (.i _ _),.nil⟩
 rw [c2x hv]
 refine M9 (d:=.int .i64 (Lib.indexByte s c)) Tryz.call123 fun w S M us hg hwi hr=>?_
 rw [c4l hr]
 refine (Any.stringslite_Index_one Tryz.lays219 ⟨s.toArray⟩ c w).mono ?_
 rintro e w' ⟨rfl,rfl⟩
 exact ⟨Below.refl _ _,_,S,rfl,⟨fun _ _ h=>h,fun _ _ h=>.inl h⟩,hwi,.int _ _,X4 (fun _ _ _ h=>by cases h) (fun _ h=>by cases h)⟩
def d1r (s t:j0):Prop:=s.length < 4294967281∧t.length < 4294967281∧∀ b ∈ t,b.toNat < 128
theorem d20:l6 165 (b05 d1r fun s t=>.c (.s (Lib.trimS s t))):=fun ⟨(s,t),h0,h1,h2⟩ vs bs hv hb=>by
 change l8 [.c (.s s),.c (.s t)] vs at hv
 cases hb
 refine ⟨.ret (.str (Lib.trimS s t).length (m8 (Lib.trimS s t))),[],fun hok=>?_,.ret _ _ (.s _ _ _ rfl rfl),.nil⟩
 rw [c2x hv]
 show CM X0.P X0.G _ _ [] (.ret (.str (q8 _ (m8 _)))) []
 rw [A4]
 refine M9 Tryz.call165 fun w S M us hg hwi hr=>?_
 rw [c4l hr]
 refine (Any.strings_Trim_laid Tryz.lays160 kR ⟨s.toArray⟩ ⟨t.toArray⟩ w (by have h0:s.length < 4294967281:=h0;simp [ByteArray.size];omega) (by have h1:t.length < 4294967281:=h1;simp [ByteArray.size];omega) (fun j b hb=>h2 b (List.mem_of_getElem? hb))).mono ?_
 rintro e w' ⟨rfl,hb⟩
 exact ⟨hb,_,S,rfl,⟨fun _ _ h=>h,fun _ _ h=>.inl h⟩,a1k hwi hb,.str _ _ rfl,X4 (fun _ _ _ h=>by cases h) (fun _ h=>by cases h)⟩
theorem c83:l6 192 (b05 d1r fun s t=>.c (.s (Lib.trimLeftS s t))):=fun ⟨(s,t),h0,h1,h2⟩ vs bs hv hb=>by
 change l8 [.c (.s s),.c (.s t)] vs at hv
 cases hb
 refine ⟨.ret (.str (Lib.trimLeftS s t).length (m8 (Lib.trimLeftS s t))),[],fun hok=>?_,.ret _ _ (.s _ _ _ rfl rfl),.nil⟩
 rw [c2x hv]
 show CM X0.P X0.G _ _ [] (.ret (.str (q8 _ (m8 _)))) []
 rw [A4]
 refine M9 Tryz.call192 fun w S M us hg hwi hr=>?_
 rw [c4l hr]
 refine (Any.strings_TrimLeft_laid Tryz.lays161 kR ⟨s.toArray⟩ ⟨t.toArray⟩ w (by have h1:t.length < 4294967281:=h1;simp [ByteArray.size];omega) (fun j b hb=>h2 b (List.mem_of_getElem? hb))).mono ?_
 rintro e w' ⟨rfl,hb⟩
 exact ⟨hb,_,S,rfl,⟨fun _ _ h=>h,fun _ _ h=>.inl h⟩,a1k hwi hb,.str _ _ rfl,X4 (fun _ _ _ h=>by cases h) (fun _ h=>by cases h)⟩
end
end Go.Proofs.YtffaodopiifbkaaGreatDoor
namespace Go.Proofs.YtffaodopiifbkaaGreatDoor
open Go.Abs LQ
set_option maxRecDepth 100000
set_option maxHeartbeats 4000000
noncomputable section
def Q1 (s t:j0):Bool:=decide (t.length≤s.length∧s.take t.length=t)
theorem b2y:l6 207 (b05 (fun _ _=>True) fun s t=>.c (.b (Q1 s t))):=o7 (fun fn h=>e2h h) [] .nil fun U fn hfn ⟨(s,t),_⟩ vs bs hv hb=>by
 have hv:l8 [.c (.s s),.c (.s t)] vs:=hv
 have hb:RBs [] bs:=hb
 show j3 U _ fun v bs'=>l7 (.ret (.c (.b (Q1 s t)))) v∧RBs [] bs'
 unfold d40
 (refine Zq ?_;with_reducible repeat' first|intro _|apply aI)
 ·have hl:t.length≤s.length:=oM
  exact I7 fun e=>by subst e;exact ⟨.ret _ _ (J3 (by rw [cuS];unfold Q1;simp [hl])),.nil⟩
 ·exact k9 ⟨.ret _ _ (I8 (by unfold Q1;rw [decide_eq_false];omega)),.nil⟩
theorem c8g:l6 181 (b05 (fun _ _=>True) fun s t=>.c (.b (Q1 s t))):=o7 (fun fn h=>e3g h) [(207,_)] (.cons b2y .nil) fun U fn hfn ⟨(s,t),_⟩ vs bs hv hb=>by
 have hp:=hfn 207 _ rfl
 have hv:l8 [.c (.s s),.c (.s t)] vs:=hv
 have hb:RBs [] bs:=hb
 show j3 U _ fun v bs'=>l7 (.ret (.c (.b (Q1 s t)))) v∧RBs [] bs'
 unfold d6u
 (refine Zq ?_;intros)
 refine i6 hp ⟨(s,t),trivial⟩ (r:=.c (.b (Q1 s t))) rfl j7 .nil fun _ _ _ _=>?_
 (refine Zq ?_;intros)
 exact k9 ⟨.ret _ _ (.b _),.nil⟩
def D3 (s t:j0):j0:=if Q1 s t then s.drop t.length else s
theorem c13:l6 209 (b05 (fun _ _=>True) fun s t=>.c (.s (D3 s t))):=o7 (fun fn h=>e2j h) [(207,_)] (.cons b2y .nil) fun U fn hfn ⟨(s,t),_⟩ vs bs hv hb=>by
 have hp:=hfn 207 _ rfl
 have hv:l8 [.c (.s s),.c (.s t)] vs:=hv
 have hb:RBs [] bs:=hb
 show j3 U _ fun v bs'=>l7 (.ret (.c (.s (D3 s t)))) v∧RBs [] bs'
 unfold d6v
 (refine Zq ?_;intros)
 refine i6 hp ⟨(s,t),trivial⟩ (r:=.c (.b (Q1 s t))) rfl j7 .nil fun _ _ hv hb=>?_
 refine sB hv (a5i hb ?_)
 have hl:Q1 s t=true→t.length≤s.length:=fun h=>by simp [Q1] at h;exact h.1
 refine c9n trV (fun h=>?_) fun h=>?_
 ·have hp:=h
  have hl:=hl h
  (refine Zq ?_;intros)
  have e:D3 s t=s.drop t.length:=by unfold D3;rw [if_pos hp]
  rw [e,Int.toNat_natCast]
  exact k9 ⟨.ret _ _ (.s _ _ _ rfl rfl),.nil⟩
 ·have e:D3 s t=s:=by unfold D3;rw [if_neg h]
  rw [e]
  exact k9 ⟨.ret _ _ (.s _ _ _ rfl rfl),.nil⟩
theorem a0b:l6 184 (b05 (fun _ _=>True) fun s t=>.c (.s (D3 s t))):=o7 (fun fn h=>e1v h) [(209,_)] (.cons c13 .nil) fun U fn hfn ⟨(s,t),_⟩ vs bs hv hb=>by
 have hp:=hfn 209 _ rfl
 have hv:l8 [.c (.s s),.c (.s t)] vs:=hv
 have hb:RBs [] bs:=hb
 show j3 U _ fun v bs'=>l7 (.ret (.c (.s (D3 s t)))) v∧RBs [] bs'
 unfold d5h
 (refine Zq ?_;intros)
 refine i6 hp ⟨(s,t),trivial⟩ (r:=.c (.s (D3 s t))) rfl j7 .nil fun _ _ _ _=>?_
 (refine Zq ?_;intros)
 exact k9 ⟨.ret _ _ (.s _ _ _ rfl rfl),.nil⟩
theorem R6 (s:j0) (c:UInt8):Lib.indexByte s c < s.length∧-1≤Lib.indexByte s c:=by
 induction s with
 | nil=>simp [Lib.indexByte]
 | cons b l ih =>
  simp only [Lib.indexByte,List.length_cons]
  split
  ·omega
  ·split <;> omega
def G8 (s:j0) (c:UInt8):j0 × j0 × Bool:=if 0≤Lib.indexByte s c then (s.take (Lib.indexByte s c).toNat,s.drop (Lib.indexByte s c+1).toNat,true) else (s,[],false)
def d8o:Sp:=b05 (fun s t=>s.length < 90000∧∃ c,t=[c]) fun s t=>.t [.c (.s (G8 s (t.headD 0)).1),.c (.s (G8 s (t.headD 0)).2.1),.c (.b (G8 s (t.headD 0)).2.2)]
theorem f3c:l6 208 d8o:=o7 (fun fn h=>e0p h) [(123,_)] (.cons e3i .nil) fun U fn hfn ⟨(s,t),hs,c,hc⟩ vs bs hv hb=>by
 have hp:=hfn 123 _ rfl
 have hv:l8 [.c (.s s),.c (.s t)] vs:=hv
 have hb:RBs [] bs:=hb
 have hc:t=[c]:=hc
 have hs:s.length < 90000:=hs
 subst hc
 show j3 U _ fun v bs'=>l7 (.ret (.t [.c (.s (G8 s c).1),.c (.s (G8 s c).2.1),.c (.b (G8 s c).2.2)])) v∧RBs [] bs'
 unfold d4c
 (refine Zq ?_;intros)
 refine i6 hp ⟨(s,[c]),c,rfl⟩ (r:=.c (.i .i64 (Lib.indexByte s c))) rfl j7 .nil fun _ _ _ _=>?_
 have hi:=R6 s c
 have e1:(([c]:j0).length:Int)=1:=rfl
 (refine Zq ?_;with_reducible repeat' first|intro _|apply aI)
 ·have h0:=‹0≤Lib.indexByte s c›
  have e:G8 s c=(s.take (Lib.indexByte s c).toNat,s.drop (Lib.indexByte s c+1).toNat,true):=by unfold G8;rw [if_pos h0]
  rw [e]
  simp only [Int.toNat_zero,List.drop_zero,e1]
  exact k9 ⟨.ret _ _ j7,.nil⟩
 ·have e:G8 s c=(s,[],false):=by unfold G8;rw [if_neg ‹_›]
  rw [e]
  exact k9 ⟨.ret _ _ j7,.nil⟩
theorem f6d:l6 182 d8o:=o7 (fun fn h=>e38 h) [(208,_)] (.cons f3c .nil) fun U fn hfn ⟨(s,t),hs,c,hc⟩ vs bs hv hb=>by
 have hp:=hfn 208 _ rfl
 have hv:l8 [.c (.s s),.c (.s t)] vs:=hv
 have hb:RBs [] bs:=hb
 have hc:t=[c]:=hc
 subst hc
 show j3 U _ fun v bs'=>l7 (.ret (.t [.c (.s (G8 s c).1),.c (.s (G8 s c).2.1),.c (.b (G8 s c).2.2)])) v∧RBs [] bs'
 unfold d7f
 (refine Zq ?_;intros)
 refine i6 hp ⟨(s,[c]),hs,c,rfl⟩ (r:=.t [.c (.s (G8 s c).1),.c (.s (G8 s c).2.1),.c (.b (G8 s c).2.2)]) rfl j7 .nil fun _ _ _ _=>?_
 (refine Zq ?_;intros)
 exact k9 ⟨.ret _ _ j7,.nil⟩
theorem c51 (c:Int) (h1:32 < c) (h2:c < 127):(!(decide (0≤Lib.indexByte (q8 7 16462142067124520) c.toNat.toUInt8)))=x5 c:=by
 obtain ⟨n,rfl⟩:∃ n:Nat,c=n:=⟨c.toNat,oM⟩
 rw [Int.toNat_natCast]
 have h3:n < 127:=oM
 have h4:32 < n:=oM
 have key:∀ n:Fin 127,32 < n.1→(!(decide (0≤Lib.indexByte (q8 7 16462142067124520) n.1.toUInt8)))=x5 n.1:=dE
 exact key ⟨n,h3⟩ h4
def e98 (g:Int→GV):Sp where
 ι:={ c:Int // 0≤c∧c < 256 }
 A c:=[.c (.i .u8 c.1)]
 B _:=[]
 R c:=.ret (g c.1)
 B' _:=[]
 inj i j vs bs h k _ _:=by
  obtain ⟨_,_,h1,k1,h,k⟩:=h.two k
  rw [K7 h1 k1];exact ⟨rfl,rfl⟩
theorem b30:l6 138 (e98 fun c=>.c (.b (x5 c))):=o7 (fun fn h=>e2g h) [(158,_)] (.cons b8u .nil) fun U fn hfn ⟨c,h0,h1⟩ vs bs hv hb=>by
 have hp:=hfn 158 _ rfl
 have hv:l8 [.c (.i .u8 c)] vs:=hv
 have hb:RBs [] bs:=hb
 show j3 U _ fun v bs'=>l7 (.ret (.c (.b (x5 c)))) v∧RBs [] bs'
 unfold d5c
 (refine Zx ?_;with_reducible repeat' first|intro _|apply aI)
 ·refine d1w (m:=c) rfl oM ?_
  refine i6 hp ⟨(q8 7 16462142067124520,c),oM,oM⟩ (r:=.c (.b (decide (0≤Lib.indexByte (q8 7 16462142067124520) c.toNat.toUInt8)))) rfl j7 .nil fun _ _ _ _=>?_
  (refine Zx ?_;intros)
  exact I7 fun e=>by subst e;exact ⟨.ret _ _ (J3 (by rw [a1h,c51 c oM oM])),.nil⟩
 ·exact k9 ⟨.ret _ _ (I8 (by simp [x5];omega)),.nil⟩
 ·exact k9 ⟨.ret _ _ (I8 (by simp [x5];omega)),.nil⟩
theorem RB.bx {gs:List G} {q:Q} {m:Nat} (h:x4 gs q 0) (hm:m=gs.length):RBs [gs] [.opa q m]:=.k (.opa _ _ _ hm h) .nil
def G0 (s:j0) (i:Nat):List G:=[.s s,.i .i64 (i:Int)]
theorem a45 {s t:j0} {i j:Nat} (h:G0 s i=G0 t j):s=t∧i=j:=by
 simp only [G0,List.cons.injEq,G.s.injEq,G.i.injEq,and_true,true_and] at h
 exact ⟨h.1,oM⟩
theorem RBs.one_inj {g g':List G} {bs:List Bx} (h:RBs [g] bs) (k:RBs [g'] bs):g=g':=by
 cases h with | cons _ _ b _ h1 _=>cases k with | cons _ _ _ _ k1 _=>exact h1.inj k1
abbrev ScI:={ p:j0 × Nat // p.2≤p.1.length∧p.1.length < 90000 }
def d6n (R:j0→Nat→t7) (b:j0→Nat→Nat):Sp where
 ι:=ScI
 A _:=[.p 0 0]
 B p:=[G0 p.1.1 p.1.2]
 R p:=R p.1.1 p.1.2
 B' p:=[G0 p.1.1 (b p.1.1 p.1.2)]
 inj i j vs bs _ _ h k:=by
  have:=a45 (RBs.one_inj h k)
  rw [this.1,this.2];exact ⟨rfl,rfl⟩
def f2f (R:j0→Nat→j0→t7):Sp where
 ι:=ScI × j0
 A p:=[.p 0 0,.c (.s p.2)]
 B p:=[G0 p.1.1.1 p.1.1.2]
 R p:=R p.1.1.1 p.1.1.2 p.2
 B' p:=[G0 p.1.1.1 p.1.1.2]
 inj i j vs bs hv kv h k:=by
  have:=a45 (RBs.one_inj h k)
  obtain ⟨_,_,_,_,hv,kv⟩:=hv.two kv
  obtain ⟨_,_,h2,k2,_,_⟩:=hv.two kv
  rw [this.1,this.2,F1 h2 k2];exact ⟨rfl,rfl⟩
theorem scQ {U:t6} (e:U=CU) {s:j0} {j:Int} {k:Nat} {x:Q} (h:x4 [.s s,.i .i64 j] x 0) {n:Int} (hn:n=(k:Int)):RBs [G0 s k] [.cells [.q (U.celQ x 0),.int .i64 n]]:=by
 subst e hn
 exact .k (.cells _ _ (.k (.q _ _ (x4.at h rfl)) (.k (.i _ _) .nil))) .nil
theorem Z2 {s:j0} {k:Nat} {n:Int} (hn:n=(k:Int)):RBs [G0 s k] [.cells [.str s.length (m8 s),.int .i64 n]]:=by
 subst hn
 exact .k (.cells _ _ (.k (.s _ _ _ rfl rfl) (.k (.i _ _) .nil))) .nil
theorem c8j {s:j0} {j:Nat} (h:j < s.length) (hc:x5 (bt s j)=true):n7 s j=n7 s (j+1):=by rw [n7,if_pos h,if_pos hc]
theorem e91 {s:j0} {j:Nat} (h:j < s.length) (hc:¬x5 (bt s j)=true):n7 s j=j:=by rw [n7,if_pos h,if_neg hc]
theorem e72 {s:j0} {j:Nat} (h:¬j < s.length):n7 s j=j:=by rw [n7,if_neg h]
theorem b51:l6 135 (d6n (fun s i=>.ret (.c (.b (decide (i < s.length))))) fun _ i=>i):=o7 (fun fn h=>d90 h) [] .nil fun U fn hfn ⟨(s,i),h1,h2⟩ vs bs hv hb=>by
 have hv:l8 [.p 0 0] vs:=hv
 have hb:RBs [[.s s,.i .i64 (i:Int)]] bs:=hb
 show j3 U _ fun v bs'=>l7 (.ret (.c (.b (decide (i < s.length))))) v∧RBs [G0 s i] bs'
 unfold d35
 (refine Zq ?_;intros)
 exact I7 fun e=>by subst e;exact ⟨.ret _ _ (J3 (by rw [b0s];simp)),.k (.cells _ _ j7) .nil⟩
theorem b7l:l6 160 (f2f fun s i p=>.ret (.c (.b (Q1 (s.drop i) p)))):=o7 (fun fn h=>e2e h) [(181,_)] (.cons c8g .nil) fun U fn hfn ⟨⟨(s,i),h1,h2⟩,p⟩ vs bs hv hb=>by
 have hp:=hfn 181 _ rfl
 have hv:l8 [.p 0 0,.c (.s p)] vs:=hv
 have hb:RBs [[.s s,.i .i64 (i:Int)]] bs:=hb
 have h1:i≤s.length:=h1
 show j3 U _ fun v bs'=>l7 (.ret (.c (.b (Q1 (s.drop i) p)))) v∧RBs [G0 s i] bs'
 unfold d44
 (refine Zq ?_;intros)
 rw [Int.toNat_natCast]
 refine i6 hp ⟨(s.drop i,p),trivial⟩ (r:=.c (.b (Q1 (s.drop i) p))) rfl j7 .nil fun _ _ _ _=>?_
 (refine Zq ?_;intros)
 exact k9 ⟨.ret _ _ (.b _),.k (.cells _ _ j7) .nil⟩
def G3 (s:j0) (i:Nat):j0:=(s.take (n7 s i)).drop i
theorem d8q:l6 140 (d6n (fun s i=>.ret (.c (.s (G3 s i)))) n7):=o7 (fun fn h=>e2a h) [(135,_),(138,_)] (.cons b51 (.cons b30 .nil)) fun U fn hfn ⟨(s,i),h1,h2⟩ vs bs hv hb=>by
 have hm:=hfn 135 _ rfl
 have hc:=hfn 138 _ rfl
 have hv:l8 [.p 0 0] vs:=hv
 have hb:RBs [[.s s,.i .i64 (i:Int)]] bs:=hb
 have h1:i≤s.length:=h1
 have h2:s.length < 90000:=h2
 show j3 U _ fun v bs'=>l7 (.ret (.c (.s (G3 s i)))) v∧RBs [G0 s (n7 s i)] bs'
 unfold d7v
 (refine Zq ?_;intros)
 refine C7 (fun (j:Nat) vs bs=>vs=[.ptr 0 0,.int .i64 i]∧RBs [G0 s j] bs∧i≤j∧j≤s.length∧n7 s j=n7 s i) (fun j=>s.length - j) i ⟨rfl,.k (.cells _ _ j7) .nil,Nat.le_refl _,h1,rfl⟩ (by simp only [x8];omega) ?_
 rintro self j vs bs ⟨rfl,hb,hij,hj,he⟩ ih
 have hb:RBs [[.s s,.i .i64 (j:Int)]] bs:=hb
 (refine Zq ?_;intros)
 refine i6 hm ⟨(s,j),hj,h2⟩ (r:=.c (.b (decide (j < s.length)))) rfl j7 (RB.bx aS rfl) fun _ _ _ hb=>?_
 have hb:RBs [[.s s,.i .i64 (j:Int)]] _:=hb
 (refine Zq ?_;with_reducible repeat' first|intro _|apply aI)
 ·have hlt:j < s.length:=of_decide_eq_true ‹_›
  have hbt:((s.getD j 0).toNat:Int)=bt s j:=rfl
  have hb0:=a6q s j
  have hb1:=c03 s j
  (refine Zq ?_;intros)
  refine i6 hc ⟨bt s j,hb0,hb1⟩ (r:=.c (.b (x5 (bt s j)))) rfl j7 .nil fun _ _ _ _=>?_
  (refine Zq ?_;with_reducible repeat' first|intro _|apply aI)
  ·exact fun e=>ih (j+1) _ _ ⟨rfl,scQ e aS oM,oM,oM,by rw [← c8j hlt ‹_›];exact he⟩ oM e
  ·have e:=e91 hlt ‹_›
   rw [Int.toNat_natCast,Int.toNat_natCast]
   have ew:G3 s i=(s.take j).drop i:=by unfold G3;rw [← he,e]
   rw [ew,← he,e]
   exact k9 ⟨.ret _ _ (.s _ _ _ rfl rfl),RB.bx aS rfl⟩
 ·have hlt:¬j < s.length:=fun h=>‹¬decide (j < s.length)=true› (decide_eq_true h)
  (refine Zq ?_;intros)
  have e:=e72 hlt
  rw [Int.toNat_natCast,Int.toNat_natCast]
  have ew:G3 s i=(s.take j).drop i:=by unfold G3;rw [← he,e]
  rw [ew,← he,e]
  exact k9 ⟨.ret _ _ (.s _ _ _ rfl rfl),RB.bx aS rfl⟩
end
end Go.Proofs.YtffaodopiifbkaaGreatDoor
