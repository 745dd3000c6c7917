/- Rules for parts of strings, for concatenation, for failures. -/
import Derived.Test.YtffaodopiifbkaaGreatDoorCP
import Derived.Test.YtffaodopiifbkaaGreatDoorCR5e
import Derived.Test.YtffaodopiifbkaaGreatDoorCS
import Derived.Test.YtffaodopiifbkaaGreatDoorCN
import Derived.Shelf.Strconv.Itoa3
import Derived.Shelf.Small.Strs
import Derived.Shelf.Strings.Runes
import Derived.Shelf.Strings.Search2
import Derived.Shelf.Strings.SlTrimAscii
import Derived.Test.YtffaodopiifbkaaGreatDoorCL0
set_option linter.all false
namespace Go.Abs
theorem e58 (n:Nat):2 ^ (8 * n)=256 ^ n:=by rw [Nat.pow_mul]
theorem c5l:∀ s:List UInt8,n6 s < 256 ^ s.length
 | []=>by simp [n6]
 | b :: l=>by
  have h1:=c5l l
  have h2:=b.toNat_lt
  simp only [n6,List.length_cons,Nat.pow_succ]
  omega
theorem b3v:∀ (l c:Nat),c < 256 ^ l→n6 (u7 l c)=c
 | 0,c,h=>by simp at h;subst h;rfl
 | l+1,c,h=>by
  rw [Nat.pow_succ] at h
  simp only [u7,n6]
  rw [b3v l (c / 256) (by omega),UInt8.toNat_ofNat']
  omega
theorem b9c {s:List UInt8} {a b:Nat} (h1:a≤b) (h2:b≤s.length):sSub (n6 s) a (b - a)=n6 ((s.take b).drop a):=by
 have h:=c5m (c:=n6 s) h1 h2
 rw [C6] at h
 rw [h,b3v]
 unfold sSub
 show Nat.mod _ (1 <<< (8 * (b - a))) < _
 rw [Nat.one_shiftLeft,e58]
 exact Nat.mod_lt _ (Nat.pow_pos (by decide))
theorem b0t (x y:List UInt8):sCat x.length (n6 x) (n6 y)=n6 (x ++ y):=by
 have h:=c6s x.length (n6 x) y.length (n6 y)
 rw [C6,C6] at h
 rw [h,b3v]
 unfold sCat
 show Nat.mod (n6 x) (1 <<< (8 * x.length))+n6 y <<< (8 * x.length) < _
 rw [Nat.one_shiftLeft,Nat.shiftLeft_eq,e58,Nat.pow_add]
 have h1:=c5l y
 have h2:Nat.mod (n6 x) (256 ^ x.length) < 256 ^ x.length:=Nat.mod_lt _ (Nat.pow_pos (by decide))
 have h3:=Nat.mul_le_mul_right (256 ^ x.length) h1
 rw [Nat.succ_mul] at h3
 rw [Nat.mul_comm (256 ^ x.length)]
 omega
theorem d86 {s:List UInt8} {a b:Nat} (h1:a≤b) (h2:b≤s.length):((s.take b).drop a).length=b - a:=by simp;omega
section
variable {U:w7} {P:G3→List Bx→Prop}
theorem d73 {s:List UInt8} {a b:Int} {K:Nat→Nat→Om} (h:0≤a∧a≤b∧b≤s.length) (k:j3 U (K ((s.take b.toNat).drop a.toNat).length (n6 ((s.take b.toNat).drop a.toNat))) P) :
  j3 U (U.fN (U.nSub (U.iNat b) (U.iNat a)) fun m=>U.fN (U.sSub (n6 s) (U.iNat a) m) fun d=>K m d) P:=fun e=>by
 have:=k e
 subst e
 rw [a3l,a3l]
 show ∃ v bs,K (iNat b - iNat a) (sSub (n6 s) (iNat a) (iNat b - iNat a))=some (v,bs)∧P v bs
 rw [E7,E7,b9c (show a.toNat≤b.toNat by omega) (by omega),← d86 (s:=s) (show a.toNat≤b.toNat by omega) (by omega)]
 exact this
theorem e7r {s:List UInt8} {a:Int} {K:Nat→Nat→Om} (h:0≤a∧a≤s.length) (k:j3 U (K (s.drop a.toNat).length (n6 (s.drop a.toNat))) P) :
  j3 U (U.fN (U.nSub (U.iNat (U.iOfN s.length)) (U.iNat a)) fun m=>U.fN (U.sSub (n6 s) (U.iNat a) m) fun d=>K m d) P:=fun e=>by
 have:=k e
 subst e
 refine d73 (b:=(s.length:Int)) ⟨h.1,h.2,Int.le_refl _⟩ ?_ rfl
 rw [Int.toNat_natCast,List.take_length]
 exact fun _=>this
theorem e73 {x y:List UInt8} {l1 c1 l2 c2:Nat} {K:Nat→Nat→Om} (h1:l1=x.length) (e1:c1=n6 x) (h2:l2=y.length) (e2:c2=n6 y) (hl:x.length+y.length≤9223372036854775807) (k:j3 U (K (x ++ y).length (n6 (x ++ y))) P) :
  j3 U (U.chk (U.nLe (U.nAdd l1 l2) 9223372036854775807) (U.fN (U.nAdd l1 l2) fun m=>U.fN (U.sCat l1 c1 c2) fun d=>K m d)) P:=by
 subst h1 e1 h2 e2
 refine c8p (p:=x.length+y.length≤9223372036854775807) (fun e=>by subst e;exact a0m rfl) hl fun e=>?_
 have:=k e
 subst e
 rw [a3l,a3l]
 show ∃ v bs,K (x.length+y.length) (sCat x.length (n6 x) (n6 y))=some (v,bs)∧P v bs
 rw [b0t,← List.length_append]
 exact this
theorem c9g {n:Nat}:J9 U (U.iLe (U.iOfN n) (U.iOfN n)) (n≤n):=fun e=>by subst e;exact ⟨fun _=>Nat.le_refl _,fun _=>(a5l (U:=CU) rfl).2 (Int.le_refl _)⟩
theorem d1x {e m:Int} {K:Int→Om} (he:e=m) (hr:-2147483648≤m∧m < 2147483648) (h:j3 U (K m) P):j3 U (U.fI (U.wr .i32 e) K) P:=fun e'=>by
 have:=h e';subst e' he;rw [V8]
 show ∃ v bs,K (wr .i32 e)=some (v,bs)∧P v bs
 rw [a1e,a2w .i32 _ (by show _ < ((2147483648:Nat):Int);omega) (by show -((2147483648:Nat):Int)≤_;omega)]
 exact this
theorem e8g {a b:Int} {K:Int→Om} (h:j3 U (K (a.tdiv b)) P):j3 U (U.fI (U.iQuo a b) K) P:=fun e=>by
 have:=h e;subst e;rw [V8]
 show ∃ v bs,K (iQuo a b)=some (v,bs)∧P v bs
 rw [b1v];exact this
theorem e6h {k:IntKind} {n:Int} {x:Q} {K:IntKind→Int→Om} (hx:RG (.i k n) x) (h:j3 U (K k n) P):j3 U (U.cI0 x K) P:=fun e=>by
 have:=h e;subst e;cases hx;exact this
theorem e8r {gs:List G} {q:Q} {i:Nat} {k:IntKind} {n:Int} {K:IntKind→Int→Om} (hq:B6 gs q 0) (hi:gs[i]?=some (.i k n)) (h:j3 U (K k n) P):j3 U (U.cI0 (U.celQ q i) K) P:=fun e=>by
 subst e;exact e6h (by have:=hq.get hi;rw [Nat.zero_add] at this;exact this) h rfl
end
end Go.Abs
namespace Go.Proofs.YtffaodopiifbkaaGreatDoor
open Go.Abs LQ
theorem Zq {p q:Prop} (k:q) (h:Tr p q:=by ((repeat' (first | (with_reducible apply Tr.all) | (with_reducible intro _) | (apply Tr.b;(case f=>first | exact b49 | exact a23 (by assumption) | exact c09 | exact b1j (by assumption) | exact b4i | exact a5v (by assumption) | exact b0q | exact b1h (by assumption) | exact sP | exact sPR (by assumption) | exact sIV | exact sI (by assumption) | exact sBV | exact sBK | exact sB (by assumption) | exact sSV | exact sS (by assumption) | exact sA | exact U4 (by assumption) (by rfl) | exact b7p (by rfl) | exact c12 (by rfl) | exact c0o (by assumption) (by rfl) | exact c2e (by assumption) (by rfl) | exact c68 (by assumption) | exact sSl (by assumption) | exact sTu (by assumption) | exact sBo | exact a1f (by assumption) (by rfl) | exact sBc | exact c88 (by assumption) | exact sBt | exact sBs | exact sBr | exact a07 (by assumption) | exact b5g (by assumption) | exact b6h (by assumption) (by rfl) | exact c9a (by assumption) (by rfl) | exact sCI' (by assumption) (by rfl) | exact sCB' (by assumption) (by rfl) | exact sCS (by assumption) | exact sCI (by assumption) | exact sCB (by assumption) | exact b5h (by first | omega | (simp only [List.length_map] at *;omega)) | exact b4k (by first | omega | (simp only [List.length_map] at *;omega)) | exact c0h | exact e7r (by first | omega | (simp only [List.length_map] at *;omega)) | exact d73 (by first | omega | (simp only [List.length_map] at *;omega)) | exact e8r (by assumption) (by rfl) | exact e6h (by assumption) | exact b1z | exact b17 | exact b99 | exact b6c | exact b4r | exact sfSubN | exact b1f | exact sfBSelE | exact sfB | exact sJn | exact c0m | exact c0i | exact c0f | exact M3 (by assumption) (by (first | exact C7 O.g_len | exact C7 (fun _=>rfl))) | exact a9y (by assumption) (by (first | exact C7 O.g_len | exact C7 (fun _=>rfl))) | exact c0p (by first | omega | (simp only [List.length_map] at *;omega)) | exact b41 (by first | omega | (simp only [List.length_map] at *;omega)) | exact c82 (by assumption) (by first | assumption | omega | (simp only [List.length_map] at *;omega)) | exact sfT (by assumption) (by rfl))) | (apply Tr.chk;(case ht=>(repeat' (first | exact c9g | exact trT | exact trF | apply a3w | apply a3t | exact a3y | exact a32 | exact a3p | exact a5l | exact a8h | exact a1r | exact a1x | exact a1g | exact a1z | exact a0m | exact a4b | exact a9d | exact a8y | exact trS | exact trV)));(case hp=>first | omega | (simp only [List.length_map] at *;omega))) | (apply Tr.cnd;(case ht=>(repeat' (first | exact c9g | exact trT | exact trF | apply a3w | apply a3t | exact a3y | exact a32 | exact a3p | exact a5l | exact a8h | exact a1r | exact a1x | exact a1g | exact a1z | exact a0m | exact a4b | exact a9d | exact a8y | exact trS | exact trV))))));all_goals exact Tr.refl)):p:=h.go k
end Go.Proofs.YtffaodopiifbkaaGreatDoor
namespace Go.Proofs.YtffaodopiifbkaaGreatDoor
open Go.Abs LQ Go.RowKit
set_option maxRecDepth 100000
set_option maxHeartbeats 4000000
noncomputable section
theorem O0 {P:Program} {G:b7e} {f:FuncId} {ds:List D} {d:D} (hcall:∀ args w,(callFunc f args).run P w=.ok (.enter f args) w)
  (h:∀ (w:World) (S:n9) (M:Mp) (vs:List Value),G.pred w→S.within w→y7 S M w vs ds→Calls P f vs.toArray w fun e w'=>Below w.heap.size w w'∧∃ v S',e=.returned v∧S.grown S' w∧S'.within w'∧Rd S' M w' v d∧a5m S' w w' v d):CM P G f ds [] (.ret d) []:=by
 refine ⟨hcall,fun w S M vs hg hM hwi hh hvs=>(h w S M vs hg hwi hvs).mono fun e w' ⟨hb,v,S',he,h1,h2,h3,h4⟩=>?_⟩
 exact ⟨⟨hb.os,hb.tape,hb.output,hb.size,fun k hk _=>hb.block k hk⟩,S',h1,h2,⟨fun id b h=>by simp at h,fun id hid=>hh.out id (by simp),fun i j x y b k l h=>by simp at h⟩,v,he,h3,h4⟩
theorem a1t {S:n9} {w w':World} (h:S.within w) (hb:Below w.heap.size w w'):S.within w':=fun b o hS=>Nat.lt_of_lt_of_le (h b o hS) hb.size
theorem W8 {S:n9} {w0 w:World} {v:Value} {d:D} (h:∀ l c z,d ≠ .slice l c (.fr z)) (h2:∀ ds,d ≠ .tuple ds):a5m S w0 w v d:=⟨fun l c z e=>absurd e (h l c z),fun _ ds _ e=>absurd e (h2 ds)⟩
theorem d0w {s:ByteArray} {l:List UInt8} (h:s.data.toList=l):s=⟨l.toArray⟩:=by subst h;rfl
theorem c0n {s:i7} {v:V} (h:RV (.c (.s s)) v):toD v=.str s:=by
 cases h with
 | s _ l c h1 h2=>subst h1 h2;simp only [toD,C6]
 | q _ x h=>cases h with | s _ l c h1 h2=>subst h1 h2;simp [toD,den,a0f,C6]
theorem c62 {k:IntKind} {n:Int} {v:V} (h:RV (.c (.i k n)) v):toD v=.int k n:=by
 cases h with
 | i=>rfl
 | q _ x h=>cases h;rfl
theorem c0x {s t:i7} {vs:List V} (h:l9 [.c (.s s),.c (.s t)] vs):vs.map toD=[.str s,.str t]:=by
 cases h with | cons _ _ v _ h1 h=>cases h with | cons _ _ v' _ h2 h=>cases h;simp [c0n h1,c0n h2]
theorem c1z {s:i7} {k:IntKind} {n:Int} {vs:List V} (h:l9 [.c (.s s),.c (.i k n)] vs):vs.map toD=[.str s,.int k n]:=by
 cases h with | cons _ _ v _ h1 h=>cases h with | cons _ _ v' _ h2 h=>cases h;simp [c0n h1,c62 h2]
theorem c1l {S:n9} {M:Mp} {w:World} {v:Value} {s:i7} (h:Rd S M w v (.str s)):v=.string ⟨s.toArray⟩:=by
 cases h with | str b _ hb=>rw [d0w hb]
theorem e4j {S:n9} {M:Mp} {w:World} {v:Value} {k:IntKind} {n:Int} (h:Rd S M w v (.int k n)):v=.int k n:=by cases h;rfl
theorem c2d {S:n9} {M:Mp} {w:World} {vs:List Value} {s t:i7} (h:y7 S M w vs [.str s,.str t]):vs=[.string ⟨s.toArray⟩,.string ⟨t.toArray⟩]:=by
 cases h with | cons _ _ _ _ h1 h=>cases h with | cons _ _ _ _ h2 h=>cases h;rw [c1l h1,c1l h2]
theorem c2g {S:n9} {M:Mp} {w:World} {vs:List Value} {s:i7} {k:IntKind} {n:Int} (h:y7 S M w vs [.str s,.int k n]):vs=[.string ⟨s.toArray⟩,.int k n]:=by
 cases h with | cons _ _ _ _ h1 h=>cases h with | cons _ _ _ _ h2 h=>cases h;rw [c1l h1,e4j h2]
def d4q (k:IntKind) (ok:i7→Int→Prop) (g:i7→Int→GV):Sp where
 ι:={ p:i7 × Int // ok p.1 p.2 }
 A p:=[.c (.s p.1.1),.c (.i k p.1.2)]
 B _:=[]
 R p:=.ret (g p.1.1 p.1.2)
 B' _:=[]
 inj i j vs bs h k _ _:=by
  obtain ⟨_,_,h1,k1,h,k⟩:=h.two k
  obtain ⟨_,_,h2,k2,h,k⟩:=h.two k
  rw [H3 h1 k1,M7 h2 k2];exact ⟨rfl,rfl⟩
def a9x (ok:i7→i7→Prop) (g:i7→i7→GV):Sp where
 ι:={ p:i7 × i7 // ok p.1 p.2 }
 A p:=[.c (.s p.1.1),.c (.s p.1.2)]
 B _:=[]
 R p:=.ret (g p.1.1 p.1.2)
 B' _:=[]
 inj i j vs bs h k _ _:=by
  obtain ⟨_,_,h1,k1,h,k⟩:=h.two k
  obtain ⟨_,_,h2,k2,h,k⟩:=h.two k
  rw [H3 h1 k1,H3 h2 k2];exact ⟨rfl,rfl⟩
theorem b8m:l5 158 (d4q .i32 (fun _ r=>0≤r∧r < 128) fun s r=>.c (.b (decide (0≤Lib.indexByte s r.toNat.toUInt8)))):=fun ⟨(s,r),h0,h1⟩ vs bs hv hb=>by
 change l9 [.c (.s s),.c (.i .i32 r)] vs at hv
 cases hb
 refine ⟨.ret (.bool (decide (0≤Lib.indexByte s r.toNat.toUInt8))),[],fun hok=>?_,.ret _ _ (.b _),.nil⟩
 rw [c1z hv]
 refine O0 (d:=.bool (decide (0≤Lib.indexByte s r.toNat.toUInt8))) Tryz.call158 fun w S M us hg hwi hr=>?_
 rw [c2g hr]
 refine (Any.strings_ContainsRune_ascii Tryz.lays151 ⟨s.toArray⟩ r w h0 h1).mono ?_
 rintro e w' ⟨rfl,rfl⟩
 exact ⟨Below.refl _ _,_,S,rfl,⟨fun _ _ h=>h,fun _ _ h=>.inl h⟩,hwi,.bool _,W8 (fun _ _ _ h=>by cases h) (fun _ h=>by cases h)⟩
theorem c7q:l5 159 (d4q .u8 (fun _ r=>0≤r∧r < 256) fun s r=>.c (.i .i64 (Lib.indexByte s r.toNat.toUInt8))):=fun ⟨(s,r),h0,h1⟩ vs bs hv hb=>by
 change l9 [.c (.s s),.c (.i .u8 r)] vs at hv
 cases hb
 refine ⟨.ret (.int .i64 (Lib.indexByte s r.toNat.toUInt8)),[],fun hok=>?_,.ret _ _ (.i _ _),.nil⟩
 rw [c1z hv]
 refine O0 (d:=.int .i64 (Lib.indexByte s r.toNat.toUInt8)) Tryz.call159 fun w S M us hg hwi hr=>?_
 rw [c2g hr]
 refine (Any.strings_IndexByte Tryz.lays137 ⟨s.toArray⟩ r w).mono ?_
 rintro e w' ⟨rfl,rfl⟩
 exact ⟨Below.refl _ _,_,S,rfl,⟨fun _ _ h=>h,fun _ _ h=>.inl h⟩,hwi,.int _ _,W8 (fun _ _ _ h=>by cases h) (fun _ h=>by cases h)⟩
theorem e0b:l5 123 (a9x (fun _ t=>∃ c,t=[c]) fun s t=>.c (.i .i64 (Lib.indexByte s (t.headD 0)))):=fun ⟨(s,t),c,hc⟩ vs bs hv hb=>by
 change l9 [.c (.s s),.c (.s t)] vs at hv
 cases hb
 have hc:t=[c]:=hc
 subst hc
 refine ⟨.ret (.int .i64 (Lib.indexByte s c)),[],fun hok=>?_,.ret _ _ (.i _ _),.nil⟩
 rw [c0x hv]
 refine O0 (d:=.int .i64 (Lib.indexByte s c)) Tryz.call123 fun w S M us hg hwi hr=>?_
 rw [c2d hr]
 refine (Any.stringslite_Index_one Tryz.lays219 ⟨s.toArray⟩ c w).mono ?_
 rintro e w' ⟨rfl,rfl⟩
 exact ⟨Below.refl _ _,_,S,rfl,⟨fun _ _ h=>h,fun _ _ h=>.inl h⟩,hwi,.int _ _,W8 (fun _ _ _ h=>by cases h) (fun _ h=>by cases h)⟩
def d0t (s t:i7):Prop:=s.length < 4294967281∧t.length < 4294967281∧∀ b ∈ t,b.toNat < 128
theorem d1d:l5 165 (a9x d0t fun s t=>.c (.s (Lib.trimS s t))):=fun ⟨(s,t),h0,h1,h2⟩ vs bs hv hb=>by
 change l9 [.c (.s s),.c (.s t)] vs at hv
 cases hb
 refine ⟨.ret (.str (Lib.trimS s t).length (n6 (Lib.trimS s t))),[],fun hok=>?_,.ret _ _ (.s _ _ _ rfl rfl),.nil⟩
 rw [c0x hv]
 show CM X0.P X0.G _ _ [] (.ret (.str (u7 _ (n6 _)))) []
 rw [C6]
 refine O0 Tryz.call165 fun w S M us hg hwi hr=>?_
 rw [c2d hr]
 refine (Any.strings_Trim_laid Tryz.lays160 (by kernel_rfl) ⟨s.toArray⟩ ⟨t.toArray⟩ w (by have h0:s.length < 4294967281:=h0;simp [ByteArray.size];omega) (by have h1:t.length < 4294967281:=h1;simp [ByteArray.size];omega) (fun j b hb=>h2 b (List.mem_of_getElem? hb))).mono ?_
 rintro e w' ⟨rfl,hb⟩
 exact ⟨hb,_,S,rfl,⟨fun _ _ h=>h,fun _ _ h=>.inl h⟩,a1t hwi hb,.str _ _ rfl,W8 (fun _ _ _ h=>by cases h) (fun _ h=>by cases h)⟩
theorem c61:l5 192 (a9x d0t fun s t=>.c (.s (Lib.trimLeftS s t))):=fun ⟨(s,t),h0,h1,h2⟩ vs bs hv hb=>by
 change l9 [.c (.s s),.c (.s t)] vs at hv
 cases hb
 refine ⟨.ret (.str (Lib.trimLeftS s t).length (n6 (Lib.trimLeftS s t))),[],fun hok=>?_,.ret _ _ (.s _ _ _ rfl rfl),.nil⟩
 rw [c0x hv]
 show CM X0.P X0.G _ _ [] (.ret (.str (u7 _ (n6 _)))) []
 rw [C6]
 refine O0 Tryz.call192 fun w S M us hg hwi hr=>?_
 rw [c2d hr]
 refine (Any.strings_TrimLeft_laid Tryz.lays161 (by kernel_rfl) ⟨s.toArray⟩ ⟨t.toArray⟩ w (by have h1:t.length < 4294967281:=h1;simp [ByteArray.size];omega) (fun j b hb=>h2 b (List.mem_of_getElem? hb))).mono ?_
 rintro e w' ⟨rfl,hb⟩
 exact ⟨hb,_,S,rfl,⟨fun _ _ h=>h,fun _ _ h=>.inl h⟩,a1t hwi hb,.str _ _ rfl,W8 (fun _ _ _ h=>by cases h) (fun _ h=>by cases h)⟩
end
end Go.Proofs.YtffaodopiifbkaaGreatDoor
namespace Go.Proofs.YtffaodopiifbkaaGreatDoor
open Go.Abs LQ
set_option maxRecDepth 100000
set_option maxHeartbeats 4000000
noncomputable section
def Q7 (s t:i7):Bool:=decide (t.length≤s.length∧s.take t.length=t)
theorem b21:l5 207 (a9x (fun _ _=>True) fun s t=>.c (.b (Q7 s t))):=v7 (fun fn h=>d75 h) [] .nil fun U fn hfn ⟨(s,t),_⟩ vs bs hv hb=>by
 have hv:l9 [.c (.s s),.c (.s t)] vs:=hv
 have hb:RBs [] bs:=hb
 show j3 U _ fun v bs'=>m8 (.ret (.c (.b (Q7 s t)))) v∧RBs [] bs'
 unfold d3h
 (refine Zq ?_;with_reducible repeat' first|intro _|apply aI)
 ·have hl:t.length≤s.length:=by omega
  exact N5 fun e=>by subst e;exact ⟨.ret _ _ (Q1 (by rw [cuS];unfold Q7;simp [hl])),.nil⟩
 ·exact l6 ⟨.ret _ _ (M6 (by unfold Q7;rw [decide_eq_false];omega)),.nil⟩
theorem c8a:l5 181 (a9x (fun _ _=>True) fun s t=>.c (.b (Q7 s t))):=v7 (fun fn h=>d9r h) [(207,_)] (.cons b21 .nil) fun U fn hfn ⟨(s,t),_⟩ vs bs hv hb=>by
 have hp:=hfn 207 _ rfl
 have hv:l9 [.c (.s s),.c (.s t)] vs:=hv
 have hb:RBs [] bs:=hb
 show j3 U _ fun v bs'=>m8 (.ret (.c (.b (Q7 s t)))) v∧RBs [] bs'
 unfold d4w
 (refine Zq ?_;with_reducible repeat' first|intro _|apply aI)
 refine j4 hp ⟨(s,t),trivial⟩ (r:=.c (.b (Q7 s t))) rfl j9 .nil fun _ _ _ _=>?_
 (refine Zq ?_;with_reducible repeat' first|intro _|apply aI)
 exact l6 ⟨.ret _ _ (.b _),.nil⟩
def E9 (s t:i7):i7:=if Q7 s t then s.drop t.length else s
theorem c06:l5 209 (a9x (fun _ _=>True) fun s t=>.c (.s (E9 s t))):=v7 (fun fn h=>d9g h) [(207,_)] (.cons b21 .nil) fun U fn hfn ⟨(s,t),_⟩ vs bs hv hb=>by
 have hp:=hfn 207 _ rfl
 have hv:l9 [.c (.s s),.c (.s t)] vs:=hv
 have hb:RBs [] bs:=hb
 show j3 U _ fun v bs'=>m8 (.ret (.c (.s (E9 s t)))) v∧RBs [] bs'
 unfold d6r
 (refine Zq ?_;with_reducible repeat' first|intro _|apply aI)
 refine j4 hp ⟨(s,t),trivial⟩ (r:=.c (.b (Q7 s t))) rfl j9 .nil fun _ _ hv hb=>?_
 refine sB hv (a5v hb ?_)
 have hl:Q7 s t=true→t.length≤s.length:=fun h=>by simp [Q7] at h;exact h.1
 refine c7r trV (fun h=>?_) fun h=>?_
 ·have hp:=h
  have hl:=hl h
  (refine Zq ?_;with_reducible repeat' first|intro _|apply aI)
  have e:E9 s t=s.drop t.length:=by unfold E9;rw [if_pos hp]
  rw [e,Int.toNat_natCast]
  exact l6 ⟨.ret _ _ (.s _ _ _ rfl rfl),.nil⟩
 ·have e:E9 s t=s:=by unfold E9;rw [if_neg h]
  rw [e]
  exact l6 ⟨.ret _ _ (.s _ _ _ rfl rfl),.nil⟩
theorem a0e:l5 184 (a9x (fun _ _=>True) fun s t=>.c (.s (E9 s t))):=v7 (fun fn h=>e1z h) [(209,_)] (.cons c06 .nil) fun U fn hfn ⟨(s,t),_⟩ vs bs hv hb=>by
 have hp:=hfn 209 _ rfl
 have hv:l9 [.c (.s s),.c (.s t)] vs:=hv
 have hb:RBs [] bs:=hb
 show j3 U _ fun v bs'=>m8 (.ret (.c (.s (E9 s t)))) v∧RBs [] bs'
 unfold d3x
 (refine Zq ?_;with_reducible repeat' first|intro _|apply aI)
 refine j4 hp ⟨(s,t),trivial⟩ (r:=.c (.s (E9 s t))) rfl j9 .nil fun _ _ _ _=>?_
 (refine Zq ?_;with_reducible repeat' first|intro _|apply aI)
 exact l6 ⟨.ret _ _ (.s _ _ _ rfl rfl),.nil⟩
theorem S9 (s:i7) (c:UInt8):Lib.indexByte s c < s.length∧-1≤Lib.indexByte s c:=by
 induction s with
 | nil=>simp [Lib.indexByte]
 | cons b l ih =>
  simp only [Lib.indexByte,List.length_cons]
  split
  ·omega
  ·split <;> omega
def I8 (s:i7) (c:UInt8):i7 × i7 × Bool:=if 0≤Lib.indexByte s c then (s.take (Lib.indexByte s c).toNat,s.drop (Lib.indexByte s c+1).toNat,true) else (s,[],false)
def d7z:Sp:=a9x (fun s t=>s.length < 90000∧∃ c,t=[c]) fun s t=>.t [.c (.s (I8 s (t.headD 0)).1),.c (.s (I8 s (t.headD 0)).2.1),.c (.b (I8 s (t.headD 0)).2.2)]
theorem e9w:l5 208 d7z:=v7 (fun fn h=>d9d h) [(123,_)] (.cons e0b .nil) fun U fn hfn ⟨(s,t),hs,c,hc⟩ vs bs hv hb=>by
 have hp:=hfn 123 _ rfl
 have hv:l9 [.c (.s s),.c (.s t)] vs:=hv
 have hb:RBs [] bs:=hb
 have hc:t=[c]:=hc
 have hs:s.length < 90000:=hs
 subst hc
 show j3 U _ fun v bs'=>m8 (.ret (.t [.c (.s (I8 s c).1),.c (.s (I8 s c).2.1),.c (.b (I8 s c).2.2)])) v∧RBs [] bs'
 unfold d30
 (refine Zq ?_;with_reducible repeat' first|intro _|apply aI)
 refine j4 hp ⟨(s,[c]),c,rfl⟩ (r:=.c (.i .i64 (Lib.indexByte s c))) rfl j9 .nil fun _ _ _ _=>?_
 have hi:=S9 s c
 have e1:(([c]:i7).length:Int)=1:=rfl
 (refine Zq ?_;with_reducible repeat' first|intro _|apply aI)
 ·have h0:=‹0≤Lib.indexByte s c›
  have e:I8 s c=(s.take (Lib.indexByte s c).toNat,s.drop (Lib.indexByte s c+1).toNat,true):=by unfold I8;rw [if_pos h0]
  rw [e]
  simp only [Int.toNat_zero,List.drop_zero,e1]
  exact l6 ⟨.ret _ _ j9,.nil⟩
 ·have e:I8 s c=(s,[],false):=by unfold I8;rw [if_neg ‹_›]
  rw [e]
  exact l6 ⟨.ret _ _ j9,.nil⟩
theorem f1e:l5 182 d7z:=v7 (fun fn h=>e0e h) [(208,_)] (.cons e9w .nil) fun U fn hfn ⟨(s,t),hs,c,hc⟩ vs bs hv hb=>by
 have hp:=hfn 208 _ rfl
 have hv:l9 [.c (.s s),.c (.s t)] vs:=hv
 have hb:RBs [] bs:=hb
 have hc:t=[c]:=hc
 subst hc
 show j3 U _ fun v bs'=>m8 (.ret (.t [.c (.s (I8 s c).1),.c (.s (I8 s c).2.1),.c (.b (I8 s c).2.2)])) v∧RBs [] bs'
 unfold d2w
 (refine Zq ?_;with_reducible repeat' first|intro _|apply aI)
 refine j4 hp ⟨(s,[c]),hs,c,rfl⟩ (r:=.t [.c (.s (I8 s c).1),.c (.s (I8 s c).2.1),.c (.b (I8 s c).2.2)]) rfl j9 .nil fun _ _ _ _=>?_
 (refine Zq ?_;with_reducible repeat' first|intro _|apply aI)
 exact l6 ⟨.ret _ _ j9,.nil⟩
theorem c41 (c:Int) (h1:32 < c) (h2:c < 127):(!(decide (0≤Lib.indexByte (u7 7 16462142067124520) c.toNat.toUInt8)))=y8 c:=by
 obtain ⟨n,rfl⟩:∃ n:Nat,c=n:=⟨c.toNat,by omega⟩
 rw [Int.toNat_natCast]
 have h3:n < 127:=by omega
 have h4:32 < n:=by omega
 have key:∀ n:Fin 127,32 < n.1→(!(decide (0≤Lib.indexByte (u7 7 16462142067124520) n.1.toUInt8)))=y8 n.1:=by decide
 exact key ⟨n,h3⟩ h4
def e30 (g:Int→GV):Sp where
 ι:={ c:Int // 0≤c∧c < 256 }
 A c:=[.c (.i .u8 c.1)]
 B _:=[]
 R c:=.ret (g c.1)
 B' _:=[]
 inj i j vs bs h k _ _:=by
  obtain ⟨_,_,h1,k1,h,k⟩:=h.two k
  rw [M7 h1 k1];exact ⟨rfl,rfl⟩
theorem b39:l5 138 (e30 fun c=>.c (.b (y8 c))):=v7 (fun fn h=>d8y h) [(158,_)] (.cons b8m .nil) fun U fn hfn ⟨c,h0,h1⟩ vs bs hv hb=>by
 have hp:=hfn 158 _ rfl
 have hv:l9 [.c (.i .u8 c)] vs:=hv
 have hb:RBs [] bs:=hb
 show j3 U _ fun v bs'=>m8 (.ret (.c (.b (y8 c)))) v∧RBs [] bs'
 unfold d6a
 (refine Zx ?_;with_reducible repeat' first|intro _|apply aI)
 ·refine d1x (m:=c) rfl (by omega) ?_
  refine j4 hp ⟨(u7 7 16462142067124520,c),by omega,by omega⟩ (r:=.c (.b (decide (0≤Lib.indexByte (u7 7 16462142067124520) c.toNat.toUInt8)))) rfl j9 .nil fun _ _ _ _=>?_
  (refine Zx ?_;with_reducible repeat' first|intro _|apply aI)
  exact N5 fun e=>by subst e;exact ⟨.ret _ _ (Q1 (by rw [a4k,c41 c (by omega) (by omega)])),.nil⟩
 ·exact l6 ⟨.ret _ _ (M6 (by simp [y8];omega)),.nil⟩
 ·exact l6 ⟨.ret _ _ (M6 (by simp [y8];omega)),.nil⟩
end
end Go.Proofs.YtffaodopiifbkaaGreatDoor
namespace Go.Proofs.YtffaodopiifbkaaGreatDoor
open Go.Abs LQ
set_option maxRecDepth 100000
set_option maxHeartbeats 4000000
noncomputable section
theorem RB.bx {gs:List G} {q:Q} {m:Nat} (h:B6 gs q 0) (hm:m=gs.length):RBs [gs] [.opa q m]:=.cons _ _ _ _ (.opa _ _ _ hm h) .nil
def H7 (s:i7) (i:Nat):List G:=[.s s,.i .i64 (i:Int)]
theorem a4p {s t:i7} {i j:Nat} (h:H7 s i=H7 t j):s=t∧i=j:=by
 simp only [H7,List.cons.injEq,G.s.injEq,G.i.injEq,and_true,true_and] at h
 exact ⟨h.1,by omega⟩
theorem RBs.one_inj {g g':List G} {bs:List Bx} (h:RBs [g] bs) (k:RBs [g'] bs):g=g':=by
 cases h with | cons _ _ b _ h1 _=>cases k with | cons _ _ _ _ k1 _=>exact h1.inj k1
abbrev ScI:={ p:i7 × Nat // p.2≤p.1.length∧p.1.length < 90000 }
def d6o (R:i7→Nat→y4) (b:i7→Nat→Nat):Sp where
 ι:=ScI
 A _:=[.p 0 0]
 B p:=[H7 p.1.1 p.1.2]
 R p:=R p.1.1 p.1.2
 B' p:=[H7 p.1.1 (b p.1.1 p.1.2)]
 inj i j vs bs _ _ h k:=by
  have:=a4p (RBs.one_inj h k)
  rw [this.1,this.2];exact ⟨rfl,rfl⟩
def e89 (R:i7→Nat→i7→y4):Sp where
 ι:=ScI × i7
 A p:=[.p 0 0,.c (.s p.2)]
 B p:=[H7 p.1.1.1 p.1.1.2]
 R p:=R p.1.1.1 p.1.1.2 p.2
 B' p:=[H7 p.1.1.1 p.1.1.2]
 inj i j vs bs hv kv h k:=by
  have:=a4p (RBs.one_inj h k)
  obtain ⟨_,_,_,_,hv,kv⟩:=hv.two kv
  obtain ⟨_,_,h2,k2,_,_⟩:=hv.two kv
  rw [this.1,this.2,H3 h2 k2];exact ⟨rfl,rfl⟩
theorem scQ {U:w7} (e:U=CU) {s:i7} {j:Int} {k:Nat} {x:Q} (h:B6 [.s s,.i .i64 j] x 0) {n:Int} (hn:n=(k:Int)):RBs [H7 s k] [.cells [.q (U.celQ x 0),.int .i64 n]]:=by
 subst e hn
 exact .cons _ _ _ _ (.cells _ _ (.cons _ _ _ _ (.q _ _ (B6.at h rfl)) (.cons _ _ _ _ (.i _ _) .nil))) .nil
theorem Z0 {s:i7} {k:Nat} {n:Int} (hn:n=(k:Int)):RBs [H7 s k] [.cells [.str s.length (n6 s),.int .i64 n]]:=by
 subst hn
 exact .cons _ _ _ _ (.cells _ _ (.cons _ _ _ _ (.s _ _ _ rfl rfl) (.cons _ _ _ _ (.i _ _) .nil))) .nil
theorem c87 {s:i7} {j:Nat} (h:j < s.length) (hc:y8 (bt s j)=true):l7 s j=l7 s (j+1):=by rw [l7,if_pos h,if_pos hc]
theorem e2h {s:i7} {j:Nat} (h:j < s.length) (hc:¬y8 (bt s j)=true):l7 s j=j:=by rw [l7,if_pos h,if_neg hc]
theorem e5r {s:i7} {j:Nat} (h:¬j < s.length):l7 s j=j:=by rw [l7,if_neg h]
theorem b5s:l5 135 (d6o (fun s i=>.ret (.c (.b (decide (i < s.length))))) fun _ i=>i):=v7 (fun fn h=>e1x h) [] .nil fun U fn hfn ⟨(s,i),h1,h2⟩ vs bs hv hb=>by
 have hv:l9 [.p 0 0] vs:=hv
 have hb:RBs [[.s s,.i .i64 (i:Int)]] bs:=hb
 show j3 U _ fun v bs'=>m8 (.ret (.c (.b (decide (i < s.length))))) v∧RBs [H7 s i] bs'
 unfold d5w
 (refine Zq ?_;with_reducible repeat' first|intro _|apply aI)
 exact N5 fun e=>by subst e;exact ⟨.ret _ _ (Q1 (by rw [b4b];simp)),.cons _ _ _ _ (.cells _ _ j9) .nil⟩
theorem b6x:l5 160 (e89 fun s i p=>.ret (.c (.b (Q7 (s.drop i) p)))):=v7 (fun fn h=>e0c h) [(181,_)] (.cons c8a .nil) fun U fn hfn ⟨⟨(s,i),h1,h2⟩,p⟩ vs bs hv hb=>by
 have hp:=hfn 181 _ rfl
 have hv:l9 [.p 0 0,.c (.s p)] vs:=hv
 have hb:RBs [[.s s,.i .i64 (i:Int)]] bs:=hb
 have h1:i≤s.length:=h1
 show j3 U _ fun v bs'=>m8 (.ret (.c (.b (Q7 (s.drop i) p)))) v∧RBs [H7 s i] bs'
 unfold d4z
 (refine Zq ?_;with_reducible repeat' first|intro _|apply aI)
 rw [Int.toNat_natCast]
 refine j4 hp ⟨(s.drop i,p),trivial⟩ (r:=.c (.b (Q7 (s.drop i) p))) rfl j9 .nil fun _ _ _ _=>?_
 (refine Zq ?_;with_reducible repeat' first|intro _|apply aI)
 exact l6 ⟨.ret _ _ (.b _),.cons _ _ _ _ (.cells _ _ j9) .nil⟩
def I6 (s:i7) (i:Nat):i7:=(s.take (l7 s i)).drop i
theorem d7a:l5 140 (d6o (fun s i=>.ret (.c (.s (I6 s i)))) l7):=v7 (fun fn h=>d9m h) [(135,_),(138,_)] (.cons b5s (.cons b39 .nil)) fun U fn hfn ⟨(s,i),h1,h2⟩ vs bs hv hb=>by
 have hm:=hfn 135 _ rfl
 have hc:=hfn 138 _ rfl
 have hv:l9 [.p 0 0] vs:=hv
 have hb:RBs [[.s s,.i .i64 (i:Int)]] bs:=hb
 have h1:i≤s.length:=h1
 have h2:s.length < 90000:=h2
 show j3 U _ fun v bs'=>m8 (.ret (.c (.s (I6 s i)))) v∧RBs [H7 s (l7 s i)] bs'
 unfold d25
 (refine Zq ?_;with_reducible repeat' first|intro _|apply aI)
 refine F8 (fun (j:Nat) vs bs=>vs=[.ptr 0 0,.int .i64 i]∧RBs [H7 s j] bs∧i≤j∧j≤s.length∧l7 s j=l7 s i) (fun j=>s.length - j) i ⟨rfl,.cons _ _ _ _ (.cells _ _ j9) .nil,Nat.le_refl _,h1,rfl⟩ (by simp only [B8];omega) ?_
 rintro self j vs bs ⟨rfl,hb,hij,hj,he⟩ ih
 have hb:RBs [[.s s,.i .i64 (j:Int)]] bs:=hb
 (refine Zq ?_;with_reducible repeat' first|intro _|apply aI)
 refine j4 hm ⟨(s,j),hj,h2⟩ (r:=.c (.b (decide (j < s.length)))) rfl j9 (RB.bx (by assumption) rfl) fun _ _ _ hb=>?_
 have hb:RBs [[.s s,.i .i64 (j:Int)]] _:=hb
 (refine Zq ?_;with_reducible repeat' first|intro _|apply aI)
 ·have hlt:j < s.length:=of_decide_eq_true ‹_›
  have hbt:((s.getD j 0).toNat:Int)=bt s j:=rfl
  have hb0:=a6n s j
  have hb1:=c0d s j
  (refine Zq ?_;with_reducible repeat' first|intro _|apply aI)
  refine j4 hc ⟨bt s j,hb0,hb1⟩ (r:=.c (.b (y8 (bt s j)))) rfl j9 .nil fun _ _ _ _=>?_
  (refine Zq ?_;with_reducible repeat' first|intro _|apply aI)
  ·exact fun e=>ih (j+1) _ _ ⟨rfl,scQ e (by assumption) (by omega),by omega,by omega,by rw [← c87 hlt ‹_›];exact he⟩ (by omega) e
  ·have e:=e2h hlt ‹_›
   rw [Int.toNat_natCast,Int.toNat_natCast]
   have ew:I6 s i=(s.take j).drop i:=by unfold I6;rw [← he,e]
   rw [ew,← he,e]
   exact l6 ⟨.ret _ _ (.s _ _ _ rfl rfl),RB.bx (by assumption) rfl⟩
 ·have hlt:¬j < s.length:=fun h=>‹¬decide (j < s.length)=true› (decide_eq_true h)
  (refine Zq ?_;with_reducible repeat' first|intro _|apply aI)
  have e:=e5r hlt
  rw [Int.toNat_natCast,Int.toNat_natCast]
  have ew:I6 s i=(s.take j).drop i:=by unfold I6;rw [← he,e]
  rw [ew,← he,e]
  exact l6 ⟨.ret _ _ (.s _ _ _ rfl rfl),RB.bx (by assumption) rfl⟩
end
end Go.Proofs.YtffaodopiifbkaaGreatDoor
