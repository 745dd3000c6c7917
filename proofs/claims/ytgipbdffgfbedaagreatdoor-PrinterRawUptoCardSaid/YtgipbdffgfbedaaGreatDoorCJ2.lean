/- Rules for parts of strings, for concatenation, for failures. -/
import Derived.Test.YtgipbdffgfbedaaGreatDoorCJ1
set_option linter.all false
namespace Go.Abs
theorem e3g (n:Nat):2 ^ (8 * n)=256 ^ n:=by rw [Nat.pow_mul]
theorem c5m:∀ s:List UInt8,j9 s < 256 ^ s.length
 | []=>by simp [j9]
 | b :: l=>by
  have h1:=c5m l
  have h2:=b.toNat_lt
  simp only [j9,List.length_cons,Nat.pow_succ]
  omega
theorem b2w:∀ (l c:Nat),c < 256 ^ l→j9 (n5 l c)=c
 | 0,c,h=>by simp at h;subst h;rfl
 | l+1,c,h=>by
  rw [Nat.pow_succ] at h
  simp only [n5,j9]
  rw [b2w l (c / 256) oM,UInt8.toNat_ofNat']
  omega
theorem b8z {s:List UInt8} {a b:Nat} (h1:a≤b) (h2:b≤s.length):sSub (j9 s) a (b - a)=j9 ((s.take b).drop a):=by
 have h:=c66 (c:=j9 s) h1 h2
 rw [z7] at h
 rw [h,b2w]
 unfold sSub
 show Nat.mod _ (1 <<< (8 * (b - a))) < _
 rw [Nat.one_shiftLeft,e3g]
 exact Nat.mod_lt _ (Nat.pow_pos dE)
theorem b8y (x y:List UInt8):sCat x.length (j9 x) (j9 y)=j9 (x ++ y):=by
 have h:=c64 x.length (j9 x) y.length (j9 y)
 rw [z7,z7] at h
 rw [h,b2w]
 unfold sCat
 show Nat.mod (j9 x) (1 <<< (8 * x.length))+j9 y <<< (8 * x.length) < _
 rw [Nat.one_shiftLeft,Nat.shiftLeft_eq,e3g,Nat.pow_add]
 have h1:=c5m y
 have h2:Nat.mod (j9 x) (256 ^ x.length) < 256 ^ x.length:=Nat.mod_lt _ (Nat.pow_pos dE)
 have h3:=Nat.mul_le_mul_right (256 ^ x.length) h1
 rw [Nat.succ_mul] at h3
 rw [Nat.mul_comm (256 ^ x.length)]
 omega
theorem e08 {s:List UInt8} {a b:Nat} (h1:a≤b) (h2:b≤s.length):((s.take b).drop a).length=b - a:=by simp;omega
section
variable {U:q7} {P:J0→List Bx→Prop}
theorem d7w {s:List UInt8} {a b:Int} {K:Nat→Nat→Om} (h:0≤a∧a≤b∧b≤s.length) (k:g8 U (K ((s.take b.toNat).drop a.toNat).length (j9 ((s.take b.toNat).drop a.toNat))) P) :
  g8 U (U.fN (U.nSub (U.iNat b) (U.iNat a)) fun m=>U.fN (U.sSub (j9 s) (U.iNat a) m) fun d=>K m d) P:=fun e=>by
 have:=k e
 subst e
 rw [a5x,a5x]
 show ∃ v bs,K (iNat b - iNat a) (sSub (j9 s) (iNat a) (iNat b - iNat a))=some (v,bs)∧P v bs
 rw [D0,D0,b8z (show a.toNat≤b.toNat by omega) oM,← e08 (s:=s) (show a.toNat≤b.toNat by omega) oM]
 exact this
theorem e88 {s:List UInt8} {a:Int} {K:Nat→Nat→Om} (h:0≤a∧a≤s.length) (k:g8 U (K (s.drop a.toNat).length (j9 (s.drop a.toNat))) P) :
  g8 U (U.fN (U.nSub (U.iNat (U.iOfN s.length)) (U.iNat a)) fun m=>U.fN (U.sSub (j9 s) (U.iNat a) m) fun d=>K m d) P:=fun e=>by
 have:=k e
 subst e
 refine d7w (b:=(s.length:Int)) ⟨h.1,h.2,Int.le_refl _⟩ ?_ rfl
 rw [Int.toNat_natCast,List.take_length]
 exact fun _=>this
theorem d27 {n:Nat}:I9 U (U.iLe (U.iOfN n) (U.iOfN n)) (n≤n):=fun e=>by subst e;exact ⟨fun _=>Nat.le_refl _,fun _=>(a5a (U:=CU) rfl).2 (Int.le_refl _)⟩
theorem d2l {e m:Int} {K:Int→Om} (he:e=m) (hr:-2147483648≤m∧m < 2147483648) (h:g8 U (K m) P):g8 U (U.fI (U.wr .i32 e) K) P:=fun e'=>by
 have:=h e';subst e' he;rw [U9]
 show ∃ v bs,K (wr .i32 e)=some (v,bs)∧P v bs
 rw [a1p,a2x .i32 _ (by show _ < ((2147483648:Nat):Int);omega) (by show -((2147483648:Nat):Int)≤_;omega)]
 exact this
theorem e9a {a b:Int} {K:Int→Om} (h:g8 U (K (a.tdiv b)) P):g8 U (U.fI (U.iQuo a b) K) P:=fun e=>by
 have:=h e;subst e;rw [U9]
 show ∃ v bs,K (iQuo a b)=some (v,bs)∧P v bs
 rw [b1f];exact this
theorem f4i {k:IntKind} {n:Int} {x:Q} {K:IntKind→Int→Om} (hx:RG (.i k n) x) (h:g8 U (K k n) P):g8 U (U.cI0 x K) P:=fun e=>by
 have:=h e;subst e;cases hx;exact this
end
end Go.Abs
namespace Go.Proofs.YtgipbdffgfbedaaGreatDoor
open Go.Abs LQ
theorem Zq {p q:Prop} (k:q) (h:Tr p q:=by ((repeat' (first | (with_reducible apply Tr.all) | (with_reducible intro _) | (apply Tr.b;(case f=>first | exact b5k | exact W5 aS | exact c29 | exact b5m aS | exact b5l | exact a7i aS | exact b0n | exact b1r aS | exact sP | exact sPR aS | exact sIV | exact sI aS | exact sBV | exact sBK | exact sB aS | exact sSV | exact sS aS | exact sA | exact S7 aS (by rfl) | exact b7d (by rfl) | exact c3b (by rfl) | exact c0c aS (by rfl) | exact c3c aS (by rfl) | exact c9b aS | exact sSl aS | exact sTu aS | exact sBo | exact b0l aS (by rfl) | exact sBc | exact c89 aS | exact sBt | exact sBs | exact sBr | exact a7j aS | exact b5s aS | exact b5o aS (by rfl) | exact c9a aS (by rfl) | exact sCI' aS (by rfl) | exact sCB' aS (by rfl) | exact sCS aS | exact sCI aS | exact sCB aS | exact b5q (by first | omega | (simp only [List.length_map] at *;omega)) | exact b5p (by first | omega | (simp only [List.length_map] at *;omega)) | exact c0e | exact e88 (by first | omega | (simp only [List.length_map] at *;omega)) | exact d7w (by first | omega | (simp only [List.length_map] at *;omega)) | exact sCI0' aS (by rfl) | exact f4i aS | exact b1s | exact b1u | exact c0d | exact b5r | exact b5n | exact sfSubN | exact b1t | exact sfBSelE | exact sfB | exact sJn | exact c0b | exact b99 | exact c0a | exact B5 aS (by (first | exact u0 O.g_len | exact u0 (fun _=>rfl))) | exact b0m aS (by (first | exact u0 O.g_len | exact u0 (fun _=>rfl))) | exact c0g (by first | omega | (simp only [List.length_map] at *;omega)) | exact b5t (by first | omega | (simp only [List.length_map] at *;omega)) | exact c9e aS (by first | assumption | omega | (simp only [List.length_map] at *;omega)) | exact sfT aS (by rfl))) | (apply Tr.chk;(case ht=>(repeat' (first | exact d27 | exact trT | exact trF | apply a3y | apply a3v | exact a3x | exact a3w | exact a3a | exact a5a | exact a49 | exact a1k | exact a1l | exact a1j | exact a1i | exact a1h | exact a30 | exact a81 | exact a6o | exact trS | exact trV)));(case hp=>first | omega | (simp only [List.length_map] at *;omega))) | (apply Tr.cnd;(case ht=>(repeat' (first | exact d27 | exact trT | exact trF | apply a3y | apply a3v | exact a3x | exact a3w | exact a3a | exact a5a | exact a49 | exact a1k | exact a1l | exact a1j | exact a1i | exact a1h | exact a30 | exact a81 | exact a6o | exact trS | exact trV))))));all_goals exact Tr.refl)):p:=h.go k
end Go.Proofs.YtgipbdffgfbedaaGreatDoor
namespace LQ
def At (s:f6) (i:Nat) (w r:f6):Prop:=s.drop i=w ++ r
theorem At.len {s w r:f6} {i:Nat} (h:At s i w r) (hw:w ≠ []):i+w.length+r.length=s.length:=by
 have:=congrArg List.length h
 simp at this
 have:0 < w.length:=List.length_pos_iff.2 hw
 omega
theorem At.bt {s w r:f6} {i j:Nat} (h:At s i w r) (hj:j < w.length):LQ.bt s (i+j)=LQ.bt w j:=by
 unfold LQ.bt
 have:s[i+j]?=w[j]?:=by rw [← List.getElem?_drop,h,List.getElem?_append_left hj]
 simp only [List.getD,this]
theorem At.btr {s w r:f6} {i j:Nat} (h:At s i w r):LQ.bt s (i+w.length+j)=LQ.bt r j:=by
 unfold LQ.bt
 have:s[i+w.length+j]?=r[j]?:=by rw [Nat.add_assoc,← List.getElem?_drop,h,List.getElem?_append_right (Nat.le_add_right _ _),Nat.add_sub_cancel_left]
 simp only [List.getD,this]
theorem At.next {s w r:f6} {i:Nat} (h:At s i w r):s.drop (i+w.length)=r:=by rw [← List.drop_drop,h,List.drop_left]
theorem At.app {s u v r:f6} {i:Nat} (h:At s i (u ++ v) r):At s i u (v ++ r)∧At s (i+u.length) v r:=by
 have h1:At s i u (v ++ r):=by unfold At at *;rw [h,List.append_assoc]
 exact ⟨h1,h1.next⟩
theorem At.sub {s w r:f6} {i:Nat} (h:At s i w r) (hw:w ≠ []):(s.take (i+w.length)).drop i=w:=by
 rw [List.drop_take,h,show i+w.length - i=w.length by omega,List.take_left]
def Del (r:f6):Prop:=r=[]∨bt r 0=32∨bt r 0=41∨bt r 0=10
theorem Del.not {r:f6} (h:Del r) (hr:r ≠ []):s7 (bt r 0)=false∧bt r 0 ≠ 58:=by
 rcases h with h | h | h | h
 ·exact absurd h hr
 all_goals rw [h];decide
def a7s (w:f6):Prop:=∀ j,j < w.length→s7 (bt w j)=true
theorem a32 {s w r:f6} {i:Nat} (h:At s i w r) (hw:a7s w) (hr:r=[]∨s7 (bt r 0)=false):l7 s i=i+w.length:=by
 have key:∀ n j,w.length - j=n→j≤w.length→l7 s (i+j)=i+w.length:=by
  intro n
  induction n with
  | zero =>
   intro j hj hle
   have:j=w.length:=oM
   subst this
   rw [l7]
   split
   ·rename_i hlt
    have hb:=h.btr (j:=0)
    rw [Nat.add_zero] at hb
    rcases hr with hr | hr
    ·exfalso
     subst hr
     have:=congrArg List.length h
     simp at this;omega
    ·rw [if_neg (by rw [hb,hr];simp)]
   ·rfl
  | succ n ih =>
   intro j hj hle
   have hlt:i+j < s.length:=by
    have:=congrArg List.length h
    simp at this;omega
   rw [l7,if_pos hlt,if_pos (by rw [h.bt oM];exact hw j oM),Nat.add_assoc]
   exact ih (j+1) oM oM
 exact key _ 0 rfl (Nat.zero_le _)
def F6 (c:UInt8) (s:f6):f6:=s.flatMap fun b=>if b=c∨b=92 then [92,b] else [b]
def D3 (c:UInt8) (s:f6):f6:=c :: (F6 c s ++ [c])
def a23 (l:f6):List Int:=l.map fun b=>(b.toNat:Int)
theorem b0d (l:f6):E2 (a23 l)=l:=by
 unfold E2 a23
 rw [List.map_map]
 conv=>rhs;rw [← List.map_id l]
 exact List.map_congr_left fun b _=>by simp
theorem bt0 (c:UInt8) (l:f6):bt (c :: l) 0=c.toNat:=rfl
theorem bt1 (c d:UInt8) (l:f6):bt (c :: d :: l) 1=d.toNat:=rfl
theorem b6c {a b:UInt8} (h:a ≠ b):(a.toNat:Int) ≠ b.toNat:=fun e=>h (UInt8.toNat_inj.1 oM)
theorem a8a {c:UInt8} (hc:c ≠ 92) {s:f6}:∀ {l r:f6} {i:Nat} {acc:List Int},At s i (F6 c l) (c :: r)→H1 s c.toNat i acc=.ok (acc ++ a23 l,i+(F6 c l).length+1)
 | [],r,i,acc,h=>by
  have h0:At s i [c] r:=h
  have hlt:i < s.length:=by have:=h0.len (by simp);simp at this;omega
  have hb:bt s i=c.toNat:=by have:=h0.bt (j:=0) (by simp);rwa [Nat.add_zero] at this
  rw [H1,if_pos hlt,if_pos hb];simp [a23,F6]
 | b :: l,r,i,acc,h=>by
  by_cases hb:b=c∨b=92
  ·have e:F6 c (b :: l)=[92,b] ++ F6 c l:=by simp [F6,hb]
   rw [e] at h ⊢
   obtain ⟨h1,h2⟩:=h.app
   have hl:=h1.len (by simp)
   simp at hl
   have b0:bt s i=92:=by have:=h1.bt (j:=0) (by simp);rw [Nat.add_zero] at this;rw [this];rfl
   have b1:bt s (i+1)=b.toNat:=h1.bt (j:=1) (by simp)
   have hc':(92:Int) ≠ (c.toNat:Int):=by have:=b6c hc;simp at this;omega
   rw [H1,if_pos oM,b0,if_neg hc',if_neg (by simp),if_pos oM,b1,if_neg,show i+2=i+[92,b].length from rfl,a8a hc h2]
   ·simp [a23];omega
   ·rcases hb with hb | hb
    ·subst hb;simp
    ·subst hb;simp
  ·have e:F6 c (b :: l)=[b] ++ F6 c l:=by simp [F6,hb]
   rw [e] at h ⊢
   obtain ⟨h1,h2⟩:=h.app
   have hl:=h1.len (by simp)
   simp at hl
   have b0:bt s i=b.toNat:=by have:=h1.bt (j:=0) (by simp);rwa [Nat.add_zero] at this
   have n1:=b6c (fun e=>hb (.inl e))
   have n2:(b.toNat:Int) ≠ 92:=by have:=b6c (fun e=>hb (.inr e));simpa using this
   rw [H1,if_pos oM,b0,if_neg n1,if_pos n2,show i+1=i+[b].length from rfl,a8a hc h2]
   simp [a23];omega
theorem a7l {s:f6} {i j:Nat} (hi:i≤s.length) (h:skip s i=some j):i≤j∧j≤s.length:=by
 fun_induction skip s i with
 | case1 i h1 h2 ih=>have:=ih oM h;omega
 | case2 i h1 h2 h3 h4 ih=>have:=a8e s i oM;have:=ih oM h;omega
 | case3 i h1 h2 h3 h4=>injection h with h;omega
 | case4 i h1 h2 h3 h4 h5=>cases h
 | case5 i h1 h2 h3 h4 j' h5 h6 ih=>have:=V8 h4;have:=a9t s (i+2) 1 j' oM h5;have:=ih oM h;omega
 | case6 i h1 h2 h3 h4 j' h5 h6=>injection h with h;omega
 | case7 i h1 h2 h3 h4=>injection h with h;omega
 | case8 i h1=>injection h with h;omega
theorem a6y {s:f6} {c:Int} {i:Nat} {acc l:List Int} {j:Nat} (h:H1 s c i acc=.ok (l,j)):i < j∧j≤s.length:=by
 fun_induction H1 s c i acc with
 | case1 i acc h1 h2=>injection h with h;injection h with h3 h4;omega
 | case2 i acc h1 h2 h3 ih=>have:=ih h;omega
 | case3=>cases h
 | case4 i acc h1 h2 h3 h4 h5 ih=>have:=ih h;omega
 | case5=>cases h
 | case6=>cases h
theorem a5v {s:f6} {i k:Nat} {t:A8} (hi:i < s.length) (h:A4 s i=.ok (t,k)):i < k∧k≤s.length:=by
 unfold A4 at h
 repeat' split at h
 all_goals try (cases h;done)
 all_goals try (injection h with h;injection h with h1 h2;subst h2;omega)
 all_goals try (rename_i h0 _;have:=a6y h0;injection h with h;injection h with h1 h2;subst h2;omega)
 ·rename_i hc _
  have hw:=G3 s i oM
  have hw2:i < l7 s i:=by rw [l7,if_pos hi,if_pos hc];have:=G3 s (i+1) oM;omega
  unfold I7 at h
  repeat' split at h
  all_goals try (cases h;done)
  all_goals try (rename_i h0 _;have:=a6y h0;injection h with h;injection h with h1 h2;subst h2;omega)
  all_goals (simp only [] at h;split at h;all_goals try (cases h;done)
             all_goals (injection h with h;injection h with h1 h2;have:=G3 s (l7 s i+2) oM;subst h2;omega))
 ·rename_i hc _
  have hw:=G3 s i oM
  have hw2:i < l7 s i:=by rw [l7,if_pos hi,if_pos hc];have:=G3 s (i+1) oM;omega
  unfold G4 at h
  repeat' split at h
  all_goals try (cases h;done)
  all_goals try (simp only [] at h;split at h)
  all_goals try (cases h;done)
  all_goals (injection h with h;injection h with h1 h2;subst h2;omega)
theorem a7m {s:f6} {i:Nat} {acc:List A8} (hi:i≤s.length):y7 s i acc=match skip s i with
  | none=>.error (11,s.length)
  | some j=>if j < s.length then match A4 s j with
   | .error e=>.error e
   | .ok (t,k)=>y7 s k (acc ++ [t])
   else .ok (acc ++ [⟨0,s.length,q8,q8,q8⟩]):=by
 rw [y7]
 cases hs:skip s i with
 | none=>rfl
 | some j =>
  have h1:=a7l hi hs
  simp only
  by_cases hj:j < s.length
  ·rw [if_pos hj,if_pos hj]
   cases ht:A4 s j with
   | error e=>rfl
   | ok p =>
    have h2:=a5v (t:=p.1) (k:=p.2) hj ht
    simp only
    rw [if_pos oM]
  ·rw [if_neg hj,if_neg hj]
theorem a80 {s:f6} {i k:Nat} {acc:List A8} {t:A8} (hi:i < s.length) (hb:G1 (bt s i)=false) (h9:bt s i ≠ 59) (hh:has s i 35 124=false) (ht:A4 s i=.ok (t,k)):y7 s i acc=y7 s k (acc ++ [t]):=by
 rw [a7m oM,b0u hi hb h9 hh]
 simp only
 rw [if_pos hi,ht]
def e1u (w:f6):Prop:=∀ j,j < w.length→48≤bt w j∧bt w j≤57
theorem a0z (n:Nat):e1u (f7 n):=by
 by_cases h:n=0
 ·subst h;intro j hj;have:j=0:=by simp [f7,w9] at hj;omega
  subst this;decide
 ·exact fun j hj=>(Y9 n h).1 j (Nat.zero_le _) hj
theorem c9h (n:Nat):f7 n ≠ []:=by
 by_cases h:n=0
 ·subst h;decide
 ·intro e;have:=(Y9 n h).2.2;rw [e] at this;simp at this
theorem Z0 (n:Nat):0 < (f7 n).length:=List.length_pos_iff.2 (c9h n)
theorem d0p {s w r:f6} {i:Nat} (h:At s i w r) (hw:e1u w) (hr:r=[]∨¬(48≤bt r 0∧bt r 0≤57)):j8 s i=i+w.length:=by
 have key:∀ n j,w.length - j=n→j≤w.length→j8 s (i+j)=i+w.length:=by
  intro n
  induction n with
  | zero =>
   intro j hj hle
   have:j=w.length:=oM
   subst this
   rw [j8]
   split
   ·rename_i hlt
    have hb:=h.btr (j:=0)
    rw [Nat.add_zero] at hb
    rcases hr with hr | hr
    ·exfalso
     subst hr
     have:=congrArg List.length h
     simp at this;omega
    ·rw [if_neg];rw [hb];simp [P3];omega
   ·rfl
  | succ n ih =>
   intro j hj hle
   have hlt:i+j < s.length:=by
    have:=congrArg List.length h
    simp at this;omega
   have:=hw j oM
   rw [j8,if_pos hlt,if_pos (by rw [h.bt oM];simp [P3];omega),Nat.add_assoc]
   exact ih (j+1) oM oM
 exact key _ 0 rfl (Nat.zero_le _)
def sgn (n:Int):f6:=if n < 0 then [45] else []
theorem a1c (n:Int):g7 n=sgn n ++ f7 n.natAbs:=by unfold g7 sgn;split <;> rfl
theorem c46 (n:Int) (d:Nat) (r:f6):g9 (sgn n ++ (f7 d ++ r))=(sgn n).length:=by
 unfold sgn
 split
 ·unfold g9;rw [if_pos ⟨by simp,rfl⟩];rfl
 ·unfold g9
  rw [if_neg];· rfl
  intro h
  have h0:=(a0z d) 0 (Z0 d)
  have:bt ([] ++ (f7 d ++ r)) 0=bt (f7 d) 0:=by
   have h1:At (f7 d ++ r) 0 (f7 d) r:=rfl
   have:=h1.bt (j:=0) (Z0 d)
   simpa using this
  rw [this] at h
  omega
theorem a19 (n:Nat):A6 (f7 n)=(f7 n).length:=by
 unfold A6
 rw [D7,Int.natAbs_natCast]
 by_cases h:n=0
 ·subst h;simp [u7,f7,w9]
 ·rw [← L2 n h];have:=Z0 n;omega
theorem a6b (n:Int):A6 (g7 n)=(f7 n.natAbs).length:=by
 have:=a19 n.natAbs
 unfold A6 at this ⊢
 rw [D7,Int.natAbs_natCast] at this
 rw [x7,this]
def b28 (n:Int) (d:Nat):f6:=if d=1 then g7 n else g7 n ++ 47 :: f7 d
theorem At.hd {s r:f6} {c:UInt8} {w:f6} {i:Nat} (h:At s i (c :: w) r):LQ.bt s i=c.toNat∧i < s.length:=by
 have h1:=h.bt (j:=0) (by simp)
 have h2:=h.len (by simp)
 rw [Nat.add_zero] at h1
 simp at h2
 exact ⟨h1,oM⟩
theorem c76 {s:f6} {i:Nat} {a b:Int} (h:bt s i ≠ a):has s i a b=false:=by simp [has,h]
theorem e09 {s r w:f6} {c:UInt8} {i k:Nat} {acc:List A8} {t:A8} (h:At s i (c :: w) r) (hb:G1 c.toNat=false) (h9:(c.toNat:Int) ≠ 59) (h35:(c.toNat:Int) ≠ 35∨has s i 35 124=false) (ht:A4 s i=.ok (t,k)):y7 s i acc=y7 s k (acc ++ [t]):=by
 obtain ⟨h1,h2⟩:=h.hd
 refine a80 h2 (by rw [h1];exact hb) (by rw [h1];exact h9) ?_ ht
 rcases h35 with h3 | h3
 ·exact c76 (by rw [h1];exact h3)
 ·exact h3
theorem a8c (c:UInt8) (l:f6):(D3 c l).length=(F6 c l).length+2:=by simp [D3]
theorem b2c {text:f6} {bars:Bool} (h:text.length≤40) (h1:0 < text.length):o7 text q8 bars=0:=by
 unfold o7
 rw [if_neg oM,if_neg]
 rintro (⟨_,h⟩ | ⟨h,_⟩)
 ·omega
 ·exact h rfl
theorem b2d {text pkg:f6} {bars:Bool} (h:text.length≤40) (h1:0 < text.length) (hp:p8 pkg=true):o7 text pkg bars=0:=by
 unfold o7
 rw [if_neg oM,if_neg]
 rintro (⟨_,h⟩ | ⟨_,h⟩)
 ·omega
 ·rw [hp] at h;cases h
theorem d6b {s r l:f6} {i:Nat} {acc:List A8} (h:At s i (D3 124 l) r) (hl:l.length≤40) (h0:0 < l.length):y7 s i acc=y7 s (i+(D3 124 l).length) (acc ++ [⟨6,i,[],l,[]⟩]):=by
 refine e09 h dE dE (.inl dE) ?_
 have h2:At s (i+1) (F6 124 l) (124 :: r):=by
  have:At s i ([124] ++ F6 124 l) (124 :: r):=by unfold At at *;rw [h];simp [D3]
  exact this.app.2
 have he:=a8a (c:=124) dE (acc:=[]) h2
 have he:H1 s 124 (i+1) []=.ok ([] ++ a23 l,i+1+(F6 124 l).length+1):=he
 unfold A4
 rw [h.hd.1]
 simp only [show ((124:UInt8).toNat:Int)=124 from rfl,show (124:Int)=40↔False by decide,show (124:Int)=41↔False by decide,show (124:Int)=39↔False by decide,show (124:Int)=34↔False by decide,if_true,if_false,he,List.nil_append]
 rw [b0d,if_pos (b2c hl h0),a8c]
 simp only [Except.ok.injEq,Prod.mk.injEq]
 exact ⟨rfl,oM⟩
theorem b3t {s:f6} {i:Nat} (hc:s7 (bt s i)=true):A4 s i=if has s (l7 s i) 58 58 then I7 s i (((s.take ((l7 s i))).drop (i))) (l7 s i) else G4 i (((s.take ((l7 s i))).drop (i))) (l7 s i):=by
 have h:33≤bt s i∧bt s i≤126∧bt s i ≠ 40∧bt s i ≠ 41∧bt s i ≠ 39∧bt s i ≠ 34∧bt s i ≠ 59∧bt s i ≠ 124∧bt s i ≠ 58:=by simpa [s7] using hc
 unfold A4
 rw [if_neg oM,if_neg oM,if_neg oM,if_neg oM,if_neg oM,if_pos hc]
theorem e8k {s:f6} {i:Nat} (w:f6) (h:a7s w) (r:f6) (hA:At s i w r) (hw:w ≠ []) (hr:Del r):has s i 35 124=false:=by
 cases w with
 | nil=>exact absurd rfl hw
 | cons c w =>
  cases w with
  | nil =>
   cases r with
   | nil =>
    have:=hA.len hw
    simp at this
    simp [has];omega
   | cons d r =>
    have hb:=hA.btr (j:=0)
    simp at hb
    have:bt s (i+1) ≠ 124:=by
     rw [hb]
     rcases hr with hr | hr | hr | hr
     ·cases hr
     all_goals rw [hr];decide
    simp [has];intro _ _;exact this
  | cons d w =>
   have hb:=hA.bt (j:=1) (by simp)
   have hc:=h 1 (by simp)
   have:bt s (i+1) ≠ 124:=by
    rw [hb]
    intro e
    rw [e] at hc
    exact absurd hc dE
   simp [has];intro _ _;exact this
theorem d26 {s r w:f6} {i:Nat} {acc:List A8} {t:A8} (h:At s i w r) (hw:w ≠ []) (hc:a7s w) (hr:Del r) (ht:G4 i w (i+w.length)=.ok (t,i+w.length)):y7 s i acc=y7 s (i+w.length) (acc ++ [t]):=by
 have hr':r=[]∨s7 (bt r 0)=false:=by
  by_cases hn:r=[]
  ·exact .inl hn
  ·exact .inr (hr.not hn).1
 have he:=a32 h hc hr'
 have hcc:=hc 0 (List.length_pos_iff.2 hw)
 have hb:=h.bt (j:=0) (List.length_pos_iff.2 hw)
 rw [Nat.add_zero] at hb
 have hone:A4 s i=.ok (t,i+w.length):=by
  rw [b3t (by rw [hb];exact hcc),he,if_neg,h.sub hw,ht]
  have hb2:=h.btr (j:=0)
  rw [Nat.add_zero] at hb2
  by_cases hn:r=[]
  ·have:=h.len hw
   subst hn
   simp at this
   simp [has];omega
  ·rw [c76];· simp
   rw [hb2];exact (hr.not hn).2
 have hlt:i < s.length:=by have:=h.len hw;have:=List.length_pos_iff.2 hw;omega
 have hcc':33≤bt w 0∧bt w 0≤126∧bt w 0 ≠ 40∧bt w 0 ≠ 41∧bt w 0 ≠ 39∧bt w 0 ≠ 34∧bt w 0 ≠ 59∧bt w 0 ≠ 124∧bt w 0 ≠ 58:=by simpa [s7] using hcc
 exact a80 hlt (by rw [hb];simp [G1];omega) (by rw [hb];omega) (e8k w hc r h hw hr) hone
def L3 (w:f6):Bool:=decide (w ≠ []) && w.all fun b=>s7 b.toNat
theorem c3g {w:f6} (h:L3 w=true):w ≠ []∧a7s w:=by
 simp [L3] at h
 refine ⟨h.1,fun j hj=>?_⟩
 have:=h.2 w[j] (List.getElem_mem hj)
 unfold bt
 simp [List.getD,List.getElem?_eq_getElem hj,this]
theorem d23 {s r w:f6} {i:Nat} {acc:List A8} (h:At s i w r) (hw:L3 w=true) (hr:Del r) (h1:w ≠ [46]) (h2:(n6 w).2.2=false) (hl:w.length≤40):y7 s i acc=y7 s (i+w.length) (acc ++ [⟨6,i,[],w,[]⟩]):=by
 obtain ⟨g1,g2⟩:=c3g hw
 refine d26 h g1 g2 hr ?_
 unfold G4
 rw [if_neg h1,if_neg (by rw [h2];simp),if_pos (b2c hl (List.length_pos_iff.2 g1))]
 rfl
theorem d25 {s r p w:f6} {i:Nat} {acc:List A8} (h:At s i (p ++ (58 :: 58 :: w)) r) (hp:a7s p) (hp0:p ≠ []) (hpv:p8 p=true) (hw:L3 w=true) (hr:Del r) (hl:w.length≤40):y7 s i acc=y7 s (i+(p ++ (58 :: 58 :: w)).length) (acc ++ [⟨6,i,p,w,[]⟩]):=by
 obtain ⟨g1,g2⟩:=c3g hw
 have hr':r=[]∨s7 (bt r 0)=false:=by
  by_cases hn:r=[]
  ·exact .inl hn
  ·exact .inr (hr.not hn).1
 obtain ⟨ha,hb⟩:=h.app
 have hcw:At s (i+p.length+2) w r:=by
  have:At s (i+p.length) ([58,58] ++ w) r:=hb
  exact this.app.2
 have hcol:At s (i+p.length) [58,58] (w ++ r):=by
  have:At s (i+p.length) ([58,58] ++ w) r:=hb
  exact this.app.1
 have he:=a32 ha hp (.inr (by show s7 (bt (58 :: 58 :: w ++ r) 0)=false;rw [List.cons_append,bt0];decide))
 have hcc:=hp 0 (List.length_pos_iff.2 hp0)
 have hb0:=ha.bt (j:=0) (List.length_pos_iff.2 hp0)
 rw [Nat.add_zero] at hb0
 have hw0:=g2 0 (List.length_pos_iff.2 g1)
 have hbw:=hcw.bt (j:=0) (List.length_pos_iff.2 g1)
 rw [Nat.add_zero] at hbw
 have hcw':33≤bt w 0∧bt w 0≤126∧bt w 0 ≠ 40∧bt w 0 ≠ 41∧bt w 0 ≠ 39∧bt w 0 ≠ 34∧bt w 0 ≠ 59∧bt w 0 ≠ 124∧bt w 0 ≠ 58:=by simpa [s7] using hw0
 have hlen:=h.len (by simp)
 have hwl:=List.length_pos_iff.2 g1
 simp only [List.length_append,List.length_cons] at hlen
 have hhas:has s (i+p.length) 58 58=true:=by
  have c0:=hcol.bt (j:=0) (by simp)
  have c1:=hcol.bt (j:=1) (by simp)
  rw [Nat.add_zero] at c0
  simp [has,c0,c1]
  refine ⟨oM,dE,dE⟩
 have hend:=a32 hcw g2 hr'
 have hone:A4 s i=.ok (⟨6,i,p,w,[]⟩,i+p.length+2+w.length):=by
  rw [b3t (by rw [hb0];exact hcc),he,if_pos hhas,ha.sub hp0]
  unfold I7
  rw [if_pos oM,hbw,if_neg oM,if_pos hw0]
  simp only []
  rw [hend,hcw.sub g1,if_pos (b2d hl hwl hpv)]
  rfl
 have hlt:i < s.length:=by have:=List.length_pos_iff.2 hp0;omega
 have hcc':33≤bt p 0∧bt p 0≤126∧bt p 0 ≠ 40∧bt p 0 ≠ 41∧bt p 0 ≠ 39∧bt p 0 ≠ 34∧bt p 0 ≠ 59∧bt p 0 ≠ 124∧bt p 0 ≠ 58:=by simpa [s7] using hcc
 have hcom:has s i 35 124=false:=by
  cases p with
  | nil=>exact absurd rfl hp0
  | cons c p =>
   have:bt s (i+1) ≠ 124:=by
    cases p with
    | nil =>
     have:=hcol.bt (j:=0) (by simp)
     rw [Nat.add_zero] at this
     rw [show i+[c].length=i+1 from rfl] at this
     rw [this];decide
    | cons d p =>
     have hb:=ha.bt (j:=1) (by simp)
     have hc:=hp 1 (by simp)
     rw [hb]
     intro e
     rw [e] at hc
     exact absurd hc dE
   simp [has];intro _ _;exact this
 rw [a80 hlt (by rw [hb0];simp [G1];omega) (by rw [hb0];omega) hcom hone]
 congr 1
 simp;omega
theorem d24 {s r p w:f6} {i:Nat} {acc:List A8} (h:At s i (p ++ (58 :: 58 :: D3 124 w)) r) (hp:a7s p) (hp0:p ≠ []) (hpv:p8 p=true) (hl:w.length≤40) (h0:0 < w.length):y7 s i acc=y7 s (i+(p ++ (58 :: 58 :: D3 124 w)).length) (acc ++ [⟨6,i,p,w,[]⟩]):=by
 obtain ⟨ha,hb⟩:=h.app
 have hcw:At s (i+p.length+2) (D3 124 w) r:=by
  have:At s (i+p.length) ([58,58] ++ D3 124 w) r:=hb
  exact this.app.2
 have hcol:At s (i+p.length) [58,58] (D3 124 w ++ r):=by
  have:At s (i+p.length) ([58,58] ++ D3 124 w) r:=hb
  exact this.app.1
 have he:=a32 ha hp (.inr (by show s7 (bt (58 :: 58 :: D3 124 w ++ r) 0)=false;rw [List.cons_append,bt0];decide))
 have hcc:=hp 0 (List.length_pos_iff.2 hp0)
 have hb0:=ha.bt (j:=0) (List.length_pos_iff.2 hp0)
 rw [Nat.add_zero] at hb0
 have hbw:=hcw.hd.1
 have hlen:=h.len (by simp)
 simp only [List.length_append,List.length_cons,a8c] at hlen
 have hhas:has s (i+p.length) 58 58=true:=by
  have c0:=hcol.bt (j:=0) (by simp)
  have c1:=hcol.bt (j:=1) (by simp)
  rw [Nat.add_zero] at c0
  simp [has,c0,c1]
  refine ⟨oM,dE,dE⟩
 have h2:At s (i+p.length+2+1) (F6 124 w) (124 :: r):=by
  have:At s (i+p.length+2) ([124] ++ F6 124 w) (124 :: r):=by unfold At at *;rw [hcw];simp [D3]
  exact this.app.2
 have hen:=a8a (c:=124) dE (acc:=[]) h2
 have hen:H1 s 124 (i+p.length+2+1) []=.ok ([] ++ a23 w,i+p.length+2+1+(F6 124 w).length+1):=hen
 have hone:A4 s i=.ok (⟨6,i,p,w,[]⟩,i+p.length+2+1+(F6 124 w).length+1):=by
  rw [b3t (by rw [hb0];exact hcc),he,if_pos hhas,ha.sub hp0]
  unfold I7
  rw [if_pos oM,hbw,if_pos dE,hen]
  simp only [List.nil_append]
  rw [b0d,if_pos (b2d hl h0 hpv)]
  rfl
 have hlt:i < s.length:=by have:=List.length_pos_iff.2 hp0;omega
 have hcc':33≤bt p 0∧bt p 0≤126∧bt p 0 ≠ 40∧bt p 0 ≠ 41∧bt p 0 ≠ 39∧bt p 0 ≠ 34∧bt p 0 ≠ 59∧bt p 0 ≠ 124∧bt p 0 ≠ 58:=by simpa [s7] using hcc
 have hcom:has s i 35 124=false:=by
  cases p with
  | nil=>exact absurd rfl hp0
  | cons c p =>
   have:bt s (i+1) ≠ 124:=by
    cases p with
    | nil =>
     have:=hcol.bt (j:=0) (by simp)
     rw [Nat.add_zero] at this
     rw [show i+[c].length=i+1 from rfl] at this
     rw [this];decide
    | cons d p =>
     have hb:=ha.bt (j:=1) (by simp)
     have hc:=hp 1 (by simp)
     rw [hb]
     intro e
     rw [e] at hc
     exact absurd hc dE
   simp [has];intro _ _;exact this
 rw [a80 hlt (by rw [hb0];simp [G1];omega) (by rw [hb0];omega) hcom hone]
 congr 1
 simp [a8c];omega
end LQ
namespace Go.Proofs.YtgipbdffgfbedaaGreatDoor
open Go.Abs LQ
set_option maxRecDepth 100000
set_option maxHeartbeats 4000000
noncomputable section
def Q3 (s t:f6):Bool:=decide (t.length≤s.length∧s.take t.length=t)
theorem b19:j4 121 (b0w (fun _ _=>True) fun s t=>.c (.b (Q3 s t))):=l9 (fun fn h=>e0d h) [] .nil fun U fn hfn ⟨(s,t),_⟩ vs bs hv hb=>by
 have hv:j6 [.c (.s s),.c (.s t)] vs:=hv
 have hb:RBs [] bs:=hb
 show g8 U _ fun v bs'=>j7 (.ret (.c (.b (Q3 s t)))) v∧RBs [] bs'
 unfold e3z
 (refine Zq ?_;with_reducible repeat' first|intro _|apply aI)
 ·have hl:t.length≤s.length:=oM
  exact D5 fun e=>by subst e;exact ⟨.ret _ _ (M5 (by rw [cuS];unfold Q3;simp [hl])),.nil⟩
 ·exact i7 ⟨.ret _ _ (F2 (by unfold Q3;rw [decide_eq_false];omega)),.nil⟩
theorem c77:j4 144 (b0w (fun _ _=>True) fun s t=>.c (.b (Q3 s t))):=l9 (fun fn h=>e0o h) [(121,_)] (.cons b19 .nil) fun U fn hfn ⟨(s,t),_⟩ vs bs hv hb=>by
 have hp:=hfn 121 _ rfl
 have hv:j6 [.c (.s s),.c (.s t)] vs:=hv
 have hb:RBs [] bs:=hb
 show g8 U _ fun v bs'=>j7 (.ret (.c (.b (Q3 s t)))) v∧RBs [] bs'
 unfold e4e
 (refine Zq ?_;intros)
 refine f9 hp ⟨(s,t),trivial⟩ (r:=.c (.b (Q3 s t))) rfl j3 .nil fun _ _ _ _=>?_
 (refine Zq ?_;intros)
 exact i7 ⟨.ret _ _ (.b _),.nil⟩
def C9 (s t:f6):f6:=if Q3 s t then s.drop t.length else s
theorem c12:j4 103 (b0w (fun _ _=>True) fun s t=>.c (.s (C9 s t))):=l9 (fun fn h=>d93 h) [(121,_)] (.cons b19 .nil) fun U fn hfn ⟨(s,t),_⟩ vs bs hv hb=>by
 have hp:=hfn 121 _ rfl
 have hv:j6 [.c (.s s),.c (.s t)] vs:=hv
 have hb:RBs [] bs:=hb
 show g8 U _ fun v bs'=>j7 (.ret (.c (.s (C9 s t)))) v∧RBs [] bs'
 unfold e3o
 (refine Zq ?_;intros)
 refine f9 hp ⟨(s,t),trivial⟩ (r:=.c (.b (Q3 s t))) rfl j3 .nil fun _ _ hv hb=>?_
 refine sB hv (a7i hb ?_)
 have hl:Q3 s t=true→t.length≤s.length:=fun h=>by simp [Q3] at h;exact h.1
 refine b3n trV (fun h=>?_) fun h=>?_
 ·have hp:=h
  have hl:=hl h
  (refine Zq ?_;intros)
  have e:C9 s t=s.drop t.length:=by unfold C9;rw [if_pos hp]
  rw [e,Int.toNat_natCast]
  exact i7 ⟨.ret _ _ (.s _ _ _ rfl rfl),.nil⟩
 ·have e:C9 s t=s:=by unfold C9;rw [if_neg h]
  rw [e]
  exact i7 ⟨.ret _ _ (.s _ _ _ rfl rfl),.nil⟩
theorem Y7:j4 91 (b0w (fun _ _=>True) fun s t=>.c (.s (C9 s t))):=l9 (fun fn h=>e58 h) [(103,_)] (.cons c12 .nil) fun U fn hfn ⟨(s,t),_⟩ vs bs hv hb=>by
 have hp:=hfn 103 _ rfl
 have hv:j6 [.c (.s s),.c (.s t)] vs:=hv
 have hb:RBs [] bs:=hb
 show g8 U _ fun v bs'=>j7 (.ret (.c (.s (C9 s t)))) v∧RBs [] bs'
 unfold r91
 (refine Zq ?_;intros)
 refine f9 hp ⟨(s,t),trivial⟩ (r:=.c (.s (C9 s t))) rfl j3 .nil fun _ _ _ _=>?_
 (refine Zq ?_;intros)
 exact i7 ⟨.ret _ _ (.s _ _ _ rfl rfl),.nil⟩
theorem R5 (s:f6) (c:UInt8):Lib.indexByte s c < s.length∧-1≤Lib.indexByte s c:=by
 induction s with
 | nil=>simp [Lib.indexByte]
 | cons b l ih =>
  simp only [Lib.indexByte,List.length_cons]
  split
  ·omega
  ·split <;> omega
def H0 (s:f6) (c:UInt8):f6 × f6 × Bool:=if 0≤Lib.indexByte s c then (s.take (Lib.indexByte s c).toNat,s.drop (Lib.indexByte s c+1).toNat,true) else (s,[],false)
def d74:Sp:=b0w (fun s t=>s.length < 21600000∧∃ c,t=[c]) fun s t=>.t [.c (.s (H0 s (t.headD 0)).1),.c (.s (H0 s (t.headD 0)).2.1),.c (.b (H0 s (t.headD 0)).2.2)]
theorem e8o:j4 163 d74:=l9 (fun fn h=>e0r h) [(99,_)] (.cons d85 .nil) fun U fn hfn ⟨(s,t),hs,c,hc⟩ vs bs hv hb=>by
 have hp:=hfn 99 _ rfl
 have hv:j6 [.c (.s s),.c (.s t)] vs:=hv
 have hb:RBs [] bs:=hb
 have hc:t=[c]:=hc
 have hs:s.length < 21600000:=hs
 subst hc
 show g8 U _ fun v bs'=>j7 (.ret (.t [.c (.s (H0 s c).1),.c (.s (H0 s c).2.1),.c (.b (H0 s c).2.2)])) v∧RBs [] bs'
 unfold e4i
 (refine Zq ?_;intros)
 refine f9 hp ⟨(s,[c]),c,rfl⟩ (r:=.c (.i .i64 (Lib.indexByte s c))) rfl j3 .nil fun _ _ _ _=>?_
 have hi:=R5 s c
 have e1:(([c]:f6).length:Int)=1:=rfl
 (refine Zq ?_;with_reducible repeat' first|intro _|apply aI)
 ·have h0:=‹0≤Lib.indexByte s c›
  have e:H0 s c=(s.take (Lib.indexByte s c).toNat,s.drop (Lib.indexByte s c+1).toNat,true):=by unfold H0;rw [if_pos h0]
  rw [e]
  simp only [Int.toNat_zero,List.drop_zero,e1]
  exact i7 ⟨.ret _ _ j3,.nil⟩
 ·have e:H0 s c=(s,[],false):=by unfold H0;rw [if_neg ‹_›]
  rw [e]
  exact i7 ⟨.ret _ _ j3,.nil⟩
theorem f4a:j4 145 d74:=l9 (fun fn h=>e0p h) [(163,_)] (.cons e8o .nil) fun U fn hfn ⟨(s,t),hs,c,hc⟩ vs bs hv hb=>by
 have hp:=hfn 163 _ rfl
 have hv:j6 [.c (.s s),.c (.s t)] vs:=hv
 have hb:RBs [] bs:=hb
 have hc:t=[c]:=hc
 subst hc
 show g8 U _ fun v bs'=>j7 (.ret (.t [.c (.s (H0 s c).1),.c (.s (H0 s c).2.1),.c (.b (H0 s c).2.2)])) v∧RBs [] bs'
 unfold e4f
 (refine Zq ?_;intros)
 refine f9 hp ⟨(s,[c]),hs,c,rfl⟩ (r:=.t [.c (.s (H0 s c).1),.c (.s (H0 s c).2.1),.c (.b (H0 s c).2.2)]) rfl j3 .nil fun _ _ _ _=>?_
 (refine Zq ?_;intros)
 exact i7 ⟨.ret _ _ j3,.nil⟩
theorem c4b (c:Int) (h1:32 < c) (h2:c < 127):(!(decide (0≤Lib.indexByte (n5 7 16462142067124520) c.toNat.toUInt8)))=s7 c:=by
 obtain ⟨n,rfl⟩:∃ n:Nat,c=n:=⟨c.toNat,oM⟩
 rw [Int.toNat_natCast]
 have h3:n < 127:=oM
 have h4:32 < n:=oM
 have key:∀ n:Fin 127,32 < n.1→(!(decide (0≤Lib.indexByte (n5 7 16462142067124520) n.1.toUInt8)))=s7 n.1:=dE
 exact key ⟨n,h3⟩ h4
def e69 (g:Int→GV):Sp where
 ι:={ c:Int // 0≤c∧c < 256 }
 A c:=[.c (.i .u8 c.1)]
 B _:=[]
 R c:=.ret (g c.1)
 B' _:=[]
 inj i j vs bs h k _ _:=by
  obtain ⟨_,_,h1,k1,h,k⟩:=h.two k
  rw [Z7 h1 k1];exact ⟨rfl,rfl⟩
theorem b25:j4 118 (e69 fun c=>.c (.b (s7 c))):=l9 (fun fn h=>e0a h) [(132,_)] (.cons b8d .nil) fun U fn hfn ⟨c,h0,h1⟩ vs bs hv hb=>by
 have hp:=hfn 132 _ rfl
 have hv:j6 [.c (.i .u8 c)] vs:=hv
 have hb:RBs [] bs:=hb
 show g8 U _ fun v bs'=>j7 (.ret (.c (.b (s7 c)))) v∧RBs [] bs'
 unfold e3v
 (refine Zx ?_;with_reducible repeat' first|intro _|apply aI)
 ·refine d2l (m:=c) rfl oM ?_
  refine f9 hp ⟨(n5 7 16462142067124520,c),oM,oM⟩ (r:=.c (.b (decide (0≤Lib.indexByte (n5 7 16462142067124520) c.toNat.toUInt8)))) rfl j3 .nil fun _ _ _ _=>?_
  (refine Zx ?_;intros)
  exact D5 fun e=>by subst e;exact ⟨.ret _ _ (M5 (by rw [b9z,c4b c oM oM])),.nil⟩
 ·exact i7 ⟨.ret _ _ (F2 (by simp [s7];omega)),.nil⟩
 ·exact i7 ⟨.ret _ _ (F2 (by simp [s7];omega)),.nil⟩
theorem RB.bx {gs:List G} {q:Q} {m:Nat} (h:u3 gs q 0) (hm:m=gs.length):RBs [gs] [.opa q m]:=.k (.opa _ _ _ hm h) .nil
def G6 (s:f6) (i:Nat):List G:=[.s s,.i .i64 (i:Int)]
theorem a4h {s t:f6} {i j:Nat} (h:G6 s i=G6 t j):s=t∧i=j:=by
 simp only [G6,List.cons.injEq,G.s.injEq,G.i.injEq,and_true,true_and] at h
 exact ⟨h.1,oM⟩
theorem RBs.one_inj {g g':List G} {bs:List Bx} (h:RBs [g] bs) (k:RBs [g'] bs):g=g':=by
 cases h with | cons _ _ b _ h1 _=>cases k with | cons _ _ _ _ k1 _=>exact h1.inj k1
abbrev ScI:={ p:f6 × Nat // p.2≤p.1.length∧p.1.length < 21600000 }
def d55 (R:f6→Nat→o8) (b:f6→Nat→Nat):Sp where
 ι:=ScI
 A _:=[.p 0 0]
 B p:=[G6 p.1.1 p.1.2]
 R p:=R p.1.1 p.1.2
 B' p:=[G6 p.1.1 (b p.1.1 p.1.2)]
 inj i j vs bs _ _ h k:=by
  have:=a4h (RBs.one_inj h k)
  rw [this.1,this.2];exact ⟨rfl,rfl⟩
def e9h (R:f6→Nat→f6→o8):Sp where
 ι:=ScI × f6
 A p:=[.p 0 0,.c (.s p.2)]
 B p:=[G6 p.1.1.1 p.1.1.2]
 R p:=R p.1.1.1 p.1.1.2 p.2
 B' p:=[G6 p.1.1.1 p.1.1.2]
 inj i j vs bs hv kv h k:=by
  have:=a4h (RBs.one_inj h k)
  obtain ⟨_,_,_,_,hv,kv⟩:=hv.two kv
  obtain ⟨_,_,h2,k2,_,_⟩:=hv.two kv
  rw [this.1,this.2,F5 h2 k2];exact ⟨rfl,rfl⟩
theorem scQ {U:q7} (e:U=CU) {s:f6} {j:Int} {k:Nat} {x:Q} (h:u3 [.s s,.i .i64 j] x 0) {n:Int} (hn:n=(k:Int)):RBs [G6 s k] [.cells [.q (U.celQ x 0),.int .i64 n]]:=by
 subst e hn
 exact .k (.cells _ _ (.k (.q _ _ (u3.at h rfl)) (.k (.i _ _) .nil))) .nil
theorem Y2 {s:f6} {k:Nat} {n:Int} (hn:n=(k:Int)):RBs [G6 s k] [.cells [.str s.length (j9 s),.int .i64 n]]:=by
 subst hn
 exact .k (.cells _ _ (.k (.s _ _ _ rfl rfl) (.k (.i _ _) .nil))) .nil
theorem d79 {s:f6} {j:Nat} (h:j < s.length) (hc:s7 (bt s j)=true):l7 s j=l7 s (j+1):=by rw [l7,if_pos h,if_pos hc]
theorem e7s {s:f6} {j:Nat} (h:j < s.length) (hc:¬s7 (bt s j)=true):l7 s j=j:=by rw [l7,if_pos h,if_neg hc]
theorem e7r {s:f6} {j:Nat} (h:¬j < s.length):l7 s j=j:=by rw [l7,if_neg h]
theorem b4q:j4 115 (d55 (fun s i=>.ret (.c (.b (decide (i < s.length))))) fun _ i=>i):=l9 (fun fn h=>d98 h) [] .nil fun U fn hfn ⟨(s,i),h1,h2⟩ vs bs hv hb=>by
 have hv:j6 [.p 0 0] vs:=hv
 have hb:RBs [[.s s,.i .i64 (i:Int)]] bs:=hb
 show g8 U _ fun v bs'=>j7 (.ret (.c (.b (decide (i < s.length))))) v∧RBs [G6 s i] bs'
 unfold e3t
 (refine Zq ?_;intros)
 exact D5 fun e=>by subst e;exact ⟨.ret _ _ (M5 (by rw [b2x];simp)),.k (.cells _ _ j3) .nil⟩
theorem b6s:j4 134 (e9h fun s i p=>.ret (.c (.b (Q3 (s.drop i) p)))):=l9 (fun fn h=>e0j h) [(144,_)] (.cons c77 .nil) fun U fn hfn ⟨⟨(s,i),h1,h2⟩,p⟩ vs bs hv hb=>by
 have hp:=hfn 144 _ rfl
 have hv:j6 [.p 0 0,.c (.s p)] vs:=hv
 have hb:RBs [[.s s,.i .i64 (i:Int)]] bs:=hb
 have h1:i≤s.length:=h1
 show g8 U _ fun v bs'=>j7 (.ret (.c (.b (Q3 (s.drop i) p)))) v∧RBs [G6 s i] bs'
 unfold e37
 (refine Zq ?_;intros)
 rw [Int.toNat_natCast]
 refine f9 hp ⟨(s.drop i,p),trivial⟩ (r:=.c (.b (Q3 (s.drop i) p))) rfl j3 .nil fun _ _ _ _=>?_
 (refine Zq ?_;intros)
 exact i7 ⟨.ret _ _ (.b _),.k (.cells _ _ j3) .nil⟩
def G8 (s:f6) (i:Nat):f6:=(s.take (l7 s i)).drop i
theorem d69:j4 120 (d55 (fun s i=>.ret (.c (.s (G8 s i)))) l7):=l9 (fun fn h=>e0c h) [(115,_),(118,_)] (.cons b4q (.cons b25 .nil)) fun U fn hfn ⟨(s,i),h1,h2⟩ vs bs hv hb=>by
 have hm:=hfn 115 _ rfl
 have hc:=hfn 118 _ rfl
 have hv:j6 [.p 0 0] vs:=hv
 have hb:RBs [[.s s,.i .i64 (i:Int)]] bs:=hb
 have h1:i≤s.length:=h1
 have h2:s.length < 21600000:=h2
 show g8 U _ fun v bs'=>j7 (.ret (.c (.s (G8 s i)))) v∧RBs [G6 s (l7 s i)] bs'
 unfold e3y
 (refine Zq ?_;intros)
 refine F3 (fun (j:Nat) vs bs=>vs=[.ptr 0 0,.int .i64 i]∧RBs [G6 s j] bs∧i≤j∧j≤s.length∧l7 s j=l7 s i) (fun j=>s.length - j) i ⟨rfl,.k (.cells _ _ j3) .nil,Nat.le_refl _,h1,rfl⟩ (by simp only [y8];omega) ?_
 rintro self j vs bs ⟨rfl,hb,hij,hj,he⟩ ih
 have hb:RBs [[.s s,.i .i64 (j:Int)]] bs:=hb
 (refine Zq ?_;intros)
 refine f9 hm ⟨(s,j),hj,h2⟩ (r:=.c (.b (decide (j < s.length)))) rfl j3 (RB.bx aS rfl) fun _ _ _ hb=>?_
 have hb:RBs [[.s s,.i .i64 (j:Int)]] _:=hb
 (refine Zq ?_;with_reducible repeat' first|intro _|apply aI)
 ·have hlt:j < s.length:=of_decide_eq_true ‹_›
  have hbt:((s.getD j 0).toNat:Int)=bt s j:=rfl
  have hb0:=a5f s j
  have hb1:=b9x s j
  (refine Zq ?_;intros)
  refine f9 hc ⟨bt s j,hb0,hb1⟩ (r:=.c (.b (s7 (bt s j)))) rfl j3 .nil fun _ _ _ _=>?_
  (refine Zq ?_;with_reducible repeat' first|intro _|apply aI)
  ·exact fun e=>ih (j+1) _ _ ⟨rfl,scQ e aS oM,oM,oM,by rw [← d79 hlt ‹_›];exact he⟩ oM e
  ·have e:=e7s hlt ‹_›
   rw [Int.toNat_natCast,Int.toNat_natCast]
   have ew:G8 s i=(s.take j).drop i:=by unfold G8;rw [← he,e]
   rw [ew,← he,e]
   exact i7 ⟨.ret _ _ (.s _ _ _ rfl rfl),RB.bx aS rfl⟩
 ·have hlt:¬j < s.length:=fun h=>‹¬decide (j < s.length)=true› (decide_eq_true h)
  (refine Zq ?_;intros)
  have e:=e7r hlt
  rw [Int.toNat_natCast,Int.toNat_natCast]
  have ew:G8 s i=(s.take j).drop i:=by unfold G8;rw [← he,e]
  rw [ew,← he,e]
  exact i7 ⟨.ret _ _ (.s _ _ _ rfl rfl),RB.bx aS rfl⟩
end
end Go.Proofs.YtgipbdffgfbedaaGreatDoor
