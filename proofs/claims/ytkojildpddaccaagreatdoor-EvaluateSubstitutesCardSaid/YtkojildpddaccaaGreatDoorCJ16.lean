/- number.integer.String: what is known. -/
import Derived.Test.YtkojildpddaccaaGreatDoorCJ15
import Derived.Lib.AtoiTie
import Derived.Test.YtkojildpddaccaaGreatDoorCJ11
set_option linter.all false
namespace Go.Proofs.YtkojildpddaccaaGreatDoor
open Go.Abs LQ Go.RowKit Go.Shelf
set_option maxRecDepth 100000
set_option maxHeartbeats 4000000
noncomputable section
theorem c2x (f:Nat→Nat):∀ k,a1z f (k+1)=a1z (fun i=>f (i+1)) k ++ (List.replicate (9 - (Lib.itoa (f 0)).length) 48 ++ Lib.itoa (f 0))
 | 0=>by simp [a1z]
 | k+1=>by
  rw [a1z,c2x f k]
  conv=>rhs;rw [a1z]
  simp only [List.append_assoc]
theorem e77 (n:Nat):n ≠ 0→Lib.itoa (((u3 n).getD ((u3 n).length - 1) 0:Nat):Int) ++ a1z (fun i=>(u3 n).getD i 0) ((u3 n).length - 1)=s8 n:=by
 induction n using Nat.strongRecOn with
 | _ n ih =>
  intro h;have hd:n % B9 < 1000000000:=Nat.mod_lt _ dE;have hn:n % B9+B9 * (n / B9)=n:=by unfold B9;omega
  by_cases hm:n / B9=0
  ·rw [W9 h,hm,H6];rw [hm] at hn;simp only [List.length_cons,List.length_nil,Nat.zero_add,Nat.sub_self,List.getD_cons_zero,a1z,List.append_nil];rw [itoa_showNat];rw [Nat.mul_zero,Nat.add_zero] at hn;rw [hn]
  ·have hi:=ih (n / B9) (Nat.div_lt_self (Nat.pos_of_ne_zero h) dE) hm;have hl:∃ k,(u3 (n / B9)).length=k+1:=by rw [W9 hm];exact ⟨_,rfl⟩
   obtain ⟨k,hk⟩:=hl;rw [hk,Nat.add_sub_cancel] at hi;rw [W9 h,List.length_cons,hk,Nat.add_sub_cancel,c2x];simp only [List.getD_cons_succ,List.getD_cons_zero];rw [← List.append_assoc,hi,itoa_showNat];have:=c33 hm hd;rw [hn] at this;exact this.symm
theorem e2i (neg:Bool) (n:Nat):a1y neg (fun i=>(u3 n).getD i 0) (u3 n).length=L1 neg n:=by
 unfold a1y L1;by_cases h:n=0
 ·subst h;rw [H6];rfl
 ·have h0:¬(u3 n).length=0:=by rw [W9 h];simp
  rw [if_neg h0,if_neg h,e77 n h];cases neg <;> simp
theorem d0p:∀ l:List Nat,dRs (l.map lg)=l.map fun d:Nat=>D.int .u32 (d:Int)
 | []=>by simp [dRs]
 | d :: l=>by rw [List.map_cons,e1f,d0p l];simp [lg,dG]
theorem c78 {S:B6} {M:Mp} {w:World}:∀ {l:List Nat} {vs:List Value},C4 S M w vs (l.map fun d:Nat=>D.int .u32 (d:Int))→vs=l.map fun d:Nat=>Value.int .u32 (d:Int)
 | [],_,h=>by cases h;rfl
 | _ :: _,_,h=>by cases h with | cons _ _ _ _ h1 h2=>cases h1;rw [c78 h2];rfl
theorem kIS:v8 257 b1m:=fun ⟨(neg,n),hn⟩ vs bs hv hb=>by
 change z7 [.a (J0 neg n)] vs at hv;change (u3 n).length < 20000 at hn;cases hb;refine ⟨.ret (.str (L1 neg n).length (D0 (L1 neg n))),[],fun hok=>?_,.ret _ _ (.s _ _ _ rfl rfl),.nil⟩;rw [hv.map_toD];show CM X0.P X0.G _ _ [] (.ret (.str (s5 (L1 neg n).length (D0 (L1 neg n))))) [];rw [E6];refine Z6 (d:=.str (L1 neg n)) Tryz.call257 fun w S M us hg hwi hr=>?_;simp only [List.map_cons,List.map_nil,dV,J0,dG,B8,d0p,List.length_map] at hr;cases hr with
 | cons _ _ _ _ r1 r2 =>
 cases r2;cases r1 with
 | agg ws _ r1 =>
 obtain ⟨ws⟩:=ws;cases r1 with
 | cons _ _ _ _ q1 q2 =>
 cases q1;cases q2 with
 | cons _ _ _ _ q1 q3 =>
 cases q3;cases q1 with
 | slice base len cap vs ds c a r k l z =>
 have hvs:=c78 r;subst hvs;refine (b8v neg base (u3 n).length cap (fun i=>(u3 n).getD i 0) w (fun i=>?_) hn hg fun i hi=>?_).mono ?_
 ·by_cases h:i < (u3 n).length
  ·have:=J8 n ((u3 n)[i]) (List.getElem_mem h);simp only [List.getD,List.getElem?_eq_getElem h,Option.getD_some];exact this
  ·simp [List.getD,List.getElem?_eq_none (Nat.le_of_not_lt h)]
 ·rcases a with a | ⟨b,o,hb,a⟩
  ·rw [List.map_eq_nil_iff] at a;rw [a] at hi;exact absurd hi (Nat.not_lt_zero _)
  ·have hx:((u3 n).map fun d:Nat=>Value.int .u32 (d:Int))[i]?=some (.int .u32 (((u3 n).getD i 0:Nat):Int)):=by
    simp [List.getD,List.getElem?_eq_getElem hi]
   obtain ⟨h1,h2⟩:=a i _ hx;have h3:=hwi _ _ h1;exact ⟨b,o,hb,h3,h2⟩
 ·rintro e w' ⟨rfl,hb⟩;exact ⟨hb,_,S,rfl,⟨fun _ _ h=>h,fun _ _ h=>.inl h⟩,X4 hwi hb,.str _ _ (by rw [e2i]),b6s (fun _ _ _ h=>by cases h) (fun _ h=>by cases h)⟩
end
end Go.Proofs.YtkojildpddaccaaGreatDoor
namespace Go.Proofs.YtkojildpddaccaaGreatDoor
open Go.Abs LQ Go.RowKit Go.Lib Go.Sort
set_option maxRecDepth 100000
set_option maxHeartbeats 4000000
noncomputable section
theorem a4g:∀ n:Nat,Lib.decDigits n=s8 n:=by
 intro n
 induction n using Nat.strongRecOn with
 | _ n ih =>
  unfold Lib.decDigits;by_cases h:n < 10
  ·simp only [h,dite_true,if_true];by_cases h0:n=0
   ·subst h0;rfl
   ·unfold s8;rw [if_neg h0,F2 h0,show n / 10=0 by omega,C7,Nat.mod_eq_of_lt h];rfl
  ·simp only [h,dite_false,if_false];rw [ih (n / 10) oM];have h1:¬n / 10=0:=oM;have h0:¬n=0:=oM;unfold s8;rw [if_neg h1,if_neg h0,F2 h0,List.reverse_cons,List.map_append];rfl
theorem b27 (n:Int):Lib.itoa n=s4 n:=by
 unfold Lib.itoa s4;split
 ·rw [a4g];rfl
 ·rw [a4g,show n.toNat=n.natAbs by omega]
theorem b4p:b57:=fun ⟨n,hn⟩ vs bs hv hb=>by
 change z7 [.c (.i .i64 n)] vs at hv;cases hb;refine ⟨.ret (.str (s4 n).length (D0 (s4 n))),[],fun hok=>?_,.ret _ _ (.s _ _ _ rfl rfl),.nil⟩;have hx:vs.map toD=[D.int .i64 n]:=by
  cases hv with
  | cons _ _ v _ h1 h2 =>
   cases h2;cases h1 with
   | i=>rfl
   | q _ x h=>cases h;rfl
 rw [hx];show CM X0.P X0.G _ _ [] (.ret (.str (s5 (s4 n).length (D0 (s4 n))))) [];rw [E6];refine Z6 (d:=.str (s4 n)) Tryz.call94 fun w S M us hg hwi hr=>?_;cases hr with
 | cons _ _ _ _ r1 r2 =>
 cases r2;cases r1;refine (Any.strconv_Itoa Tryz.laysM171 n oM oM w (c72 hg)).mono ?_;rintro e w' ⟨rfl,k,os,rfl⟩;have hb:Below w.heap.size w (grow (w.drewN k) os):=⟨rfl,rfl,rfl,by show w.heap.size≤(w.heap ++ os).size;rw [Array.size_append];omega,fun j hj=>by show (w.heap ++ os)[j]?=w.heap[j]?;exact Array.getElem?_append_left hj⟩;exact ⟨hb,_,S,rfl,⟨fun _ _ h=>h,fun _ _ h=>.inl h⟩,X4 hwi hb,.str _ _ (by rw [b27]),b6s (fun _ _ _ h=>by cases h) (fun _ h=>by cases h)⟩
theorem d3f (l:List UInt8):∀ acc:Nat,(∀ c ∈ l,48≤c.toNat∧c.toNat≤57)→Lib.decFrom acc l=some (acc * 10 ^ l.length+E4 l):=by
 induction l with
 | nil=>intro acc _;simp [Lib.decFrom,E4,D3]
 | cons c r ih =>
  intro acc hd;obtain ⟨h1,h2⟩:=hd c (by simp);have e:E4 (c :: r)=(c.toNat - 48) * 10 ^ r.length+E4 r:=by
   rw [b01];have:(bt [c] 0 - 48).toNat=c.toNat - 48:=by show (((c.toNat:Nat):Int) - 48).toNat=_;omega
   rw [this]
  rw [Lib.decFrom,Lib.digitVal,if_pos ⟨h1,h2⟩];simp only;rw [ih _ (fun d hd'=>hd d (by simp [hd'])),e,List.length_cons,Nat.pow_succ,Nat.add_mul,Nat.mul_assoc,Nat.mul_comm 10,Nat.add_assoc]
theorem c8p (n:Nat):∀ c ∈ s8 n,48≤c.toNat∧c.toNat≤57:=d0t (W3 n)
theorem b5h (n:Nat):Lib.decNat (s8 n)=some n:=by
 unfold Lib.decNat;rw [if_neg (by simp [b1j]),d3f _ _ (c8p n),b02,Nat.zero_mul,Nat.zero_add]
theorem d5g (n:Int):Lib.atoi (s4 n)=some n:=by
 unfold s4;split
 ·show Lib.atoi (45 :: s8 n.natAbs)=some n;have e:(45:UInt8) == 45:=rfl;rw [Lib.atoi,if_pos e,b5h];simp only [Option.map_some];congr 1;omega
 ·cases hs:s8 n.natAbs with
  | nil=>exact absurd hs (b1j _)
  | cons c r =>
   have hc:=c8p n.natAbs c (by rw [hs];simp);have h1:¬c=45:=fun e=>by subst e;exact absurd hc.1 dE
   have h2:¬c=43:=fun e=>by subst e;exact absurd hc.1 dE
   rw [Lib.atoi,if_neg (by simpa using h1),if_neg (by simpa using h2),← hs,b5h];simp only [Option.map_some];congr 1;omega
theorem c48 {s:u5} (h:C2 s=true):Lib.atoi s=some (s3 s):=by
 have:=d5g (s3 s)
 rwa [b7l h] at this
theorem c7y {s:u5} (h:C2 s=true) (hl:s.length≤18):Lib.parseIntB 64 s=.ok (s3 s):=by
 rw [Lib.parseIntB_64,Lib.atoiAll_short s hl,c48 h];rfl
theorem e5i {S:B6} {w w':World} {v:Value} {n:Int} (hv:v=.tuple #[.int .i64 n,.nilIface]):a8e S w w' v (.tuple [.int .i64 n,.nilIface]):=by
 refine ⟨(fun _ _ _ h=>by cases h),fun vs ds hv2 hd i u e h1 h2=>?_⟩;injection hd with hd;subst hd;intro len c z he;subst he
 match i with
 | 0=>simp at h2
 | 1=>simp at h2
 | i+2=>simp at h2
def h0q:Sp where
 ι:={ s:u5 // C2 s=true∧s.length≤18 }
 A s:=[.c (.s s.1),.c (.i .i64 10),.c (.i .i64 64)]
 B _:=[]
 R s:=.ret (.t [.c (.i .i64 (s3 s.1)),.nilI])
 B' _:=[]
 inj i j vs bs h k _ _:=by
  obtain ⟨_,_,h1,k1,h,k⟩:=h.two k;rw [T2 h1 k1];exact ⟨rfl,rfl⟩
theorem kPI:v8 279 h0q:=fun ⟨s,h0,h9⟩ vs bs hv hb=>by
 change z7 [.c (.s s),.c (.i .i64 10),.c (.i .i64 64)] vs at hv;cases hb;refine ⟨.ret (.tuple [.int .i64 (s3 s),.nilIface]),[],fun hok=>?_,.ret _ _ (.t _ _ (.k (.i _ _) (.k .nilI .nil))),.nil⟩;have hx:vs.map toD=[D.str s,.int .i64 10,.int .i64 64]:=by
  cases hv with
  | cons _ _ v _ h1 h2=>cases h2 with
   | cons _ _ v2 _ h2 h3=>cases h3 with
    | cons _ _ v3 _ h3 h4 =>
     cases h4;rw [List.map_cons,List.map_cons,List.map_cons,d44 h1,b5c h2,b5c h3];rfl
 rw [hx];refine Z6 (d:=.tuple [.int .i64 (s3 s),.nilIface]) Tryz.call279 fun w S M us hg hwi hr=>?_;have hus:us=[.string ⟨s.toArray⟩,.int .i64 10,.int .i64 64]:=by
  cases hr with
  | cons _ _ _ _ r1 r2=>cases r2 with
   | cons _ _ _ _ r2 r3=>cases r3 with
    | cons _ _ _ _ r3 r4 =>
     cases r4;cases r1;cases r2;cases r3;rename_i sb hs;rw [c8u hs]
 subst hus;refine (Any.strconv_ParseInt_10_at64_ok Tryz.laysC174 ⟨s.toArray⟩ (by simp [ByteArray.size];omega) (s3 s) (c7y h0 h9) w).mono ?_;rintro e w' ⟨rfl,hw⟩;have hb:Below w.heap.size w w':=by
  rcases hw with rfl | ⟨t,rfl⟩
  ·exact Below.refl _ _
  ·exact Lib.bytesWorld_below _ _ _
 exact ⟨hb,_,S,rfl,⟨fun _ _ h=>h,fun _ _ h=>.inl h⟩,X4 hwi hb,.tuple _ _ (.k (.int _ _) (.k .nilIface .nil)),e5i rfl⟩
def h0i:Sp where
 ι:={ s:u5 // C2 s=true∧s.length≤18 }
 A s:=[.c (.s s.1)]
 B _:=[]
 R s:=.ret (.t [.c (.i .i64 (s3 s.1)),.nilI])
 B' _:=[]
 inj i j vs bs h k _ _:=by
  obtain ⟨_,_,h1,k1,h,k⟩:=h.two k;rw [T2 h1 k1];exact ⟨rfl,rfl⟩
theorem g4k:v8 261 h0i:=fun ⟨s,h0,h9⟩ vs bs hv hb=>by
 change z7 [.c (.s s)] vs at hv;cases hb;refine ⟨.ret (.tuple [.int .i64 (s3 s),.nilIface]),[],fun hok=>?_,.ret _ _ (.t _ _ (.k (.i _ _) (.k .nilI .nil))),.nil⟩;have hx:vs.map toD=[D.str s]:=by
  cases hv with
  | cons _ _ v _ h1 h2 =>
   cases h2;rw [List.map_cons,d44 h1];rfl
 rw [hx];refine Z6 (d:=.tuple [.int .i64 (s3 s),.nilIface]) Tryz.call261 fun w S M us hg hwi hr=>?_;have hus:us=[.string ⟨s.toArray⟩]:=by
  cases hr with
  | cons _ _ _ _ r1 r2 =>
   cases r2;cases r1;rename_i sb hs;rw [c8u hs]
 subst hus;refine (Any.strconv_Atoi Tryz.lays172 ⟨s.toArray⟩ (s3 s) (by simp [ByteArray.size];omega) (c48 h0) w).mono ?_;rintro e w' ⟨rfl,t,hw⟩;have hb:Below w.heap.size w w':=by rw [hw];exact Lib.bytesWorld_below _ _ _
 exact ⟨hb,_,S,rfl,⟨fun _ _ h=>h,fun _ _ h=>.inl h⟩,X4 hwi hb,.tuple _ _ (.k (.int _ _) (.k .nilIface .nil)),e5i rfl⟩
def h0m:Sp where
 ι:={ n:Int // -9223372036854775808≤n∧n≤9223372036854775807 }
 A n:=[.c (.i .i64 n.1),.c (.i .i64 10)]
 B _:=[]
 R n:=.ret (.c (.s (s4 n.1)))
 B' _:=[]
 inj i j vs bs h k _ _:=by
  obtain ⟨_,_,h1,k1,h,k⟩:=h.two k;rw [b4l h1 k1];exact ⟨rfl,rfl⟩
theorem kFI:v8 254 h0m:=fun ⟨n,hn⟩ vs bs hv hb=>by
 change z7 [.c (.i .i64 n),.c (.i .i64 10)] vs at hv;cases hb;refine ⟨.ret (.str (s4 n).length (D0 (s4 n))),[],fun hok=>?_,.ret _ _ (.s _ _ _ rfl rfl),.nil⟩;have hx:vs.map toD=[D.int .i64 n,.int .i64 10]:=by
  cases hv with
  | cons _ _ v _ h1 h2=>cases h2 with
   | cons _ _ v2 _ h2 h3 =>
    cases h3;rw [List.map_cons,List.map_cons,b5c h1,b5c h2];rfl
 rw [hx];show CM X0.P X0.G _ _ [] (.ret (.str (s5 (s4 n).length (D0 (s4 n))))) [];rw [E6];refine Z6 (d:=.str (s4 n)) Tryz.call254 fun w S M us hg hwi hr=>?_;cases hr with
 | cons _ _ _ _ r1 r2=>cases r2 with
  | cons _ _ _ _ r2 r3 =>
   cases r3;cases r1;cases r2;refine (Any.strconv_FormatInt_10 Tryz.laysM173 n hn.1 hn.2 w (c72 hg)).mono ?_;rintro e w' ⟨rfl,k,os,rfl⟩;have hb:Below w.heap.size w (grow (w.drewN k) os):=⟨rfl,rfl,rfl,by show w.heap.size≤(w.heap ++ os).size;rw [Array.size_append];omega,fun j hj=>by show (w.heap ++ os)[j]?=w.heap[j]?;exact Array.getElem?_append_left hj⟩;exact ⟨hb,_,S,rfl,⟨fun _ _ h=>h,fun _ _ h=>.inl h⟩,X4 hwi hb,.str _ _ (by rw [b27]),b6s (fun _ _ _ h=>by cases h) (fun _ h=>by cases h)⟩
end
end Go.Proofs.YtkojildpddaccaaGreatDoor
namespace Go.Proofs.YtkojildpddaccaaGreatDoor
open Go.Abs LQ
set_option maxRecDepth 100000
set_option maxHeartbeats 4000000
noncomputable section
section
variable {U:C3} {P:K0→List Bx→Prop}
theorem d9i {a b m:Int} {K:Int→Om} (he:a+b=m) (hr:0≤m∧m < 4294967296) (h:t6 U (K m) P):t6 U (U.fI (U.wr .u32 (U.iAdd a b)) K) P:=fun e'=>by
 have:=h e';subst e';rw [T7];show ∃ v bs,K (wr .u32 (iAdd a b))=some (v,bs)∧P v bs;rw [b4j,he,c9a hr.1 hr.2];exact this
theorem g0q {n m:Nat} {e M:Int} {K:Int→Om} (he:e=n) (hM:M=m) (hn:n < 4294967296) (h:t6 U (K ((n / m:Nat):Int)) P):t6 U (U.fI (U.wr .u32 (U.iQuo e M)) K) P:=fun e'=>by
 have:=h e';subst e' he hM;rw [T7];show ∃ v bs,K (wr .u32 (iQuo (n:Int) (m:Int)))=some (v,bs)∧P v bs;have hd:=Nat.div_le_self n m;rw [a9l,show (n:Int).tdiv m=((n / m:Nat):Int) from (Int.ofNat_tdiv n m).symm,c9a (Int.natCast_nonneg _) oM];exact this
theorem g0n {n m:Nat} {e M:Int} {K:Int→Om} (he:e=n) (hM:M=m) (h:t6 U (K ((n % m:Nat):Int)) P):t6 U (U.fI (U.iRem e M) K) P:=fun e'=>by
 have:=h e';subst e' he hM;rw [T7];show ∃ v bs,K (iRem (n:Int) (m:Int))=some (v,bs)∧P v bs;rw [c0z,show (n:Int).tmod m=((n % m:Nat):Int) from (Int.ofNat_tmod n m).symm];exact this
end
theorem d70 {x y out:List Nat} {i c n:Nat} (ho:out.length=i) (he:v7 out+B9 ^ i * c=v7 (x.take i)+v7 (y.take i)) (hn:n=x.getD i 0+c+y.getD i 0) :
  v7 (out ++ [n % 1000000000])+B9 ^ (i+1) * (n / 1000000000)=v7 (x.take (i+1))+v7 (y.take (i+1)):=by
 have hd:B9 ^ i * (n % 1000000000)+B9 ^ (i+1) * (n / 1000000000)=B9 ^ i * n:=by
  rw [Nat.pow_succ,Nat.mul_assoc,← Nat.mul_add];show B9 ^ i * (n % 1000000000+1000000000 * (n / 1000000000))=_;rw [Nat.mod_add_div]
 rw [b3c,ho,K4,K4];rw [hn,Nat.mul_add,Nat.mul_add] at hd;rw [hn];omega
theorem e25 {x y out:List Nat} {c:Nat} (ho:out.length=x.length) (hyx:y.length≤x.length) (he:v7 out+B9 ^ x.length * c=v7 (x.take x.length)+v7 (y.take x.length)):v7 (out ++ [c])=v7 x+v7 y:=by
 rw [b3c,ho,he,List.take_of_length_le (Nat.le_refl _),List.take_of_length_le hyx]
theorem g41 {U:C3} {fn:FF} {vs:List V} {bs:List Bx} (ht:Ans fn 283 (spM fun l=>.ret (.sl 1 ((H7 l).map lg)))) {a b:List Nat} (hx:a.length < 19990) (hy:b.length < 19990) (hLa:LQ.LB a) (hLb:LQ.LB b) (hv:z7 [.sl 1 (a.map lg),.sl 1 (b.map lg)] vs) (hb:u0 [] bs) :
  t6 U (e3q U fn vs bs) fun v bs'=>A3 (.ret (.sl 1 (B8 (v7 a+v7 b)))) v∧u0 [] bs':=by
 unfold e3q;refine Zy ?_;intros;refine c8k (fun vs bs=>∃ (x y:List Nat) (t1:u1 Q) (o1:Nat) (t2:u1 Q) (o2:Nat),vs=[.slice t1 1 o1 x.length .no,.slice t2 1 o2 y.length .no]∧bs=[]∧A5 1 (x.map lg) t1 o1∧A5 1 (y.map lg) t2 o2∧x.length < 19990∧y.length≤x.length∧LQ.LB x∧LQ.LB y∧v7 x+v7 y=v7 a+v7 b) ?_ ?_
 rotate_left
 ·intro j hj;(refine Zq ?_;with_reducible repeat' first|intro _|apply aI)
  ·exact hj _ _ ⟨b,a,_,_,_,_,rfl,rfl,aS,aS,hy,by simp at *;omega,hLb,hLa,oM⟩
  ·exact hj _ _ ⟨a,b,_,_,_,_,rfl,rfl,aS,aS,hx,by simp at *;omega,hLa,hLb,rfl⟩
 rintro _ _ ⟨x,y,t1,o1,t2,o2,rfl,rfl,h1,h2,hx,hyx,hLx,hLy,hs⟩;rw [← hs];refine Zq ?_;intros;refine I7 (fun (i:Nat) vs bs=>∃ (t1:u1 Q) (o1:Nat) (t2:u1 Q) (o2:Nat) (v:V) (out:List Nat) (c:Nat),vs=[.slice t1 1 o1 x.length .no,.slice t2 1 o2 y.length .no,v,.int .u32 c,.int .i64 x.length,.int .i64 i]∧bs=[.tok out.length 1]∧S4 0 1 (out.map lg) v∧A5 1 (x.map lg) t1 o1∧A5 1 (y.map lg) t2 o2∧out.length=i∧LQ.LB out∧i≤x.length∧c≤1∧v7 out+B9 ^ i * c=v7 (x.take i)+v7 (y.take i)) (fun i=>x.length - i) 0 ?_ (by simp only [E3];omega) ?_
 ·exact ⟨_,_,_,_,_,[],0,rfl,rfl,.a _ _ rfl (.nil _ _ _),h1,h2,rfl,fun _ h=>(by cases h),oM,oM,by simp [v7]⟩
 rintro self i _ _ ⟨t1,o1,t2,o2,v,out,c,rfl,rfl,htk,h1,h2,hol,hLo,hi,hc,he⟩ ih;(refine Zy ?_;with_reducible repeat' first|intro _|apply aI)
 ·have q1:x.getD i 0 < 1000000000:=a14 hLx i;have q2:y.getD i 0 < 1000000000:=a14 hLy i;have hix:i < x.length:=oM;rw [gD (l:=x) hix];refine d9i (m:=((x.getD i 0+c:Nat):Int)) oM oM ?_;obtain ⟨n,hn⟩:∃ n,n=x.getD i 0+c+y.getD i 0:=⟨_,rfl⟩;refine c8k (fun vs bs=>∃ (t1:u1 Q) (o1:Nat) (t2:u1 Q) (o2:Nat) (v:V),vs=[.slice t1 1 o1 x.length .no,.slice t2 1 o2 y.length .no,v,.int .u32 (n:Int),.int .i64 x.length,.int .i64 i]∧bs=[.tok out.length 1]∧S4 0 1 (out.map lg) v∧A5 1 (x.map lg) t1 o1∧A5 1 (y.map lg) t2 o2) ?_ ?_
  rotate_left
  ·intro j hj;(refine Zq ?_;with_reducible repeat' first|intro _|apply aI)
   ·have hiy:i < y.length:=oM;rw [gD (l:=y) hiy];refine d9i (m:=(n:Int)) oM oM ?_;exact hj _ _ ⟨_,_,_,_,_,rfl,rfl,.a _ _ (by simp) aS,aS,aS⟩
   ·have e2:y.getD i 0=0:=gD0 oM;have e3:x.getD i 0+c=n:=oM;rw [e3];exact hj _ _ ⟨_,_,_,_,_,rfl,rfl,.a _ _ (by simp) aS,aS,aS⟩
  rintro _ _ ⟨t1',o1',t2',o2',v',rfl,rfl,htk',h1',h2'⟩;refine Zq ?_;intros;refine g0q (n:=n) (m:=1000000000) rfl rfl oM ?_;refine Zq ?_;intros;refine g0n (n:=n) (m:=1000000000) rfl rfl ?_;refine Zq ?_;intros;refine S7 aS (r:=lg (n % 1000000000)) (fun _=>L0 (.i _ _)) rfl (by simp) (by simp only [List.length_map];omega) fun t9 h9=>?_;refine Zq ?_;intros;refine ih (i+1) _ _ ?_ oM;exact ⟨_,_,_,_,_,out ++ [n % 1000000000],n / 1000000000,rfl,by rw [List.length_append];rfl,.a _ _ (by simp) (by have h9':A5 1 _ t9 0:=h9;simpa using h9'),h1',h2',by simp [hol],c0f hLo (Nat.mod_lt _ dE),oM,oM,d70 hol he hn⟩
 ·have em:i=x.length:=oM;subst em;have hLc:LQ.LB (out ++ [c]):=c0f hLo oM;refine S7 aS (r:=lg c) (fun _=>L0 (.i _ _)) rfl (by simp) (by simp only [List.length_map];omega) fun t9 h9=>?_;refine Zq ?_;intros;refine s6 ht ⟨out ++ [c],by show (out ++ [c]).length < 20000;simp;omega⟩ (r:=.sl 1 (B8 (v7 x+v7 y))) (by rw [← e25 hol hyx he];show z8.ret (.sl 1 ((H7 (out ++ [c])).map lg))=_;rw [a0u _ hLc];rfl) (.k (.sl _ _ _ _ _ (by simp) (by have h9':A5 1 _ t9 0:=h9;simpa using h9')) .nil) .nil fun _ _ _ _=>?_;refine Zq ?_;intros;exact s9 ⟨.ret _ _ (.sl _ _ _ _ _ (by simp [B8]) aS),.nil⟩
theorem d68:v8 266 (e4a (fun x y=>(u3 x).length < 19990∧(u3 y).length < 19990) fun x y=>.ret (.sl 1 (B8 (x+y)))):=A8 (fun fn h=>f06 h) [(283,_)] (.cons b29 .nil) fun U fn hfn ⟨(x,y),_,_,hx,hy⟩ vs bs hv hb=>by
 have h:=g41 (U:=U) (hfn 283 _ rfl) (a:=u3 x) (b:=u3 y) hx hy (J8 x) (J8 y) hv hb;rw [G5,G5] at h;exact h
def a2h (na:Bool) (a:Nat) (nb:Bool) (b:Nat):Bool × Nat:=if na=nb then (na,a+b) else if a < b then (nb,b - a) else (na,a - b)
theorem e04 (x y:Int):L1 (a2h (decide (x < 0)) x.natAbs (decide (y < 0)) y.natAbs).1 (a2h (decide (x < 0)) x.natAbs (decide (y < 0)) y.natAbs).2=s4 (x+y):=by
 rw [b9t];congr 1;unfold a2h;by_cases hx:x < 0 <;> by_cases hy:y < 0 <;> simp only [hx,hy,decide_true,decide_false,if_true,Bool.false_eq_true,if_false,reduceCtorEq] <;> (try split) <;> simp <;> omega
theorem e03 {na nb:Bool} {a b k:Nat} (ha:(u3 a).length < k) (hb:(u3 b).length < k):(u3 (a2h na a nb b).2).length < k+1:=by
 unfold a2h;split
 ·rcases Nat.le_total a b with h | h
  ·have h1:=Q2 (y:=a+b) (x:=2 * b) oM;have h2:=a8v (y:=b) (m:=2) dE;rw [Nat.mul_comm] at h2;show (u3 (a+b)).length < _;omega
  ·have h1:=Q2 (y:=a+b) (x:=2 * a) oM;have h2:=a8v (y:=a) (m:=2) dE;rw [Nat.mul_comm] at h2;show (u3 (a+b)).length < _;omega
 ·split
  ·have h1:=Q2 (y:=b - a) (x:=b) oM;show (u3 (b - a)).length < _;omega
  ·have h1:=Q2 (y:=a - b) (x:=a) oM;show (u3 (a - b)).length < _;omega
def h0o:Sp where
 ι:={ p:(Bool × Nat) × (Bool × Nat) // (u3 p.1.2).length < 19990∧(u3 p.2.2).length < 19990 }
 A p:=[.a (J0 p.1.1.1 p.1.1.2),.a (J0 p.1.2.1 p.1.2.2)]
 B _:=[]
 R p:=.ret (.a (J0 (a2h p.1.1.1 p.1.1.2 p.1.2.1 p.1.2.2).1 (a2h p.1.1.1 p.1.1.2 p.1.2.1 p.1.2.2).2))
 B' _:=[]
 inj i j vs bs h k _ _:=by
  obtain ⟨_,_,h1,k1,h,k⟩:=h.two k;obtain ⟨_,_,h2,k2,h,k⟩:=h.two k;obtain ⟨e1,e2⟩:=b6t (h1.a_inj k1);obtain ⟨e3,e4⟩:=b6t (h2.a_inj k2);rw [e1,e2,e3,e4];exact ⟨rfl,rfl⟩
theorem g4i:v8 255 h0o:=A8 (fun fn h=>f0x h) [(266,_),(280,_),(267,_)] (.cons d68 (.cons a5i (.cons c03 .nil))) fun U fn hfn ⟨((na,a),(nb,b)),ha,hbl⟩ vs bs hv hb=>by
 have hm:=hfn 267 _ rfl;have hv:z7 [.a [.b na,.l (B8 a)],.a [.b nb,.l (B8 b)]] vs:=hv;have hb:u0 [] bs:=hb;have ha:(u3 a).length < 19990:=ha;have hbl:(u3 b).length < 19990:=hbl;show t6 U _ fun v bs'=>A3 (.ret (.a (J0 (a2h na a nb b).1 (a2h na a nb b).2))) v∧u0 [] bs';unfold f8f;(refine Zq ?_;with_reducible repeat' first|intro _|apply aI)
 ·have e:na=nb:=eq_of_beq aS;refine s6 (hfn 266 _ rfl) ⟨(a,b),by show (u3 a).length < 20000;omega,by show (u3 b).length < 20000;omega,ha,hbl⟩ (r:=.sl 1 (B8 (a+b))) rfl (.k (V4 aS) (.k (V4 aS) .nil)) .nil fun _ _ _ _=>?_;refine Zq ?_;intros;rw [a2h,if_pos e];exact s9 ⟨.ret _ _ (.ag _ _ (.k (.q _ _ aS) (.k (.cl _ _ _ _ _ (by simp [B8]) aS) .nil))),.nil⟩
 ·have e:¬na=nb:=fun e=>absurd (beq_iff_eq.2 e) aS;rw [a2h,if_neg e];refine s6 (hfn 280 _ rfl) ⟨(u3 a,u3 b),by show (u3 a).length < 20000;omega,by show (u3 b).length < 20000;omega,trivial⟩ (r:=.c (.i .i64 (N1 (u3 a) (u3 b)))) rfl (.k (V4 aS) (.k (V4 aS) .nil)) .nil fun _ _ _ _=>?_;have ho:=a6v a b;generalize N1 (u3 a) (u3 b)=o at *;(refine Zq ?_;with_reducible repeat' first|intro _|apply aI)
  ·have hab:a < b:=by
    by_cases h:a < b
    ·exact h
    ·rw [if_neg h] at ho;split at ho <;> omega
   rw [if_pos hab];refine s6 hm ⟨(b,a),by show (u3 b).length < 20000;omega,by show (u3 a).length < 20000;omega,by show a≤b;omega⟩ (r:=.sl 1 (B8 (b - a))) rfl (.k (V4 aS) (.k (V4 aS) .nil)) .nil fun _ _ _ _=>?_;refine Zq ?_;intros;exact s9 ⟨.ret _ _ (.ag _ _ (.k (.q _ _ aS) (.k (.cl _ _ _ _ _ (by simp [B8]) aS) .nil))),.nil⟩
  ·have hab:¬a < b:=fun h=>by rw [if_pos h] at ho;omega
   rw [if_neg hab];refine s6 hm ⟨(a,b),by show (u3 a).length < 20000;omega,by show (u3 b).length < 20000;omega,by show b≤a;omega⟩ (r:=.sl 1 (B8 (a - b))) rfl (.k (V4 aS) (.k (V4 aS) .nil)) .nil fun _ _ _ _=>?_;refine Zq ?_;intros;exact s9 ⟨.ret _ _ (.ag _ _ (.k (.q _ _ aS) (.k (.cl _ _ _ _ _ (by simp [B8]) aS) .nil))),.nil⟩
def h0u:Sp where
 ι:={ p:(u5 × u5) × Nat // p.1.1.length < 8000∧p.1.2.length < 8000∧p.2≤18 }
 A p:=[.c (.s p.1.1.1),.c (.s p.1.1.2),.c (.i .i64 p.1.2)]
 B _:=[]
 R p:=if p.1.1.1.length≤p.1.2∧p.1.1.2.length≤p.1.2∧C2 p.1.1.1=true∧C2 p.1.1.2=true then .ret (.t [.c (.i .i64 (s3 p.1.1.1)),.c (.i .i64 (s3 p.1.1.2)),.c (.b true)]) else .ret (.t [.c (.i .i64 0),.c (.i .i64 0),.c (.b false)])
 B' _:=[]
 inj i j vs bs h k _ _:=by
  obtain ⟨_,_,h1,k1,h,k⟩:=h.two k;obtain ⟨_,_,h2,k2,h,k⟩:=h.two k;obtain ⟨_,_,h3,k3,h,k⟩:=h.two k;have e:i.1.2=j.1.2:=by have:=b4l h3 k3;omega
  rw [T2 h1 k1,T2 h2 k2,e];exact ⟨rfl,rfl⟩
theorem d7a:v8 253 h0u:=A8 (fun fn h=>f0w h) [(268,_),(279,_)] (.cons c05 (.cons kPI .nil)) fun U fn hfn ⟨((a,b),m),ha,hbl,hm⟩ vs bs hv hb=>by
 have hV:=hfn 268 _ rfl;have hp:=hfn 279 _ rfl;have hv:z7 [.c (.s a),.c (.s b),.c (.i .i64 m)] vs:=hv;have hb:u0 [] bs:=hb;have ha:a.length < 8000:=ha;have hbl:b.length < 8000:=hbl;have hm:m≤18:=hm;show t6 U _ fun v bs'=>A3 (if a.length≤m∧b.length≤m∧C2 a=true∧C2 b=true then .ret (.t [.c (.i .i64 (s3 a)),.c (.i .i64 (s3 b)),.c (.b true)]) else .ret (.t [.c (.i .i64 0),.c (.i .i64 0),.c (.b false)])) v∧u0 [] bs';unfold f8e;(refine Zq ?_;with_reducible repeat' first|intro _|apply aI)
 ·exact s9 ⟨by rw [if_neg (fun h=>by have:=h.1;omega)];exact .ret _ _ z6,.nil⟩
 ·exact s9 ⟨by rw [if_neg (fun h=>by have:=h.2.1;omega)];exact .ret _ _ z6,.nil⟩
 ·cases hA:C2 a with
  | false =>
   refine s6 hV ⟨a,by show a.length < 90000;omega⟩ (r:=.c (.b false)) (by show z8.ret (.c (.b (C2 a)))=_;rw [hA]) z6 .nil fun _ _ _ _=>?_;refine Zq ?_;intros;exact s9 ⟨by rw [if_neg (fun h=>by cases h.2.2.1)];exact .ret _ _ z6,.nil⟩
  | true =>
   refine s6 hV ⟨a,by show a.length < 90000;omega⟩ (r:=.c (.b true)) (by show z8.ret (.c (.b (C2 a)))=_;rw [hA]) z6 .nil fun _ _ _ _=>?_;(refine Zq ?_;with_reducible repeat' first|intro _|apply aI);cases hB:C2 b with
   | false =>
    refine s6 hV ⟨b,by show b.length < 90000;omega⟩ (r:=.c (.b false)) (by show z8.ret (.c (.b (C2 b)))=_;rw [hB]) z6 .nil fun _ _ _ _=>?_;refine Zq ?_;intros;exact s9 ⟨by rw [if_neg (fun h=>by cases h.2.2.2)];exact .ret _ _ z6,.nil⟩
   | true =>
    refine s6 hV ⟨b,by show b.length < 90000;omega⟩ (r:=.c (.b true)) (by show z8.ret (.c (.b (C2 b)))=_;rw [hB]) z6 .nil fun _ _ _ _=>?_;refine Zq ?_;intros;refine s6 hp ⟨a,hA,oM⟩ (r:=.t [.c (.i .i64 (s3 a)),.nilI]) rfl z6 .nil fun _ _ _ _=>?_;refine Zq ?_;intros;refine c4u aS ?_;refine Zq ?_;intros;refine s6 hp ⟨b,hB,oM⟩ (r:=.t [.c (.i .i64 (s3 b)),.nilI]) rfl z6 .nil fun _ _ _ _=>?_;refine Zq ?_;intros;refine c4u aS ?_;refine Zq ?_;intros;exact s9 ⟨by rw [if_pos ⟨oM,oM,rfl,rfl⟩];exact .ret _ _ z6,.nil⟩
theorem b8a {s:u5} {k:Nat} (h:C2 s=true) (hl:s.length≤k):(s3 s).natAbs < 10 ^ k:=by
 have h1:=b7l h;have h2:(s8 (s3 s).natAbs).length≤k:=by
  rw [← h1] at hl;unfold s4 at hl;split at hl
  ·simp at hl;omega
  ·exact hl
 have h3:(s8 (s3 s).natAbs).length≤k→(s3 s).natAbs < 10 ^ k:=fun h=>by
  have:=b6z (s8 (s3 s).natAbs) (W3 _);rw [b02] at this;exact Nat.lt_of_lt_of_le this (Nat.pow_le_pow_right dE h)
 exact h3 h2
theorem d30 (x y:Nat):(u3 (x * y)).length≤(u3 x).length+(u3 y).length:=by
 have h1:=T8 (u3 x) (J8 x);have h2:=T8 (u3 y) (J8 y);rw [G5] at h1 h2;refine a58 ?_;rw [Nat.pow_add];exact Nat.mul_lt_mul'' h1 h2
theorem b0w:v8 219 (c1u fun a b=>.ret (.c (.s (s4 (s3 a * s3 b))))):=A8 (fun fn h=>f0c h) [(253,_),(254,_),(256,_),(259,_),(257,_)] (.cons d7a (.cons kFI (.cons a9o (.cons c04 (.cons kIS .nil))))) fun U fn hfn ⟨(a,b),ha,hbl⟩ vs bs hv hb=>by
 have hs:=hfn 253 _ rfl;have hp:=hfn 256 _ rfl;have ha:a.length < 8000:=ha;have hbl:b.length < 8000:=hbl;have hv:z7 [.c (.s a),.c (.s b)] vs:=hv;have hb:u0 [] bs:=hb;show t6 U _ fun v bs'=>A3 (.ret (.c (.s (s4 (s3 a * s3 b))))) v∧u0 [] bs';have la:=a1d (s:=a) oM;have lb:=a1d (s:=b) oM;unfold f7s;refine Zq ?_;intros;by_cases hc:a.length≤9∧b.length≤9∧C2 a=true∧C2 b=true
 ·refine s6 hs ⟨((a,b),9),ha,hbl,show 9≤18 by decide⟩ (r:=.t [.c (.i .i64 (s3 a)),.c (.i .i64 (s3 b)),.c (.b true)]) (by show (if a.length≤9∧b.length≤9∧C2 a=true∧C2 b=true then _ else _)=_;rw [if_pos hc]) z6 .nil fun _ _ _ _=>?_;have h1:=b8a hc.2.2.1 hc.1;have h2:=b8a hc.2.2.2 hc.2.1;have h3:(s3 a * s3 b).natAbs≤1000000000 * 1000000000:=by
   rw [Int.natAbs_mul];exact Nat.mul_le_mul oM oM
  refine Zq ?_;intros;refine g5h oM ?_;refine Zq ?_;intros;refine s6 (hfn 254 _ rfl) ⟨s3 a * s3 b,oM⟩ (r:=.c (.s (s4 (s3 a * s3 b)))) rfl z6 .nil fun _ _ _ _=>?_;refine Zq ?_;intros;exact s9 ⟨.ret _ _ z6,.nil⟩
 ·refine s6 hs ⟨((a,b),9),ha,hbl,show 9≤18 by decide⟩ (r:=.t [.c (.i .i64 0),.c (.i .i64 0),.c (.b false)]) (by show (if a.length≤9∧b.length≤9∧C2 a=true∧C2 b=true then _ else _)=_;rw [if_neg hc]) z6 .nil fun _ _ _ _=>?_;refine Zq ?_;intros;refine s6 hp ⟨a,by show a.length < 90000;omega⟩ (r:=.a (J0 (decide (s3 a < 0)) (s3 a).natAbs)) rfl z6 .nil fun _ _ hv1 _=>?_;have hv1:RV (.a [.b _,.l (B8 _)]) _:=hv1;refine Zq ?_;intros;refine s6 hp ⟨b,by show b.length < 90000;omega⟩ (r:=.a (J0 (decide (s3 b < 0)) (s3 b).natAbs)) rfl z6 .nil fun _ _ hv2 _=>?_;have hv2:RV (.a [.b _,.l (B8 _)]) _:=hv2;refine Zq ?_;intros;refine s6 (hfn 259 _ rfl) ⟨(u3 (s3 a).natAbs,u3 (s3 b).natAbs),by show (u3 (s3 a).natAbs).length < 20000;omega,by show (u3 (s3 b).natAbs).length < 20000;omega,J8 _,J8 _,by show (u3 (s3 a).natAbs).length+(u3 (s3 b).natAbs).length < 20000;omega⟩ (r:=.sl 1 (B8 ((s3 a).natAbs * (s3 b).natAbs))) (by show z8.ret (.sl 1 (B8 (v7 (u3 (s3 a).natAbs) * v7 (u3 (s3 b).natAbs))))=_;rw [G5,G5]) (.k (V4 aS) (.k (V4 aS) .nil)) .nil fun _ _ _ _=>?_;refine Zq ?_;intros;have lm:=d30 (s3 a).natAbs (s3 b).natAbs;refine s6 (hfn 257 _ rfl) ⟨(decide (s3 a < 0) != decide (s3 b < 0),(s3 a).natAbs * (s3 b).natAbs),by show (u3 ((s3 a).natAbs * (s3 b).natAbs)).length < 20000;omega⟩ (r:=.c (.s (s4 (s3 a * s3 b)))) (by show z8.ret (.c (.s (L1 _ _)))=_;rw [b9t,f1m]) (.k (.ag _ _ (.k (.b _) (.k (.cl _ _ _ _ _ (by simp [B8]) aS) .nil))) .nil) .nil fun _ _ _ _=>?_;refine Zq ?_;intros;exact s9 ⟨.ret _ _ z6,.nil⟩
theorem g4j:v8 217 (c1u fun a b=>.ret (.c (.s (s4 (s3 a+s3 b))))):=A8 (fun fn h=>f0a h) [(253,_),(254,_),(256,_),(255,_),(257,_)] (.cons d7a (.cons kFI (.cons a9o (.cons g4i (.cons kIS .nil))))) fun U fn hfn ⟨(a,b),ha,hbl⟩ vs bs hv hb=>by
 have hs:=hfn 253 _ rfl;have hp:=hfn 256 _ rfl;have ha:a.length < 8000:=ha;have hbl:b.length < 8000:=hbl;have hv:z7 [.c (.s a),.c (.s b)] vs:=hv;have hb:u0 [] bs:=hb;show t6 U _ fun v bs'=>A3 (.ret (.c (.s (s4 (s3 a+s3 b))))) v∧u0 [] bs';have la:=a1d (s:=a) oM;have lb:=a1d (s:=b) oM;unfold f7q;refine Zq ?_;intros;by_cases hc:a.length≤18∧b.length≤18∧C2 a=true∧C2 b=true
 ·refine s6 hs ⟨((a,b),18),ha,hbl,show 18≤18 by decide⟩ (r:=.t [.c (.i .i64 (s3 a)),.c (.i .i64 (s3 b)),.c (.b true)]) (by show (if a.length≤18∧b.length≤18∧C2 a=true∧C2 b=true then _ else _)=_;rw [if_pos hc]) z6 .nil fun _ _ _ _=>?_;have h1:=b8a hc.2.2.1 hc.1;have h2:=b8a hc.2.2.2 hc.2.1;refine Zq ?_;intros;refine s6 (hfn 254 _ rfl) ⟨s3 a+s3 b,oM⟩ (r:=.c (.s (s4 (s3 a+s3 b)))) rfl z6 .nil fun _ _ _ _=>?_;refine Zq ?_;intros;exact s9 ⟨.ret _ _ z6,.nil⟩
 ·refine s6 hs ⟨((a,b),18),ha,hbl,show 18≤18 by decide⟩ (r:=.t [.c (.i .i64 0),.c (.i .i64 0),.c (.b false)]) (by show (if a.length≤18∧b.length≤18∧C2 a=true∧C2 b=true then _ else _)=_;rw [if_neg hc]) z6 .nil fun _ _ _ _=>?_;refine Zq ?_;intros;refine s6 hp ⟨a,by show a.length < 90000;omega⟩ (r:=.a (J0 (decide (s3 a < 0)) (s3 a).natAbs)) rfl z6 .nil fun _ _ hv1 _=>?_;refine H3 hv1 rfl fun _ hv1=>?_;refine Zq ?_;intros;refine s6 hp ⟨b,by show b.length < 90000;omega⟩ (r:=.a (J0 (decide (s3 b < 0)) (s3 b).natAbs)) rfl z6 .nil fun _ _ hv2 _=>?_;refine H3 hv2 rfl fun _ hv2=>?_;refine Zq ?_;intros;refine s6 (hfn 255 _ rfl) ⟨((decide (s3 a < 0),(s3 a).natAbs),(decide (s3 b < 0),(s3 b).natAbs)),by show (u3 (s3 a).natAbs).length < 19990;omega,by show (u3 (s3 b).natAbs).length < 19990;omega⟩ (r:=.a (J0 _ _)) rfl (.k (.a _ _ _ rfl hv1) (.k (.a _ _ _ rfl hv2) .nil)) .nil fun _ _ hv3 _=>?_;refine H3 hv3 rfl fun _ hv3=>?_;refine Zq ?_;intros;have lm:=e03 (na:=decide (s3 a < 0)) (nb:=decide (s3 b < 0)) la lb;refine s6 (hfn 257 _ rfl) ⟨(_,_),by show (u3 (a2h _ _ _ _).2).length < 20000;exact Nat.lt_trans lm dE⟩ (r:=.c (.s (s4 (s3 a+s3 b)))) (by show z8.ret (.c (.s (L1 (a2h _ _ _ _).1 (a2h _ _ _ _).2)))=_;rw [e04]) (.k (.a _ _ _ rfl hv3) .nil) .nil fun _ _ _ _=>?_;refine Zq ?_;intros;exact s9 ⟨.ret _ _ z6,.nil⟩
theorem d65:v8 263 (c1u fun a b=>.ret (.c (.i .i64 (V0 (s3 a) (s3 b))))):=A8 (fun fn h=>f03 h) [(256,_),(280,_)] (.cons a9o (.cons a5i .nil)) fun U fn hfn ⟨(a,b),ha,hbl⟩ vs bs hv hb=>by
 have hp:=hfn 256 _ rfl;have hc:=hfn 280 _ rfl;have ha:a.length < 8000:=ha;have hbl:b.length < 8000:=hbl;have hv:z7 [.c (.s a),.c (.s b)] vs:=hv;have hb:u0 [] bs:=hb;show t6 U _ fun v bs'=>A3 (.ret (.c (.i .i64 (V0 (s3 a) (s3 b))))) v∧u0 [] bs';have la:=a1d (s:=a) oM;have lb:=a1d (s:=b) oM;unfold f8m;refine Zq ?_;intros;refine s6 hp ⟨a,by show a.length < 90000;omega⟩ (r:=.a (J0 (decide (s3 a < 0)) (s3 a).natAbs)) rfl z6 .nil fun _ _ hv1 _=>?_;refine H3 hv1 rfl fun _ hv1=>?_;refine Zq ?_;intros;refine s6 hp ⟨b,by show b.length < 90000;omega⟩ (r:=.a (J0 (decide (s3 b < 0)) (s3 b).natAbs)) rfl z6 .nil fun _ _ hv2 _=>?_;refine H3 hv2 rfl fun _ hv2=>?_;have ho:=a6v (s3 a).natAbs (s3 b).natAbs;have ho':=a6v (s3 b).natAbs (s3 a).natAbs;have hv1:A7 [.b (decide (s3 a < 0)),.l (B8 (s3 a).natAbs)] _ 0:=hv1;have hv2:A7 [.b (decide (s3 b < 0)),.l (B8 (s3 b).natAbs)] _ 0:=hv2;by_cases hA:s3 a < 0 <;> by_cases hB:s3 b < 0 <;> simp only [hA,hB,decide_true,decide_false] at hv1 hv2
 ·have e:V0 (s3 a) (s3 b)=N1 (u3 (s3 b).natAbs) (u3 (s3 a).natAbs):=by rw [ho'];unfold V0;split <;> (split <;> (first | rfl | omega | (split <;> omega)))
  refine Zq ?_;intros;refine sQR (.kn false) fun x hx=>?_;refine Zq ?_;intros;refine s6 hc ⟨(u3 (s3 b).natAbs,u3 (s3 a).natAbs),by show (u3 (s3 b).natAbs).length < 20000;omega,by show (u3 (s3 a).natAbs).length < 20000;omega,trivial⟩ (r:=.c (.i .i64 (N1 (u3 (s3 b).natAbs) (u3 (s3 a).natAbs)))) rfl (.k (V4 aS) (.k (V4 aS) .nil)) .nil fun _ _ _ _=>?_;rw [e];refine Zq ?_;intros;exact s9 ⟨.ret _ _ z6,.nil⟩
 ·have e:V0 (s3 a) (s3 b)=-1:=by unfold V0;rw [if_pos oM]
  rw [e];refine Zq ?_;intros;exact s9 ⟨.ret _ _ z6,.nil⟩
 ·have e:V0 (s3 a) (s3 b)=1:=by unfold V0;rw [if_neg oM,if_pos oM]
  rw [e];refine Zq ?_;intros;refine sQR (.q _ _ aS) fun x hx=>?_;refine Zq ?_;intros;exact s9 ⟨.ret _ _ z6,.nil⟩
 ·have e:V0 (s3 a) (s3 b)=N1 (u3 (s3 a).natAbs) (u3 (s3 b).natAbs):=by rw [ho];unfold V0;split <;> (split <;> (first | rfl | omega | (split <;> omega)))
  refine Zq ?_;intros;refine sQR (.q _ _ aS) fun x hx=>?_;refine Zq ?_;intros;refine s6 hc ⟨(u3 (s3 a).natAbs,u3 (s3 b).natAbs),by show (u3 (s3 a).natAbs).length < 20000;omega,by show (u3 (s3 b).natAbs).length < 20000;omega,trivial⟩ (r:=.c (.i .i64 (N1 (u3 (s3 a).natAbs) (u3 (s3 b).natAbs)))) rfl (.k (V4 aS) (.k (V4 aS) .nil)) .nil fun _ _ _ _=>?_;rw [e];refine Zq ?_;intros;exact s9 ⟨.ret _ _ z6,.nil⟩
theorem c98 (n:Int):F4 n=if 9 < (s8 n.natAbs).length then (0,false) else (n,true):=by
 unfold F4;by_cases h:n.natAbs=0
 ·rw [h,C7,if_neg dE,if_neg dE]
 ·rw [X3 _ h]
theorem d03:v8 221 (sp1 fun s=>.ret (.t [.c (.i .i64 (F4 (s3 s)).1),.c (.b (F4 (s3 s)).2)])):=A8 (fun fn h=>f0e h) [(260,_),(262,_),(261,_)] (.cons c6y (.cons a1x (.cons g4k .nil))) fun U fn hfn ⟨s,hs⟩ vs bs hv hb=>by
 have hv:z7 [.c (.s s)] vs:=hv;have hb:u0 [] bs:=hb;show t6 U _ fun v bs'=>A3 (.ret (.t [.c (.i .i64 (F4 (s3 s)).1),.c (.b (F4 (s3 s)).2)])) v∧u0 [] bs';rw [c98];unfold f7u;refine Zq ?_;intros;refine s6 (hfn 260 _ rfl) ⟨s,hs⟩ (r:=.c (.i .i64 ((s8 (s3 s).natAbs).length:Nat))) rfl z6 .nil fun _ _ _ _=>?_;(refine Zq ?_;with_reducible repeat' first|intro _|apply aI)
 ·rw [if_pos oM];exact s9 ⟨.ret _ _ z6,.nil⟩
 ·rw [if_neg oM];refine s6 (hfn 262 _ rfl) ⟨s,hs⟩ (r:=.c (.s (K7 s))) rfl z6 .nil fun _ _ _ _=>?_;refine Zq ?_;intros;have e1:=a0l s;have e2:C2 (K7 s)=true:=by rw [e1];exact b1x _
  have e3:(K7 s).length≤18:=by
   rw [e1];unfold s4;split
   ·simp;omega
   ·omega
  refine s6 (hfn 261 _ rfl) ⟨K7 s,e2,e3⟩ (r:=.t [.c (.i .i64 (s3 s)),.nilI]) (by show z8.ret (.t [.c (.i .i64 (s3 (K7 s))),.nilI])=_;rw [b6i]) z6 .nil fun _ _ _ _=>?_;refine Zq ?_;intros;refine c4u aS ?_;refine Zq ?_;intros;exact s9 ⟨.ret _ _ z6,.nil⟩
theorem rgQ {U:C3} (e:U=CU) {gs:List G} {g:G} {x:Q} {i:Nat} (h:A7 gs x 0) (hi:gs[i]?=some g):RV (.c g) (.q (U.celQ x i)):=by
 subst e;have:=h.get hi;rw [Nat.zero_add] at this;exact .q _ _ this
theorem d66:v8 222 (spI fun n=>.c (.s (s4 n))):=A8 (fun fn h=>f0f h) [(94,_)] (.cons b4p .nil) fun U fn hfn ⟨n,hn⟩ vs bs hv hb=>by
 change z7 [.c (.i .i64 n)] vs at hv;change u0 [] bs at hb;show t6 U _ fun v bs'=>A3 (.ret (.c (.s (s4 n)))) v∧u0 [] bs';unfold f7v;refine Zz ?_;intros;refine s6 (hfn 94 _ rfl) ⟨n,hn⟩ (r:=.c (.s (s4 n))) rfl z6 .nil fun _ _ _ _=>?_;refine Zz ?_;intros;exact s9 ⟨.ret _ _ z6,.nil⟩
def g5r (g:Int→GV):Sp where
 ι:=Int
 A n:=[.c (.s (s4 n))]
 B _:=[]
 R n:=.ret (g n)
 B' _:=[]
 inj i j vs bs h k _ _:=by
  obtain ⟨_,_,h1,k1,h,k⟩:=h.two k;rw [R4 (T2 h1 k1)];exact ⟨rfl,rfl⟩
theorem f5f (n:Int):(O.num n 1).g=[.i .i64 1,.s (s4 n),.s [49],.s [],.s [],.s [],.l []]:=by
 show [G.i .i64 1,.s (s4 n),.s (s8 1),.s [],.s [],.s [],.l []]=_;rw [R6];rfl
theorem c2t:v8 216 (g5r fun n=>.a (O.num n 1).g):=A8 (fun fn h=>e99 h) [] .nil fun U fn hfn (n:Int) vs bs hv hb=>by
 change z7 [.c (.s (s4 n))] vs at hv;change u0 [] bs at hb;show t6 U _ fun v bs'=>A3 (.ret (.a (O.num n 1).g)) v∧u0 [] bs';unfold f7p;refine Zz ?_;intros;exact s9 ⟨.ret _ _ (by rw [f5f];exact .ag _ _ (by (exact Zru))),.nil⟩
theorem c4n:v8 161 (spI fun n=>.a (O.num n 1).g):=A8 (fun fn h=>e9k h) [(222,_),(216,_)] (.cons d66 (.cons c2t .nil)) fun U fn hfn ⟨n,hn⟩ vs bs hv hb=>by
 change z7 [.c (.i .i64 n)] vs at hv;change u0 [] bs at hb;show t6 U _ fun v bs'=>A3 (.ret (.a (O.num n 1).g)) v∧u0 [] bs';unfold f6x;refine Zz ?_;intros;refine s6 (hfn 222 _ rfl) ⟨n,hn⟩ (r:=.c (.s (s4 n))) rfl z6 .nil fun _ _ _ _=>?_;refine Zz ?_;intros;refine s6 (hfn 216 _ rfl) n (r:=.a (O.num n 1).g) rfl z6 .nil fun _ _ _ _=>?_;refine Zz ?_;intros;exact s9 ⟨.ret _ _ oV,.nil⟩
theorem b8w:v8 215 (spO fun a=>.a (O.num a.na a.da).g):=A8 (fun fn h=>e98 h) [(161,_)] (.cons c4n .nil) fun U fn hfn (a:O) vs bs hv hb=>by
 change z7 [.a a.g] vs at hv;change u0 [] bs at hb;show t6 U _ fun v bs'=>A3 (.ret (.a (O.num a.na a.da).g)) v∧u0 [] bs';unfold f7o;rw [a.g_eq] at hv;cases a with
 | num n d =>
  simp only [O.k,O.nu,O.de,O.sym,O.txt,O.ps] at hv;refine Zz ?_;intros;exact s9 ⟨.ret _ _ oV,.nil⟩
 | _ =>
  simp only [O.k,O.nu,O.de,O.sym,O.txt,O.ps] at hv;refine Zz ?_;intros;refine s6 (hfn 161 _ rfl) ⟨0,dE⟩ (r:=.a (O.num 0 1).g) rfl z6 .nil fun _ _ _ _=>?_;refine Zz ?_;intros;exact s9 ⟨.ret _ _ oV,.nil⟩
theorem f4t:v8 227 (spO fun a=>.a (O.num a.na a.da).g):=A8 (fun fn h=>f0k h) [(161,_)] (.cons c4n .nil) fun U fn hfn (a:O) vs bs hv hb=>by
 change z7 [.a a.g] vs at hv;change u0 [] bs at hb;show t6 U _ fun v bs'=>A3 (.ret (.a (O.num a.na a.da).g)) v∧u0 [] bs';unfold f70;rw [a.g_eq] at hv;cases a with
 | num n d =>
  simp only [O.k,O.nu,O.de,O.sym,O.txt,O.ps] at hv;refine Zz ?_;intros;exact s9 ⟨.ret _ _ oV,.nil⟩
 | _ =>
  simp only [O.k,O.nu,O.de,O.sym,O.txt,O.ps] at hv;refine Zz ?_;intros;refine s6 (hfn 161 _ rfl) ⟨0,dE⟩ (r:=.a (O.num 0 1).g) rfl z6 .nil fun _ _ _ _=>?_;refine Zz ?_;intros;exact s9 ⟨.ret _ _ oV,.nil⟩
def e37 (g:O→GV):Sp where
 ι:={ p:O // ok p }
 A p:=[.a p.1.g]
 B _:=[]
 R p:=.ret (g p.1)
 B' _:=[]
 inj i j vs bs h k _ _:=by
  obtain ⟨_,_,h1,k1,h,k⟩:=h.two k;rw [O.g_inj (h1.a_inj k1)];exact ⟨rfl,rfl⟩
def c4x (g:O→O→GV):Sp where
 ι:={ p:O × O // ok p.1∧ok p.2 }
 A p:=[.a p.1.1.g,.a p.1.2.g]
 B _:=[]
 R p:=.ret (g p.1.1 p.1.2)
 B' _:=[]
 inj i j vs bs h k _ _:=by
  obtain ⟨_,_,h1,k1,h,k⟩:=h.two k;obtain ⟨_,_,h2,k2,h,k⟩:=h.two k;rw [O.g_inj (h1.a_inj k1),O.g_inj (h2.a_inj k2)];exact ⟨rfl,rfl⟩
theorem O4 {a:O} (h:ok a):(s4 a.na).length≤102∧(s8 a.da).length≤102:=by
 obtain ⟨_,h⟩:=h;cases a with
 | num n d=>exact b8p h
 | _=>exact ⟨by show (s4 0).length≤102;decide,by show (s8 1).length≤102;rw [R6];decide⟩
theorem f5t {n:Int} {d:Nat} (h:(O.num n d).fm=true):qn n d=(n,d)∧0 < d:=by
 have h1:D6 (s4 n) (s8 d)=(s4 n,s8 d):=(of_decide_eq_true (show decide _=true from h)).1;rw [O9,u2,B3] at h1;injection h1 with h2 h3;have e1:=R4 h2;have e2:=P1 h3;refine ⟨Prod.ext e1 e2,?_⟩;rcases Nat.eq_zero_or_pos d with rfl | hp
 ·exfalso;have:(qn n ((0:Nat):Int)).2=1:=congrArg Prod.snd (if_pos rfl);omega
 ·exact hp
theorem a9q {a:O} (h:ok a):qn a.na a.da=(a.na,a.da)∧0 < a.da:=by
 obtain ⟨_,h⟩:=h;cases a with
 | num n d=>exact f5t h
 | _=>exact ⟨a9t 0,Nat.one_pos⟩
theorem d72 {n:Int} {d:Nat} (h:qn n d=(n,d)) (hd:0 < d):qn (-n) d=(-n,d):=by
 unfold qn at h ⊢;rw [if_neg oM] at h ⊢;injection h with h1 h2;rw [Int.natAbs_neg];refine Prod.ext ?_ h2;show (if (-n < 0)=((d:Int) < 0) then (1:Int) else -1) * _=-n;have hd0:¬(d:Int) < 0:=oM;rcases Int.lt_trichotomy n 0 with h | h | h
 ·rw [if_neg (show ¬((n < 0)=((d:Int) < 0)) from fun e=>hd0 (e.mp h))] at h1;rw [if_pos (propext ⟨fun k=>absurd k oM,fun k=>absurd k hd0⟩)];omega
 ·subst h;simp
 ·rw [if_pos (propext ⟨fun k=>absurd k oM,fun k=>absurd k hd0⟩)] at h1;rw [if_neg (show ¬((-n < 0)=((d:Int) < 0)) from fun e=>hd0 (e.mp (show -n < 0 by omega)))];omega
theorem d1m {a:O} (h:ok a):b06 a=.num (-a.na) a.da:=by
 unfold b06 K2;rw [d72 (a9q h).1 (a9q h).2]
theorem d3w:v8 225 (e37 fun a=>.a (b06 a).g):=A8 (fun fn h=>f0i h) [(215,_),(264,_)] (.cons b8w (.cons c60 .nil)) fun U fn hfn ⟨a,ha⟩ vs bs hv hb=>by
 change z7 [.a a.g] vs at hv;change u0 [] bs at hb;have hl:=O4 ha;show t6 U _ fun v bs'=>A3 (.ret (.a (b06 a).g)) v∧u0 [] bs';rw [d1m ha];unfold f7y;refine Zz ?_;intros;refine oR fun _ _=>?_;refine Zz ?_;intros;refine s6 (hfn 215 _ rfl) a (r:=.a [.i .i64 1,.s (s4 a.na),.s (s8 a.da),.s [],.s [],.s [],.l []]) rfl oA .nil fun _ _ _ _=>?_;refine Zz ?_;intros;refine s6 (hfn 264 _ rfl) ⟨s4 a.na,show (s4 a.na).length < 90000 by omega⟩ (r:=.c (.s (s4 (-a.na)))) (by show z8.ret (.c (.s (c7i (s4 a.na))))=_;rw [c7i,u2]) z6 .nil fun _ _ _ _=>?_;refine Zz ?_;intros;refine P0 fun e9=>⟨.ret _ _ (.ag _ _ ?_),.nil⟩
 repeat' first | exact z7.nil | apply z7.cons | exact rgQ e9 aS (by rfl) | (exact z6)
theorem c61:v8 226 (e37 fun a=>.a (c1k a).g):=A8 (fun fn h=>f0j h) [(215,_),(218,_)] (.cons b8w (.cons (a5j kIS) .nil)) fun U fn hfn ⟨a,ha⟩ vs bs hv hb=>by
 change z7 [.a a.g] vs at hv;change u0 [] bs at hb;have hl:=O4 ha;show t6 U _ fun v bs'=>A3 (.ret (.a (c1k a).g)) v∧u0 [] bs';unfold f7z;refine Zz ?_;intros;refine oR fun _ _=>?_;refine Zz ?_;intros;refine s6 (hfn 215 _ rfl) a (r:=.a (O.num a.na a.da).g) rfl oA .nil fun _ _ _ _=>?_;refine Zz ?_;intros;refine s6 (hfn 218 _ rfl) ⟨(s8 a.da,s4 a.na),show (s8 a.da).length < 8000 by omega,show (s4 a.na).length < 8000 by omega⟩ (r:=.a (c1k a).g) (by show z8.ret (.a (K2 (qn (s3 (s8 a.da)) (s3 (s4 a.na)))).g)=_;rw [u2,B3];rfl) z6 .nil fun _ _ _ _=>?_;refine Zz ?_;intros;exact s9 ⟨.ret _ _ oV,.nil⟩
theorem M4 {x y:Int} (hx:(s4 x).length≤102) (hy:(s4 y).length≤102):(s4 (x * y)).length≤210:=by
 have:=e2p x y;omega
theorem Z1 {a:O} (h:ok a):(s4 (a.da:Int)).length≤102:=by rw [a2v];exact (O4 h).2
theorem d69:v8 156 (c4x fun a b=>.a (Y5 a b).g):=A8 (fun fn h=>e9f h) [(215,_),(219,_),(218,_)] (.cons b8w (.cons b0w (.cons (a5j kIS) .nil))) fun U fn hfn ⟨(a,b),ha,hbx⟩ vs bs hv hb=>by
 have hf:=hfn 215 _ rfl;have hm:=hfn 219 _ rfl;change z7 [.a a.g,.a b.g] vs at hv;have ha:ok a:=ha;have hbx:ok b:=hbx;change u0 [] bs at hb;have a1:=O4 ha;have b1:=O4 hbx;have l1:=M4 a1.1 b1.1;have l4:=M4 (Z1 ha) (Z1 hbx);show t6 U _ fun v bs'=>A3 (.ret (.a (Y5 a b).g)) v∧u0 [] bs';unfold f6s;refine Zz ?_;intros;refine oR fun _ _=>?_;refine Zz ?_;intros;refine oR fun _ _=>?_;refine Zz ?_;intros;refine s6 hf a (r:=.a (O.num a.na a.da).g) rfl oA .nil fun _ _ _ _=>?_;refine Zz ?_;intros;refine s6 hf b (r:=.a (O.num b.na b.da).g) rfl oA .nil fun _ _ _ _=>?_;refine Zz ?_;intros;refine s6 hm ⟨(s4 a.na,s4 b.na),show (s4 a.na).length < 8000 by omega,show (s4 b.na).length < 8000 by omega⟩ (r:=.c (.s (s4 (a.na * b.na)))) (by show z8.ret (.c (.s (s4 (s3 (s4 a.na) * s3 (s4 b.na)))))=_;rw [u2,u2]) z6 .nil fun _ _ _ _=>?_;refine Zz ?_;intros;refine s6 hm ⟨(s8 a.da,s8 b.da),show (s8 a.da).length < 8000 by omega,show (s8 b.da).length < 8000 by omega⟩ (r:=.c (.s (s4 (a.da * b.da:Nat)))) (by show z8.ret (.c (.s (s4 (s3 (s8 a.da) * s3 (s8 b.da)))))=_;rw [B3,B3,← Int.natCast_mul]) z6 .nil fun _ _ _ _=>?_;refine Zz ?_;intros;refine s6 (hfn 218 _ rfl) ⟨(s4 (a.na * b.na),s4 (a.da * b.da:Nat)),show (s4 (a.na * b.na)).length < 8000 by omega,show (s4 (a.da * b.da:Nat)).length < 8000 by rw [Int.natCast_mul];omega⟩ (r:=.a (Y5 a b).g) (by show z8.ret (.a (K2 (qn (s3 (s4 (a.na * b.na))) (s3 (s4 (a.da * b.da:Nat))))).g)=_;rw [u2,u2,Int.natCast_mul];rfl) z6 .nil fun _ _ _ _=>?_;refine Zz ?_;intros;exact s9 ⟨.ret _ _ oV,.nil⟩
theorem e8h:s5 1 49=P5:=dE
theorem d6k {n:Nat} (h:s8 n=s5 1 49):n=1:=P1 (h.trans (by rw [e8h,R6]))
theorem b0d {x y:Int} (hx:(s4 x).length≤210) (hy:(s4 y).length≤210):(s4 (x+y)).length≤500:=by
 have:=e6s x y;omega
theorem f1w {a b:O} (ha:a.da=1) (hb:b.da=1):a0b a b=.num (a.na+b.na) 1:=by
 unfold a0b K2;rw [ha,hb];show O.num (qn (a.na * 1+b.na * 1) 1).1 (qn (a.na * 1+b.na * 1) 1).2=_;rw [Int.mul_one,Int.mul_one,a9t]
theorem g4u:v8 155 (c4x fun a b=>.a (a0b a b).g):=A8 (fun fn h=>e9e h) [(215,_),(219,_),(217,_),(216,_),(218,_)] (.cons b8w (.cons b0w (.cons g4j (.cons c2t (.cons (a5j kIS) .nil))))) fun U fn hfn ⟨(a,b),ha,hbx⟩ vs bs hv hb=>by
 have hf:=hfn 215 _ rfl;have hm:=hfn 219 _ rfl;have hd:=hfn 217 _ rfl;change z7 [.a a.g,.a b.g] vs at hv;have ha:ok a:=ha;have hbx:ok b:=hbx;change u0 [] bs at hb;have a1:=O4 ha;have b1:=O4 hbx;have l1:=M4 a1.1 (Z1 hbx);have l2:=M4 b1.1 (Z1 ha);have l3:=b0d l1 l2;have l4:=M4 (Z1 ha) (Z1 hbx);show t6 U _ fun v bs'=>A3 (.ret (.a (a0b a b).g)) v∧u0 [] bs';unfold f6r;refine Zz ?_;intros;refine oR fun _ _=>?_;refine Zz ?_;intros;refine oR fun _ _=>?_;refine Zz ?_;intros;refine s6 hf a (r:=.a [.i .i64 1,.s (s4 a.na),.s (s8 a.da),.s [],.s [],.s [],.l []]) rfl oA .nil fun _ _ _ _=>?_;refine Zz ?_;intros;refine s6 hf b (r:=.a [.i .i64 1,.s (s4 b.na),.s (s8 b.da),.s [],.s [],.s [],.l []]) rfl oA .nil fun _ _ _ _=>?_;(refine Zz ?_;with_reducible repeat' first|intro _|apply aI)
 ·rw [f1w (d6k aS) (d6k aS)];have:=b0d (x:=a.na) (y:=b.na) oM oM;refine s6 hd ⟨(s4 a.na,s4 b.na),show (s4 a.na).length < 8000 by omega,show (s4 b.na).length < 8000 by omega⟩ (r:=.c (.s (s4 (a.na+b.na)))) (by show z8.ret (.c (.s (s4 (s3 (s4 a.na)+s3 (s4 b.na)))))=_;rw [u2,u2]) z6 .nil fun _ _ _ _=>?_;refine Zz ?_;intros;refine s6 (hfn 216 _ rfl) (a.na+b.na) (r:=.a (O.num (a.na+b.na) 1).g) rfl z6 .nil fun _ _ _ _=>?_;refine Zz ?_;intros;exact s9 ⟨.ret _ _ oV,.nil⟩
 all_goals
  refine s6 hm ⟨(s4 a.na,s8 b.da),show (s4 a.na).length < 8000 by omega,show (s8 b.da).length < 8000 by omega⟩ (r:=.c (.s (s4 (a.na * b.da)))) (by show z8.ret (.c (.s (s4 (s3 (s4 a.na) * s3 (s8 b.da)))))=_;rw [u2,B3]) z6 .nil fun _ _ _ _=>?_;refine Zz ?_;intros;refine s6 hm ⟨(s4 b.na,s8 a.da),show (s4 b.na).length < 8000 by omega,show (s8 a.da).length < 8000 by omega⟩ (r:=.c (.s (s4 (b.na * a.da)))) (by show z8.ret (.c (.s (s4 (s3 (s4 b.na) * s3 (s8 a.da)))))=_;rw [u2,B3]) z6 .nil fun _ _ _ _=>?_;refine Zz ?_;intros;refine s6 hd ⟨(s4 (a.na * b.da),s4 (b.na * a.da)),show (s4 (a.na * b.da)).length < 8000 by omega,show (s4 (b.na * a.da)).length < 8000 by omega⟩ (r:=.c (.s (s4 (a.na * b.da+b.na * a.da)))) (by show z8.ret (.c (.s (s4 (s3 (s4 (a.na * b.da))+s3 (s4 (b.na * a.da))))))=_;rw [u2,u2]) z6 .nil fun _ _ _ _=>?_;refine Zz ?_;intros;refine s6 hm ⟨(s8 a.da,s8 b.da),show (s8 a.da).length < 8000 by omega,show (s8 b.da).length < 8000 by omega⟩ (r:=.c (.s (s4 (a.da * b.da:Nat)))) (by show z8.ret (.c (.s (s4 (s3 (s8 a.da) * s3 (s8 b.da)))))=_;rw [B3,B3,← Int.natCast_mul]) z6 .nil fun _ _ _ _=>?_;refine Zz ?_;intros;refine s6 (hfn 218 _ rfl) ⟨(s4 (a.na * b.da+b.na * a.da),s4 (a.da * b.da:Nat)),show (s4 (a.na * b.da+b.na * a.da)).length < 8000 by omega,show (s4 (a.da * b.da:Nat)).length < 8000 by rw [Int.natCast_mul];omega⟩ (r:=.a (a0b a b).g) (by show z8.ret (.a (K2 (qn (s3 (s4 (a.na * b.da+b.na * a.da))) (s3 (s4 (a.da * b.da:Nat))))).g)=_;rw [u2,u2,Int.natCast_mul];rfl) z6 .nil fun _ _ _ _=>?_;refine Zz ?_;intros;exact s9 ⟨.ret _ _ oV,.nil⟩
theorem e1c {x y d:Int} (hd:0 < d):V0 (x * d) (y * d)=V0 x y:=by
 unfold V0;by_cases h:x < y
 ·rw [if_pos h,if_pos (Int.mul_lt_mul_of_pos_right h hd)]
 ·have h':¬x * d < y * d:=fun k=>h (Int.lt_of_mul_lt_mul_right k (Int.le_of_lt hd));rw [if_neg h,if_neg h'];by_cases k:y < x
  ·rw [if_pos k,if_pos (Int.mul_lt_mul_of_pos_right k hd)]
  ·have k':¬y * d < x * d:=fun e=>k (Int.lt_of_mul_lt_mul_right e (Int.le_of_lt hd));rw [if_neg k,if_neg k']
def h0y:Sp where
 ι:={ p:O × O // ok p.1∧ok p.2 }
 A p:=[.a (O.num p.1.1.na p.1.1.da).g,.a (O.num p.1.2.na p.1.2.da).g]
 B _:=[]
 R p:=.ret (.c (.i .i64 (V0 (p.1.1.na * p.1.2.da) (p.1.2.na * p.1.1.da))))
 B' _:=[]
 inj i j vs bs h k _ _:=by
  obtain ⟨_,_,h1,k1,h,k⟩:=h.two k;obtain ⟨_,_,h2,k2,h,k⟩:=h.two k;have e1:=O.g_inj (h1.a_inj k1);have e2:=O.g_inj (h2.a_inj k2);injection e1 with e1 e3;injection e2 with e2 e4;rw [e1,e2,e3,e4];exact ⟨rfl,rfl⟩
theorem e75:v8 223 h0y:=A8 (fun fn h=>f0g h) [(263,_),(219,_)] (.cons d65 (.cons b0w .nil)) fun U fn hfn ⟨(a,b),ha,hbx⟩ vs bs hv hb=>by
 have hc:=hfn 263 _ rfl;have hm:=hfn 219 _ rfl;change z7 [.a (O.num a.na a.da).g,.a (O.num b.na b.da).g] vs at hv;have ha:ok a:=ha;have hbx:ok b:=hbx;change u0 [] bs at hb;have a1:=O4 ha;have b1:=O4 hbx;have l1:=M4 a1.1 (Z1 hbx);have l2:=M4 b1.1 (Z1 ha);show t6 U _ fun v bs'=>A3 (.ret (.c (.i .i64 (V0 (a.na * b.da) (b.na * a.da))))) v∧u0 [] bs';unfold f7w;(refine Zz ?_;with_reducible repeat' first|intro _|apply aI)
 ·have e:a.da=b.da:=P1 aS;have hp:=(a9q ha).2;refine s6 hc ⟨(s4 a.na,s4 b.na),show (s4 a.na).length < 8000 by omega,show (s4 b.na).length < 8000 by omega⟩ (r:=.c (.i .i64 (V0 (a.na * b.da) (b.na * a.da)))) (by show z8.ret (.c (.i .i64 (V0 (s3 (s4 a.na)) (s3 (s4 b.na)))))=_;rw [u2,u2,← e,e1c oM]) z6 .nil fun _ _ _ _=>?_;refine Zz ?_;intros;exact s9 ⟨.ret _ _ z6,.nil⟩
 ·refine s6 hm ⟨(s4 a.na,s8 b.da),show (s4 a.na).length < 8000 by omega,show (s8 b.da).length < 8000 by omega⟩ (r:=.c (.s (s4 (a.na * b.da)))) (by show z8.ret (.c (.s (s4 (s3 (s4 a.na) * s3 (s8 b.da)))))=_;rw [u2,B3]) z6 .nil fun _ _ _ _=>?_;refine Zz ?_;intros;refine s6 hm ⟨(s4 b.na,s8 a.da),show (s4 b.na).length < 8000 by omega,show (s8 a.da).length < 8000 by omega⟩ (r:=.c (.s (s4 (b.na * a.da)))) (by show z8.ret (.c (.s (s4 (s3 (s4 b.na) * s3 (s8 a.da)))))=_;rw [u2,B3]) z6 .nil fun _ _ _ _=>?_;refine Zz ?_;intros;refine s6 hc ⟨(s4 (a.na * b.da),s4 (b.na * a.da)),show (s4 (a.na * b.da)).length < 8000 by omega,show (s4 (b.na * a.da)).length < 8000 by omega⟩ (r:=.c (.i .i64 (V0 (a.na * b.da) (b.na * a.da)))) (by show z8.ret (.c (.i .i64 (V0 (s3 (s4 (a.na * b.da))) (s3 (s4 (b.na * a.da))))))=_;rw [u2,u2]) z6 .nil fun _ _ _ _=>?_;refine Zz ?_;intros;exact s9 ⟨.ret _ _ z6,.nil⟩
theorem f4v:v8 163 (c4x fun a b=>.c (.b (a7s a b))):=A8 (fun fn h=>e9m h) [(215,_),(223,_)] (.cons b8w (.cons e75 .nil)) fun U fn hfn ⟨(a,b),ha,hbx⟩ vs bs hv hb=>by
 have hf:=hfn 215 _ rfl;change z7 [.a a.g,.a b.g] vs at hv;have ha:ok a:=ha;have hbx:ok b:=hbx;change u0 [] bs at hb;show t6 U _ fun v bs'=>A3 (.ret (.c (.b (a7s a b)))) v∧u0 [] bs';unfold f6z;refine Zz ?_;intros;refine oR fun _ _=>?_;refine Zz ?_;intros;refine oR fun _ _=>?_;refine Zz ?_;intros;refine s6 hf a (r:=.a (O.num a.na a.da).g) rfl oA .nil fun _ _ _ _=>?_;refine Zz ?_;intros;refine s6 hf b (r:=.a (O.num b.na b.da).g) rfl oA .nil fun _ _ _ _=>?_;refine Zz ?_;intros;refine s6 (hfn 223 _ rfl) ⟨(a,b),ha,hbx⟩ (r:=.c (.i .i64 (V0 (a.na * b.da) (b.na * a.da)))) rfl (.k oV oA) .nil fun _ _ _ _=>?_;refine Zz ?_;intros;refine P0 fun e=>?_;subst e;exact ⟨.ret _ _ (rvB (by rw [c5i];rfl)),.nil⟩
end
end Go.Proofs.YtkojildpddaccaaGreatDoor
