/- The reference's arithmetic, on: Small, Divide. -/
import Derived.Test.YtkojildpddaccaaGreatDoorCJ3
set_option linter.all false
namespace Go.Proofs.YtkojildpddaccaaGreatDoor
open Go.Abs LQ
set_option maxRecDepth 100000
set_option maxHeartbeats 4000000
noncomputable section
def F4 (x:Int):Int × Bool:=if 9 < (t8 x.natAbs).length then (0,false) else (x,true)
theorem fdm {x q r:Int} {n:Nat} (hn:0 < n) (h1:r+n * q=x) (h2:0≤r) (h3:r < n):x.fdiv n=q∧x.fmod n=r:=by
 have h:=(Int.ediv_emod_unique (a:=x) (b:=n) (r:=r) (q:=q) oM).2 ⟨h1,h2,h3⟩;rw [Int.fdiv_eq_ediv_of_nonneg _ oM,Int.fmod_eq_emod_of_nonneg _ oM];exact h
theorem c4j {x:Int} {n:Nat} (hn:0 < n) (hx:x < 0) (hr:0 < x.natAbs % n):x.fdiv n=-(((x.natAbs / n+1:Nat)):Int)∧x.fmod n=((n - x.natAbs % n:Nat):Int):=by
 have h1:=Nat.div_add_mod x.natAbs n;have h2:=Nat.mod_lt x.natAbs hn;have h3:((n:Int) * ((x.natAbs / n:Nat):Int))+((x.natAbs % n:Nat):Int)=x.natAbs:=by rw [← Int.natCast_mul,← Int.natCast_add,h1]
 generalize x.natAbs / n=a at *;generalize x.natAbs % n=b at *;refine fdm hn ?_ oM oM;rw [Int.natCast_add,Int.mul_neg,Int.mul_add];generalize (n:Int) * (a:Int)=c at *;omega
theorem c4k {x:Int} {n:Nat} (hn:0 < n) (hx:x < 0) (hr:x.natAbs % n=0):x.fdiv n=-((x.natAbs / n:Nat):Int)∧x.fmod n=((x.natAbs % n:Nat):Int):=by
 have h1:=Nat.div_add_mod x.natAbs n;have h3:((n:Int) * ((x.natAbs / n:Nat):Int))+((x.natAbs % n:Nat):Int)=x.natAbs:=by rw [← Int.natCast_mul,← Int.natCast_add,h1]
 rw [hr] at *;generalize x.natAbs / n=a at *;refine fdm hn ?_ oM oM;rw [Int.mul_neg];generalize (n:Int) * (a:Int)=c at *;omega
theorem c4l {x:Int} {n:Nat} (hn:0 < n) (hx:¬x < 0):x.fdiv n=((x.natAbs / n:Nat):Int)∧x.fmod n=((x.natAbs % n:Nat):Int):=by
 have h1:=Nat.div_add_mod x.natAbs n;have h2:=Nat.mod_lt x.natAbs hn;have h3:((n:Int) * ((x.natAbs / n:Nat):Int))+((x.natAbs % n:Nat):Int)=x.natAbs:=by rw [← Int.natCast_mul,← Int.natCast_add,h1]
 generalize x.natAbs / n=a at *;generalize x.natAbs % n=b at *;refine fdm hn ?_ oM oM;generalize (n:Int) * (a:Int)=c at *;omega
def O.strT:O→u5
 | .tx s=>s
 | _=>[]
def Y4 (a:O):Int × Bool:=if a.isInt=true∧(t8 a.na.natAbs).length≤9∧0≤a.na∧a.na≤255 then (a.na,true) else (0,false)
def a1w:O→O→Int × Bool
 | .tx t,o=>if o.isInt=true∧(t8 o.na.natAbs).length≤9∧0≤o.na∧o.na < t.length then (o.na,true) else (0,false)
 | _,_=>(0,false)
theorem c00 (t:u5) (o:O):a1w (.tx t) o=if o.isInt=true∧(t8 o.na.natAbs).length≤9∧0≤o.na∧o.na < t.length then (o.na,true) else (0,false):=rfl
def O.isSy:O→Bool
 | .sy _=>true
 | _=>false
def O.isTx:O→Bool
 | .tx _=>true
 | _=>false
def O.isNu:O→Bool
 | .num _ _=>true
 | _=>false
theorem f5g (a:O):0≤(Y4 a).1∧(Y4 a).1≤255:=by
 unfold Y4;split
 ·rename_i h;exact h.2.2
 ·exact ⟨dE,dE⟩
theorem a4u:s3 P5=1:=by rw [← R6,B3];rfl
def O.ok (a:O):Prop:=a.fx∧a.sm∧0 < a.da
theorem O.ok.sl {a:O} (h:a.ok):a.strT.length < 9000:=by
 have h:=h.2.1;cases a with
 | tx s=>exact h
 | _=>exact Nat.zero_lt_succ _
theorem e1x {x:Int} {n:Nat} (hn:0 < n) (h:(s4 x).length < 2000):(s4 (x.fdiv n)).length < 9000:=by
 have h1:=R5 (x.fdiv n);have h2:=K8 x;have h3:(x.fdiv n).natAbs≤x.natAbs+1:=by
  have h5:=Nat.div_le_self x.natAbs n;by_cases hx:x < 0
  ·by_cases hr:x.natAbs % n=0
   ·rw [(c4k hn hx hr).1];generalize x.natAbs / n=q at *;omega
   ·rw [(c4j hn hx (Nat.pos_of_ne_zero hr)).1];generalize x.natAbs / n=q at *;omega
  ·rw [(c4l hn hx).1];generalize x.natAbs / n=q at *;omega
 have h10:(t8 10).length=2:=by rw [F2 dE,show 10 / 10=1 from rfl,F2 dE,show 1 / 10=0 from rfl,C7];rfl
 have h4:(t8 (x.fdiv n).natAbs).length≤(t8 x.natAbs).length+2:=by
  by_cases h0:x.natAbs=0
  ·have:=D8 (show (x.fdiv n).natAbs≤10 by omega);omega
  ·have h5:=D8 (show (x.fdiv n).natAbs≤x.natAbs * 10 by omega);have h6:=V1 x.natAbs 10;omega
 omega
theorem g9s {k:Nat} (h:k < 256):A5 1 ([UInt8.ofNat k].map bg) (.node (.int .u8 (k:Int)) .nil .nil) 0:=by
 have e:(UInt8.ofNat k).toNat=k:=by simp;omega
 have e2:[UInt8.ofNat k].map bg=[[.i .u8 (k:Int)]]:=by simp only [List.map,bg,e]
 rw [e2];exact .cons _ _ _ _ _ rfl (L0 (.i _ _)).1 (fun g e=>(L0 (.i _ _)).2 g e) (.nil _ _ _)
def H0 (s:u5) (a:O):O :=
 if s=s5 3 7496035 then b6f a else
 if s=s5 3 7496803 then b6g a else
 if s=s5 5 482972954467 then G0 a.isCo else
 if s=s5 7 31644423040104819 then G0 a.isSy else
 if s=s5 7 31638921304765555 then G0 a.isTx else
 if s=s5 9 2073844980909096591730 then G0 a.isNu else
 if s=s5 8 8102650174351109737 then G0 a.isInt else
 if s=s5 7 12716373585260149 then b06 a else
 if s=s5 7 13279323538681461 then c1k a else
 if s=s5 9 2110959975582353159534 then K2 (qn a.na 1) else
 if s=s5 11 138343872958643594702251364 then K2 (qn a.da 1) else
 if s=s5 5 491495844966 then K2 (qn (a.na.fdiv a.da) 1) else
 if s=s5 11 122618043001006431572687219 then .tx a.sym.2 else
 if s=s5 19 2261903658058535744205936875630873591400986995 then .tx a.sym.1 else
 if s=s5 13 8275754203313416711865239762035 then .num (a.strT.length:Int) 1 else
 if s=s5 11 125040764888893661906237794 then (if (Y4 a).2=true then .tx [UInt8.ofNat (Y4 a).1.toNat] else .tx []) else
 .no
end
end Go.Proofs.YtkojildpddaccaaGreatDoor
namespace Go.Abs
theorem f5p (n:Nat):2 ^ (8 * n)=256 ^ n:=by rw [Nat.pow_mul]
theorem d0o:∀ s:List UInt8,D0 s < 256 ^ s.length
 | []=>by simp [D0]
 | b :: l=>by
  have h1:=d0o l;have h2:=b.toNat_lt;simp only [D0,List.length_cons,Nat.pow_succ];omega
theorem b6h:∀ (l c:Nat),c < 256 ^ l→D0 (s5 l c)=c
 | 0,c,h=>by simp at h;subst h;rfl
 | l+1,c,h=>by
  rw [Nat.pow_succ] at h;simp only [s5,D0];rw [b6h l (c / 256) oM,UInt8.toNat_ofNat'];omega
theorem d9d {s:List UInt8} {a b:Nat} (h1:a≤b) (h2:b≤s.length):sSub (D0 s) a (b - a)=D0 ((s.take b).drop a):=by
 have h:=d2f (c:=D0 s) h1 h2;rw [E6] at h;rw [h,b6h];unfold sSub;show Nat.mod _ (1 <<< (8 * (b - a))) < _;rw [Nat.one_shiftLeft,f5p];exact Nat.mod_lt _ (Nat.pow_pos dE)
theorem c3i (x y:List UInt8):sCat x.length (D0 x) (D0 y)=D0 (x ++ y):=by
 have h:=d2b x.length (D0 x) y.length (D0 y);rw [E6,E6] at h;rw [h,b6h];unfold sCat;show Nat.mod (D0 x) (1 <<< (8 * x.length))+D0 y <<< (8 * x.length) < _;rw [Nat.one_shiftLeft,Nat.shiftLeft_eq,f5p,Nat.pow_add];have h1:=d0o y;have h2:Nat.mod (D0 x) (256 ^ x.length) < 256 ^ x.length:=Nat.mod_lt _ (Nat.pow_pos dE);have h3:=Nat.mul_le_mul_right (256 ^ x.length) h1;rw [Nat.succ_mul] at h3;rw [Nat.mul_comm (256 ^ x.length)];omega
theorem f1v {s:List UInt8} {a b:Nat} (h1:a≤b) (h2:b≤s.length):((s.take b).drop a).length=b - a:=by simp;omega
section
variable {U:C3} {P:K0→List Bx→Prop}
theorem e53 {s:List UInt8} {a b:Int} {K:Nat→Nat→Om} (h:0≤a∧a≤b∧b≤s.length) (k:t6 U (K ((s.take b.toNat).drop a.toNat).length (D0 ((s.take b.toNat).drop a.toNat))) P) :
  t6 U (U.fN (U.nSub (U.iNat b) (U.iNat a)) fun m=>U.fN (U.sSub (D0 s) (U.iNat a) m) fun d=>K m d) P:=fun e=>by
 have:=k e;subst e;rw [b0a,b0a];show ∃ v bs,K (iNat b - iNat a) (sSub (D0 s) (iNat a) (iNat b - iNat a))=some (v,bs)∧P v bs;rw [I6,I6,d9d (show a.toNat≤b.toNat by omega) oM,← f1v (s:=s) (show a.toNat≤b.toNat by omega) oM];exact this
theorem g5c {s:List UInt8} {a:Int} {K:Nat→Nat→Om} (h:0≤a∧a≤s.length) (k:t6 U (K (s.drop a.toNat).length (D0 (s.drop a.toNat))) P) :
  t6 U (U.fN (U.nSub (U.iNat (U.iOfN s.length)) (U.iNat a)) fun m=>U.fN (U.sSub (D0 s) (U.iNat a) m) fun d=>K m d) P:=fun e=>by
 have:=k e;subst e;refine e53 (b:=(s.length:Int)) ⟨h.1,h.2,Int.le_refl _⟩ ?_ rfl;rw [Int.toNat_natCast,List.take_length];exact fun _=>this
theorem d92 {n:Nat}:M9 U (U.iLe (U.iOfN n) (U.iOfN n)) (n≤n):=fun e=>by subst e;exact ⟨fun _=>Nat.le_refl _,fun _=>(a42 (U:=CU) rfl).2 (Int.le_refl _)⟩
theorem g5f {a b:Int} {K:Int→Om} (h:t6 U (K (a.tdiv b)) P):t6 U (U.fI (U.iQuo a b) K) P:=fun e=>by
 have:=h e;subst e;rw [T7];show ∃ v bs,K (iQuo a b)=some (v,bs)∧P v bs;rw [a9l];exact this
theorem g9v {k:IntKind} {n:Int} {x:Q} {K:IntKind→Int→Om} (hx:RG (.i k n) x) (h:t6 U (K k n) P):t6 U (U.cI0 x K) P:=fun e=>by
 have:=h e;subst e;cases hx;exact this
end
end Go.Abs
namespace Go.Proofs.YtkojildpddaccaaGreatDoor
open Go.Abs LQ
theorem Zq {p q:Prop} (k:q) (h:Tr p q:=by ((repeat' (first | (with_reducible apply Tr.all) | (with_reducible intro _) | (apply Tr.b;(case f=>first | exact a3x | exact Z4 aS | exact b7j | exact b1g aS | exact b45 | exact a4q aS | exact a9w | exact a9x aS | exact sP | exact sPR aS | exact sIV | exact sI aS | exact sBV | exact sBK | exact sB aS | exact sSV | exact sS aS | exact sA | exact H3 aS (by rfl) | exact b7k (by rfl) | exact c1p (by rfl) | exact b9o aS (by rfl) | exact c1q aS (by rfl) | exact c1o aS | exact sSl aS | exact sTu aS | exact sBo | exact Y8 aS (by rfl) | exact sBc | exact c8h aS | exact sBt | exact sBs | exact sBr | exact a2u aS | exact b48 aS | exact T3 aS (by rfl) | exact c8j aS (by rfl) | exact sCI' aS (by rfl) | exact sCB' aS (by rfl) | exact sCS aS | exact sCI aS | exact sCB aS | exact b3r (by first | omega | (simp only [List.length_map] at *;omega)) | exact b47 (by first | omega | (simp only [List.length_map] at *;omega)) | exact b9r | exact g5c (by first | omega | (simp only [List.length_map] at *;omega)) | exact e53 (by first | omega | (simp only [List.length_map] at *;omega)) | exact sCI0' aS (by rfl) | exact g9v aS | exact a90 | exact a93 | exact b9q | exact b3s | exact b3q | exact sfSubN | exact a92 | exact a91 | exact sfB | exact sJn | exact b9n | exact b9l | exact b9m | exact F1 aS (by (first | exact B7 O.g_len | exact B7 (fun _=>rfl))) | exact a83 aS (by (first | exact B7 O.g_len | exact B7 (fun _=>rfl))) | exact b9s (by first | omega | (simp only [List.length_map] at *;omega)) | exact b49 (by first | omega | (simp only [List.length_map] at *;omega)) | exact c8n aS (by first | assumption | omega | (simp only [List.length_map] at *;omega)) | exact sfT aS (by rfl))) | (apply Tr.chk;(case ht=>(repeat' (first | exact d92 | exact trT | exact trF | apply a32 | apply a3z | exact a31 | exact a30 | exact a43 | exact a42 | exact a41 | exact a1l | exact a1m | exact a1k | exact a1j | exact a1r | exact a33 | exact a87 | exact a68 | exact trS | exact trV)));(case hp=>first | omega | (simp only [List.length_map] at *;omega))) | (apply Tr.cnd;(case ht=>(repeat' (first | exact d92 | exact trT | exact trF | apply a32 | apply a3z | exact a31 | exact a30 | exact a43 | exact a42 | exact a41 | exact a1l | exact a1m | exact a1k | exact a1j | exact a1r | exact a33 | exact a87 | exact a68 | exact trS | exact trV))))));all_goals exact Tr.refl)):p:=h.go k
end Go.Proofs.YtkojildpddaccaaGreatDoor
