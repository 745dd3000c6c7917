/- The program's numbers: a text as limbs. -/
import Derived.Test.YtffaodopiifbkaaGreatDoorCEC
set_option linter.all false
namespace Go.Proofs.YtffaodopiifbkaaGreatDoor
open Go.Abs LQ Go.RowKit Go.Lib Go.Sort
set_option maxRecDepth 100000
set_option maxHeartbeats 4000000
noncomputable section
theorem f6x (l:List UInt8):∀ acc:Nat,(∀ c ∈ l,48≤c.toNat∧c.toNat≤57)→acc * 10 ^ l.length+C4 l≤4294967295→Lib.parseUintM 4294967295 acc l=.ok (acc * 10 ^ l.length+C4 l):=by
 induction l with
 | nil=>intro acc _ _;simp [Lib.parseUintM,C4,A6]
 | cons c r ih =>
  intro acc hd h
  obtain ⟨h1,h2⟩:=hd c (by simp)
  have e:C4 (c :: r)=(c.toNat - 48) * 10 ^ r.length+C4 r:=by
   rw [b8p]
   have:(bt [c] 0 - 48).toNat=c.toNat - 48:=by show (((c.toNat:Nat):Int) - 48).toNat=_;omega
   rw [this]
  rw [e,List.length_cons,Nat.pow_succ] at h ⊢
  have hp:1≤10 ^ r.length:=Nat.one_le_pow _ _ dE
  have e2:(acc * 10+(c.toNat - 48)) * 10 ^ r.length+C4 r=acc * (10 ^ r.length * 10)+((c.toNat - 48) * 10 ^ r.length+C4 r):=by
   rw [Nat.add_mul,Nat.mul_assoc,Nat.mul_comm 10,Nat.add_assoc]
  have hb:acc * 10+(c.toNat - 48)≤(acc * 10+(c.toNat - 48)) * 10 ^ r.length:=Nat.le_mul_of_pos_right _ hp
  rw [Lib.parseUintM,if_pos ⟨h1,h2⟩,if_neg oM,if_neg oM,ih _ (fun d hd'=>hd d (by simp [hd'])) (by rw [e2];exact h),e2]
theorem f0o {s:i6} (h:∀ j,j < s.length→48≤bt s j∧bt s j≤57):∀ c ∈ s,48≤c.toNat∧c.toNat≤57:=fun c hc=>by
 obtain ⟨j,hj,rfl⟩:=List.getElem_of_mem hc
 have:=h j hj
 unfold bt at this
 simp only [List.getD,List.getElem?_eq_getElem hj,Option.getD_some] at this
 omega
theorem f1e {s:i6} (h0:0 < s.length) (h9:s.length≤9) (h:∀ j,j < s.length→48≤bt s j∧bt s j≤57):Lib.parseUintB 32 s=.ok (C4 s):=by
 have hl:=c8l s h
 have hp:(10:Nat) ^ s.length≤10 ^ 9:=Nat.pow_le_pow_right dE h9
 have:=f6x s 0 (f0o h) (by rw [Nat.zero_mul];omega)
 rw [Nat.zero_mul,Nat.zero_add] at this
 unfold Lib.parseUintB
 rw [if_neg (by intro e;subst e;simp at h0)]
 exact this
def g1x:Sp where
 ι:={ s:i6 // 0 < s.length∧s.length≤9∧∀ j,j < s.length→48≤bt s j∧bt s j≤57 }
 A s:=[.c (.s s.1),.c (.i .i64 10),.c (.i .i64 32)]
 B _:=[]
 R s:=.ret (.t [.c (.i .u64 ((C4 s.1:Nat):Int)),.nilI])
 B' _:=[]
 inj i j vs bs h k _ _:=by
  obtain ⟨_,_,h1,k1,h,k⟩:=h.two k
  rw [I7 h1 k1];exact ⟨rfl,rfl⟩
theorem kPU:l5 221 g1x:=fun ⟨s,h0,h9,hd⟩ vs bs hv hb=>by
 change l8 [.c (.s s),.c (.i .i64 10),.c (.i .i64 32)] vs at hv
 cases hb
 refine ⟨.ret (.tuple [.int .u64 ((C4 s:Nat):Int),.nilIface]),[],fun hok=>?_,.ret _ _ (.t _ _ (.k (.i _ _) (.k .nilI .nil))),.nil⟩
 have hx:vs.map toD=[D.str s,.int .i64 10,.int .i64 32]:=by
  cases hv with
  | cons _ _ v _ h1 h2=>cases h2 with
   | cons _ _ v2 _ h2 h3=>cases h3 with
    | cons _ _ v3 _ h3 h4 =>
     cases h4
     rw [List.map_cons,List.map_cons,List.map_cons,c4q h1,d39 h2,d39 h3];rfl
 rw [hx]
 refine L1 (d:=.tuple [.int .u64 ((C4 s:Nat):Int),.nilIface]) Tryz.call221 fun w S M us hg hwi hr=>?_
 have hus:us=[.string ⟨s.toArray⟩,.int .i64 10,.int .i64 32]:=by
  cases hr with
  | cons _ _ _ _ r1 r2=>cases r2 with
   | cons _ _ _ _ r2 r3=>cases r3 with
    | cons _ _ _ _ r3 r4 =>
     cases r4;cases r1;cases r2;cases r3
     rename_i sb hs
     rw [d6g hs]
 subst hus
 refine (Any.strconv_ParseUint_10_at32_ok Tryz.laysPu14 ⟨s.toArray⟩ (by simp [ByteArray.size];omega) (C4 s) (f1e h0 h9 hd) w).mono ?_
 rintro e w' ⟨rfl,hw⟩
 have hb:Below w.heap.size w w':=by
  rcases hw with rfl | rfl
  ·exact Below.refl _ _
  ·exact Lib.bytesWorld_below _ _ _
 refine ⟨hb,_,S,rfl,⟨fun _ _ h=>h,fun _ _ h=>.inl h⟩,R0 hwi hb,.tuple _ _ (.k (.int _ _) (.k .nilIface .nil)),⟨(fun _ _ _ h=>by cases h),fun vs ds hv hd i u e h1 h2=>?_⟩⟩
 injection hv with hv
 injection hd with hd
 subst hv hd
 intro len c z he
 subst he
 match i with
 | 0=>simp at h2
 | 1=>simp at h2
 | i+2=>simp at h2
section
variable {U:x5} {P:L3→List Bx→Prop}
theorem f78 {v:V} {K:Om} (hv:RV .nilI v) (h:j6 U K P):j6 U (U.uNilI v K) P:=fun e=>by
 have:=h e;subst e;cases hv;exact this
theorem d7v {a:Int} {K:Int→Om} (h:j6 U (K (if 0 < a then a else 0)) P):j6 U (U.fI (U.isel (U.iLt 0 a) a 0) K) P :=
 f7i a7p (fun k=>by rw [if_pos k] at h;exact h) (fun k=>by rw [if_neg k] at h;exact h)
end
def a2u (neg:Bool) (n:Nat):List G:=[.b neg,.l (A5 n)]
theorem d0m {D:i6} {m:Nat} (hm:m≤D.length) (h9:9≤m):C4 (D.take m)=C4 (D.take (m - 9)) * 10 ^ 9+C4 ((D.take m).drop (m - 9)):=by
 have e:D.take m=D.take (m - 9) ++ (D.take m).drop (m - 9):=by
  have:=(List.take_append_drop (m - 9) (D.take m)).symm
  rw [List.take_take,Nat.min_eq_left oM] at this;exact this
 conv=>lhs;rw [e]
 rw [c2c]
 have:((D.take m).drop (m - 9)).length=9:=by simp;omega
 rw [this]
theorem c20 {D:i6} (h:∀ j,j < D.length→48≤bt D j∧bt D j≤57) (k m:Nat) (hm:m≤D.length):∀ j,j < ((D.take m).drop k).length→48≤bt ((D.take m).drop k) j∧bt ((D.take m).drop k) j≤57:=fun j hj=>by
 simp at hj
 have e:bt ((D.take m).drop k) j=bt D (k+j):=by
  rw [a3w];unfold bt;simp [List.getD,List.getElem?_take,show k+j < m by omega]
 rw [e];exact h _ oM
theorem d6p (a:List Nat) (d:Nat):m8 (a ++ [d])=m8 a+B9 ^ a.length * d:=by rw [U1,d4n]
theorem d9r {acc:List Nat} {d:Nat} {n:Int} (h:n=d):acc.map lg ++ [[.i .u32 n]]=(acc ++ [d]).map lg:=by subst h;simp [lg]
theorem f01 {a:List Nat} {d:Nat} (h:LQ.LB a) (hd:d < 1000000000):LQ.LB (a ++ [d]):=fun x hx=>by
 rcases List.mem_append.1 hx with hx | hx
 ·exact h x hx
 ·simp at hx;subst hx;exact hd
theorem d4a {D:i6} {acc:List Nat} {m k N:Nat} (hd:∀ j,j < D.length→48≤bt D j∧bt D j≤57) (hm:m≤D.length) (hk:k=m - 9) (he:m8 acc+B9 ^ acc.length * C4 (D.take m)=N) :
  C4 ((D.take m).drop k) < 1000000000∧m8 (acc ++ [C4 ((D.take m).drop k)])+B9 ^ (acc ++ [C4 ((D.take m).drop k)]).length * C4 (D.take k)=N:=by
 subst hk
 have hlt:=c8l _ (c20 hd (m - 9) m hm)
 have hl:((D.take m).drop (m - 9)).length≤9:=by simp;omega
 have h9:C4 ((D.take m).drop (m - 9)) < 1000000000:=Nat.lt_of_lt_of_le hlt (Nat.pow_le_pow_right dE hl)
 refine ⟨h9,?_⟩
 rw [d6p,← he,List.length_append,List.length_singleton,Nat.pow_succ]
 by_cases h:9≤m
 ·rw [d0m hm h]
  generalize C4 (D.take (m - 9))=a
  generalize C4 ((D.take m).drop (m - 9))=b
  rw [show (10:Nat) ^ 9=B9 from rfl,Nat.mul_add,Nat.mul_comm a B9,← Nat.mul_assoc]
  omega
 ·have e:m - 9=0:=oM
  rw [e,List.take_zero,List.drop_zero,show C4 ([]:i6)=0 by simp [C4,A6],Nat.mul_zero,Nat.add_zero]
theorem d41 (n:Nat):C4 (i7 n)=n:=by
 have hv:=A7 n
 have hok:=a5d n
 have hs:j7 (i7 n)=0:=by
  unfold j7;rw [if_neg];rintro ⟨h,h2⟩;have:=O4 n 0 h;omega
 unfold j0 at hv
 rw [if_pos hok,hs,if_neg dE] at hv
 unfold C4;omega
theorem e6p (s:i6):(i7 (j0 s).natAbs).length≤(N4 s).length∧(decide (((i7 (j0 s).natAbs).length:Int) < ((N4 s).length:Int))=decide (j0 s < 0)):=by
 rw [a2b]
 unfold j4
 split <;> simp <;> omega
theorem d7q:l5 201 (sp1 fun s=>.ret (.a (a2u (decide (j0 s < 0)) (j0 s).natAbs))):=n6 (fun fn h=>e75 h) [(176,_),(184,_),(221,_),(222,_)] (.cons a62 (.cons a1i (.cons kPU (.cons b8o .nil)))) fun U fn hfn ⟨s,hs⟩ vs bs hv hb=>by
 have hd:=hfn 176 _ rfl
 have ht:=hfn 184 _ rfl
 have hp:=hfn 221 _ rfl
 have hr:=hfn 222 _ rfl
 have hv:l8 [.c (.s s)] vs:=hv
 have hb:j5 [] bs:=hb
 have hs:s.length < 90000:=hs
 show j6 U _ fun v bs'=>l9 (.ret (.a (a2u (decide (j0 s < 0)) (j0 s).natAbs))) v∧j5 [] bs'
 unfold e3j
 (refine Zq ?_;intros)
 refine j3 hd ⟨s,hs⟩ (r:=.c (.s (N4 s))) rfl l6 .nil fun _ _ _ _=>?_
 have hl:=b1f s
 have h7:=e6p s
 (refine Zq ?_;intros)
 refine j3 ht ⟨(N4 s,n5 1 45),trivial⟩ (r:=.c (.s (i7 (j0 s).natAbs))) (by show s8.ret (.c (.s (F3 (N4 s) (n5 1 45))))=_;rw [b70,Z0,c7p]) l6 .nil fun _ _ _ _=>?_
 (refine Zq ?_;intros)
 generalize hD:i7 (j0 s).natAbs=D at *
 have hdig:∀ j,j < D.length→48≤bt D j∧bt D j≤57:=by rw [← hD];exact O4 _
 have hval:C4 D=(j0 s).natAbs:=by rw [← hD,d41]
 refine H0 (fun (p:Nat × List Nat) vs bs=>∃ (m:Nat) (acc:List Nat) (v bx:V) (ng:Bool) (v4:V),p=(m,acc)∧vs=[.ptr 0 0,.str (D.take m).length (p9 (D.take m)),.ptr 1 0,v4]∧bs=[.cells [bx,.slice .nil 0 0 0 .exact],.cells [.bool ng,v],.tok acc.length 1]∧(U=CU→ng=decide (j0 s < 0))∧a1c 2 1 (acc.map lg) v∧m≤D.length∧LQ.LB acc∧(9 * acc.length+m=D.length∨m=0∧9 * acc.length≤D.length+8)∧m8 acc+B9 ^ acc.length * C4 (D.take m)=(j0 s).natAbs∧RV (.c (.b false)) bx) (fun p=>p.1) (D.length,[]) ?_ (by simp only [C2];omega) ?_
 ·refine ⟨D.length,[],_,_,_,_,rfl,by simp only [List.take_length];rfl,rfl,fun e=>by subst e;rw [b5w];exact h7.2,.b rfl,Nat.le_refl _,fun d h=>(by cases h),by simp,by rw [← hval];simp [m8],.kn _⟩
 rintro self _ _ _ ⟨m,acc,v,bx,ng,v4,rfl,rfl,rfl,hng,htok,hm,hLB,hlen,he,hbx⟩ ih
 have hml:(D.take m).length=m:=by simp;omega
 (refine Zq ?_;with_reducible repeat' first|intro _|apply aI)
 ·refine d7v ?_
  obtain ⟨k,hk,hk2⟩:∃ k:Nat,k=m - 9∧(if 0 < ((D.take m).length:Int) - 9 then ((D.take m).length:Int) - 9 else 0)=(k:Int):=⟨m - 9,rfl,by split <;> omega⟩
  rw [hk2]
  have hkm:k≤m:=oM
  have hm0:0 < m:=oM
  (refine Zq ?_;intros)
  obtain ⟨s1,s2⟩:=d4a hdig hm hk he
  have hcl:((D.take m).drop k).length=m - k:=by simp;omega
  refine j3 hp ⟨(D.take m).drop k,oM,oM,c20 hdig k m hm⟩ (r:=.t [.c (.i .u64 ((C4 ((D.take m).drop k):Nat):Int)),.nilI]) rfl l6 .nil fun _ _ _ _=>?_
  (refine Zq ?_;intros)
  refine f78 aS ?_
  (refine Zq ?_;intros)
  refine a6a (m:=((C4 ((D.take m).drop k):Nat):Int)) rfl oM ?_
  (refine Zq ?_;intros)
  refine a12 aS (fun _=>L8 (by first | exact .i _ _ | exact .s _ _ _ rfl rfl | assumption)) (by rfl) (by simp) (by simp only [List.length_map];omega) fun _ _=>?_
  (refine Zq ?_;intros)
  have e1:List.drop (Int.toNat 0) (List.take ((k:Int)).toNat (D.take m))=D.take k:=by
   rw [Int.toNat_natCast,List.take_take,Nat.min_eq_left hkm];rfl
  rw [e1]
  refine ih (k,acc ++ [C4 ((D.take m).drop k)]) _ _ ?_ (by show k < m;omega)
  refine ⟨k,_,_,_,_,_,rfl,rfl,by rw [List.length_append];rfl,hng,.a _ _ (by simp) ?_,oM,f01 hLB s1,by rw [List.length_append,List.length_singleton];omega,s2,.b _⟩
  rw [← d9r (n:=((C4 ((D.take m).drop k):Nat):Int)) rfl]
  assumption
 ·have hm0:m=0:=oM
  subst hm0
  have e0:m8 acc=(j0 s).natAbs:=by
   rw [List.take_zero,show C4 ([]:i6)=0 by simp [C4,A6],Nat.mul_zero,Nat.add_zero] at he;exact he
  refine j3 hr ⟨acc,oM⟩ (r:=.sl 1 (A5 (j0 s).natAbs)) (by show s8.ret (.sl 1 ((G0 acc).map lg))=_;rw [a2f acc hLB,e0];rfl) l6 .nil fun _ _ _ _=>?_
  (refine Zq ?_;intros)
  exact L7 fun e=>by
   rw [hng e]
   exact ⟨.ret _ _ (.ag _ _ (.k (.b _) (.k (.cl _ _ _ _ _ (by simp [A5]) aS) .nil))),.nil⟩
end
end Go.Proofs.YtffaodopiifbkaaGreatDoor
namespace Go.Proofs.YtffaodopiifbkaaGreatDoor
open Go.Abs LQ
set_option maxRecDepth 100000
set_option maxHeartbeats 4000000
noncomputable section
section
variable {U:x5} {P:L3→List Bx→Prop}
theorem sQR {g:G} {v:V} {K:Q→Om} (hv:RV (.c g) v) (h:∀ x,RG g x→j6 U (K x) P):j6 U (U.uQ v K) P:=fun e=>by
 have h2:∃ x,CU.uQ v K=K x∧RG g x:=by
  cases hv with
  | b x=>exact ⟨_,rfl,.b x⟩
  | kn x=>exact ⟨_,rfl,.b x⟩
  | i k n=>exact ⟨_,rfl,.i k n⟩
  | s x l c h1 h2=>exact ⟨_,rfl,.s x l c h1 h2⟩
  | cl xs t n off len h1 h2=>exact ⟨_,rfl,.l xs t n off len h1 h2⟩
  | q _ x h=>exact ⟨_,rfl,h⟩
 obtain ⟨x,h3,h4⟩:=h2
 have:=h x h4 e
 subst e
 rw [h3];exact this
theorem e5j {x y:List UInt8} {l c1 c2:Nat} {K:Nat→Om} (h1:l=x.length) (e1:c1=p9 x) (e2:c2=p9 y) (k:j6 U (K (p9 (x ++ y))) P):j6 U (U.fN (U.sCat l c1 c2) K) P:=fun e=>by
 subst h1 e1 e2
 have:=k e
 subst e
 rw [b1g]
 show ∃ v bs,K (sCat x.length (p9 x) (p9 y))=some (v,bs)∧P v bs
 rw [c2t];exact this
end
theorem e05 {a b:Bool} {m n:Nat} (h:a2u a m=a2u b n):a=b∧m=n:=by
 simp only [a2u,List.cons.injEq,G.b.injEq,G.l.injEq,and_true] at h
 exact ⟨h.1,a92 h.2⟩
def W7:Sp where
 ι:={ p:Bool × Nat // (n7 p.2).length < 20000 }
 A p:=[.a (a2u p.1.1 p.1.2)]
 B _:=[]
 R p:=.ret (.c (.s (sgn p.1.1 p.1.2)))
 B' _:=[]
 inj i j vs bs h k _ _:=by
  obtain ⟨_,_,h1,k1,h,k⟩:=h.two k
  obtain ⟨e1,e2⟩:=e05 (h1.a_inj k1)
  rw [e1,e2];exact ⟨rfl,rfl⟩
theorem b9x (n:Nat):∀ r ∈ A5 n,r.length=1:=fun r hr=>by obtain ⟨_,_,rfl⟩:=List.mem_map.1 hr;rfl
theorem d25 {n:Nat} {x:Q} (h:RG (.l (A5 n)) x):RV (.sl 1 (A5 n)) (.q x):=.slq _ _ _ h (b9x n)
theorem a9a (n:Nat):(n7 n).length≤(j8 n).length:=by
 refine a91 ?_
 have h:=a28 (j8 n) (E0 n)
 rw [D3] at h
 exact Nat.lt_of_lt_of_le h (Nat.pow_le_pow_left dE _)
theorem e62 (n:Nat):sgn false n=i7 n:=b29 n
theorem g0n (hst:l5 203 W7):l5 178 (sp2 fun a b=>.ret (.c (.s (i7 (Nat.gcd (j0 a).natAbs (j0 b).natAbs))))):=n6 (fun fn h=>e70 h) [(201,_),(202,_),(203,_)] (.cons d7q (.cons c5f (.cons hst .nil))) fun U fn hfn ⟨(a,b),ha,hbl⟩ vs bs hv hb=>by
 have hp:=hfn 201 _ rfl
 have hd:=hfn 202 _ rfl
 have hs:=hfn 203 _ rfl
 have ha:a.length < 9000:=ha
 have hbl:b.length < 9000:=hbl
 have hv:l8 [.c (.s a),.c (.s b)] vs:=hv
 have hb:j5 [] bs:=hb
 show j6 U _ fun v bs'=>l9 (.ret (.c (.s (i7 (Nat.gcd (j0 a).natAbs (j0 b).natAbs))))) v∧j5 [] bs'
 have la:=a1z a
 have lb:=a1z b
 unfold e0v
 (refine Zq ?_;intros)
 refine j3 hp ⟨a,by show a.length < 90000;omega⟩ (r:=.a (a2u (decide (j0 a < 0)) (j0 a).natAbs)) rfl l6 .nil fun _ _ hv1 _=>?_
 have hv1:RV (.a [.b _,.l (A5 _)]) _:=hv1
 (refine Zq ?_;intros)
 refine j3 hp ⟨b,by show b.length < 90000;omega⟩ (r:=.a (a2u (decide (j0 b < 0)) (j0 b).natAbs)) rfl l6 .nil fun _ _ hv2 _=>?_
 have hv2:RV (.a [.b _,.l (A5 _)]) _:=hv2
 generalize (j0 a).natAbs=x at *
 generalize (j0 b).natAbs=y at *
 (refine Zq ?_;intros)
 refine H0 (fun (p:Nat × Nat) vs bs=>∃ (m n:Nat) (v1 v2:V),p=(m,n)∧vs=[v1,v2]∧bs=[]∧RV (.c (.l (A5 m))) v1∧RV (.c (.l (A5 n))) v2∧Nat.gcd m n=Nat.gcd x y∧(j8 m).length < 9000∧(j8 n).length < 9000) (fun p=>mu p.1 p.2) (x,y) ⟨x,y,_,_,rfl,rfl,rfl,.q _ _ aS,.q _ _ aS,rfl,oM,oM⟩ (show mu x y < C2 from e5b oM oM) ?_
 rintro self _ _ _ ⟨m,n,v1,v2,rfl,rfl,rfl,h1,h2,hg,hm,hn⟩ ih
 have lm:=a9a m
 have ln:=a9a n
 (refine Zq ?_;intros)
 refine sQR h1 fun x1 g1=>?_
 (refine Zq ?_;intros)
 refine sQR h2 fun x2 g2=>?_
 (refine Zq ?_;intros)
 refine b19 g2 (b9x n) fun t off ht=>?_
 (refine Zq ?_;with_reducible repeat' first|intro _|apply aI)
 ·have hn0:n ≠ 0:=by rintro rfl;simp [A5,H8] at *
  refine j3 hd ⟨(m,n),by show (n7 m).length < 20000;omega,by show (n7 n).length < 20000;omega,hn0,by show (n7 m).length < 9000;omega,by show (n7 n).length < 9000;omega⟩ (r:=.t [.sl 1 (A5 (m / n)),.sl 1 (A5 (m % n))]) rfl (.k (d25 g1) (.k (d25 g2) .nil)) .nil fun _ _ _ _=>?_
  (refine Zq ?_;intros)
  refine ih (n,m % n) _ _ ⟨n,m % n,_,_,rfl,rfl,rfl,.q _ _ g2,.cl _ _ _ _ _ (by simp [A5]) aS,?_,hn,Nat.lt_of_le_of_lt (Q7 (Nat.le_of_lt (Nat.mod_lt m (Nat.pos_of_ne_zero hn0)))) hn⟩ (d0w (Nat.pos_of_ne_zero hn0))
  rw [← hg,Nat.gcd_comm n (m % n),← Nat.gcd_rec n m,Nat.gcd_comm]
 ·have hn0:n=0:=by
   have:(A5 n).length=0:=oM
   simp only [A5,List.length_map,List.length_eq_zero_iff] at this
   exact c08 (this.trans H8.symm)
  subst hn0
  rw [Nat.gcd_zero_right] at hg
  subst hg
  refine j3 hs ⟨(false,Nat.gcd x y),by show (n7 (Nat.gcd x y)).length < 20000;omega⟩ (r:=.c (.s (i7 (Nat.gcd x y)))) (by show s8.ret (.c (.s (sgn false _)))=_;rw [e62]) (.k (.ag _ _ (.k (.kn _) (.k (.q _ _ g1) .nil))) .nil) .nil fun _ _ _ _=>?_
  (refine Zq ?_;intros)
  exact k9 ⟨.ret _ _ (.s _ _ _ rfl rfl),.nil⟩
theorem b5i (n:Int):0 < (j4 n).length:=by
 have:=N8 n.natAbs
 unfold j4;split <;> simp <;> omega
theorem a5v (n:Int):bt (j4 n) 0=45↔n < 0:=by
 unfold j4
 split
 ·rename_i h;exact ⟨fun _=>h,fun _=>rfl⟩
 ·rename_i h
  have:=O4 n.natAbs 0 (N8 _)
  exact ⟨fun k=>by omega,fun k=>absurd k h⟩
theorem c2e:j4 1=n5 1 49:=by
 show j4 ((1:Nat):Int)=_
 rw [Y7,a9b];decide
theorem b5k (n:Int):j4 n=n5 1 49↔n=1:=⟨fun h=>Z4 (h.trans c2e.symm),fun h=>by subst h;exact c2e⟩
theorem a2t (n:Int):j4 n=n5 1 48↔n=0:=⟨fun h=>Z4 (h.trans dE),fun h=>by subst h;decide⟩
theorem e9b:l5 177 (sp1 fun s=>.ret (.c (.s (e36 s)))):=n6 (fun fn h=>e6m h) [(176,_)] (.cons a62 .nil) fun U fn hfn ⟨s,hs⟩ vs bs hv hb=>by
 have hd:=hfn 176 _ rfl
 have hv:l8 [.c (.s s)] vs:=hv
 have hb:j5 [] bs:=hb
 have hs:s.length < 90000:=hs
 show j6 U _ fun v bs'=>l9 (.ret (.c (.s (e36 s)))) v∧j5 [] bs'
 unfold e0j
 (refine Zq ?_;intros)
 have hl:=b1f s
 refine j3 hd ⟨s,hs⟩ (r:=.c (.s (N4 s))) rfl l6 .nil fun _ _ _ _=>?_
 rw [a2b] at *
 unfold e36
 generalize j0 s=n at *
 have h0:=b5i n
 have hbt:(((j4 n).getD 0 0).toNat:Int)=bt (j4 n) 0:=rfl
 (refine Zq ?_;with_reducible repeat' first|intro _|apply aI)
 ·have e:n=0:=(a2t n).1 ‹_›
  subst e
  exact k9 ⟨.ret _ _ (.s _ _ _ rfl rfl),.nil⟩
 ·have e:n < 0:=(a5v n).1 ‹_›
  have e2:j4 (-n)=(j4 n).drop (Int.toNat 1):=by
   unfold j4
   rw [if_pos e,if_neg oM,Int.natAbs_neg];rfl
  rw [e2]
  exact k9 ⟨.ret _ _ (.s _ _ _ rfl rfl),.nil⟩
 ·have e:¬n < 0:=fun k=>‹¬(((j4 n).getD (Int.toNat 0) 0).toNat:Int)=45› ((a5v n).2 k)
  have e0:n ≠ 0:=fun k=>‹¬j4 n=n5 1 48› ((a2t n).2 k)
  have e2:j4 (-n)=[45] ++ j4 n:=by
   unfold j4
   rw [if_neg e,if_pos oM,Int.natAbs_neg]
  rw [e2]
  refine e5j (x:=[45]) (y:=j4 n) rfl rfl rfl ?_
  exact k9 ⟨.ret _ _ (.s _ _ _ (by simp;omega) rfl),.nil⟩
theorem d67 {s:i6} (h:s.length < 9000):(n7 (j0 s).natAbs).length < 9000:=by
 have:=a1z s
 have:=a9a (j0 s).natAbs
 omega
theorem f0b {a b:Int} (hb:0 < b) (hd:b ∣ a):sgn (decide (a < 0) != decide (b < 0)) (a.natAbs / b.natAbs)=j4 (a / b):=by
 obtain ⟨q,rfl⟩:=hd
 have h1:¬b < 0:=oM
 have hb':0 < b.natAbs:=oM
 rw [Int.mul_ediv_cancel_left _ oM,Int.natAbs_mul,Nat.mul_div_cancel_left _ hb',← e7b q]
 have:decide (b * q < 0)=decide (q < 0):=by
  rw [Bool.eq_iff_iff,decide_eq_true_iff,decide_eq_true_iff]
  constructor
  ·intro h
   by_cases hq:q < 0
   ·exact hq
   ·have:=Int.mul_nonneg (show 0≤b by omega) (show 0≤q by omega);omega
  ·intro h;exact Int.mul_neg_of_pos_of_neg hb h
 rw [this,decide_eq_false h1,Bool.bne_false]
theorem e1x {a b:Int} (hd:b ∣ a):a.natAbs % b.natAbs=0:=Nat.mod_eq_zero_of_dvd (Int.natAbs_dvd_natAbs.2 hd)
def g2j:Sp where
 ι:={ p:i6 × i6 // p.1.length < 9000∧p.2.length < 9000∧0 < j0 p.2∧j0 p.2 ∣ j0 p.1 }
 A p:=[.c (.s p.1.1),.c (.s p.1.2)]
 B _:=[]
 R p:=.ret (.t [.c (.s (j4 (j0 p.1.1 / j0 p.1.2))),.c (.s A9)])
 B' _:=[]
 inj i j vs bs h k _ _:=by
  obtain ⟨_,_,h1,k1,h,k⟩:=h.two k
  obtain ⟨_,_,h2,k2,h,k⟩:=h.two k
  rw [I7 h1 k1,I7 h2 k2];exact ⟨rfl,rfl⟩
theorem e6t (hst:l5 203 W7):l5 179 g2j:=n6 (fun fn h=>e77 h) [(201,_),(176,_),(202,_),(203,_)] (.cons d7q (.cons a62 (.cons c5f (.cons hst .nil)))) fun U fn hfn ⟨(a,b),ha,hbl,hb0,hba⟩ vs bs hv hb=>by
 have hp:=hfn 201 _ rfl
 have hd:=hfn 202 _ rfl
 have hs:=hfn 203 _ rfl
 have ha:a.length < 9000:=ha
 have hbl:b.length < 9000:=hbl
 have hb0:0 < j0 b:=hb0
 have hba:j0 b ∣ j0 a:=hba
 have hv:l8 [.c (.s a),.c (.s b)] vs:=hv
 have hb:j5 [] bs:=hb
 show j6 U _ fun v bs'=>l9 (.ret (.t [.c (.s (j4 (j0 a / j0 b))),.c (.s A9)])) v∧j5 [] bs'
 have la:=d67 ha
 have lb:=d67 hbl
 have e1:=f0b hb0 hba
 have e2:=e1x hba
 have hx0:(j0 b).natAbs ≠ 0:=oM
 have hq:(n7 ((j0 a).natAbs / (j0 b).natAbs)).length≤(n7 (j0 a).natAbs).length:=b0h (Nat.div_le_self _ _)
 unfold e1i
 (refine Zq ?_;intros)
 refine j3 hp ⟨a,by show a.length < 90000;omega⟩ (r:=.a (a2u (decide (j0 a < 0)) (j0 a).natAbs)) rfl l6 .nil fun _ _ hv1 _=>?_
 have hv1:RV (.a [.b _,.l (A5 _)]) _:=hv1
 (refine Zq ?_;intros)
 refine j3 hp ⟨b,by show b.length < 90000;omega⟩ (r:=.a (a2u (decide (j0 b < 0)) (j0 b).natAbs)) rfl l6 .nil fun _ _ hv2 _=>?_
 have hv2:RV (.a [.b _,.l (A5 _)]) _:=hv2
 generalize (j0 a).natAbs=x at *
 generalize (j0 b).natAbs=y at *
 have hly:(A5 y).length ≠ 0:=by
  intro e
  simp only [A5,List.length_map,List.length_eq_zero_iff] at e
  exact hx0 (c08 (e.trans H8.symm))
 (refine Zq ?_;intros)
 refine b19 aS (b9x y) fun t off ht=>?_
 (refine Zq ?_;with_reducible repeat' first|intro _|apply aI)
 ·exact absurd oM hly
 ·refine j3 hd ⟨(x,y),by show (n7 x).length < 20000;omega,by show (n7 y).length < 20000;omega,hx0,la,lb⟩ (r:=.t [.sl 1 (A5 (x / y)),.sl 1 (A5 0)]) (by show s8.ret (.t [.sl 1 (A5 (x / y)),.sl 1 (A5 (x % y))])=_;rw [e2]) (.k (d25 aS) (.k (d25 aS) .nil)) .nil fun _ _ _ _=>?_
  (refine Zq ?_;with_reducible repeat' first|intro _|apply aI)
  all_goals
   refine a7l (gs:=a2u (decide (j0 a < 0) != decide (j0 b < 0)) (x / y)) (.cells _ _ (.k (.b _) (.k (.cl _ _ _ _ _ (by simp [A5]) aS) .nil))) rfl fun _ hc1=>?_
   (refine Zq ?_;intros)
   refine a7l (gs:=a2u (decide (j0 b < 0)) 0) (.cells _ _ (.k (.q _ _ aS) (.k (.cl _ _ _ _ _ (by simp [A5]) aS) .nil))) rfl fun _ hc2=>?_
   (refine Zq ?_;with_reducible repeat' first|intro _|apply aI)
   all_goals first
   | exact absurd ‹0 < (((n7 0).length:Nat):Int)› (by simp [H8])
   | refine j3 hs ⟨(_,x / y),by show (n7 (x / y)).length < 20000;omega⟩ (r:=.c (.s (j4 (j0 a / j0 b)))) (by show s8.ret (.c (.s (sgn (decide (j0 a < 0) != decide (j0 b < 0)) (x / y))))=_;rw [e1]) (.cons _ _ _ _ (.a _ _ _ rfl aS) .nil) .nil fun _ _ _ _=>?_
     (refine Zq ?_;intros)
     refine j3 hs ⟨(decide (j0 b < 0),0),by show (n7 0).length < 20000;simp [H8]⟩ (r:=.c (.s A9)) rfl (.k (.a _ _ _ rfl aS) .nil) .nil fun _ _ _ _=>?_
     (refine Zq ?_;intros)
     exact k9 ⟨.ret _ _ l6,.nil⟩
theorem c7z (s:i6):j0 (N4 s)=j0 s:=by rw [a2b,r8]
theorem c99 {a b a' b':i6} (h1:j0 a=j0 a') (h2:j0 b=j0 b'):t7 a b=t7 a' b':=by unfold t7;rw [h1,h2]
def e2y (R:i6→i6→s8):Sp where
 ι:={ p:i6 × i6 // p.1.length < 8000∧p.2.length < 8000 }
 A p:=[.c (.s p.1.1),.c (.s p.1.2)]
 B _:=[]
 R p:=R p.1.1 p.1.2
 B' _:=[]
 inj i j vs bs h k _ _:=by
  obtain ⟨_,_,h1,k1,h,k⟩:=h.two k
  obtain ⟨_,_,h2,k2,h,k⟩:=h.two k
  rw [I7 h1 k1,I7 h2 k2];exact ⟨rfl,rfl⟩
theorem d0u (n:Int):(j4 (-n)).length≤(j4 n).length+1:=by
 unfold j4
 rw [Int.natAbs_neg]
 split <;> split <;> simp <;> omega
theorem f9q (x:Int):t7 (j4 x) (j4 0)=(A9,P2):=by unfold t7;rw [r8,if_pos rfl]
theorem f95 (x:Int):t7 (j4 x) (j4 1)=(j4 x,j4 1):=by
 rw [a4f x 1 dE]
 simp
theorem f00 (x y:Int):t7 (j4 x) (j4 y)=t7 (j4 (-x)) (j4 (-y)):=by
 rw [P8,P8]
 simp only [r8]
 have:qn x y=qn (-x) (-y):=by
  unfold qn
  rw [Int.natAbs_neg,Int.natAbs_neg]
  by_cases hy:y=0
  ·rw [if_pos hy,if_pos oM]
  ·rw [if_neg hy,if_neg (show ¬-y=0 by omega)]
   by_cases hx:x=0
   ·subst hx;simp <;> (intro h;exact absurd h hy)
   ·have e:(if (x < 0)=(y < 0) then (1:Int) else -1)=if (-x < 0)=(-y < 0) then 1 else -1:=by
     by_cases h1:x < 0 <;> by_cases h2:y < 0 <;> simp [h1,h2] <;> omega
    rw [e]
 rw [this]
theorem e7z {m n:Int} (hn:0 < n) (h:Nat.gcd m.natAbs n.natAbs=1):t7 (j4 m) (j4 n)=(j4 m,j4 n):=by
 rw [a4f m n hn,h];simp
theorem b58 (hst:l5 203 W7):l5 155 (e2y fun a b=>.ret (.t [.c (.s (t7 a b).1),.c (.s (t7 a b).2)])):=n6 (fun fn h=>e81 h) [(176,_),(177,_),(178,_),(179,_)] (.cons a62 (.cons e9b (.cons (g0n hst) (.cons (e6t hst) .nil)))) fun U fn hfn ⟨(a,b),ha,hbl⟩ vs bs hv hb=>by
 have hd:=hfn 176 _ rfl
 have hn:=hfn 177 _ rfl
 have hg:=hfn 178 _ rfl
 have hq:=hfn 179 _ rfl
 have ha:a.length < 8000:=ha
 have hbl:b.length < 8000:=hbl
 have hv:l8 [.c (.s a),.c (.s b)] vs:=hv
 have hb:j5 [] bs:=hb
 show j6 U _ fun v bs'=>l9 (.ret (.t [.c (.s (t7 a b).1),.c (.s (t7 a b).2)])) v∧j5 [] bs'
 unfold e09
 (refine Zq ?_;intros)
 refine j3 hd ⟨a,by show a.length < 90000;omega⟩ (r:=.c (.s (N4 a))) rfl l6 .nil fun _ _ _ _=>?_
 (refine Zq ?_;intros)
 refine j3 hd ⟨b,by show b.length < 90000;omega⟩ (r:=.c (.s (N4 b))) rfl l6 .nil fun _ _ _ _=>?_
 have la:(N4 a).length < 8000:=by have:=b1f a;omega
 have lb:(N4 b).length < 8000:=by have:=b1f b;omega
 rw [c99 (c7z a).symm (c7z b).symm]
 rw [a2b a,a2b b] at *
 generalize j0 a=x at *
 generalize j0 b=y at *
 have h0:=b5i y
 have hbt:(((j4 y).getD 0 0).toNat:Int)=bt (j4 y) 0:=rfl
 (refine Zy ?_;intros)
 refine O1 (fun vs bs=>∃ m n:Int,l8 [.c (.s (j4 m)),.c (.s (j4 n))] vs∧j5 [] bs∧0 < n∧(j4 m).length < 8500∧(j4 n).length < 8500∧t7 (j4 x) (j4 y)=t7 (j4 m) (j4 n)) ?_ ?_
 ·rintro vs' bs' ⟨m,n,hv',hb',hn0,hml,hnl,he⟩
  rw [he]
  have hgv:s8.ret (.c (.s (i7 (Nat.gcd (j0 (j4 m)).natAbs (j0 (j4 n)).natAbs))))=.ret (.c (.s (i7 (Nat.gcd m.natAbs n.natAbs)))):=by rw [r8,r8]
  obtain ⟨g,hge⟩:∃ g,g=Nat.gcd m.natAbs n.natAbs:=⟨_,rfl⟩
  rw [← hge] at hgv
  have hg0:0 < g:=by rw [hge];exact Nat.gcd_pos_of_pos_right _ oM
  have hgd:(g:Int) ∣ m∧(g:Int) ∣ n:=by
   rw [hge];exact ⟨Int.ofNat_dvd_left.2 (Nat.gcd_dvd_left _ _),Int.ofNat_dvd_left.2 (Nat.gcd_dvd_right _ _)⟩
  have hdv:j0 (i7 g)=(g:Int):=A7 g
  have hgl:(i7 g).length < 9000:=by
   have h1:=a88 g
   have h2:(j8 g).length≤(j8 n.natAbs).length:=Q7 (by rw [hge];exact Nat.le_of_dvd oM (Nat.gcd_dvd_right _ _))
   have h3:=c7k n
   omega
  (refine Zq ?_;intros)
  refine j3 hg ⟨(j4 m,j4 n),by show (j4 m).length < 9000;omega,by show (j4 n).length < 9000;omega⟩ (r:=.c (.s (i7 g))) hgv l6 .nil fun _ _ _ _=>?_
  (refine Zq ?_;with_reducible repeat' first|intro _|apply aI)
  ·have e1:g=1:=by
    have:=(b5k (g:Int)).1 (by rw [Y7];assumption)
    omega
   rw [e7z hn0 (by rw [← hge];exact e1)]
   exact k9 ⟨.ret _ _ l6,.nil⟩
  ·rw [a4f m n hn0,← hge]
   refine j3 hq ⟨(j4 m,i7 g),by show (j4 m).length < 9000;omega,hgl,by show 0 < j0 (i7 g);omega,by show j0 (i7 g) ∣ j0 (j4 m);rw [hdv,r8];exact hgd.1⟩ (r:=.t [.c (.s (j4 (m / g))),.c (.s A9)]) (by show s8.ret (.t [.c (.s (j4 (j0 (j4 m) / j0 (i7 g)))),.c (.s A9)])=_;rw [hdv,r8]) l6 .nil fun _ _ _ _=>?_
   (refine Zq ?_;intros)
   refine j3 hq ⟨(j4 n,i7 g),by show (j4 n).length < 9000;omega,hgl,by show 0 < j0 (i7 g);omega,by show j0 (i7 g) ∣ j0 (j4 n);rw [hdv,r8];exact hgd.2⟩ (r:=.t [.c (.s (j4 (n / g))),.c (.s A9)]) (by show s8.ret (.t [.c (.s (j4 (j0 (j4 n) / j0 (i7 g)))),.c (.s A9)])=_;rw [hdv,r8]) l6 .nil fun _ _ _ _=>?_
   (refine Zq ?_;intros)
   exact k9 ⟨.ret _ _ l6,.nil⟩
 ·intro c hc
  (refine Zq ?_;with_reducible repeat' first|intro _|apply aI)
  ·have e:y=0:=(a2t y).1 ‹_›
   subst e
   rw [f9q]
   exact k9 ⟨.ret _ _ l6,.nil⟩
  ·have e:y=1:=(b5k y).1 ‹_›
   subst e
   rw [f95]
   exact k9 ⟨.ret _ _ l6,.nil⟩
  ·have e:y < 0:=(a5v y).1 ‹_›
   refine j3 hn ⟨j4 x,by show (j4 x).length < 90000;omega⟩ (r:=.c (.s (j4 (-x)))) (by show s8.ret (.c (.s (j4 (-j0 (j4 x)))))=_;rw [r8]) l6 .nil fun _ _ _ _=>?_
   (refine Zq ?_;intros)
   refine j3 hn ⟨j4 y,by show (j4 y).length < 90000;omega⟩ (r:=.c (.s (j4 (-y)))) (by show s8.ret (.c (.s (j4 (-j0 (j4 y)))))=_;rw [r8]) l6 .nil fun _ _ _ _=>?_
   (refine Zq ?_;intros)
   have l1:=d0u x
   have l2:=d0u y
   exact hc _ _ ⟨-x,-y,by (exact l6),.nil,oM,oM,oM,f00 x y⟩
  ·have e:¬y < 0:=fun k=>‹¬(((j4 y).getD (Int.toNat 0) 0).toNat:Int)=45› ((a5v y).2 k)
   have e0:y ≠ 0:=fun k=>‹¬j4 y=n5 1 48› ((a2t y).2 k)
   exact hc _ _ ⟨x,y,by (exact l6),.nil,oM,oM,oM,rfl⟩
theorem b78 {p:UInt8→Bool}:∀ {l:i6},l.dropWhile p=[]↔∀ b ∈ l,p b=true
 | []=>by simp
 | c :: l=>by
  by_cases h:p c=true
  ·rw [List.dropWhile_cons_of_pos h,b78];simp [h]
  ·rw [List.dropWhile_cons_of_neg h];simp [h]
theorem d2i {p:UInt8→Bool} {c:UInt8} {r:i6}:∀ {l:i6},l.dropWhile p=c :: r→p c=false
 | [],h=>by simp at h
 | d :: l,h=>by
  by_cases hp:p d=true
  ·rw [List.dropWhile_cons_of_pos hp] at h;exact d2i h
  ·rw [List.dropWhile_cons_of_neg hp] at h
   injection h with h _;subst h;simpa using hp
theorem c6y {l cs:i6}:Lib.trimS l cs=[]↔∀ b ∈ l,cs.contains b=true:=by
 unfold Lib.trimS Lib.trimLeftS Lib.trimRightS
 constructor
 ·intro h
  have h1:=b78.1 h
  cases hd:l.reverse.dropWhile (cs.contains ·) with
  | nil=>intro b hb;exact b78.1 hd b (List.mem_reverse.2 hb)
  | cons c r =>
   rw [hd] at h1
   have h2:=h1 c (by simp)
   have h3:=d2i hd
   rw [h2] at h3;cases h3
 ·intro h
  have:l.reverse.dropWhile (cs.contains ·)=[]:=b78.2 fun b hb=>h b (List.mem_reverse.1 hb)
  rw [this];rfl
def ten:i6:=n5 10 270211885617516653982000
theorem d0r (b:UInt8):ten.contains b=a0x b.toNat:=by
 have key:∀ n:Fin 256,ten.contains (UInt8.ofNat n.1)=a0x n.1:=dE
 have:=key ⟨b.toNat,b.toNat_lt⟩
 simpa using this
def H5 (u:i6):Bool:=decide (u ≠ []∧s9 u 0=u.length)
theorem b06 {u:i6} {k:Nat} (hk:k≤u.length):s9 u k=u.length↔∀ j,k≤j→j < u.length→48≤bt u j∧bt u j≤57 :=
 ⟨fun h j h1 h2=>a0y u k j h1 oM,fun h=>T9 u k hk h⟩
theorem d63 (u:i6):decide (Lib.trimS u ten=[])=decide (s9 u 0=u.length):=by
 rw [Bool.eq_iff_iff,decide_eq_true_iff,decide_eq_true_iff,c6y,b06 (Nat.zero_le _)]
 constructor
 ·intro h j _ hj
  have:=h u[j] (List.getElem_mem hj)
  rw [d0r] at this
  have e:bt u j=u[j].toNat:=by unfold bt;simp [List.getD,List.getElem?_eq_getElem hj]
  rw [e];simpa [a0x] using this
 ·intro h b hb
  obtain ⟨j,hj,rfl⟩:=List.getElem_of_mem hb
  rw [d0r]
  have e:bt u j=u[j].toNat:=by unfold bt;simp [List.getD,List.getElem?_eq_getElem hj]
  have:=h j (Nat.zero_le _) hj
  rw [e] at this;simpa [a0x] using this
theorem e8c:l5 183 (sp1 fun s=>.ret (.c (.b (H5 s)))):=n6 (fun fn h=>e98 h) [(165,_)] (.cons d6s .nil) fun U fn hfn ⟨s,hs⟩ vs bs hv hb=>by
 have ht:=hfn 165 _ rfl
 have hv:l8 [.c (.s s)] vs:=hv
 have hb:j5 [] bs:=hb
 have hs:s.length < 90000:=hs
 show j6 U _ fun v bs'=>l9 (.ret (.c (.b (H5 s)))) v∧j5 [] bs'
 unfold e3s
 (refine Zq ?_;with_reducible repeat' first|intro _|apply aI)
 ·have h0:s=n5 0 0:=‹_›
  have e:H5 s=false:=by unfold H5;rw [decide_eq_false];exact fun h=>h.1 h0
  rw [e]
  exact k9 ⟨.ret _ _ (.kn _),.nil⟩
 ·have h0:¬s=n5 0 0:=‹_›
  refine j3 ht ⟨(s,ten),by show s.length < 4294967281;omega,(by decide:ten.length < 4294967281),(by decide:∀ b ∈ ten,b.toNat < 128)⟩ (r:=.c (.s (Lib.trimS s ten))) rfl l6 .nil fun _ _ _ _=>?_
  (refine Zq ?_;intros)
  exact L7 fun e=>by
   subst e
   refine ⟨.ret _ _ (V9 ?_),.nil⟩
   rw [b55]
   show H5 s=decide (Lib.trimS s ten=[])
   rw [d63]
   unfold H5
   rw [Bool.eq_iff_iff,decide_eq_true_iff,decide_eq_true_iff]
   exact ⟨fun h=>h.2,fun h=>⟨h0,h⟩⟩
theorem f9i {s:i6} {c:UInt8} (h:0≤Lib.indexByte s c):bt s (Lib.indexByte s c).toNat=c.toNat∧∀ j,j < (Lib.indexByte s c).toNat→bt s j ≠ c.toNat:=by
 induction s with
 | nil=>simp [Lib.indexByte] at h
 | cons b r ih =>
  have ex:Lib.indexByte (b :: r) c=if b=c then 0 else if Lib.indexByte r c=-1 then -1 else Lib.indexByte r c+1:=by simp only [Lib.indexByte,beq_iff_eq]
  rw [ex] at h ⊢
  by_cases hb:b=c
  ·rw [if_pos hb];subst hb;exact ⟨rfl,fun j hj=>by simp at hj⟩
  ·rw [if_neg hb] at h ⊢
   by_cases h1:Lib.indexByte r c=-1
   ·rw [if_pos h1] at h;omega
   ·rw [if_neg h1] at h ⊢
    have hge:=(V3 r c).2
    obtain ⟨i1,i2⟩:=ih oM
    rw [show (Lib.indexByte r c+1).toNat=(Lib.indexByte r c).toNat+1 by omega]
    refine ⟨by rw [a06];exact i1,fun j hj=>?_⟩
    cases j with
    | zero=>exact fun e=>hb (UInt8.toNat_inj.1 (by have:bt (b :: r) 0=b.toNat:=rfl;omega))
    | succ j=>rw [a06];exact i2 j oM
theorem f0g {s:i6} {c:UInt8} (h:¬0≤Lib.indexByte s c):∀ j,j < s.length→bt s j ≠ c.toNat:=by
 induction s with
 | nil=>intro j hj;simp at hj
 | cons b r ih =>
  have ex:Lib.indexByte (b :: r) c=if b=c then 0 else if Lib.indexByte r c=-1 then -1 else Lib.indexByte r c+1:=by simp only [Lib.indexByte,beq_iff_eq]
  rw [ex] at h
  by_cases hb:b=c
  ·rw [if_pos hb] at h;omega
  ·rw [if_neg hb] at h
   have hge:=(V3 r c).2
   have h1:¬0≤Lib.indexByte r c:=by split at h <;> omega
   intro j hj
   cases j with
   | zero=>exact fun e=>hb (UInt8.toNat_inj.1 (by have:bt (b :: r) 0=b.toNat:=rfl;omega))
   | succ j=>rw [a06];exact ih h1 j (by simpa using hj)
theorem c9b (s:i6) (i:Nat):s9 s i < s.length→¬(48≤bt s (s9 s i)∧bt s (s9 s i)≤57):=by
 fun_induction s9 s i with
 | case1 i h1 h2 ih=>exact ih
 | case2 i h1 h2=>intro _ h;exact h2 (by simpa [a0x] using h)
 | case3 i h1=>intro h;exact absurd h h1
def B0 (s:i6):i6 × i6:=((K4 s 47).1,if (K4 s 47).2.2 then (K4 s 47).2.1 else P2)
theorem d7f {s:i6} {i p:Nat} (hp:p≤s.length) (hi:i≤p) (hn:p < s.length→¬(48≤bt s p∧bt s p≤57)):(∀ j,i≤j→j < p→48≤bt s j∧bt s j≤57)↔s9 s i=p:=by
 constructor
 ·intro h
  have hA:At s i ((s.take p).drop i) (s.drop p):=by
   unfold At
   have:=(List.take_append_drop p s).symm
   conv=>lhs;rw [this]
   rw [List.drop_append_of_le_length (by simp;omega)]
  have hl:((s.take p).drop i).length=p - i:=by simp;omega
  rw [a73 hA (fun j hj=>by
   rw [hl] at hj
   have e:bt ((s.take p).drop i) j=bt s (i+j):=by rw [a3w];unfold bt;simp [List.getD,List.getElem?_take,show i+j < p by omega]
   rw [e];exact h _ oM oM) ?_,hl]
  ·omega
  ·by_cases h2:p < s.length
   ·right;rw [a3w];exact hn h2
   ·left;exact List.drop_eq_nil_of_le oM
 ·intro h j h1 h2;exact a0y s i j h1 oM
theorem a8q {s:i6} {i p:Nat} (hp:p≤s.length) (hi:i≤p) (hn:p < s.length→¬(48≤bt s p∧bt s p≤57)):H5 ((s.take p).drop i)=decide (i < p∧s9 s i=p):=by
 unfold H5
 have hl:((s.take p).drop i).length=p - i:=by simp;omega
 rw [Bool.eq_iff_iff,decide_eq_true_iff,decide_eq_true_iff,b06 (Nat.zero_le _),hl,← d7f hp hi hn]
 have hb:∀ j,j < p - i→bt ((s.take p).drop i) j=bt s (i+j):=fun j hj=>by
  rw [a3w];unfold bt;simp [List.getD,List.getElem?_take,show i+j < p by omega]
 constructor
 ·rintro ⟨h1,h2⟩
  refine ⟨?_,fun j h3 h4=>?_⟩
  ·have:=List.length_pos_iff.2 h1;omega
  ·have:=h2 (j - i) (Nat.zero_le _) oM
   rw [hb _ oM,show i+(j - i)=j by omega] at this;exact this
 ·rintro ⟨h1,h2⟩
  refine ⟨fun e=>by rw [e] at hl;simp at hl;omega,fun j _ hj=>?_⟩
  rw [hb j hj];exact h2 _ oM oM
theorem d0n {s:i6} {p:Nat} (hp:j7 s≤p) (hl:p≤s.length):F3 (s.take p) [45]=(s.take p).drop (j7 s):=by
 rw [Z0]
 congr 1
 have hs:=W1 s
 unfold j7 at hp ⊢
 have hlen:(s.take p).length=p:=by simp;omega
 by_cases h:0 < s.length∧bt s 0=45
 ·rw [if_pos h] at hp ⊢
  rw [if_pos ⟨oM,by unfold bt at *;simp only [List.getD,List.getElem?_take];rw [if_pos oM];exact h.2⟩]
 ·rw [if_neg h]
  rw [if_neg]
  rintro ⟨h1,h2⟩
  refine h ⟨oM,?_⟩
  unfold bt at h2 ⊢
  simp only [List.getD,List.getElem?_take] at h2
  rw [if_pos oM] at h2;exact h2
theorem d50:H5 P2=true:=by
 unfold H5
 refine decide_eq_true ⟨dE,T9 P2 0 dE ?_⟩
 intro j _ hj
 have e:j=0:=Nat.lt_one_iff.1 hj
 rw [e];decide
theorem b7s (s:i6):(H5 (F3 (B0 s).1 [45]) && H5 (B0 s).2)=(p8 s).2.2∧((p8 s).2.2=true→(p8 s).1=(B0 s).1∧(p8 s).2.1=(B0 s).2):=by
 have hs:=W1 s
 have hd:=d7n s (j7 s) hs.1
 have hstop:=c9b s (j7 s)
 have hsg:∀ j,j < j7 s→bt s j=45:=fun j hj=>by
  unfold j7 at hj
  split at hj
  ·rename_i h;have:j=0:=oM
   subst this;exact h.2
  ·omega
 unfold B0 K4
 by_cases hp:0≤Lib.indexByte s 47
 ·obtain ⟨p1,p2⟩:=f9i hp
  have p3:=(V3 s 47).1
  simp only [if_pos hp]
  obtain ⟨p,hpe⟩:∃ p,p=(Lib.indexByte s 47).toNat:=⟨_,rfl⟩
  rw [show (Lib.indexByte s 47+1).toNat=p+1 by omega]
  rw [← hpe] at p1 p2 ⊢
  have hpl:p < s.length:=oM
  have hip:j7 s≤p:=by
   by_cases h:p < j7 s
   ·have:=hsg p h;rw [p1] at this;simp at this
   ·omega
  have p1':bt s p=47:=p1
  have hkp:s9 s (j7 s)≤p:=by
   by_cases h:p < s9 s (j7 s)
   ·have:=a0y s (j7 s) p hip h;omega
   ·omega
  rw [d0n hip oM,a8q oM hip (fun _=>by omega)]
  have hden:s.drop (p+1)=(s.take s.length).drop (p+1):=by rw [List.take_length]
  simp only [if_true]
  rw [hden,a8q (Nat.le_refl _) oM (fun h=>by omega)]
  unfold p8
  simp only []
  by_cases h1:s9 s (j7 s)=j7 s
  ·rw [if_pos h1]
   refine ⟨?_,fun h=>by cases h⟩
   rw [decide_eq_false oM];rfl
  ·rw [if_neg h1,if_neg oM]
   by_cases h2:s9 s (j7 s)=p
   ·rw [h2]
    by_cases h3:p+1=s.length
    ·rw [if_pos (.inr h3)]
     refine ⟨?_,fun h=>by cases h⟩
     rw [show decide (p+1 < s.length∧s9 s (p+1)=s.length)=false from decide_eq_false oM,Bool.and_false]
    ·rw [if_neg oM]
     have hsp:j7 s < p:=oM
     by_cases h4:s9 s (p+1)=s.length
     ·rw [if_pos h4]
      refine ⟨?_,fun _=>⟨by simp,by simp⟩⟩
      rw [decide_eq_true ⟨hsp,rfl⟩,decide_eq_true ⟨oM,h4⟩];rfl
     ·rw [if_neg h4]
      refine ⟨?_,fun h=>by cases h⟩
      rw [show decide (p+1 < s.length∧s9 s (p+1)=s.length)=false from decide_eq_false (fun h=>h4 h.2),Bool.and_false]
   ·rw [if_pos (.inl (p2 _ oM))]
    refine ⟨?_,fun h=>by cases h⟩
    rw [decide_eq_false (fun h=>h2 h.2)];rfl
 ·have p2:=f0g hp
  simp only [if_neg hp]
  rw [show F3 s [45]=(s.take s.length).drop (j7 s) by rw [List.take_length,Z0],a8q (Nat.le_refl _) hs.1 (fun h=>by omega)]
  simp only [Bool.false_eq_true,if_false]
  rw [d50,Bool.and_true]
  unfold p8
  simp only []
  by_cases h1:s9 s (j7 s)=j7 s
  ·rw [if_pos h1]
   refine ⟨decide_eq_false oM,fun h=>by cases h⟩
  ·rw [if_neg h1]
   by_cases h2:s9 s (j7 s)=s.length
   ·rw [if_pos h2]
    exact ⟨decide_eq_true ⟨oM,h2⟩,fun _=>⟨rfl,rfl⟩⟩
   ·rw [if_neg h2,if_pos (.inl (p2 _ oM))]
    exact ⟨decide_eq_false (fun h=>h2 h.2),fun h=>by cases h⟩
theorem d53:n5 1 47=[47]:=dE
theorem d91:l5 164 (sp1 fun s=>.ret (.t [.c (.s (B0 s).1),.c (.s (B0 s).2),.c (.b (p8 s).2.2)])):=n6 (fun fn h=>f0j h) [(182,_),(184,_),(183,_)] (.cons g1q (.cons a1i (.cons e8c .nil))) fun U fn hfn ⟨s,hs⟩ vs bs hv hb=>by
 have hc:=hfn 182 _ rfl
 have ht:=hfn 184 _ rfl
 have hi:=hfn 183 _ rfl
 have hv:l8 [.c (.s s)] vs:=hv
 have hb:j5 [] bs:=hb
 have hs:s.length < 90000:=hs
 show j6 U _ fun v bs'=>l9 (.ret (.t [.c (.s (B0 s).1),.c (.s (B0 s).2),.c (.b (p8 s).2.2)])) v∧j5 [] bs'
 unfold e23
 obtain ⟨n1,n2⟩:=b7s s
 have hl:(B0 s).1.length≤s.length∧((B0 s).2.length≤s.length∨(B0 s).2.length≤1):=by
  unfold B0 K4
  split <;> simp [P2] <;> omega
 have hcp:(F3 (B0 s).1 [45]).length≤(B0 s).1.length:=by unfold F3;split <;> simp
 rw [← n1]
 (refine Zq ?_;intros)
 refine j3 hc ⟨(s,n5 1 47),⟨hs,47,d53⟩⟩ (r:=.t [.c (.s (K4 s 47).1),.c (.s (K4 s 47).2.1),.c (.b (K4 s 47).2.2)]) (by show s8.ret (.t [.c (.s (K4 s ((n5 1 47).headD 0)).1),.c (.s (K4 s ((n5 1 47).headD 0)).2.1),.c (.b (K4 s ((n5 1 47).headD 0)).2.2)])=_;rw [d53];rfl) l6 .nil fun _ _ _ _=>?_
 (refine Zy ?_;intros)
 refine O1 (fun vs bs=>l8 [.c (.s (B0 s).1),.c (.s (B0 s).2)] vs∧j5 [] bs) ?_ ?_
 ·rintro vs' bs' ⟨hv',hb'⟩
  (refine Zq ?_;intros)
  refine j3 ht ⟨((B0 s).1,n5 1 45),trivial⟩ (r:=.c (.s (F3 (B0 s).1 [45]))) (by show s8.ret (.c (.s (F3 _ (n5 1 45))))=_;rw [b70]) l6 .nil fun _ _ _ _=>?_
  (refine Zq ?_;intros)
  refine j3 hi ⟨F3 (B0 s).1 [45],oM⟩ (r:=.c (.b (H5 (F3 (B0 s).1 [45])))) rfl l6 .nil fun _ _ _ _=>?_
  (refine Zq ?_;with_reducible repeat' first|intro _|apply aI)
  ·have h1:H5 (F3 (B0 s).1 [45])=true:=‹_›
   rw [h1,Bool.true_and]
   refine j3 hi ⟨(B0 s).2,oM⟩ (r:=.c (.b (H5 (B0 s).2))) rfl l6 .nil fun _ _ _ _=>?_
   (refine Zq ?_;intros)
   exact k9 ⟨.ret _ _ l6,.nil⟩
  ·have h1:H5 (F3 (B0 s).1 [45])=false:=by simpa using ‹¬H5 (F3 (B0 s).1 [45])=true›
   rw [h1,Bool.false_and]
   exact k9 ⟨.ret _ _ l6,.nil⟩
 ·intro c hc
  have e1:(B0 s).1=(K4 s 47).1:=rfl
  have e2:(B0 s).2=if (K4 s 47).2.2 then (K4 s 47).2.1 else P2:=rfl
  (refine Zq ?_;with_reducible repeat' first|intro _|apply aI)
  ·refine hc _ _ ⟨?_,.nil⟩
   rw [e1,e2,if_pos ‹_›]
   exact l6
  ·refine hc _ _ ⟨?_,.nil⟩
   rw [e1,e2,if_neg ‹_›]
   exact l6
theorem d9o (s:i6) (a:Nat):Lib.trimLeftS (s.drop a) [48]=s.drop (E8 s a):=by
 fun_induction E8 s a with
 | case1 a h1 h2 ih =>
  rw [← ih,List.drop_eq_getElem_cons h1]
  have:s[a]=48:=UInt8.toNat_inj.1 (by have e:bt s a=s[a].toNat:=by unfold bt;simp [List.getD,List.getElem?_eq_getElem h1]
                                      rw [e] at h2;show s[a].toNat=48;omega)
  unfold Lib.trimLeftS
  rw [List.dropWhile_cons_of_pos (by rw [this];decide)]
 | case2 a h1 h2 =>
  rw [List.drop_eq_getElem_cons h1]
  unfold Lib.trimLeftS
  rw [List.dropWhile_cons_of_neg]
  simp only [List.contains_cons,List.contains_nil,Bool.or_false,beq_iff_eq]
  intro e
  refine h2 ?_
  unfold bt;simp [List.getD,List.getElem?_eq_getElem h1,e]
 | case3 a h1=>rw [List.drop_eq_nil_of_le oM];rfl
theorem f3l:l5 166 (sp1 fun s=>.ret (.c (.s (plain s)))):=n6 (fun fn h=>e8u h) [(184,_),(192,_)] (.cons a1i (.cons d45 .nil)) fun U fn hfn ⟨s,hs⟩ vs bs hv hb=>by
 have ht:=hfn 184 _ rfl
 have hl:=hfn 192 _ rfl
 have hv:l8 [.c (.s s)] vs:=hv
 have hb:j5 [] bs:=hb
 have hs:s.length < 90000:=hs
 show j6 U _ fun v bs'=>l9 (.ret (.c (.s (plain s)))) v∧j5 [] bs'
 unfold e4u
 (refine Zq ?_;intros)
 refine j3 ht ⟨(s,n5 1 45),trivial⟩ (r:=.c (.s (s.drop (j7 s)))) (by show s8.ret (.c (.s (F3 s (n5 1 45))))=_;rw [b70,Z0]) l6 .nil fun _ _ _ _=>?_
 (refine Zq ?_;intros)
 refine j3 hl ⟨(s.drop (j7 s),n5 1 48),by show (s.drop (j7 s)).length < 4294967281;simp;omega,(by decide:(n5 1 48).length < 4294967281),(by decide:∀ b ∈ n5 1 48,b.toNat < 128)⟩ (r:=.c (.s (s.drop (E8 s (j7 s))))) (by show s8.ret (.c (.s (Lib.trimLeftS (s.drop (j7 s)) (n5 1 48))))=_;rw [← d9o];rfl) l6 .nil fun _ _ _ _=>?_
 have hsl:=W1 s
 have hz:=b0n s (j7 s) hsl.1
 have hbt:((s.getD 0 0).toNat:Int)=bt s 0:=rfl
 have e1:plain s=if E8 s (j7 s)=s.length then A9 else if j7 s=1 then [45] ++ s.drop (E8 s (j7 s)) else s.drop (E8 s (j7 s)):=by unfold plain;simp only [List.take_length]
 rw [e1]
 generalize E8 s (j7 s)=z at *
 have hdl:(s.drop z).length=s.length - z:=by simp
 have hpos:¬s.drop z=n5 0 0→0 < s.length:=fun h=>by
  rcases Nat.lt_or_ge 0 s.length with h2 | h2
  ·exact h2
  ·exact absurd (List.drop_eq_nil_of_le oM) h
 have hsg:j7 s=1↔(0 < s.length∧bt s 0=45):=by unfold j7;split <;> simp [*]
 (refine Zq ?_;with_reducible repeat' first|intro _|apply aI)
 ·have:z=s.length:=by
   have h:s.drop z=[]:=‹_›
   have:=List.drop_eq_nil_iff.1 h;omega
  rw [if_pos this]
  exact k9 ⟨.ret _ _ (.s _ _ _ rfl rfl),.nil⟩
 ·have h0:¬s.drop z=n5 0 0:=‹_›
  have hp:=hpos h0
  rw [if_neg (fun e=>h0 (List.drop_eq_nil_of_le oM))]
  (refine Zq ?_;with_reducible repeat' first|intro _|apply aI)
  ·rw [if_pos (hsg.2 ⟨hp,‹_›⟩)]
   refine e5j (x:=[45]) (y:=s.drop z) rfl rfl rfl ?_
   exact k9 ⟨.ret _ _ (.s _ _ _ (by simp;omega) rfl),.nil⟩
  ·rw [if_neg (fun e=>‹¬_› (hsg.1 e).2)]
   exact k9 ⟨.ret _ _ (.s _ _ _ rfl rfl),.nil⟩
end
end Go.Proofs.YtffaodopiifbkaaGreatDoor
