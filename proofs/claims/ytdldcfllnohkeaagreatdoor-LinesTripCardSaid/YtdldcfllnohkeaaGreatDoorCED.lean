/- The program's numbers: a text as limbs. -/
import Derived.Test.YtdldcfllnohkeaaGreatDoorCEC
set_option linter.all false
namespace Go.Proofs.YtdldcfllnohkeaaGreatDoor
open Go.Abs LQ Go.RowKit Go.Lib Go.Sort
set_option maxRecDepth 100000
set_option maxHeartbeats 4000000
noncomputable section
theorem f15 (l:List UInt8):∀ acc:Nat,(∀ c ∈ l,48≤c.toNat∧c.toNat≤57)→acc * 10 ^ l.length+C8 l≤4294967295→Lib.parseUintM 4294967295 acc l=.ok (acc * 10 ^ l.length+C8 l):=by
 induction l with
 | nil=>intro acc _ _;simp [Lib.parseUintM,C8,A3]
 | cons c r ih =>
  intro acc hd h
  obtain ⟨h1,h2⟩:=hd c (by simp)
  have e:C8 (c :: r)=(c.toNat - 48) * 10 ^ r.length+C8 r:=by
   rw [b79]
   have:(bt [c] 0 - 48).toNat=c.toNat - 48:=by show (((c.toNat:Nat):Int) - 48).toNat=_;omega
   rw [this]
  rw [e,List.length_cons,Nat.pow_succ] at h ⊢
  have hp:1≤10 ^ r.length:=Nat.one_le_pow _ _ dE
  have e2:(acc * 10+(c.toNat - 48)) * 10 ^ r.length+C8 r=acc * (10 ^ r.length * 10)+((c.toNat - 48) * 10 ^ r.length+C8 r):=by
   rw [Nat.add_mul,Nat.mul_assoc,Nat.mul_comm 10,Nat.add_assoc]
  have hb:acc * 10+(c.toNat - 48)≤(acc * 10+(c.toNat - 48)) * 10 ^ r.length:=Nat.le_mul_of_pos_right _ hp
  rw [Lib.parseUintM,if_pos ⟨h1,h2⟩,if_neg oM,if_neg oM,ih _ (fun d hd'=>hd d (by simp [hd'])) (by rw [e2];exact h),e2]
theorem e57 {s:i6} (h:∀ j,j < s.length→48≤bt s j∧bt s j≤57):∀ c ∈ s,48≤c.toNat∧c.toNat≤57:=fun c hc=>by
 obtain ⟨j,hj,rfl⟩:=List.getElem_of_mem hc
 have:=h j hj
 unfold bt at this
 simp only [List.getD,List.getElem?_eq_getElem hj,Option.getD_some] at this
 omega
theorem f13 {s:i6} (h0:0 < s.length) (h9:s.length≤9) (h:∀ j,j < s.length→48≤bt s j∧bt s j≤57):Lib.parseUintB 32 s=.ok (C8 s):=by
 have hl:=c62 s h
 have hp:(10:Nat) ^ s.length≤10 ^ 9:=Nat.pow_le_pow_right dE h9
 have:=f15 s 0 (e57 h) (by rw [Nat.zero_mul];omega)
 rw [Nat.zero_mul,Nat.zero_add] at this
 unfold Lib.parseUintB
 rw [if_neg (by intro e;subst e;simp at h0)]
 exact this
def g2b:Sp where
 ι:={ s:i6 // 0 < s.length∧s.length≤9∧∀ j,j < s.length→48≤bt s j∧bt s j≤57 }
 A s:=[.c (.s s.1),.c (.i .i64 10),.c (.i .i64 32)]
 B _:=[]
 R s:=.ret (.t [.c (.i .u64 ((C8 s.1:Nat):Int)),.nilI])
 B' _:=[]
 inj i j vs bs h k _ _:=by
  obtain ⟨_,_,h1,k1,h,k⟩:=h.two k
  rw [H3 h1 k1];exact ⟨rfl,rfl⟩
theorem kPU:k9 191 g2b:=fun ⟨s,h0,h9,hd⟩ vs bs hv hb=>by
 change l7 [.c (.s s),.c (.i .i64 10),.c (.i .i64 32)] vs at hv
 cases hb
 refine ⟨.ret (.tuple [.int .u64 ((C8 s:Nat):Int),.nilIface]),[],fun hok=>?_,.ret _ _ (.t _ _ (.k (.i _ _) (.k .nilI .nil))),.nil⟩
 have hx:vs.map toD=[D.str s,.int .i64 10,.int .i64 32]:=by
  cases hv with
  | cons _ _ v _ h1 h2=>cases h2 with
   | cons _ _ v2 _ h2 h3=>cases h3 with
    | cons _ _ v3 _ h3 h4 =>
     cases h4
     rw [List.map_cons,List.map_cons,List.map_cons,c4x h1,d5e h2,d5e h3];rfl
 rw [hx]
 refine L5 (d:=.tuple [.int .u64 ((C8 s:Nat):Int),.nilIface]) Tryz.call191 fun w S M us hg hwi hr=>?_
 have hus:us=[.string ⟨s.toArray⟩,.int .i64 10,.int .i64 32]:=by
  cases hr with
  | cons _ _ _ _ r1 r2=>cases r2 with
   | cons _ _ _ _ r2 r3=>cases r3 with
    | cons _ _ _ _ r3 r4 =>
     cases r4;cases r1;cases r2;cases r3
     rename_i sb hs
     rw [d8q hs]
 subst hus
 refine (Any.strconv_ParseUint_10_at32_ok Tryz.laysPu14 ⟨s.toArray⟩ (by simp [ByteArray.size];omega) (C8 s) (f13 h0 h9 hd) w).mono ?_
 rintro e w' ⟨rfl,hw⟩
 have hb:Below w.heap.size w w':=by
  rcases hw with rfl | rfl
  ·exact Below.refl _ _
  ·exact Lib.bytesWorld_below _ _ _
 refine ⟨hb,_,S,rfl,⟨fun _ _ h=>h,fun _ _ h=>.inl h⟩,S8 hwi hb,.tuple _ _ (.k (.int _ _) (.k .nilIface .nil)),⟨(fun _ _ _ h=>by cases h),fun vs ds hv hd i u e h1 h2=>?_⟩⟩
 injection hv with hv
 injection hd with hd
 subst hv hd
 intro len c z he
 subst he
 match i with
 | 0=>simp at h2
 | 1=>simp at h2
 | i+2=>simp at h2
section
variable {U:v8} {P:L6→List Bx→Prop}
theorem f9n {v:V} {K:Om} (hv:RV .nilI v) (h:j5 U K P):j5 U (U.uNilI v K) P:=fun e=>by
 have:=h e;subst e;cases hv;exact this
theorem d8d {a:Int} {K:Int→Om} (h:j5 U (K (if 0 < a then a else 0)) P):j5 U (U.fI (U.isel (U.iLt 0 a) a 0) K) P :=
 d8c a5l (fun k=>by rw [if_pos k] at h;exact h) (fun k=>by rw [if_neg k] at h;exact h)
end
def a2x (neg:Bool) (n:Nat):List G:=[.b neg,.l (z8 n)]
theorem c9r {D:i6} {m:Nat} (hm:m≤D.length) (h9:9≤m):C8 (D.take m)=C8 (D.take (m - 9)) * 10 ^ 9+C8 ((D.take m).drop (m - 9)):=by
 have e:D.take m=D.take (m - 9) ++ (D.take m).drop (m - 9):=by
  have:=(List.take_append_drop (m - 9) (D.take m)).symm
  rw [List.take_take,Nat.min_eq_left oM] at this;exact this
 conv=>lhs;rw [e]
 rw [c2q]
 have:((D.take m).drop (m - 9)).length=9:=by simp;omega
 rw [this]
theorem c1z {D:i6} (h:∀ j,j < D.length→48≤bt D j∧bt D j≤57) (k m:Nat) (hm:m≤D.length):∀ j,j < ((D.take m).drop k).length→48≤bt ((D.take m).drop k) j∧bt ((D.take m).drop k) j≤57:=fun j hj=>by
 simp at hj
 have e:bt ((D.take m).drop k) j=bt D (k+j):=by
  rw [a3s];unfold bt;simp [List.getD,List.getElem?_take,show k+j < m by omega]
 rw [e];exact h _ oM
theorem d7c (a:List Nat) (d:Nat):m7 (a ++ [d])=m7 a+B9 ^ a.length * d:=by rw [V0,d36]
theorem d7e {acc:List Nat} {d:Nat} {n:Int} (h:n=d):acc.map lg ++ [[.i .u32 n]]=(acc ++ [d]).map lg:=by subst h;simp [lg]
theorem e5u {a:List Nat} {d:Nat} (h:LQ.LB a) (hd:d < 1000000000):LQ.LB (a ++ [d]):=fun x hx=>by
 rcases List.mem_append.1 hx with hx | hx
 ·exact h x hx
 ·simp at hx;subst hx;exact hd
theorem d4n {D:i6} {acc:List Nat} {m k N:Nat} (hd:∀ j,j < D.length→48≤bt D j∧bt D j≤57) (hm:m≤D.length) (hk:k=m - 9) (he:m7 acc+B9 ^ acc.length * C8 (D.take m)=N) :
  C8 ((D.take m).drop k) < 1000000000∧m7 (acc ++ [C8 ((D.take m).drop k)])+B9 ^ (acc ++ [C8 ((D.take m).drop k)]).length * C8 (D.take k)=N:=by
 subst hk
 have hlt:=c62 _ (c1z hd (m - 9) m hm)
 have hl:((D.take m).drop (m - 9)).length≤9:=by simp;omega
 have h9:C8 ((D.take m).drop (m - 9)) < 1000000000:=Nat.lt_of_lt_of_le hlt (Nat.pow_le_pow_right dE hl)
 refine ⟨h9,?_⟩
 rw [d7c,← he,List.length_append,List.length_singleton,Nat.pow_succ]
 by_cases h:9≤m
 ·rw [c9r hm h]
  generalize C8 (D.take (m - 9))=a
  generalize C8 ((D.take m).drop (m - 9))=b
  rw [show (10:Nat) ^ 9=B9 from rfl,Nat.mul_add,Nat.mul_comm a B9,← Nat.mul_assoc]
  omega
 ·have e:m - 9=0:=oM
  rw [e,List.take_zero,List.drop_zero,show C8 ([]:i6)=0 by simp [C8,A3],Nat.mul_zero,Nat.add_zero]
theorem d4d (n:Nat):C8 (i7 n)=n:=by
 have hv:=B4 n
 have hok:=a5e n
 have hs:j6 (i7 n)=0:=by
  unfold j6;rw [if_neg];rintro ⟨h,h2⟩;have:=P1 n 0 h;omega
 unfold j0 at hv
 rw [if_pos hok,hs,if_neg dE] at hv
 unfold C8;omega
theorem e9i (s:i6):(i7 (j0 s).natAbs).length≤(N9 s).length∧(decide (((i7 (j0 s).natAbs).length:Int) < ((N9 s).length:Int))=decide (j0 s < 0)):=by
 rw [a2e]
 unfold j3
 split <;> simp <;> omega
theorem d60:k9 177 (sp1 fun s=>.ret (.a (a2x (decide (j0 s < 0)) (j0 s).natAbs))):=n9 (fun fn h=>e8r h) [(151,_),(159,_),(191,_),(192,_)] (.cons a7e (.cons a1m (.cons kPU (.cons b72 .nil)))) fun U fn hfn ⟨s,hs⟩ vs bs hv hb=>by
 have hd:=hfn 151 _ rfl
 have ht:=hfn 159 _ rfl
 have hp:=hfn 191 _ rfl
 have hr:=hfn 192 _ rfl
 have hv:l7 [.c (.s s)] vs:=hv
 have hb:RBs [] bs:=hb
 have hs:s.length < 90000:=hs
 show j5 U _ fun v bs'=>l8 (.ret (.a (a2x (decide (j0 s < 0)) (j0 s).natAbs))) v∧RBs [] bs'
 unfold e2p
 (refine Zq ?_;intros)
 refine j4 hd ⟨s,hs⟩ (r:=.c (.s (N9 s))) rfl l5 .nil fun _ _ _ _=>?_
 have hl:=b0m s
 have h7:=e9i s
 (refine Zq ?_;intros)
 refine j4 ht ⟨(N9 s,m8 1 45),trivial⟩ (r:=.c (.s (i7 (j0 s).natAbs))) (by show r7.ret (.c (.s (F3 (N9 s) (m8 1 45))))=_;rw [b7e,Z1,c5g]) l5 .nil fun _ _ _ _=>?_
 (refine Zq ?_;intros)
 generalize hD:i7 (j0 s).natAbs=D at *
 have hdig:∀ j,j < D.length→48≤bt D j∧bt D j≤57:=by rw [← hD];exact P1 _
 have hval:C8 D=(j0 s).natAbs:=by rw [← hD,d4d]
 refine H2 (fun (p:Nat × List Nat) vs bs=>∃ (m:Nat) (acc:List Nat) (v bx:V) (ng:Bool) (v4:V),p=(m,acc)∧vs=[.ptr 0 0,.str (D.take m).length (n7 (D.take m)),.ptr 1 0,v4]∧bs=[.cells [bx,.slice .nil 0 0 0 .exact],.cells [.bool ng,v],.tok acc.length 1]∧(U=CU→ng=decide (j0 s < 0))∧a1e 2 1 (acc.map lg) v∧m≤D.length∧LQ.LB acc∧(9 * acc.length+m=D.length∨m=0∧9 * acc.length≤D.length+8)∧m7 acc+B9 ^ acc.length * C8 (D.take m)=(j0 s).natAbs∧RV (.c (.b false)) bx) (fun p=>p.1) (D.length,[]) ?_ (by simp only [C4];omega) ?_
 ·refine ⟨D.length,[],_,_,_,_,rfl,by simp only [List.take_length];rfl,rfl,fun e=>by subst e;rw [b92];exact h7.2,.b rfl,Nat.le_refl _,fun d h=>(by cases h),by simp,by rw [← hval];simp [m7],.kn _⟩
 rintro self _ _ _ ⟨m,acc,v,bx,ng,v4,rfl,rfl,rfl,hng,htok,hm,hLB,hlen,he,hbx⟩ ih
 have hml:(D.take m).length=m:=by simp;omega
 (refine Zq ?_;with_reducible repeat' first|intro _|apply aI)
 ·refine d8d ?_
  obtain ⟨k,hk,hk2⟩:∃ k:Nat,k=m - 9∧(if 0 < ((D.take m).length:Int) - 9 then ((D.take m).length:Int) - 9 else 0)=(k:Int):=⟨m - 9,rfl,by split <;> omega⟩
  rw [hk2]
  have hkm:k≤m:=oM
  have hm0:0 < m:=oM
  (refine Zq ?_;intros)
  obtain ⟨s1,s2⟩:=d4n hdig hm hk he
  have hcl:((D.take m).drop k).length=m - k:=by simp;omega
  refine j4 hp ⟨(D.take m).drop k,oM,oM,c1z hdig k m hm⟩ (r:=.t [.c (.i .u64 ((C8 ((D.take m).drop k):Nat):Int)),.nilI]) rfl l5 .nil fun _ _ _ _=>?_
  (refine Zq ?_;intros)
  refine f9n aS ?_
  (refine Zq ?_;intros)
  refine a56 (m:=((C8 ((D.take m).drop k):Nat):Int)) rfl oM ?_
  (refine Zq ?_;intros)
  refine a2b aS (fun _=>L4 (by first | exact .i _ _ | exact .s _ _ _ rfl rfl | assumption)) (by rfl) (by simp) (by simp only [List.length_map];omega) fun _ _=>?_
  (refine Zq ?_;intros)
  have e1:List.drop (Int.toNat 0) (List.take ((k:Int)).toNat (D.take m))=D.take k:=by
   rw [Int.toNat_natCast,List.take_take,Nat.min_eq_left hkm];rfl
  rw [e1]
  refine ih (k,acc ++ [C8 ((D.take m).drop k)]) _ _ ?_ (by show k < m;omega)
  refine ⟨k,_,_,_,_,_,rfl,rfl,by rw [List.length_append];rfl,hng,.a _ _ (by simp) ?_,oM,e5u hLB s1,by rw [List.length_append,List.length_singleton];omega,s2,.b _⟩
  rw [← d7e (n:=((C8 ((D.take m).drop k):Nat):Int)) rfl]
  assumption
 ·have hm0:m=0:=oM
  subst hm0
  have e0:m7 acc=(j0 s).natAbs:=by
   rw [List.take_zero,show C8 ([]:i6)=0 by simp [C8,A3],Nat.mul_zero,Nat.add_zero] at he;exact he
  refine j4 hr ⟨acc,oM⟩ (r:=.sl 1 (z8 (j0 s).natAbs)) (by show r7.ret (.sl 1 ((G0 acc).map lg))=_;rw [a2k acc hLB,e0];rfl) l5 .nil fun _ _ _ _=>?_
  (refine Zq ?_;intros)
  exact J3 fun e=>by
   rw [hng e]
   exact ⟨.ret _ _ (.ag _ _ (.k (.b _) (.k (.cl _ _ _ _ _ (by simp [z8]) aS) .nil))),.nil⟩
end
end Go.Proofs.YtdldcfllnohkeaaGreatDoor
namespace Go.Proofs.YtdldcfllnohkeaaGreatDoor
open Go.Abs LQ
set_option maxRecDepth 100000
set_option maxHeartbeats 4000000
noncomputable section
section
variable {U:v8} {P:L6→List Bx→Prop}
theorem sQR {g:G} {v:V} {K:Q→Om} (hv:RV (.c g) v) (h:∀ x,RG g x→j5 U (K x) P):j5 U (U.uQ v K) P:=fun e=>by
 have h2:∃ x,CU.uQ v K=K x∧RG g x:=by
  cases hv with
  | b x=>exact ⟨_,rfl,.b x⟩
  | kn x=>exact ⟨_,rfl,.b x⟩
  | i k n=>exact ⟨_,rfl,.i k n⟩
  | s x l c h1 h2=>exact ⟨_,rfl,.s x l c h1 h2⟩
  | cl xs t n off len h1 h2=>exact ⟨_,rfl,.l xs t n off len h1 h2⟩
  | q _ x h=>exact ⟨_,rfl,h⟩
 obtain ⟨x,h3,h4⟩:=h2
 have:=h x h4 e
 subst e
 rw [h3];exact this
theorem e5e {x y:List UInt8} {l c1 c2:Nat} {K:Nat→Om} (h1:l=x.length) (e1:c1=n7 x) (e2:c2=n7 y) (k:j5 U (K (n7 (x ++ y))) P):j5 U (U.fN (U.sCat l c1 c2) K) P:=fun e=>by
 subst h1 e1 e2
 have:=k e
 subst e
 rw [b0d]
 show ∃ v bs,K (sCat x.length (n7 x) (n7 y))=some (v,bs)∧P v bs
 rw [c29];exact this
end
theorem e0d {a b:Bool} {m n:Nat} (h:a2x a m=a2x b n):a=b∧m=n:=by
 simp only [a2x,List.cons.injEq,G.b.injEq,G.l.injEq,and_true] at h
 exact ⟨h.1,a9x h.2⟩
def Y2:Sp where
 ι:={ p:Bool × Nat // (m9 p.2).length < 20000 }
 A p:=[.a (a2x p.1.1 p.1.2)]
 B _:=[]
 R p:=.ret (.c (.s (sgn p.1.1 p.1.2)))
 B' _:=[]
 inj i j vs bs h k _ _:=by
  obtain ⟨_,_,h1,k1,h,k⟩:=h.two k
  obtain ⟨e1,e2⟩:=e0d (h1.a_inj k1)
  rw [e1,e2];exact ⟨rfl,rfl⟩
theorem c0n (n:Nat):∀ r ∈ z8 n,r.length=1:=fun r hr=>by obtain ⟨_,_,rfl⟩:=List.mem_map.1 hr;rfl
theorem d4x {n:Nat} {x:Q} (h:RG (.l (z8 n)) x):RV (.sl 1 (z8 n)) (.q x):=.slq _ _ _ h (c0n n)
theorem a86 (n:Nat):(m9 n).length≤(j7 n).length:=by
 refine a9y ?_
 have h:=a3j (j7 n) (E5 n)
 rw [D8] at h
 exact Nat.lt_of_lt_of_le h (Nat.pow_le_pow_left dE _)
theorem e9g (n:Nat):sgn false n=i7 n:=b3h n
theorem f82 (hst:k9 179 Y2):k9 153 (sp2 fun a b=>.ret (.c (.s (i7 (Nat.gcd (j0 a).natAbs (j0 b).natAbs))))):=n9 (fun fn h=>e8l h) [(177,_),(178,_),(179,_)] (.cons d60 (.cons c57 (.cons hst .nil))) fun U fn hfn ⟨(a,b),ha,hbl⟩ vs bs hv hb=>by
 have hp:=hfn 177 _ rfl
 have hd:=hfn 178 _ rfl
 have hs:=hfn 179 _ rfl
 have ha:a.length < 9000:=ha
 have hbl:b.length < 9000:=hbl
 have hv:l7 [.c (.s a),.c (.s b)] vs:=hv
 have hb:RBs [] bs:=hb
 show j5 U _ fun v bs'=>l8 (.ret (.c (.s (i7 (Nat.gcd (j0 a).natAbs (j0 b).natAbs))))) v∧RBs [] bs'
 have la:=a1y a
 have lb:=a1y b
 unfold e2j
 (refine Zq ?_;intros)
 refine j4 hp ⟨a,by show a.length < 90000;omega⟩ (r:=.a (a2x (decide (j0 a < 0)) (j0 a).natAbs)) rfl l5 .nil fun _ _ hv1 _=>?_
 have hv1:RV (.a [.b _,.l (z8 _)]) _:=hv1
 (refine Zq ?_;intros)
 refine j4 hp ⟨b,by show b.length < 90000;omega⟩ (r:=.a (a2x (decide (j0 b < 0)) (j0 b).natAbs)) rfl l5 .nil fun _ _ hv2 _=>?_
 have hv2:RV (.a [.b _,.l (z8 _)]) _:=hv2
 generalize (j0 a).natAbs=x at *
 generalize (j0 b).natAbs=y at *
 (refine Zq ?_;intros)
 refine H2 (fun (p:Nat × Nat) vs bs=>∃ (m n:Nat) (v1 v2:V),p=(m,n)∧vs=[v1,v2]∧bs=[]∧RV (.c (.l (z8 m))) v1∧RV (.c (.l (z8 n))) v2∧Nat.gcd m n=Nat.gcd x y∧(j7 m).length < 9000∧(j7 n).length < 9000) (fun p=>mu p.1 p.2) (x,y) ⟨x,y,_,_,rfl,rfl,rfl,.q _ _ aS,.q _ _ aS,rfl,oM,oM⟩ (show mu x y < C4 from e4t oM oM) ?_
 rintro self _ _ _ ⟨m,n,v1,v2,rfl,rfl,rfl,h1,h2,hg,hm,hn⟩ ih
 have lm:=a86 m
 have ln:=a86 n
 (refine Zq ?_;intros)
 refine sQR h1 fun x1 g1=>?_
 (refine Zq ?_;intros)
 refine sQR h2 fun x2 g2=>?_
 (refine Zq ?_;intros)
 refine b29 g2 (c0n n) fun t off ht=>?_
 (refine Zq ?_;with_reducible repeat' first|intro _|apply aI)
 ·have hn0:n ≠ 0:=by rintro rfl;simp [z8,H5] at *
  refine j4 hd ⟨(m,n),by show (m9 m).length < 20000;omega,by show (m9 n).length < 20000;omega,hn0,by show (m9 m).length < 9000;omega,by show (m9 n).length < 9000;omega⟩ (r:=.t [.sl 1 (z8 (m / n)),.sl 1 (z8 (m % n))]) rfl (.k (d4x g1) (.k (d4x g2) .nil)) .nil fun _ _ _ _=>?_
  (refine Zq ?_;intros)
  refine ih (n,m % n) _ _ ⟨n,m % n,_,_,rfl,rfl,rfl,.q _ _ g2,.cl _ _ _ _ _ (by simp [z8]) aS,?_,hn,Nat.lt_of_le_of_lt (R3 (Nat.le_of_lt (Nat.mod_lt m (Nat.pos_of_ne_zero hn0)))) hn⟩ (d1u (Nat.pos_of_ne_zero hn0))
  rw [← hg,Nat.gcd_comm n (m % n),← Nat.gcd_rec n m,Nat.gcd_comm]
 ·have hn0:n=0:=by
   have:(z8 n).length=0:=oM
   simp only [z8,List.length_map,List.length_eq_zero_iff] at this
   exact c0q (this.trans H5.symm)
  subst hn0
  rw [Nat.gcd_zero_right] at hg
  subst hg
  refine j4 hs ⟨(false,Nat.gcd x y),by show (m9 (Nat.gcd x y)).length < 20000;omega⟩ (r:=.c (.s (i7 (Nat.gcd x y)))) (by show r7.ret (.c (.s (sgn false _)))=_;rw [e9g]) (.k (.ag _ _ (.k (.kn _) (.k (.q _ _ g1) .nil))) .nil) .nil fun _ _ _ _=>?_
  (refine Zq ?_;intros)
  exact j9 ⟨.ret _ _ (.s _ _ _ rfl rfl),.nil⟩
theorem b5f (n:Int):0 < (j3 n).length:=by
 have:=O8 n.natAbs
 unfold j3;split <;> simp <;> omega
theorem a57 (n:Int):bt (j3 n) 0=45↔n < 0:=by
 unfold j3
 split
 ·rename_i h;exact ⟨fun _=>h,fun _=>rfl⟩
 ·rename_i h
  have:=P1 n.natAbs 0 (O8 _)
  exact ⟨fun k=>by omega,fun k=>absurd k h⟩
theorem c3d:j3 1=m8 1 49:=by
 show j3 ((1:Nat):Int)=_
 rw [Z8,a9g];decide
theorem b5e (n:Int):j3 n=m8 1 49↔n=1:=⟨fun h=>Z7 (h.trans c3d.symm),fun h=>by subst h;exact c3d⟩
theorem a3a (n:Int):j3 n=m8 1 48↔n=0:=⟨fun h=>Z7 (h.trans dE),fun h=>by subst h;decide⟩
theorem e6s:k9 152 (sp1 fun s=>.ret (.c (.s (e0y s)))):=n9 (fun fn h=>e8k h) [(151,_)] (.cons a7e .nil) fun U fn hfn ⟨s,hs⟩ vs bs hv hb=>by
 have hd:=hfn 151 _ rfl
 have hv:l7 [.c (.s s)] vs:=hv
 have hb:RBs [] bs:=hb
 have hs:s.length < 90000:=hs
 show j5 U _ fun v bs'=>l8 (.ret (.c (.s (e0y s)))) v∧RBs [] bs'
 unfold e2i
 (refine Zq ?_;intros)
 have hl:=b0m s
 refine j4 hd ⟨s,hs⟩ (r:=.c (.s (N9 s))) rfl l5 .nil fun _ _ _ _=>?_
 rw [a2e] at *
 unfold e0y
 generalize j0 s=n at *
 have h0:=b5f n
 have hbt:(((j3 n).getD 0 0).toNat:Int)=bt (j3 n) 0:=rfl
 (refine Zq ?_;with_reducible repeat' first|intro _|apply aI)
 ·have e:n=0:=(a3a n).1 ‹_›
  subst e
  exact j9 ⟨.ret _ _ (.s _ _ _ rfl rfl),.nil⟩
 ·have e:n < 0:=(a57 n).1 ‹_›
  have e2:j3 (-n)=(j3 n).drop (Int.toNat 1):=by
   unfold j3
   rw [if_pos e,if_neg oM,Int.natAbs_neg];rfl
  rw [e2]
  exact j9 ⟨.ret _ _ (.s _ _ _ rfl rfl),.nil⟩
 ·have e:¬n < 0:=fun k=>‹¬(((j3 n).getD (Int.toNat 0) 0).toNat:Int)=45› ((a57 n).2 k)
  have e0:n ≠ 0:=fun k=>‹¬j3 n=m8 1 48› ((a3a n).2 k)
  have e2:j3 (-n)=[45] ++ j3 n:=by
   unfold j3
   rw [if_neg e,if_pos oM,Int.natAbs_neg]
  rw [e2]
  refine e5e (x:=[45]) (y:=j3 n) rfl rfl rfl ?_
  exact j9 ⟨.ret _ _ (.s _ _ _ (by simp;omega) rfl),.nil⟩
theorem d67 {s:i6} (h:s.length < 9000):(m9 (j0 s).natAbs).length < 9000:=by
 have:=a1y s
 have:=a86 (j0 s).natAbs
 omega
theorem e9h {a b:Int} (hb:0 < b) (hd:b ∣ a):sgn (decide (a < 0) != decide (b < 0)) (a.natAbs / b.natAbs)=j3 (a / b):=by
 obtain ⟨q,rfl⟩:=hd
 have h1:¬b < 0:=oM
 have hb':0 < b.natAbs:=oM
 rw [Int.mul_ediv_cancel_left _ oM,Int.natAbs_mul,Nat.mul_div_cancel_left _ hb',← e9f q]
 have:decide (b * q < 0)=decide (q < 0):=by
  rw [Bool.eq_iff_iff,decide_eq_true_iff,decide_eq_true_iff]
  constructor
  ·intro h
   by_cases hq:q < 0
   ·exact hq
   ·have:=Int.mul_nonneg (show 0≤b by omega) (show 0≤q by omega);omega
  ·intro h;exact Int.mul_neg_of_pos_of_neg hb h
 rw [this,decide_eq_false h1,Bool.bne_false]
theorem e0v {a b:Int} (hd:b ∣ a):a.natAbs % b.natAbs=0:=Nat.mod_eq_zero_of_dvd (Int.natAbs_dvd_natAbs.2 hd)
def g16:Sp where
 ι:={ p:i6 × i6 // p.1.length < 9000∧p.2.length < 9000∧0 < j0 p.2∧j0 p.2 ∣ j0 p.1 }
 A p:=[.c (.s p.1.1),.c (.s p.1.2)]
 B _:=[]
 R p:=.ret (.t [.c (.s (j3 (j0 p.1.1 / j0 p.1.2))),.c (.s B5)])
 B' _:=[]
 inj i j vs bs h k _ _:=by
  obtain ⟨_,_,h1,k1,h,k⟩:=h.two k
  obtain ⟨_,_,h2,k2,h,k⟩:=h.two k
  rw [H3 h1 k1,H3 h2 k2];exact ⟨rfl,rfl⟩
theorem e6l (hst:k9 179 Y2):k9 154 g16:=n9 (fun fn h=>e8m h) [(177,_),(151,_),(178,_),(179,_)] (.cons d60 (.cons a7e (.cons c57 (.cons hst .nil)))) fun U fn hfn ⟨(a,b),ha,hbl,hb0,hba⟩ vs bs hv hb=>by
 have hp:=hfn 177 _ rfl
 have hd:=hfn 178 _ rfl
 have hs:=hfn 179 _ rfl
 have ha:a.length < 9000:=ha
 have hbl:b.length < 9000:=hbl
 have hb0:0 < j0 b:=hb0
 have hba:j0 b ∣ j0 a:=hba
 have hv:l7 [.c (.s a),.c (.s b)] vs:=hv
 have hb:RBs [] bs:=hb
 show j5 U _ fun v bs'=>l8 (.ret (.t [.c (.s (j3 (j0 a / j0 b))),.c (.s B5)])) v∧RBs [] bs'
 have la:=d67 ha
 have lb:=d67 hbl
 have e1:=e9h hb0 hba
 have e2:=e0v hba
 have hx0:(j0 b).natAbs ≠ 0:=oM
 have hq:(m9 ((j0 a).natAbs / (j0 b).natAbs)).length≤(m9 (j0 a).natAbs).length:=b0v (Nat.div_le_self _ _)
 unfold e2k
 (refine Zq ?_;intros)
 refine j4 hp ⟨a,by show a.length < 90000;omega⟩ (r:=.a (a2x (decide (j0 a < 0)) (j0 a).natAbs)) rfl l5 .nil fun _ _ hv1 _=>?_
 have hv1:RV (.a [.b _,.l (z8 _)]) _:=hv1
 (refine Zq ?_;intros)
 refine j4 hp ⟨b,by show b.length < 90000;omega⟩ (r:=.a (a2x (decide (j0 b < 0)) (j0 b).natAbs)) rfl l5 .nil fun _ _ hv2 _=>?_
 have hv2:RV (.a [.b _,.l (z8 _)]) _:=hv2
 generalize (j0 a).natAbs=x at *
 generalize (j0 b).natAbs=y at *
 have hly:(z8 y).length ≠ 0:=by
  intro e
  simp only [z8,List.length_map,List.length_eq_zero_iff] at e
  exact hx0 (c0q (e.trans H5.symm))
 (refine Zq ?_;intros)
 refine b29 aS (c0n y) fun t off ht=>?_
 (refine Zq ?_;with_reducible repeat' first|intro _|apply aI)
 ·exact absurd oM hly
 ·refine j4 hd ⟨(x,y),by show (m9 x).length < 20000;omega,by show (m9 y).length < 20000;omega,hx0,la,lb⟩ (r:=.t [.sl 1 (z8 (x / y)),.sl 1 (z8 0)]) (by show r7.ret (.t [.sl 1 (z8 (x / y)),.sl 1 (z8 (x % y))])=_;rw [e2]) (.k (d4x aS) (.k (d4x aS) .nil)) .nil fun _ _ _ _=>?_
  (refine Zq ?_;with_reducible repeat' first|intro _|apply aI)
  all_goals
   refine a7q (gs:=a2x (decide (j0 a < 0) != decide (j0 b < 0)) (x / y)) (.cells _ _ (.k (.b _) (.k (.cl _ _ _ _ _ (by simp [z8]) aS) .nil))) rfl fun _ hc1=>?_
   (refine Zq ?_;intros)
   refine a7q (gs:=a2x (decide (j0 b < 0)) 0) (.cells _ _ (.k (.q _ _ aS) (.k (.cl _ _ _ _ _ (by simp [z8]) aS) .nil))) rfl fun _ hc2=>?_
   (refine Zq ?_;with_reducible repeat' first|intro _|apply aI)
   all_goals first
   | exact absurd ‹0 < (((m9 0).length:Nat):Int)› (by simp [H5])
   | refine j4 hs ⟨(_,x / y),by show (m9 (x / y)).length < 20000;omega⟩ (r:=.c (.s (j3 (j0 a / j0 b)))) (by show r7.ret (.c (.s (sgn (decide (j0 a < 0) != decide (j0 b < 0)) (x / y))))=_;rw [e1]) (.cons _ _ _ _ (.a _ _ _ rfl aS) .nil) .nil fun _ _ _ _=>?_
     (refine Zq ?_;intros)
     refine j4 hs ⟨(decide (j0 b < 0),0),by show (m9 0).length < 20000;simp [H5]⟩ (r:=.c (.s B5)) rfl (.k (.a _ _ _ rfl aS) .nil) .nil fun _ _ _ _=>?_
     (refine Zq ?_;intros)
     exact j9 ⟨.ret _ _ l5,.nil⟩
theorem c5h (s:i6):j0 (N9 s)=j0 s:=by rw [a2e,s7]
theorem c94 {a b a' b':i6} (h1:j0 a=j0 a') (h2:j0 b=j0 b'):u4 a b=u4 a' b':=by unfold u4;rw [h1,h2]
def e3d (R:i6→i6→r7):Sp where
 ι:={ p:i6 × i6 // p.1.length < 8000∧p.2.length < 8000 }
 A p:=[.c (.s p.1.1),.c (.s p.1.2)]
 B _:=[]
 R p:=R p.1.1 p.1.2
 B' _:=[]
 inj i j vs bs h k _ _:=by
  obtain ⟨_,_,h1,k1,h,k⟩:=h.two k
  obtain ⟨_,_,h2,k2,h,k⟩:=h.two k
  rw [H3 h1 k1,H3 h2 k2];exact ⟨rfl,rfl⟩
theorem d1v (n:Int):(j3 (-n)).length≤(j3 n).length+1:=by
 unfold j3
 rw [Int.natAbs_neg]
 split <;> split <;> simp <;> omega
theorem f9k (x:Int):u4 (j3 x) (j3 0)=(B5,Q3):=by unfold u4;rw [s7,if_pos rfl]
theorem f9l (x:Int):u4 (j3 x) (j3 1)=(j3 x,j3 1):=by
 rw [a4k x 1 dE]
 simp
theorem e84 (x y:Int):u4 (j3 x) (j3 y)=u4 (j3 (-x)) (j3 (-y)):=by
 rw [U4,U4]
 simp only [s7]
 have:qn x y=qn (-x) (-y):=by
  unfold qn
  rw [Int.natAbs_neg,Int.natAbs_neg]
  by_cases hy:y=0
  ·rw [if_pos hy,if_pos oM]
  ·rw [if_neg hy,if_neg (show ¬-y=0 by omega)]
   by_cases hx:x=0
   ·subst hx;simp <;> (intro h;exact absurd h hy)
   ·have e:(if (x < 0)=(y < 0) then (1:Int) else -1)=if (-x < 0)=(-y < 0) then 1 else -1:=by
     by_cases h1:x < 0 <;> by_cases h2:y < 0 <;> simp [h1,h2] <;> omega
    rw [e]
 rw [this]
theorem e83 {m n:Int} (hn:0 < n) (h:Nat.gcd m.natAbs n.natAbs=1):u4 (j3 m) (j3 n)=(j3 m,j3 n):=by
 rw [a4k m n hn,h];simp
theorem b58 (hst:k9 179 Y2):k9 129 (e3d fun a b=>.ret (.t [.c (.s (u4 a b).1),.c (.s (u4 a b).2)])):=n9 (fun fn h=>e79 h) [(151,_),(152,_),(153,_),(154,_)] (.cons a7e (.cons e6s (.cons (f82 hst) (.cons (e6l hst) .nil)))) fun U fn hfn ⟨(a,b),ha,hbl⟩ vs bs hv hb=>by
 have hd:=hfn 151 _ rfl
 have hn:=hfn 152 _ rfl
 have hg:=hfn 153 _ rfl
 have hq:=hfn 154 _ rfl
 have ha:a.length < 8000:=ha
 have hbl:b.length < 8000:=hbl
 have hv:l7 [.c (.s a),.c (.s b)] vs:=hv
 have hb:RBs [] bs:=hb
 show j5 U _ fun v bs'=>l8 (.ret (.t [.c (.s (u4 a b).1),.c (.s (u4 a b).2)])) v∧RBs [] bs'
 unfold e17
 (refine Zq ?_;intros)
 refine j4 hd ⟨a,by show a.length < 90000;omega⟩ (r:=.c (.s (N9 a))) rfl l5 .nil fun _ _ _ _=>?_
 (refine Zq ?_;intros)
 refine j4 hd ⟨b,by show b.length < 90000;omega⟩ (r:=.c (.s (N9 b))) rfl l5 .nil fun _ _ _ _=>?_
 have la:(N9 a).length < 8000:=by have:=b0m a;omega
 have lb:(N9 b).length < 8000:=by have:=b0m b;omega
 rw [c94 (c5h a).symm (c5h b).symm]
 rw [a2e a,a2e b] at *
 generalize j0 a=x at *
 generalize j0 b=y at *
 have h0:=b5f y
 have hbt:(((j3 y).getD 0 0).toNat:Int)=bt (j3 y) 0:=rfl
 (refine Zy ?_;intros)
 refine S4 (fun vs bs=>∃ m n:Int,l7 [.c (.s (j3 m)),.c (.s (j3 n))] vs∧RBs [] bs∧0 < n∧(j3 m).length < 8500∧(j3 n).length < 8500∧u4 (j3 x) (j3 y)=u4 (j3 m) (j3 n)) ?_ ?_
 ·rintro vs' bs' ⟨m,n,hv',hb',hn0,hml,hnl,he⟩
  rw [he]
  have hgv:r7.ret (.c (.s (i7 (Nat.gcd (j0 (j3 m)).natAbs (j0 (j3 n)).natAbs))))=.ret (.c (.s (i7 (Nat.gcd m.natAbs n.natAbs)))):=by rw [s7,s7]
  obtain ⟨g,hge⟩:∃ g,g=Nat.gcd m.natAbs n.natAbs:=⟨_,rfl⟩
  rw [← hge] at hgv
  have hg0:0 < g:=by rw [hge];exact Nat.gcd_pos_of_pos_right _ oM
  have hgd:(g:Int) ∣ m∧(g:Int) ∣ n:=by
   rw [hge];exact ⟨Int.ofNat_dvd_left.2 (Nat.gcd_dvd_left _ _),Int.ofNat_dvd_left.2 (Nat.gcd_dvd_right _ _)⟩
  have hdv:j0 (i7 g)=(g:Int):=B4 g
  have hgl:(i7 g).length < 9000:=by
   have h1:=a9f g
   have h2:(j7 g).length≤(j7 n.natAbs).length:=R3 (by rw [hge];exact Nat.le_of_dvd oM (Nat.gcd_dvd_right _ _))
   have h3:=c5s n
   omega
  (refine Zq ?_;intros)
  refine j4 hg ⟨(j3 m,j3 n),by show (j3 m).length < 9000;omega,by show (j3 n).length < 9000;omega⟩ (r:=.c (.s (i7 g))) hgv l5 .nil fun _ _ _ _=>?_
  (refine Zq ?_;with_reducible repeat' first|intro _|apply aI)
  ·have e1:g=1:=by
    have:=(b5e (g:Int)).1 (by rw [Z8];assumption)
    omega
   rw [e83 hn0 (by rw [← hge];exact e1)]
   exact j9 ⟨.ret _ _ l5,.nil⟩
  ·rw [a4k m n hn0,← hge]
   refine j4 hq ⟨(j3 m,i7 g),by show (j3 m).length < 9000;omega,hgl,by show 0 < j0 (i7 g);omega,by show j0 (i7 g) ∣ j0 (j3 m);rw [hdv,s7];exact hgd.1⟩ (r:=.t [.c (.s (j3 (m / g))),.c (.s B5)]) (by show r7.ret (.t [.c (.s (j3 (j0 (j3 m) / j0 (i7 g)))),.c (.s B5)])=_;rw [hdv,s7]) l5 .nil fun _ _ _ _=>?_
   (refine Zq ?_;intros)
   refine j4 hq ⟨(j3 n,i7 g),by show (j3 n).length < 9000;omega,hgl,by show 0 < j0 (i7 g);omega,by show j0 (i7 g) ∣ j0 (j3 n);rw [hdv,s7];exact hgd.2⟩ (r:=.t [.c (.s (j3 (n / g))),.c (.s B5)]) (by show r7.ret (.t [.c (.s (j3 (j0 (j3 n) / j0 (i7 g)))),.c (.s B5)])=_;rw [hdv,s7]) l5 .nil fun _ _ _ _=>?_
   (refine Zq ?_;intros)
   exact j9 ⟨.ret _ _ l5,.nil⟩
 ·intro c hc
  (refine Zq ?_;with_reducible repeat' first|intro _|apply aI)
  ·have e:y=0:=(a3a y).1 ‹_›
   subst e
   rw [f9k]
   exact j9 ⟨.ret _ _ l5,.nil⟩
  ·have e:y=1:=(b5e y).1 ‹_›
   subst e
   rw [f9l]
   exact j9 ⟨.ret _ _ l5,.nil⟩
  ·have e:y < 0:=(a57 y).1 ‹_›
   refine j4 hn ⟨j3 x,by show (j3 x).length < 90000;omega⟩ (r:=.c (.s (j3 (-x)))) (by show r7.ret (.c (.s (j3 (-j0 (j3 x)))))=_;rw [s7]) l5 .nil fun _ _ _ _=>?_
   (refine Zq ?_;intros)
   refine j4 hn ⟨j3 y,by show (j3 y).length < 90000;omega⟩ (r:=.c (.s (j3 (-y)))) (by show r7.ret (.c (.s (j3 (-j0 (j3 y)))))=_;rw [s7]) l5 .nil fun _ _ _ _=>?_
   (refine Zq ?_;intros)
   have l1:=d1v x
   have l2:=d1v y
   exact hc _ _ ⟨-x,-y,by (exact l5),.nil,oM,oM,oM,e84 x y⟩
  ·have e:¬y < 0:=fun k=>‹¬(((j3 y).getD (Int.toNat 0) 0).toNat:Int)=45› ((a57 y).2 k)
   have e0:y ≠ 0:=fun k=>‹¬j3 y=m8 1 48› ((a3a y).2 k)
   exact hc _ _ ⟨x,y,by (exact l5),.nil,oM,oM,oM,rfl⟩
theorem b7i {p:UInt8→Bool}:∀ {l:i6},l.dropWhile p=[]↔∀ b ∈ l,p b=true
 | []=>by simp
 | c :: l=>by
  by_cases h:p c=true
  ·rw [List.dropWhile_cons_of_pos h,b7i];simp [h]
  ·rw [List.dropWhile_cons_of_neg h];simp [h]
theorem d0z {p:UInt8→Bool} {c:UInt8} {r:i6}:∀ {l:i6},l.dropWhile p=c :: r→p c=false
 | [],h=>by simp at h
 | d :: l,h=>by
  by_cases hp:p d=true
  ·rw [List.dropWhile_cons_of_pos hp] at h;exact d0z h
  ·rw [List.dropWhile_cons_of_neg hp] at h
   injection h with h _;subst h;simpa using hp
theorem c8v {l cs:i6}:Lib.trimS l cs=[]↔∀ b ∈ l,cs.contains b=true:=by
 unfold Lib.trimS Lib.trimLeftS Lib.trimRightS
 constructor
 ·intro h
  have h1:=b7i.1 h
  cases hd:l.reverse.dropWhile (cs.contains ·) with
  | nil=>intro b hb;exact b7i.1 hd b (List.mem_reverse.2 hb)
  | cons c r =>
   rw [hd] at h1
   have h2:=h1 c (by simp)
   have h3:=d0z hd
   rw [h2] at h3;cases h3
 ·intro h
  have:l.reverse.dropWhile (cs.contains ·)=[]:=b7i.2 fun b hb=>h b (List.mem_reverse.1 hb)
  rw [this];rfl
def ten:i6:=m8 10 270211885617516653982000
theorem d2r (b:UInt8):ten.contains b=a02 b.toNat:=by
 have key:∀ n:Fin 256,ten.contains (UInt8.ofNat n.1)=a02 n.1:=dE
 have:=key ⟨b.toNat,b.toNat_lt⟩
 simpa using this
def G7 (u:i6):Bool:=decide (u ≠ []∧s8 u 0=u.length)
theorem b0o {u:i6} {k:Nat} (hk:k≤u.length):s8 u k=u.length↔∀ j,k≤j→j < u.length→48≤bt u j∧bt u j≤57 :=
 ⟨fun h j h1 h2=>a01 u k j h1 oM,fun h=>U9 u k hk h⟩
theorem d51 (u:i6):decide (Lib.trimS u ten=[])=decide (s8 u 0=u.length):=by
 rw [Bool.eq_iff_iff,decide_eq_true_iff,decide_eq_true_iff,c8v,b0o (Nat.zero_le _)]
 constructor
 ·intro h j _ hj
  have:=h u[j] (List.getElem_mem hj)
  rw [d2r] at this
  have e:bt u j=u[j].toNat:=by unfold bt;simp [List.getD,List.getElem?_eq_getElem hj]
  rw [e];simpa [a02] using this
 ·intro h b hb
  obtain ⟨j,hj,rfl⟩:=List.getElem_of_mem hb
  rw [d2r]
  have e:bt u j=u[j].toNat:=by unfold bt;simp [List.getD,List.getElem?_eq_getElem hj]
  have:=h j (Nat.zero_le _) hj
  rw [e] at this;simpa [a02] using this
theorem e6j:k9 158 (sp1 fun s=>.ret (.c (.b (G7 s)))):=n9 (fun fn h=>e8p h) [(139,_)] (.cons d64 .nil) fun U fn hfn ⟨s,hs⟩ vs bs hv hb=>by
 have ht:=hfn 139 _ rfl
 have hv:l7 [.c (.s s)] vs:=hv
 have hb:RBs [] bs:=hb
 have hs:s.length < 90000:=hs
 show j5 U _ fun v bs'=>l8 (.ret (.c (.b (G7 s)))) v∧RBs [] bs'
 unfold e2n
 (refine Zq ?_;with_reducible repeat' first|intro _|apply aI)
 ·have h0:s=m8 0 0:=‹_›
  have e:G7 s=false:=by unfold G7;rw [decide_eq_false];exact fun h=>h.1 h0
  rw [e]
  exact j9 ⟨.ret _ _ (.kn _),.nil⟩
 ·have h0:¬s=m8 0 0:=‹_›
  refine j4 ht ⟨(s,ten),by show s.length < 4294967281;omega,(by decide:ten.length < 4294967281),(by decide:∀ b ∈ ten,b.toNat < 128)⟩ (r:=.c (.s (Lib.trimS s ten))) rfl l5 .nil fun _ _ _ _=>?_
  (refine Zq ?_;intros)
  exact J3 fun e=>by
   subst e
   refine ⟨.ret _ _ (U6 ?_),.nil⟩
   rw [b5z]
   show G7 s=decide (Lib.trimS s ten=[])
   rw [d51]
   unfold G7
   rw [Bool.eq_iff_iff,decide_eq_true_iff,decide_eq_true_iff]
   exact ⟨fun h=>h.2,fun h=>⟨h0,h⟩⟩
theorem f8y {s:i6} {c:UInt8} (h:0≤Lib.indexByte s c):bt s (Lib.indexByte s c).toNat=c.toNat∧∀ j,j < (Lib.indexByte s c).toNat→bt s j ≠ c.toNat:=by
 induction s with
 | nil=>simp [Lib.indexByte] at h
 | cons b r ih =>
  have ex:Lib.indexByte (b :: r) c=if b=c then 0 else if Lib.indexByte r c=-1 then -1 else Lib.indexByte r c+1:=by simp only [Lib.indexByte,beq_iff_eq]
  rw [ex] at h ⊢
  by_cases hb:b=c
  ·rw [if_pos hb];subst hb;exact ⟨rfl,fun j hj=>by simp at hj⟩
  ·rw [if_neg hb] at h ⊢
   by_cases h1:Lib.indexByte r c=-1
   ·rw [if_pos h1] at h;omega
   ·rw [if_neg h1] at h ⊢
    have hge:=(W6 r c).2
    obtain ⟨i1,i2⟩:=ih oM
    rw [show (Lib.indexByte r c+1).toNat=(Lib.indexByte r c).toNat+1 by omega]
    refine ⟨by rw [a0z];exact i1,fun j hj=>?_⟩
    cases j with
    | zero=>exact fun e=>hb (UInt8.toNat_inj.1 (by have:bt (b :: r) 0=b.toNat:=rfl;omega))
    | succ j=>rw [a0z];exact i2 j oM
theorem e6f {s:i6} {c:UInt8} (h:¬0≤Lib.indexByte s c):∀ j,j < s.length→bt s j ≠ c.toNat:=by
 induction s with
 | nil=>intro j hj;simp at hj
 | cons b r ih =>
  have ex:Lib.indexByte (b :: r) c=if b=c then 0 else if Lib.indexByte r c=-1 then -1 else Lib.indexByte r c+1:=by simp only [Lib.indexByte,beq_iff_eq]
  rw [ex] at h
  by_cases hb:b=c
  ·rw [if_pos hb] at h;omega
  ·rw [if_neg hb] at h
   have hge:=(W6 r c).2
   have h1:¬0≤Lib.indexByte r c:=by split at h <;> omega
   intro j hj
   cases j with
   | zero=>exact fun e=>hb (UInt8.toNat_inj.1 (by have:bt (b :: r) 0=b.toNat:=rfl;omega))
   | succ j=>rw [a0z];exact ih h1 j (by simpa using hj)
theorem c9d (s:i6) (i:Nat):s8 s i < s.length→¬(48≤bt s (s8 s i)∧bt s (s8 s i)≤57):=by
 fun_induction s8 s i with
 | case1 i h1 h2 ih=>exact ih
 | case2 i h1 h2=>intro _ h;exact h2 (by simpa [a02] using h)
 | case3 i h1=>intro h;exact absurd h h1
def A8 (s:i6):i6 × i6:=((K6 s 47).1,if (K6 s 47).2.2 then (K6 s 47).2.1 else Q3)
theorem d6i {s:i6} {i p:Nat} (hp:p≤s.length) (hi:i≤p) (hn:p < s.length→¬(48≤bt s p∧bt s p≤57)):(∀ j,i≤j→j < p→48≤bt s j∧bt s j≤57)↔s8 s i=p:=by
 constructor
 ·intro h
  have hA:At s i ((s.take p).drop i) (s.drop p):=by
   unfold At
   have:=(List.take_append_drop p s).symm
   conv=>lhs;rw [this]
   rw [List.drop_append_of_le_length (by simp;omega)]
  have hl:((s.take p).drop i).length=p - i:=by simp;omega
  rw [a77 hA (fun j hj=>by
   rw [hl] at hj
   have e:bt ((s.take p).drop i) j=bt s (i+j):=by rw [a3s];unfold bt;simp [List.getD,List.getElem?_take,show i+j < p by omega]
   rw [e];exact h _ oM oM) ?_,hl]
  ·omega
  ·by_cases h2:p < s.length
   ·right;rw [a3s];exact hn h2
   ·left;exact List.drop_eq_nil_of_le oM
 ·intro h j h1 h2;exact a01 s i j h1 oM
theorem a8x {s:i6} {i p:Nat} (hp:p≤s.length) (hi:i≤p) (hn:p < s.length→¬(48≤bt s p∧bt s p≤57)):G7 ((s.take p).drop i)=decide (i < p∧s8 s i=p):=by
 unfold G7
 have hl:((s.take p).drop i).length=p - i:=by simp;omega
 rw [Bool.eq_iff_iff,decide_eq_true_iff,decide_eq_true_iff,b0o (Nat.zero_le _),hl,← d6i hp hi hn]
 have hb:∀ j,j < p - i→bt ((s.take p).drop i) j=bt s (i+j):=fun j hj=>by
  rw [a3s];unfold bt;simp [List.getD,List.getElem?_take,show i+j < p by omega]
 constructor
 ·rintro ⟨h1,h2⟩
  refine ⟨?_,fun j h3 h4=>?_⟩
  ·have:=List.length_pos_iff.2 h1;omega
  ·have:=h2 (j - i) (Nat.zero_le _) oM
   rw [hb _ oM,show i+(j - i)=j by omega] at this;exact this
 ·rintro ⟨h1,h2⟩
  refine ⟨fun e=>by rw [e] at hl;simp at hl;omega,fun j _ hj=>?_⟩
  rw [hb j hj];exact h2 _ oM oM
theorem c9a {s:i6} {p:Nat} (hp:j6 s≤p) (hl:p≤s.length):F3 (s.take p) [45]=(s.take p).drop (j6 s):=by
 rw [Z1]
 congr 1
 have hs:=Y1 s
 unfold j6 at hp ⊢
 have hlen:(s.take p).length=p:=by simp;omega
 by_cases h:0 < s.length∧bt s 0=45
 ·rw [if_pos h] at hp ⊢
  rw [if_pos ⟨oM,by unfold bt at *;simp only [List.getD,List.getElem?_take];rw [if_pos oM];exact h.2⟩]
 ·rw [if_neg h]
  rw [if_neg]
  rintro ⟨h1,h2⟩
  refine h ⟨oM,?_⟩
  unfold bt at h2 ⊢
  simp only [List.getD,List.getElem?_take] at h2
  rw [if_pos oM] at h2;exact h2
theorem d3c:G7 Q3=true:=by
 unfold G7
 refine decide_eq_true ⟨dE,U9 Q3 0 dE ?_⟩
 intro j _ hj
 have e:j=0:=Nat.lt_one_iff.1 hj
 rw [e];decide
theorem b8a (s:i6):(G7 (F3 (A8 s).1 [45]) && G7 (A8 s).2)=(x9 s).2.2∧((x9 s).2.2=true→(x9 s).1=(A8 s).1∧(x9 s).2.1=(A8 s).2):=by
 have hs:=Y1 s
 have hd:=d6f s (j6 s) hs.1
 have hstop:=c9d s (j6 s)
 have hsg:∀ j,j < j6 s→bt s j=45:=fun j hj=>by
  unfold j6 at hj
  split at hj
  ·rename_i h;have:j=0:=oM
   subst this;exact h.2
  ·omega
 unfold A8 K6
 by_cases hp:0≤Lib.indexByte s 47
 ·obtain ⟨p1,p2⟩:=f8y hp
  have p3:=(W6 s 47).1
  simp only [if_pos hp]
  obtain ⟨p,hpe⟩:∃ p,p=(Lib.indexByte s 47).toNat:=⟨_,rfl⟩
  rw [show (Lib.indexByte s 47+1).toNat=p+1 by omega]
  rw [← hpe] at p1 p2 ⊢
  have hpl:p < s.length:=oM
  have hip:j6 s≤p:=by
   by_cases h:p < j6 s
   ·have:=hsg p h;rw [p1] at this;simp at this
   ·omega
  have p1':bt s p=47:=p1
  have hkp:s8 s (j6 s)≤p:=by
   by_cases h:p < s8 s (j6 s)
   ·have:=a01 s (j6 s) p hip h;omega
   ·omega
  rw [c9a hip oM,a8x oM hip (fun _=>by omega)]
  have hden:s.drop (p+1)=(s.take s.length).drop (p+1):=by rw [List.take_length]
  simp only [if_true]
  rw [hden,a8x (Nat.le_refl _) oM (fun h=>by omega)]
  unfold x9
  simp only []
  by_cases h1:s8 s (j6 s)=j6 s
  ·rw [if_pos h1]
   refine ⟨?_,fun h=>by cases h⟩
   rw [decide_eq_false oM];rfl
  ·rw [if_neg h1,if_neg oM]
   by_cases h2:s8 s (j6 s)=p
   ·rw [h2]
    by_cases h3:p+1=s.length
    ·rw [if_pos (.inr h3)]
     refine ⟨?_,fun h=>by cases h⟩
     rw [show decide (p+1 < s.length∧s8 s (p+1)=s.length)=false from decide_eq_false oM,Bool.and_false]
    ·rw [if_neg oM]
     have hsp:j6 s < p:=oM
     by_cases h4:s8 s (p+1)=s.length
     ·rw [if_pos h4]
      refine ⟨?_,fun _=>⟨by simp,by simp⟩⟩
      rw [decide_eq_true ⟨hsp,rfl⟩,decide_eq_true ⟨oM,h4⟩];rfl
     ·rw [if_neg h4]
      refine ⟨?_,fun h=>by cases h⟩
      rw [show decide (p+1 < s.length∧s8 s (p+1)=s.length)=false from decide_eq_false (fun h=>h4 h.2),Bool.and_false]
   ·rw [if_pos (.inl (p2 _ oM))]
    refine ⟨?_,fun h=>by cases h⟩
    rw [decide_eq_false (fun h=>h2 h.2)];rfl
 ·have p2:=e6f hp
  simp only [if_neg hp]
  rw [show F3 s [45]=(s.take s.length).drop (j6 s) by rw [List.take_length,Z1],a8x (Nat.le_refl _) hs.1 (fun h=>by omega)]
  simp only [Bool.false_eq_true,if_false]
  rw [d3c,Bool.and_true]
  unfold x9
  simp only []
  by_cases h1:s8 s (j6 s)=j6 s
  ·rw [if_pos h1]
   refine ⟨decide_eq_false oM,fun h=>by cases h⟩
  ·rw [if_neg h1]
   by_cases h2:s8 s (j6 s)=s.length
   ·rw [if_pos h2]
    exact ⟨decide_eq_true ⟨oM,h2⟩,fun _=>⟨rfl,rfl⟩⟩
   ·rw [if_neg h2,if_pos (.inl (p2 _ oM))]
    exact ⟨decide_eq_false (fun h=>h2 h.2),fun h=>by cases h⟩
theorem d6d:m8 1 47=[47]:=dE
theorem e0k:k9 138 (sp1 fun s=>.ret (.t [.c (.s (A8 s).1),.c (.s (A8 s).2),.c (.b (x9 s).2.2)])):=n9 (fun fn h=>e8f h) [(157,_),(159,_),(158,_)] (.cons g1k (.cons a1m (.cons e6j .nil))) fun U fn hfn ⟨s,hs⟩ vs bs hv hb=>by
 have hc:=hfn 157 _ rfl
 have ht:=hfn 159 _ rfl
 have hi:=hfn 158 _ rfl
 have hv:l7 [.c (.s s)] vs:=hv
 have hb:RBs [] bs:=hb
 have hs:s.length < 90000:=hs
 show j5 U _ fun v bs'=>l8 (.ret (.t [.c (.s (A8 s).1),.c (.s (A8 s).2),.c (.b (x9 s).2.2)])) v∧RBs [] bs'
 unfold e2d
 obtain ⟨n1,n2⟩:=b8a s
 have hl:(A8 s).1.length≤s.length∧((A8 s).2.length≤s.length∨(A8 s).2.length≤1):=by
  unfold A8 K6
  split <;> simp [Q3] <;> omega
 have hcp:(F3 (A8 s).1 [45]).length≤(A8 s).1.length:=by unfold F3;split <;> simp
 rw [← n1]
 (refine Zq ?_;intros)
 refine j4 hc ⟨(s,m8 1 47),⟨hs,47,d6d⟩⟩ (r:=.t [.c (.s (K6 s 47).1),.c (.s (K6 s 47).2.1),.c (.b (K6 s 47).2.2)]) (by show r7.ret (.t [.c (.s (K6 s ((m8 1 47).headD 0)).1),.c (.s (K6 s ((m8 1 47).headD 0)).2.1),.c (.b (K6 s ((m8 1 47).headD 0)).2.2)])=_;rw [d6d];rfl) l5 .nil fun _ _ _ _=>?_
 (refine Zy ?_;intros)
 refine S4 (fun vs bs=>l7 [.c (.s (A8 s).1),.c (.s (A8 s).2)] vs∧RBs [] bs) ?_ ?_
 ·rintro vs' bs' ⟨hv',hb'⟩
  (refine Zq ?_;intros)
  refine j4 ht ⟨((A8 s).1,m8 1 45),trivial⟩ (r:=.c (.s (F3 (A8 s).1 [45]))) (by show r7.ret (.c (.s (F3 _ (m8 1 45))))=_;rw [b7e]) l5 .nil fun _ _ _ _=>?_
  (refine Zq ?_;intros)
  refine j4 hi ⟨F3 (A8 s).1 [45],oM⟩ (r:=.c (.b (G7 (F3 (A8 s).1 [45])))) rfl l5 .nil fun _ _ _ _=>?_
  (refine Zq ?_;with_reducible repeat' first|intro _|apply aI)
  ·have h1:G7 (F3 (A8 s).1 [45])=true:=‹_›
   rw [h1,Bool.true_and]
   refine j4 hi ⟨(A8 s).2,oM⟩ (r:=.c (.b (G7 (A8 s).2))) rfl l5 .nil fun _ _ _ _=>?_
   (refine Zq ?_;intros)
   exact j9 ⟨.ret _ _ l5,.nil⟩
  ·have h1:G7 (F3 (A8 s).1 [45])=false:=by simpa using ‹¬G7 (F3 (A8 s).1 [45])=true›
   rw [h1,Bool.false_and]
   exact j9 ⟨.ret _ _ l5,.nil⟩
 ·intro c hc
  have e1:(A8 s).1=(K6 s 47).1:=rfl
  have e2:(A8 s).2=if (K6 s 47).2.2 then (K6 s 47).2.1 else Q3:=rfl
  (refine Zq ?_;with_reducible repeat' first|intro _|apply aI)
  ·refine hc _ _ ⟨?_,.nil⟩
   rw [e1,e2,if_pos ‹_›]
   exact l5
  ·refine hc _ _ ⟨?_,.nil⟩
   rw [e1,e2,if_neg ‹_›]
   exact l5
theorem d9i (s:i6) (a:Nat):Lib.trimLeftS (s.drop a) [48]=s.drop (E9 s a):=by
 fun_induction E9 s a with
 | case1 a h1 h2 ih =>
  rw [← ih,List.drop_eq_getElem_cons h1]
  have:s[a]=48:=UInt8.toNat_inj.1 (by have e:bt s a=s[a].toNat:=by unfold bt;simp [List.getD,List.getElem?_eq_getElem h1]
                                      rw [e] at h2;show s[a].toNat=48;omega)
  unfold Lib.trimLeftS
  rw [List.dropWhile_cons_of_pos (by rw [this];decide)]
 | case2 a h1 h2 =>
  rw [List.drop_eq_getElem_cons h1]
  unfold Lib.trimLeftS
  rw [List.dropWhile_cons_of_neg]
  simp only [List.contains_cons,List.contains_nil,Bool.or_false,beq_iff_eq]
  intro e
  refine h2 ?_
  unfold bt;simp [List.getD,List.getElem?_eq_getElem h1,e]
 | case3 a h1=>rw [List.drop_eq_nil_of_le oM];rfl
theorem f06:k9 140 (sp1 fun s=>.ret (.c (.s (plain s)))):=n9 (fun fn h=>e8g h) [(159,_),(167,_)] (.cons a1m (.cons d31 .nil)) fun U fn hfn ⟨s,hs⟩ vs bs hv hb=>by
 have ht:=hfn 159 _ rfl
 have hl:=hfn 167 _ rfl
 have hv:l7 [.c (.s s)] vs:=hv
 have hb:RBs [] bs:=hb
 have hs:s.length < 90000:=hs
 show j5 U _ fun v bs'=>l8 (.ret (.c (.s (plain s)))) v∧RBs [] bs'
 unfold e2e
 (refine Zq ?_;intros)
 refine j4 ht ⟨(s,m8 1 45),trivial⟩ (r:=.c (.s (s.drop (j6 s)))) (by show r7.ret (.c (.s (F3 s (m8 1 45))))=_;rw [b7e,Z1]) l5 .nil fun _ _ _ _=>?_
 (refine Zq ?_;intros)
 refine j4 hl ⟨(s.drop (j6 s),m8 1 48),by show (s.drop (j6 s)).length < 4294967281;simp;omega,(by decide:(m8 1 48).length < 4294967281),(by decide:∀ b ∈ m8 1 48,b.toNat < 128)⟩ (r:=.c (.s (s.drop (E9 s (j6 s))))) (by show r7.ret (.c (.s (Lib.trimLeftS (s.drop (j6 s)) (m8 1 48))))=_;rw [← d9i];rfl) l5 .nil fun _ _ _ _=>?_
 have hsl:=Y1 s
 have hz:=b1n s (j6 s) hsl.1
 have hbt:((s.getD 0 0).toNat:Int)=bt s 0:=rfl
 have e1:plain s=if E9 s (j6 s)=s.length then B5 else if j6 s=1 then [45] ++ s.drop (E9 s (j6 s)) else s.drop (E9 s (j6 s)):=by unfold plain;simp only [List.take_length]
 rw [e1]
 generalize E9 s (j6 s)=z at *
 have hdl:(s.drop z).length=s.length - z:=by simp
 have hpos:¬s.drop z=m8 0 0→0 < s.length:=fun h=>by
  rcases Nat.lt_or_ge 0 s.length with h2 | h2
  ·exact h2
  ·exact absurd (List.drop_eq_nil_of_le oM) h
 have hsg:j6 s=1↔(0 < s.length∧bt s 0=45):=by unfold j6;split <;> simp [*]
 (refine Zq ?_;with_reducible repeat' first|intro _|apply aI)
 ·have:z=s.length:=by
   have h:s.drop z=[]:=‹_›
   have:=List.drop_eq_nil_iff.1 h;omega
  rw [if_pos this]
  exact j9 ⟨.ret _ _ (.s _ _ _ rfl rfl),.nil⟩
 ·have h0:¬s.drop z=m8 0 0:=‹_›
  have hp:=hpos h0
  rw [if_neg (fun e=>h0 (List.drop_eq_nil_of_le oM))]
  (refine Zq ?_;with_reducible repeat' first|intro _|apply aI)
  ·rw [if_pos (hsg.2 ⟨hp,‹_›⟩)]
   refine e5e (x:=[45]) (y:=s.drop z) rfl rfl rfl ?_
   exact j9 ⟨.ret _ _ (.s _ _ _ (by simp;omega) rfl),.nil⟩
  ·rw [if_neg (fun e=>‹¬_› (hsg.1 e).2)]
   exact j9 ⟨.ret _ _ (.s _ _ _ rfl rfl),.nil⟩
end
end Go.Proofs.YtdldcfllnohkeaaGreatDoor
