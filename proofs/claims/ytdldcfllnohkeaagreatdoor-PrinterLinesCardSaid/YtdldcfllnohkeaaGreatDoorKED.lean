/- The program's numbers: a text as limbs. -/
import Derived.Test.YtdldcfllnohkeaaGreatDoorKEC
set_option linter.all false
namespace Go.Proofs.YtdldcfllnohkeaaGreatDoor
open Go.Abs LQ Go.RowKit Go.Lib Go.Sort
set_option maxRecDepth 100000
set_option maxHeartbeats 4000000
noncomputable section
theorem e8g (l:List UInt8):∀ acc:Nat,(∀ c ∈ l,48≤c.toNat∧c.toNat≤57)→acc * 10 ^ l.length+A3 l≤4294967295→Lib.parseUintM 4294967295 acc l=.ok (acc * 10 ^ l.length+A3 l):=by
 induction l with
 | nil=>intro acc _ _;simp [Lib.parseUintM,A3,u4]
 | cons c r ih =>
  intro acc hd h
  obtain ⟨h1,h2⟩:=hd c (by simp)
  have e:A3 (c :: r)=(c.toNat - 48) * 10 ^ r.length+A3 r:=by
   rw [b59]
   have:(bt [c] 0 - 48).toNat=c.toNat - 48:=by show (((c.toNat:Nat):Int) - 48).toNat=_;omega
   rw [this]
  rw [e,List.length_cons,Nat.pow_succ] at h ⊢
  have hp:1≤10 ^ r.length:=Nat.one_le_pow _ _ dE
  have e2:(acc * 10+(c.toNat - 48)) * 10 ^ r.length+A3 r=acc * (10 ^ r.length * 10)+((c.toNat - 48) * 10 ^ r.length+A3 r):=by
   rw [Nat.add_mul,Nat.mul_assoc,Nat.mul_comm 10,Nat.add_assoc]
  have hb:acc * 10+(c.toNat - 48)≤(acc * 10+(c.toNat - 48)) * 10 ^ r.length:=Nat.le_mul_of_pos_right _ hp
  rw [Lib.parseUintM,if_pos ⟨h1,h2⟩,if_neg oM,if_neg oM,ih _ (fun d hd'=>hd d (by simp [hd'])) (by rw [e2];exact h),e2]
theorem e2w {s:f5} (h:∀ j,j < s.length→48≤bt s j∧bt s j≤57):∀ c ∈ s,48≤c.toNat∧c.toNat≤57:=fun c hc=>by
 obtain ⟨j,hj,rfl⟩:=List.getElem_of_mem hc
 have:=h j hj
 unfold bt at this
 simp only [List.getD,List.getElem?_eq_getElem hj,Option.getD_some] at this
 omega
theorem e8f {s:f5} (h0:0 < s.length) (h9:s.length≤9) (h:∀ j,j < s.length→48≤bt s j∧bt s j≤57):Lib.parseUintB 32 s=.ok (A3 s):=by
 have hl:=c36 s h
 have hp:(10:Nat) ^ s.length≤10 ^ 9:=Nat.pow_le_pow_right dE h9
 have:=e8g s 0 (e2w h) (by rw [Nat.zero_mul];omega)
 rw [Nat.zero_mul,Nat.zero_add] at this
 unfold Lib.parseUintB
 rw [if_neg (by intro e;subst e;simp at h0)]
 exact this
def f87:Sp where
 ι:={ s:f5 // 0 < s.length∧s.length≤9∧∀ j,j < s.length→48≤bt s j∧bt s j≤57 }
 A s:=[.c (.s s.1),.c (.i .i64 10),.c (.i .i64 32)]
 B _:=[]
 R s:=.ret (.t [.c (.i .u64 ((A3 s.1:Nat):Int)),.nilI])
 B' _:=[]
 inj i j vs bs h k _ _:=by
  obtain ⟨_,_,h1,k1,h,k⟩:=h.two k
  rw [F7 h1 k1];exact ⟨rfl,rfl⟩
theorem kPU:j3 191 f87:=fun ⟨s,h0,h9,hd⟩ vs bs hv hb=>by
 change j5 [.c (.s s),.c (.i .i64 10),.c (.i .i64 32)] vs at hv
 cases hb
 refine ⟨.ret (.tuple [.int .u64 ((A3 s:Nat):Int),.nilIface]),[],fun hok=>?_,.ret _ _ (.t _ _ (.k (.i _ _) (.k .nilI .nil))),.nil⟩
 have hx:vs.map toD=[D.str s,.int .i64 10,.int .i64 32]:=by
  cases hv with
  | cons _ _ v _ h1 h2=>cases h2 with
   | cons _ _ v2 _ h2 h3=>cases h3 with
    | cons _ _ v3 _ h3 h4 =>
     cases h4
     rw [List.map_cons,List.map_cons,List.map_cons,c13 h1,d2c h2,d2c h3];rfl
 rw [hx]
 refine I8 (d:=.tuple [.int .u64 ((A3 s:Nat):Int),.nilIface]) Tryz.call191 fun w S M us hg hwi hr=>?_
 have hus:us=[.string ⟨s.toArray⟩,.int .i64 10,.int .i64 32]:=by
  cases hr with
  | cons _ _ _ _ r1 r2=>cases r2 with
   | cons _ _ _ _ r2 r3=>cases r3 with
    | cons _ _ _ _ r3 r4 =>
     cases r4;cases r1;cases r2;cases r3
     rename_i sb hs
     rw [d5k hs]
 subst hus
 refine (Any.strconv_ParseUint_10_at32_ok Tryz.laysPu14 ⟨s.toArray⟩ (by simp [ByteArray.size];omega) (A3 s) (e8f h0 h9 hd) w).mono ?_
 rintro e w' ⟨rfl,hw⟩
 have hb:Below w.heap.size w w':=by
  rcases hw with rfl | rfl
  ·exact Below.refl _ _
  ·exact Lib.bytesWorld_below _ _ _
 refine ⟨hb,_,S,rfl,⟨fun _ _ h=>h,fun _ _ h=>.inl h⟩,P5 hwi hb,.tuple _ _ (.k (.int _ _) (.k .nilIface .nil)),⟨(fun _ _ _ h=>by cases h),fun vs ds hv hd i u e h1 h2=>?_⟩⟩
 injection hv with hv
 injection hd with hd
 subst hv hd
 intro len c z he
 subst he
 match i with
 | 0=>simp at h2
 | 1=>simp at h2
 | i+2=>simp at h2
section
variable {U:s7} {P:J7→List Bx→Prop}
theorem f6e {v:V} {K:Om} (hv:RV .nilI v) (h:g7 U K P):g7 U (U.uNilI v K) P:=fun e=>by
 have:=h e;subst e;cases hv;exact this
theorem d49 {a:Int} {K:Int→Om} (h:g7 U (K (if 0 < a then a else 0)) P):g7 U (U.fI (U.isel (U.iLt 0 a) a 0) K) P :=
 b62 a1x (fun k=>by rw [if_pos k] at h;exact h) (fun k=>by rw [if_neg k] at h;exact h)
end
def a1o (neg:Bool) (n:Nat):List G:=[.b neg,.l (u3 n)]
theorem c6j {D:f5} {m:Nat} (hm:m≤D.length) (h9:9≤m):A3 (D.take m)=A3 (D.take (m - 9)) * 10 ^ 9+A3 ((D.take m).drop (m - 9)):=by
 have e:D.take m=D.take (m - 9) ++ (D.take m).drop (m - 9):=by
  have:=(List.take_append_drop (m - 9) (D.take m)).symm
  rw [List.take_take,Nat.min_eq_left oM] at this;exact this
 conv=>lhs;rw [e]
 rw [b90]
 have:((D.take m).drop (m - 9)).length=9:=by simp;omega
 rw [this]
theorem b9b {D:f5} (h:∀ j,j < D.length→48≤bt D j∧bt D j≤57) (k m:Nat) (hm:m≤D.length):∀ j,j < ((D.take m).drop k).length→48≤bt ((D.take m).drop k) j∧bt ((D.take m).drop k) j≤57:=fun j hj=>by
 simp at hj
 have e:bt ((D.take m).drop k) j=bt D (k+j):=by
  rw [a2d];unfold bt;simp [List.getD,List.getElem?_take,show k+j < m by omega]
 rw [e];exact h _ oM
theorem d39 (a:List Nat) (d:Nat):k5 (a ++ [d])=k5 a+B9 ^ a.length * d:=by rw [R4,d0u]
theorem d4b {acc:List Nat} {d:Nat} {n:Int} (h:n=d):acc.map lg ++ [[.i .u32 n]]=(acc ++ [d]).map lg:=by subst h;simp [lg]
theorem e2k {a:List Nat} {d:Nat} (h:LQ.LB a) (hd:d < 1000000000):LQ.LB (a ++ [d]):=fun x hx=>by
 rcases List.mem_append.1 hx with hx | hx
 ·exact h x hx
 ·simp at hx;subst hx;exact hd
theorem d1d {D:f5} {acc:List Nat} {m k N:Nat} (hd:∀ j,j < D.length→48≤bt D j∧bt D j≤57) (hm:m≤D.length) (hk:k=m - 9) (he:k5 acc+B9 ^ acc.length * A3 (D.take m)=N) :
  A3 ((D.take m).drop k) < 1000000000∧k5 (acc ++ [A3 ((D.take m).drop k)])+B9 ^ (acc ++ [A3 ((D.take m).drop k)]).length * A3 (D.take k)=N:=by
 subst hk
 have hlt:=c36 _ (b9b hd (m - 9) m hm)
 have hl:((D.take m).drop (m - 9)).length≤9:=by simp;omega
 have h9:A3 ((D.take m).drop (m - 9)) < 1000000000:=Nat.lt_of_lt_of_le hlt (Nat.pow_le_pow_right dE hl)
 refine ⟨h9,?_⟩
 rw [d39,← he,List.length_append,List.length_singleton,Nat.pow_succ]
 by_cases h:9≤m
 ·rw [c6j hm h]
  generalize A3 (D.take (m - 9))=a
  generalize A3 ((D.take m).drop (m - 9))=b
  rw [show (10:Nat) ^ 9=B9 from rfl,Nat.mul_add,Nat.mul_comm a B9,← Nat.mul_assoc]
  omega
 ·have e:m - 9=0:=oM
  rw [e,List.take_zero,List.drop_zero,show A3 ([]:f5)=0 by simp [A3,u4],Nat.mul_zero,Nat.add_zero]
theorem d01 (n:Nat):A3 (f8 n)=n:=by
 have hv:=A4 n
 have hok:=a3o n
 have hs:g8 (f8 n)=0:=by
  unfold g8;rw [if_neg];rintro ⟨h,h2⟩;have:=a1g n 0 h;omega
 unfold f7 at hv
 rw [if_pos hok,hs,if_neg dE] at hv
 unfold A3;omega
theorem e54 (s:f5):(f8 (f7 s).natAbs).length≤(K7 s).length∧(decide (((f8 (f7 s).natAbs).length:Int) < ((K7 s).length:Int))=decide (f7 s < 0)):=by
 rw [a03]
 unfold f9
 split <;> simp <;> omega
theorem d3w:j3 177 (sp1 fun s=>.ret (.a (a1o (decide (f7 s < 0)) (f7 s).natAbs))):=k7 (fun fn h=>e5h h) [(151,_),(159,_),(191,_),(192,_)] (.cons a5i (.cons a0a (.cons kPU (.cons b52 .nil)))) fun U fn hfn ⟨s,hs⟩ vs bs hv hb=>by
 have hd:=hfn 151 _ rfl
 have ht:=hfn 159 _ rfl
 have hp:=hfn 191 _ rfl
 have hr:=hfn 192 _ rfl
 have hv:j5 [.c (.s s)] vs:=hv
 have hb:RBs [] bs:=hb
 have hs:s.length < 90000:=hs
 show g7 U _ fun v bs'=>j6 (.ret (.a (a1o (decide (f7 s < 0)) (f7 s).natAbs))) v∧RBs [] bs'
 unfold d9n
 (refine Zq ?_;intros)
 refine f6 hd ⟨s,hs⟩ (r:=.c (.s (K7 s))) rfl j4 .nil fun _ _ _ _=>?_
 have hl:=a8z s
 have h7:=e54 s
 (refine Zq ?_;intros)
 refine f6 ht ⟨(K7 s,k6 1 45),trivial⟩ (r:=.c (.s (f8 (f7 s).natAbs))) (by show n6.ret (.c (.s (D1 (K7 s) (k6 1 45))))=_;rw [b5b,V6,c2l]) j4 .nil fun _ _ _ _=>?_
 (refine Zq ?_;intros)
 generalize hD:f8 (f7 s).natAbs=D at *
 have hdig:∀ j,j < D.length→48≤bt D j∧bt D j≤57:=by rw [← hD];exact a1g _
 have hval:A3 D=(f7 s).natAbs:=by rw [← hD,d01]
 refine E1 (fun (p:Nat × List Nat) vs bs=>∃ (m:Nat) (acc:List Nat) (v bx:V) (ng:Bool) (v4:V),p=(m,acc)∧vs=[.ptr 0 0,.str (D.take m).length (j9 (D.take m)),.ptr 1 0,v4]∧bs=[.cells [bx,.slice .nil 0 0 0 .exact],.cells [.bool ng,v],.tok acc.length 1]∧(U=CU→ng=decide (f7 s < 0))∧a0o 2 1 (acc.map lg) v∧m≤D.length∧LQ.LB acc∧(9 * acc.length+m=D.length∨m=0∧9 * acc.length≤D.length+8)∧k5 acc+B9 ^ acc.length * A3 (D.take m)=(f7 s).natAbs∧RV (.c (.b false)) bx) (fun p=>p.1) (D.length,[]) ?_ (by simp only [x8];omega) ?_
 ·refine ⟨D.length,[],_,_,_,_,rfl,by simp only [List.take_length];rfl,rfl,fun e=>by subst e;rw [b33];exact h7.2,.b rfl,Nat.le_refl _,fun d h=>(by cases h),by simp,by rw [← hval];simp [k5],.kn _⟩
 rintro self _ _ _ ⟨m,acc,v,bx,ng,v4,rfl,rfl,rfl,hng,htok,hm,hLB,hlen,he,hbx⟩ ih
 have hml:(D.take m).length=m:=by simp;omega
 (refine Zq ?_;with_reducible repeat' first|intro _|apply aI)
 ·refine d49 ?_
  obtain ⟨k,hk,hk2⟩:∃ k:Nat,k=m - 9∧(if 0 < ((D.take m).length:Int) - 9 then ((D.take m).length:Int) - 9 else 0)=(k:Int):=⟨m - 9,rfl,by split <;> omega⟩
  rw [hk2]
  have hkm:k≤m:=oM
  have hm0:0 < m:=oM
  (refine Zq ?_;intros)
  obtain ⟨s1,s2⟩:=d1d hdig hm hk he
  have hcl:((D.take m).drop k).length=m - k:=by simp;omega
  refine f6 hp ⟨(D.take m).drop k,oM,oM,b9b hdig k m hm⟩ (r:=.t [.c (.i .u64 ((A3 ((D.take m).drop k):Nat):Int)),.nilI]) rfl j4 .nil fun _ _ _ _=>?_
  (refine Zq ?_;intros)
  refine f6e aS ?_
  (refine Zq ?_;intros)
  refine a4d (m:=((A3 ((D.take m).drop k):Nat):Int)) rfl oM ?_
  (refine Zq ?_;intros)
  refine T6 aS (fun _=>E7 (by first | exact .i _ _ | exact .s _ _ _ rfl rfl | assumption)) (by rfl) (by simp) (by simp only [List.length_map];omega) fun _ _=>?_
  (refine Zq ?_;intros)
  have e1:List.drop (Int.toNat 0) (List.take ((k:Int)).toNat (D.take m))=D.take k:=by
   rw [Int.toNat_natCast,List.take_take,Nat.min_eq_left hkm];rfl
  rw [e1]
  refine ih (k,acc ++ [A3 ((D.take m).drop k)]) _ _ ?_ (by show k < m;omega)
  refine ⟨k,_,_,_,_,_,rfl,rfl,by rw [List.length_append];rfl,hng,.a _ _ (by simp) ?_,oM,e2k hLB s1,by rw [List.length_append,List.length_singleton];omega,s2,.b _⟩
  rw [← d4b (n:=((A3 ((D.take m).drop k):Nat):Int)) rfl]
  assumption
 ·have hm0:m=0:=oM
  subst hm0
  have e0:k5 acc=(f7 s).natAbs:=by
   rw [List.take_zero,show A3 ([]:f5)=0 by simp [A3,u4],Nat.mul_zero,Nat.add_zero] at he;exact he
  refine f6 hr ⟨acc,oM⟩ (r:=.sl 1 (u3 (f7 s).natAbs)) (by show n6.ret (.sl 1 ((E3 acc).map lg))=_;rw [a1a acc hLB,e0];rfl) j4 .nil fun _ _ _ _=>?_
  (refine Zq ?_;intros)
  exact G7 fun e=>by
   rw [hng e]
   exact ⟨.ret _ _ (.ag _ _ (.k (.b _) (.k (.cl _ _ _ _ _ (by simp [u3]) aS) .nil))),.nil⟩
end
end Go.Proofs.YtdldcfllnohkeaaGreatDoor
namespace Go.Proofs.YtdldcfllnohkeaaGreatDoor
open Go.Abs LQ
set_option maxRecDepth 100000
set_option maxHeartbeats 4000000
noncomputable section
section
variable {U:s7} {P:J7→List Bx→Prop}
theorem sQR {g:G} {v:V} {K:Q→Om} (hv:RV (.c g) v) (h:∀ x,RG g x→g7 U (K x) P):g7 U (U.uQ v K) P:=fun e=>by
 have h2:∃ x,CU.uQ v K=K x∧RG g x:=by
  cases hv with
  | b x=>exact ⟨_,rfl,.b x⟩
  | kn x=>exact ⟨_,rfl,.b x⟩
  | i k n=>exact ⟨_,rfl,.i k n⟩
  | s x l c h1 h2=>exact ⟨_,rfl,.s x l c h1 h2⟩
  | cl xs t n off len h1 h2=>exact ⟨_,rfl,.l xs t n off len h1 h2⟩
  | q _ x h=>exact ⟨_,rfl,h⟩
 obtain ⟨x,h3,h4⟩:=h2
 have:=h x h4 e
 subst e
 rw [h3];exact this
theorem e12 {x y:List UInt8} {l c1 c2:Nat} {K:Nat→Om} (h1:l=x.length) (e1:c1=j9 x) (e2:c2=j9 y) (k:g7 U (K (j9 (x ++ y))) P):g7 U (U.fN (U.sCat l c1 c2) K) P:=fun e=>by
 subst h1 e1 e2
 have:=k e
 subst e
 rw [a6u]
 show ∃ v bs,K (sCat x.length (j9 x) (j9 y))=some (v,bs)∧P v bs
 rw [c0h];exact this
end
theorem d7b {a b:Bool} {m n:Nat} (h:a1o a m=a1o b n):a=b∧m=n:=by
 simp only [a1o,List.cons.injEq,G.b.injEq,G.l.injEq,and_true] at h
 exact ⟨h.1,a71 h.2⟩
def a1w:Sp where
 ι:={ p:Bool × Nat // (k8 p.2).length < 20000 }
 A p:=[.a (a1o p.1.1 p.1.2)]
 B _:=[]
 R p:=.ret (.c (.s (sgn p.1.1 p.1.2)))
 B' _:=[]
 inj i j vs bs h k _ _:=by
  obtain ⟨_,_,h1,k1,h,k⟩:=h.two k
  obtain ⟨e1,e2⟩:=d7b (h1.a_inj k1)
  rw [e1,e2];exact ⟨rfl,rfl⟩
theorem b78 (n:Nat):∀ r ∈ u3 n,r.length=1:=fun r hr=>by obtain ⟨_,_,rfl⟩:=List.mem_map.1 hr;rfl
theorem d1o {n:Nat} {x:Q} (h:RG (.l (u3 n)) x):RV (.sl 1 (u3 n)) (.q x):=.slq _ _ _ h (b78 n)
theorem a7d (n:Nat):(k8 n).length≤(i6 n).length:=by
 refine a73 ?_
 have h:=a13 (i6 n) (C2 n)
 rw [B6] at h
 exact Nat.lt_of_lt_of_le h (Nat.pow_le_pow_left dE _)
theorem e52 (n:Nat):sgn false n=f8 n:=b1w n
theorem f5v (hst:j3 179 a1w):j3 153 (sp2 fun a b=>.ret (.c (.s (f8 (Nat.gcd (f7 a).natAbs (f7 b).natAbs))))):=k7 (fun fn h=>e5b h) [(177,_),(178,_),(179,_)] (.cons d3w (.cons c3d (.cons hst .nil))) fun U fn hfn ⟨(a,b),ha,hbl⟩ vs bs hv hb=>by
 have hp:=hfn 177 _ rfl
 have hd:=hfn 178 _ rfl
 have hs:=hfn 179 _ rfl
 have ha:a.length < 9000:=ha
 have hbl:b.length < 9000:=hbl
 have hv:j5 [.c (.s a),.c (.s b)] vs:=hv
 have hb:RBs [] bs:=hb
 show g7 U _ fun v bs'=>j6 (.ret (.c (.s (f8 (Nat.gcd (f7 a).natAbs (f7 b).natAbs))))) v∧RBs [] bs'
 have la:=a0s a
 have lb:=a0s b
 unfold d9h
 (refine Zq ?_;intros)
 refine f6 hp ⟨a,by show a.length < 90000;omega⟩ (r:=.a (a1o (decide (f7 a < 0)) (f7 a).natAbs)) rfl j4 .nil fun _ _ hv1 _=>?_
 have hv1:RV (.a [.b _,.l (u3 _)]) _:=hv1
 (refine Zq ?_;intros)
 refine f6 hp ⟨b,by show b.length < 90000;omega⟩ (r:=.a (a1o (decide (f7 b < 0)) (f7 b).natAbs)) rfl j4 .nil fun _ _ hv2 _=>?_
 have hv2:RV (.a [.b _,.l (u3 _)]) _:=hv2
 generalize (f7 a).natAbs=x at *
 generalize (f7 b).natAbs=y at *
 (refine Zq ?_;intros)
 refine E1 (fun (p:Nat × Nat) vs bs=>∃ (m n:Nat) (v1 v2:V),p=(m,n)∧vs=[v1,v2]∧bs=[]∧RV (.c (.l (u3 m))) v1∧RV (.c (.l (u3 n))) v2∧Nat.gcd m n=Nat.gcd x y∧(i6 m).length < 9000∧(i6 n).length < 9000) (fun p=>mu p.1 p.2) (x,y) ⟨x,y,_,_,rfl,rfl,rfl,.q _ _ aS,.q _ _ aS,rfl,oM,oM⟩ (show mu x y < x8 from e1h oM oM) ?_
 rintro self _ _ _ ⟨m,n,v1,v2,rfl,rfl,rfl,h1,h2,hg,hm,hn⟩ ih
 have lm:=a7d m
 have ln:=a7d n
 (refine Zq ?_;intros)
 refine sQR h1 fun x1 g1=>?_
 (refine Zq ?_;intros)
 refine sQR h2 fun x2 g2=>?_
 (refine Zq ?_;intros)
 refine b1p g2 (b78 n) fun t off ht=>?_
 (refine Zq ?_;with_reducible repeat' first|intro _|apply aI)
 ·have hn0:n ≠ 0:=by rintro rfl;simp [u3,F9] at *
  refine f6 hd ⟨(m,n),by show (k8 m).length < 20000;omega,by show (k8 n).length < 20000;omega,hn0,by show (k8 m).length < 9000;omega,by show (k8 n).length < 9000;omega⟩ (r:=.t [.sl 1 (u3 (m / n)),.sl 1 (u3 (m % n))]) rfl (.k (d1o g1) (.k (d1o g2) .nil)) .nil fun _ _ _ _=>?_
  (refine Zq ?_;intros)
  refine ih (n,m % n) _ _ ⟨n,m % n,_,_,rfl,rfl,rfl,.q _ _ g2,.cl _ _ _ _ _ (by simp [u3]) aS,?_,hn,Nat.lt_of_le_of_lt (O3 (Nat.le_of_lt (Nat.mod_lt m (Nat.pos_of_ne_zero hn0)))) hn⟩ (c8o (Nat.pos_of_ne_zero hn0))
  rw [← hg,Nat.gcd_comm n (m % n),← Nat.gcd_rec n m,Nat.gcd_comm]
 ·have hn0:n=0:=by
   have:(u3 n).length=0:=oM
   simp only [u3,List.length_map,List.length_eq_zero_iff] at this
   exact b8a (this.trans F9.symm)
  subst hn0
  rw [Nat.gcd_zero_right] at hg
  subst hg
  refine f6 hs ⟨(false,Nat.gcd x y),by show (k8 (Nat.gcd x y)).length < 20000;omega⟩ (r:=.c (.s (f8 (Nat.gcd x y)))) (by show n6.ret (.c (.s (sgn false _)))=_;rw [e52]) (.k (.ag _ _ (.k (.kn _) (.k (.q _ _ g1) .nil))) .nil) .nil fun _ _ _ _=>?_
  (refine Zq ?_;intros)
  exact g9 ⟨.ret _ _ (.s _ _ _ rfl rfl),.nil⟩
theorem b3o (n:Int):0 < (f9 n).length:=by
 have:=a0e n.natAbs
 unfold f9;split <;> simp <;> omega
theorem a4e (n:Int):bt (f9 n) 0=45↔n < 0:=by
 unfold f9
 split
 ·rename_i h;exact ⟨fun _=>h,fun _=>rfl⟩
 ·rename_i h
  have:=a1g n.natAbs 0 (a0e _)
  exact ⟨fun k=>by omega,fun k=>absurd k h⟩
theorem c0o:f9 1=k6 1 49:=by
 show f9 ((1:Nat):Int)=_
 rw [a2z,a7l];decide
theorem b3n (n:Int):f9 n=k6 1 49↔n=1:=⟨fun h=>a0c (h.trans c0o.symm),fun h=>by subst h;exact c0o⟩
theorem a1t (n:Int):f9 n=k6 1 48↔n=0:=⟨fun h=>a0c (h.trans dE),fun h=>by subst h;decide⟩
theorem e3m:j3 152 (sp1 fun s=>.ret (.c (.s (d7x s)))):=k7 (fun fn h=>e5a h) [(151,_)] (.cons a5i .nil) fun U fn hfn ⟨s,hs⟩ vs bs hv hb=>by
 have hd:=hfn 151 _ rfl
 have hv:j5 [.c (.s s)] vs:=hv
 have hb:RBs [] bs:=hb
 have hs:s.length < 90000:=hs
 show g7 U _ fun v bs'=>j6 (.ret (.c (.s (d7x s)))) v∧RBs [] bs'
 unfold d9g
 (refine Zq ?_;intros)
 have hl:=a8z s
 refine f6 hd ⟨s,hs⟩ (r:=.c (.s (K7 s))) rfl j4 .nil fun _ _ _ _=>?_
 rw [a03] at *
 unfold d7x
 generalize f7 s=n at *
 have h0:=b3o n
 have hbt:(((f9 n).getD 0 0).toNat:Int)=bt (f9 n) 0:=rfl
 (refine Zq ?_;with_reducible repeat' first|intro _|apply aI)
 ·have e:n=0:=(a1t n).1 ‹_›
  subst e
  exact g9 ⟨.ret _ _ (.s _ _ _ rfl rfl),.nil⟩
 ·have e:n < 0:=(a4e n).1 ‹_›
  have e2:f9 (-n)=(f9 n).drop (Int.toNat 1):=by
   unfold f9
   rw [if_pos e,if_neg oM,Int.natAbs_neg];rfl
  rw [e2]
  exact g9 ⟨.ret _ _ (.s _ _ _ rfl rfl),.nil⟩
 ·have e:¬n < 0:=fun k=>‹¬(((f9 n).getD (Int.toNat 0) 0).toNat:Int)=45› ((a4e n).2 k)
  have e0:n ≠ 0:=fun k=>‹¬f9 n=k6 1 48› ((a1t n).2 k)
  have e2:f9 (-n)=[45] ++ f9 n:=by
   unfold f9
   rw [if_neg e,if_pos oM,Int.natAbs_neg]
  rw [e2]
  refine e12 (x:=[45]) (y:=f9 n) rfl rfl rfl ?_
  exact g9 ⟨.ret _ _ (.s _ _ _ (by simp;omega) rfl),.nil⟩
theorem d35 {s:f5} (h:s.length < 9000):(k8 (f7 s).natAbs).length < 9000:=by
 have:=a0s s
 have:=a7d (f7 s).natAbs
 omega
theorem e53 {a b:Int} (hb:0 < b) (hd:b ∣ a):sgn (decide (a < 0) != decide (b < 0)) (a.natAbs / b.natAbs)=f9 (a / b):=by
 obtain ⟨q,rfl⟩:=hd
 have h1:¬b < 0:=oM
 have hb':0 < b.natAbs:=oM
 rw [Int.mul_ediv_cancel_left _ oM,Int.natAbs_mul,Nat.mul_div_cancel_left _ hb',← e51 q]
 have:decide (b * q < 0)=decide (q < 0):=by
  rw [Bool.eq_iff_iff,decide_eq_true_iff,decide_eq_true_iff]
  constructor
  ·intro h
   by_cases hq:q < 0
   ·exact hq
   ·have:=Int.mul_nonneg (show 0≤b by omega) (show 0≤q by omega);omega
  ·intro h;exact Int.mul_neg_of_pos_of_neg hb h
 rw [this,decide_eq_false h1,Bool.bne_false]
theorem d7t {a b:Int} (hd:b ∣ a):a.natAbs % b.natAbs=0:=Nat.mod_eq_zero_of_dvd (Int.natAbs_dvd_natAbs.2 hd)
def f83:Sp where
 ι:={ p:f5 × f5 // p.1.length < 9000∧p.2.length < 9000∧0 < f7 p.2∧f7 p.2 ∣ f7 p.1 }
 A p:=[.c (.s p.1.1),.c (.s p.1.2)]
 B _:=[]
 R p:=.ret (.t [.c (.s (f9 (f7 p.1.1 / f7 p.1.2))),.c (.s x5)])
 B' _:=[]
 inj i j vs bs h k _ _:=by
  obtain ⟨_,_,h1,k1,h,k⟩:=h.two k
  obtain ⟨_,_,h2,k2,h,k⟩:=h.two k
  rw [F7 h1 k1,F7 h2 k2];exact ⟨rfl,rfl⟩
theorem e3b (hst:j3 179 a1w):j3 154 f83:=k7 (fun fn h=>e5c h) [(177,_),(151,_),(178,_),(179,_)] (.cons d3w (.cons a5i (.cons c3d (.cons hst .nil)))) fun U fn hfn ⟨(a,b),ha,hbl,hb0,hba⟩ vs bs hv hb=>by
 have hp:=hfn 177 _ rfl
 have hd:=hfn 178 _ rfl
 have hs:=hfn 179 _ rfl
 have ha:a.length < 9000:=ha
 have hbl:b.length < 9000:=hbl
 have hb0:0 < f7 b:=hb0
 have hba:f7 b ∣ f7 a:=hba
 have hv:j5 [.c (.s a),.c (.s b)] vs:=hv
 have hb:RBs [] bs:=hb
 show g7 U _ fun v bs'=>j6 (.ret (.t [.c (.s (f9 (f7 a / f7 b))),.c (.s x5)])) v∧RBs [] bs'
 have la:=d35 ha
 have lb:=d35 hbl
 have e1:=e53 hb0 hba
 have e2:=d7t hba
 have hx0:(f7 b).natAbs ≠ 0:=oM
 have hq:(k8 ((f7 a).natAbs / (f7 b).natAbs)).length≤(k8 (f7 a).natAbs).length:=a89 (Nat.div_le_self _ _)
 unfold d9i
 (refine Zq ?_;intros)
 refine f6 hp ⟨a,by show a.length < 90000;omega⟩ (r:=.a (a1o (decide (f7 a < 0)) (f7 a).natAbs)) rfl j4 .nil fun _ _ hv1 _=>?_
 have hv1:RV (.a [.b _,.l (u3 _)]) _:=hv1
 (refine Zq ?_;intros)
 refine f6 hp ⟨b,by show b.length < 90000;omega⟩ (r:=.a (a1o (decide (f7 b < 0)) (f7 b).natAbs)) rfl j4 .nil fun _ _ hv2 _=>?_
 have hv2:RV (.a [.b _,.l (u3 _)]) _:=hv2
 generalize (f7 a).natAbs=x at *
 generalize (f7 b).natAbs=y at *
 have hly:(u3 y).length ≠ 0:=by
  intro e
  simp only [u3,List.length_map,List.length_eq_zero_iff] at e
  exact hx0 (b8a (e.trans F9.symm))
 (refine Zq ?_;intros)
 refine b1p aS (b78 y) fun t off ht=>?_
 (refine Zq ?_;with_reducible repeat' first|intro _|apply aI)
 ·exact absurd oM hly
 ·refine f6 hd ⟨(x,y),by show (k8 x).length < 20000;omega,by show (k8 y).length < 20000;omega,hx0,la,lb⟩ (r:=.t [.sl 1 (u3 (x / y)),.sl 1 (u3 0)]) (by show n6.ret (.t [.sl 1 (u3 (x / y)),.sl 1 (u3 (x % y))])=_;rw [e2]) (.k (d1o aS) (.k (d1o aS) .nil)) .nil fun _ _ _ _=>?_
  (refine Zq ?_;with_reducible repeat' first|intro _|apply aI)
  all_goals
   refine b1o (gs:=a1o (decide (f7 a < 0) != decide (f7 b < 0)) (x / y)) (.cells _ _ (.k (.b _) (.k (.cl _ _ _ _ _ (by simp [u3]) aS) .nil))) rfl fun _ hc1=>?_
   (refine Zq ?_;intros)
   refine b1o (gs:=a1o (decide (f7 b < 0)) 0) (.cells _ _ (.k (.q _ _ aS) (.k (.cl _ _ _ _ _ (by simp [u3]) aS) .nil))) rfl fun _ hc2=>?_
   (refine Zq ?_;with_reducible repeat' first|intro _|apply aI)
   all_goals first
   | exact absurd ‹0 < (((k8 0).length:Nat):Int)› (by simp [F9])
   | refine f6 hs ⟨(_,x / y),by show (k8 (x / y)).length < 20000;omega⟩ (r:=.c (.s (f9 (f7 a / f7 b)))) (by show n6.ret (.c (.s (sgn (decide (f7 a < 0) != decide (f7 b < 0)) (x / y))))=_;rw [e1]) (.cons _ _ _ _ (.a _ _ _ rfl aS) .nil) .nil fun _ _ _ _=>?_
     (refine Zq ?_;intros)
     refine f6 hs ⟨(decide (f7 b < 0),0),by show (k8 0).length < 20000;simp [F9]⟩ (r:=.c (.s x5)) rfl (.k (.a _ _ _ rfl aS) .nil) .nil fun _ _ _ _=>?_
     (refine Zq ?_;intros)
     exact g9 ⟨.ret _ _ j4,.nil⟩
theorem c2m (s:f5):f7 (K7 s)=f7 s:=by rw [a03,o9]
theorem c6w {a b a' b':f5} (h1:f7 a=f7 a') (h2:f7 b=f7 b'):o7 a b=o7 a' b':=by unfold o7;rw [h1,h2]
def f3e (R:f5→f5→n6):Sp where
 ι:={ p:f5 × f5 // p.1.length < 8000∧p.2.length < 8000 }
 A p:=[.c (.s p.1.1),.c (.s p.1.2)]
 B _:=[]
 R p:=R p.1.1 p.1.2
 B' _:=[]
 inj i j vs bs h k _ _:=by
  obtain ⟨_,_,h1,k1,h,k⟩:=h.two k
  obtain ⟨_,_,h2,k2,h,k⟩:=h.two k
  rw [F7 h1 k1,F7 h2 k2];exact ⟨rfl,rfl⟩
theorem c8p (n:Int):(f9 (-n)).length≤(f9 n).length+1:=by
 unfold f9
 rw [Int.natAbs_neg]
 split <;> split <;> simp <;> omega
theorem f6b (x:Int):o7 (f9 x) (f9 0)=(x5,Q6):=by unfold o7;rw [o9,if_pos rfl]
theorem f6c (x:Int):o7 (f9 x) (f9 1)=(f9 x,f9 1):=by
 rw [a7h x 1 dE]
 simp
theorem e5t (x y:Int):o7 (f9 x) (f9 y)=o7 (f9 (-x)) (f9 (-y)):=by
 rw [Y6,Y6]
 simp only [o9]
 have:qn x y=qn (-x) (-y):=by
  unfold qn
  rw [Int.natAbs_neg,Int.natAbs_neg]
  by_cases hy:y=0
  ·rw [if_pos hy,if_pos oM]
  ·rw [if_neg hy,if_neg (show ¬-y=0 by omega)]
   by_cases hx:x=0
   ·subst hx;simp <;> (intro h;exact absurd h hy)
   ·have e:(if (x < 0)=(y < 0) then (1:Int) else -1)=if (-x < 0)=(-y < 0) then 1 else -1:=by
     by_cases h1:x < 0 <;> by_cases h2:y < 0 <;> simp [h1,h2] <;> omega
    rw [e]
 rw [this]
theorem e5s {m n:Int} (hn:0 < n) (h:Nat.gcd m.natAbs n.natAbs=1):o7 (f9 m) (f9 n)=(f9 m,f9 n):=by
 rw [a7h m n hn,h];simp
theorem c3k (hst:j3 179 a1w):j3 129 (f3e fun a b=>.ret (.t [.c (.s (o7 a b).1),.c (.s (o7 a b).2)])):=k7 (fun fn h=>e40 h) [(151,_),(152,_),(153,_),(154,_)] (.cons a5i (.cons e3m (.cons (f5v hst) (.cons (e3b hst) .nil)))) fun U fn hfn ⟨(a,b),ha,hbl⟩ vs bs hv hb=>by
 have hd:=hfn 151 _ rfl
 have hn:=hfn 152 _ rfl
 have hg:=hfn 153 _ rfl
 have hq:=hfn 154 _ rfl
 have ha:a.length < 8000:=ha
 have hbl:b.length < 8000:=hbl
 have hv:j5 [.c (.s a),.c (.s b)] vs:=hv
 have hb:RBs [] bs:=hb
 show g7 U _ fun v bs'=>j6 (.ret (.t [.c (.s (o7 a b).1),.c (.s (o7 a b).2)])) v∧RBs [] bs'
 unfold d86
 (refine Zq ?_;intros)
 refine f6 hd ⟨a,by show a.length < 90000;omega⟩ (r:=.c (.s (K7 a))) rfl j4 .nil fun _ _ _ _=>?_
 (refine Zq ?_;intros)
 refine f6 hd ⟨b,by show b.length < 90000;omega⟩ (r:=.c (.s (K7 b))) rfl j4 .nil fun _ _ _ _=>?_
 have la:(K7 a).length < 8000:=by have:=a8z a;omega
 have lb:(K7 b).length < 8000:=by have:=a8z b;omega
 rw [c6w (c2m a).symm (c2m b).symm]
 rw [a03 a,a03 b] at *
 generalize f7 a=x at *
 generalize f7 b=y at *
 have h0:=b3o y
 have hbt:(((f9 y).getD 0 0).toNat:Int)=bt (f9 y) 0:=rfl
 (refine Zy ?_;intros)
 refine R6 (fun vs bs=>∃ m n:Int,j5 [.c (.s (f9 m)),.c (.s (f9 n))] vs∧RBs [] bs∧0 < n∧(f9 m).length < 8500∧(f9 n).length < 8500∧o7 (f9 x) (f9 y)=o7 (f9 m) (f9 n)) ?_ ?_
 ·rintro vs' bs' ⟨m,n,hv',hb',hn0,hml,hnl,he⟩
  rw [he]
  have hgv:n6.ret (.c (.s (f8 (Nat.gcd (f7 (f9 m)).natAbs (f7 (f9 n)).natAbs))))=.ret (.c (.s (f8 (Nat.gcd m.natAbs n.natAbs)))):=by rw [o9,o9]
  obtain ⟨g,hge⟩:∃ g,g=Nat.gcd m.natAbs n.natAbs:=⟨_,rfl⟩
  rw [← hge] at hgv
  have hg0:0 < g:=by rw [hge];exact Nat.gcd_pos_of_pos_right _ oM
  have hgd:(g:Int) ∣ m∧(g:Int) ∣ n:=by
   rw [hge];exact ⟨Int.ofNat_dvd_left.2 (Nat.gcd_dvd_left _ _),Int.ofNat_dvd_left.2 (Nat.gcd_dvd_right _ _)⟩
  have hdv:f7 (f8 g)=(g:Int):=A4 g
  have hgl:(f8 g).length < 9000:=by
   have h1:=a7k g
   have h2:(i6 g).length≤(i6 n.natAbs).length:=O3 (by rw [hge];exact Nat.le_of_dvd oM (Nat.gcd_dvd_right _ _))
   have h3:=c2x n
   omega
  (refine Zq ?_;intros)
  refine f6 hg ⟨(f9 m,f9 n),by show (f9 m).length < 9000;omega,by show (f9 n).length < 9000;omega⟩ (r:=.c (.s (f8 g))) hgv j4 .nil fun _ _ _ _=>?_
  (refine Zq ?_;with_reducible repeat' first|intro _|apply aI)
  ·have e1:g=1:=by
    have:=(b3n (g:Int)).1 (by rw [a2z];assumption)
    omega
   rw [e5s hn0 (by rw [← hge];exact e1)]
   exact g9 ⟨.ret _ _ j4,.nil⟩
  ·rw [a7h m n hn0,← hge]
   refine f6 hq ⟨(f9 m,f8 g),by show (f9 m).length < 9000;omega,hgl,by show 0 < f7 (f8 g);omega,by show f7 (f8 g) ∣ f7 (f9 m);rw [hdv,o9];exact hgd.1⟩ (r:=.t [.c (.s (f9 (m / g))),.c (.s x5)]) (by show n6.ret (.t [.c (.s (f9 (f7 (f9 m) / f7 (f8 g)))),.c (.s x5)])=_;rw [hdv,o9]) j4 .nil fun _ _ _ _=>?_
   (refine Zq ?_;intros)
   refine f6 hq ⟨(f9 n,f8 g),by show (f9 n).length < 9000;omega,hgl,by show 0 < f7 (f8 g);omega,by show f7 (f8 g) ∣ f7 (f9 n);rw [hdv,o9];exact hgd.2⟩ (r:=.t [.c (.s (f9 (n / g))),.c (.s x5)]) (by show n6.ret (.t [.c (.s (f9 (f7 (f9 n) / f7 (f8 g)))),.c (.s x5)])=_;rw [hdv,o9]) j4 .nil fun _ _ _ _=>?_
   (refine Zq ?_;intros)
   exact g9 ⟨.ret _ _ j4,.nil⟩
 ·intro c hc
  (refine Zq ?_;with_reducible repeat' first|intro _|apply aI)
  ·have e:y=0:=(a1t y).1 ‹_›
   subst e
   rw [f6b]
   exact g9 ⟨.ret _ _ j4,.nil⟩
  ·have e:y=1:=(b3n y).1 ‹_›
   subst e
   rw [f6c]
   exact g9 ⟨.ret _ _ j4,.nil⟩
  ·have e:y < 0:=(a4e y).1 ‹_›
   refine f6 hn ⟨f9 x,by show (f9 x).length < 90000;omega⟩ (r:=.c (.s (f9 (-x)))) (by show n6.ret (.c (.s (f9 (-f7 (f9 x)))))=_;rw [o9]) j4 .nil fun _ _ _ _=>?_
   (refine Zq ?_;intros)
   refine f6 hn ⟨f9 y,by show (f9 y).length < 90000;omega⟩ (r:=.c (.s (f9 (-y)))) (by show n6.ret (.c (.s (f9 (-f7 (f9 y)))))=_;rw [o9]) j4 .nil fun _ _ _ _=>?_
   (refine Zq ?_;intros)
   have l1:=c8p x
   have l2:=c8p y
   exact hc _ _ ⟨-x,-y,by (exact j4),.nil,oM,oM,oM,e5t x y⟩
  ·have e:¬y < 0:=fun k=>‹¬(((f9 y).getD (Int.toNat 0) 0).toNat:Int)=45› ((a4e y).2 k)
   have e0:y ≠ 0:=fun k=>‹¬f9 y=k6 1 48› ((a1t y).2 k)
   exact hc _ _ ⟨x,y,by (exact j4),.nil,oM,oM,oM,rfl⟩
theorem b5f {p:UInt8→Bool}:∀ {l:f5},l.dropWhile p=[]↔∀ b ∈ l,p b=true
 | []=>by simp
 | c :: l=>by
  by_cases h:p c=true
  ·rw [List.dropWhile_cons_of_pos h,b5f];simp [h]
  ·rw [List.dropWhile_cons_of_neg h];simp [h]
theorem c7q {p:UInt8→Bool} {c:UInt8} {r:f5}:∀ {l:f5},l.dropWhile p=c :: r→p c=false
 | [],h=>by simp at h
 | d :: l,h=>by
  by_cases hp:p d=true
  ·rw [List.dropWhile_cons_of_pos hp] at h;exact c7q h
  ·rw [List.dropWhile_cons_of_neg hp] at h
   injection h with h _;subst h;simpa using hp
theorem c5p {l cs:f5}:Lib.trimS l cs=[]↔∀ b ∈ l,cs.contains b=true:=by
 unfold Lib.trimS Lib.trimLeftS Lib.trimRightS
 constructor
 ·intro h
  have h1:=b5f.1 h
  cases hd:l.reverse.dropWhile (cs.contains ·) with
  | nil=>intro b hb;exact b5f.1 hd b (List.mem_reverse.2 hb)
  | cons c r =>
   rw [hd] at h1
   have h2:=h1 c (by simp)
   have h3:=c7q hd
   rw [h2] at h3;cases h3
 ·intro h
  have:l.reverse.dropWhile (cs.contains ·)=[]:=b5f.2 fun b hb=>h b (List.mem_reverse.1 hb)
  rw [this];rfl
def ten:f5:=k6 10 270211885617516653982000
theorem c9l (b:UInt8):ten.contains b=Q4 b.toNat:=by
 have key:∀ n:Fin 256,ten.contains (UInt8.ofNat n.1)=Q4 n.1:=dE
 have:=key ⟨b.toNat,b.toNat_lt⟩
 simpa using this
def F2 (u:f5):Bool:=decide (u ≠ []∧j7 u 0=u.length)
theorem a81 {u:f5} {k:Nat} (hk:k≤u.length):j7 u k=u.length↔∀ j,k≤j→j < u.length→48≤bt u j∧bt u j≤57 :=
 ⟨fun h j h1 h2=>Y2 u k j h1 oM,fun h=>R2 u k hk h⟩
theorem d2x (u:f5):decide (Lib.trimS u ten=[])=decide (j7 u 0=u.length):=by
 rw [Bool.eq_iff_iff,decide_eq_true_iff,decide_eq_true_iff,c5p,a81 (Nat.zero_le _)]
 constructor
 ·intro h j _ hj
  have:=h u[j] (List.getElem_mem hj)
  rw [c9l] at this
  have e:bt u j=u[j].toNat:=by unfold bt;simp [List.getD,List.getElem?_eq_getElem hj]
  rw [e];simpa [Q4] using this
 ·intro h b hb
  obtain ⟨j,hj,rfl⟩:=List.getElem_of_mem hb
  rw [c9l]
  have e:bt u j=u[j].toNat:=by unfold bt;simp [List.getD,List.getElem?_eq_getElem hj]
  have:=h j (Nat.zero_le _) hj
  rw [e] at this;simpa [Q4] using this
theorem e29:j3 158 (sp1 fun s=>.ret (.c (.b (F2 s)))):=k7 (fun fn h=>e5f h) [(139,_)] (.cons d3z .nil) fun U fn hfn ⟨s,hs⟩ vs bs hv hb=>by
 have ht:=hfn 139 _ rfl
 have hv:j5 [.c (.s s)] vs:=hv
 have hb:RBs [] bs:=hb
 have hs:s.length < 90000:=hs
 show g7 U _ fun v bs'=>j6 (.ret (.c (.b (F2 s)))) v∧RBs [] bs'
 unfold d9l
 (refine Zq ?_;with_reducible repeat' first|intro _|apply aI)
 ·have h0:s=k6 0 0:=‹_›
  have e:F2 s=false:=by unfold F2;rw [decide_eq_false];exact fun h=>h.1 h0
  rw [e]
  exact g9 ⟨.ret _ _ (.kn _),.nil⟩
 ·have h0:¬s=k6 0 0:=‹_›
  refine f6 ht ⟨(s,ten),by show s.length < 4294967281;omega,(by decide:ten.length < 4294967281),(by decide:∀ b ∈ ten,b.toNat < 128)⟩ (r:=.c (.s (Lib.trimS s ten))) rfl j4 .nil fun _ _ _ _=>?_
  (refine Zq ?_;intros)
  exact G7 fun e=>by
   subst e
   refine ⟨.ret _ _ (P9 ?_),.nil⟩
   rw [b0w]
   show F2 s=decide (Lib.trimS s ten=[])
   rw [d2x]
   unfold F2
   rw [Bool.eq_iff_iff,decide_eq_true_iff,decide_eq_true_iff]
   exact ⟨fun h=>h.2,fun h=>⟨h0,h⟩⟩
theorem f5s {s:f5} {c:UInt8} (h:0≤Lib.indexByte s c):bt s (Lib.indexByte s c).toNat=c.toNat∧∀ j,j < (Lib.indexByte s c).toNat→bt s j ≠ c.toNat:=by
 induction s with
 | nil=>simp [Lib.indexByte] at h
 | cons b r ih =>
  have ex:Lib.indexByte (b :: r) c=if b=c then 0 else if Lib.indexByte r c=-1 then -1 else Lib.indexByte r c+1:=by simp only [Lib.indexByte,beq_iff_eq]
  rw [ex] at h ⊢
  by_cases hb:b=c
  ·rw [if_pos hb];subst hb;exact ⟨rfl,fun j hj=>by simp at hj⟩
  ·rw [if_neg hb] at h ⊢
   by_cases h1:Lib.indexByte r c=-1
   ·rw [if_pos h1] at h;omega
   ·rw [if_neg h1] at h ⊢
    have hge:=(T4 r c).2
    obtain ⟨i1,i2⟩:=ih oM
    rw [show (Lib.indexByte r c+1).toNat=(Lib.indexByte r c).toNat+1 by omega]
    refine ⟨by rw [Y0];exact i1,fun j hj=>?_⟩
    cases j with
    | zero=>exact fun e=>hb (UInt8.toNat_inj.1 (by have:bt (b :: r) 0=b.toNat:=rfl;omega))
    | succ j=>rw [Y0];exact i2 j oM
theorem e25 {s:f5} {c:UInt8} (h:¬0≤Lib.indexByte s c):∀ j,j < s.length→bt s j ≠ c.toNat:=by
 induction s with
 | nil=>intro j hj;simp at hj
 | cons b r ih =>
  have ex:Lib.indexByte (b :: r) c=if b=c then 0 else if Lib.indexByte r c=-1 then -1 else Lib.indexByte r c+1:=by simp only [Lib.indexByte,beq_iff_eq]
  rw [ex] at h
  by_cases hb:b=c
  ·rw [if_pos hb] at h;omega
  ·rw [if_neg hb] at h
   have hge:=(T4 r c).2
   have h1:¬0≤Lib.indexByte r c:=by split at h <;> omega
   intro j hj
   cases j with
   | zero=>exact fun e=>hb (UInt8.toNat_inj.1 (by have:bt (b :: r) 0=b.toNat:=rfl;omega))
   | succ j=>rw [Y0];exact ih h1 j (by simpa using hj)
theorem c56 (s:f5) (i:Nat):j7 s i < s.length→¬(48≤bt s (j7 s i)∧bt s (j7 s i)≤57):=by
 fun_induction j7 s i with
 | case1 i h1 h2 ih=>exact ih
 | case2 i h1 h2=>intro _ h;exact h2 (by simpa [Q4] using h)
 | case3 i h1=>intro h;exact absurd h h1
def v8 (s:f5):f5 × f5:=((H6 s 47).1,if (H6 s 47).2.2 then (H6 s 47).2.1 else Q6)
theorem d3e {s:f5} {i p:Nat} (hp:p≤s.length) (hi:i≤p) (hn:p < s.length→¬(48≤bt s p∧bt s p≤57)):(∀ j,i≤j→j < p→48≤bt s j∧bt s j≤57)↔j7 s i=p:=by
 constructor
 ·intro h
  have hA:At s i ((s.take p).drop i) (s.drop p):=by
   unfold At
   have:=(List.take_append_drop p s).symm
   conv=>lhs;rw [this]
   rw [List.drop_append_of_le_length (by simp;omega)]
  have hl:((s.take p).drop i).length=p - i:=by simp;omega
  rw [d3b hA (fun j hj=>by
   rw [hl] at hj
   have e:bt ((s.take p).drop i) j=bt s (i+j):=by rw [a2d];unfold bt;simp [List.getD,List.getElem?_take,show i+j < p by omega]
   rw [e];exact h _ oM oM) ?_,hl]
  ·omega
  ·by_cases h2:p < s.length
   ·right;rw [a2d];exact hn h2
   ·left;exact List.drop_eq_nil_of_le oM
 ·intro h j h1 h2;exact Y2 s i j h1 oM
theorem a6z {s:f5} {i p:Nat} (hp:p≤s.length) (hi:i≤p) (hn:p < s.length→¬(48≤bt s p∧bt s p≤57)):F2 ((s.take p).drop i)=decide (i < p∧j7 s i=p):=by
 unfold F2
 have hl:((s.take p).drop i).length=p - i:=by simp;omega
 rw [Bool.eq_iff_iff,decide_eq_true_iff,decide_eq_true_iff,a81 (Nat.zero_le _),hl,← d3e hp hi hn]
 have hb:∀ j,j < p - i→bt ((s.take p).drop i) j=bt s (i+j):=fun j hj=>by
  rw [a2d];unfold bt;simp [List.getD,List.getElem?_take,show i+j < p by omega]
 constructor
 ·rintro ⟨h1,h2⟩
  refine ⟨?_,fun j h3 h4=>?_⟩
  ·have:=List.length_pos_iff.2 h1;omega
  ·have:=h2 (j - i) (Nat.zero_le _) oM
   rw [hb _ oM,show i+(j - i)=j by omega] at this;exact this
 ·rintro ⟨h1,h2⟩
  refine ⟨fun e=>by rw [e] at hl;simp at hl;omega,fun j _ hj=>?_⟩
  rw [hb j hj];exact h2 _ oM oM
theorem c53 {s:f5} {p:Nat} (hp:g8 s≤p) (hl:p≤s.length):D1 (s.take p) [45]=(s.take p).drop (g8 s):=by
 rw [V6]
 congr 1
 have hs:=O0 s
 unfold g8 at hp ⊢
 have hlen:(s.take p).length=p:=by simp;omega
 by_cases h:0 < s.length∧bt s 0=45
 ·rw [if_pos h] at hp ⊢
  rw [if_pos ⟨oM,by unfold bt at *;simp only [List.getD,List.getElem?_take];rw [if_pos oM];exact h.2⟩]
 ·rw [if_neg h]
  rw [if_neg]
  rintro ⟨h1,h2⟩
  refine h ⟨oM,?_⟩
  unfold bt at h2 ⊢
  simp only [List.getD,List.getElem?_take] at h2
  rw [if_pos oM] at h2;exact h2
theorem c97:F2 Q6=true:=by
 unfold F2
 refine decide_eq_true ⟨dE,R2 Q6 0 dE ?_⟩
 intro j _ hj
 have e:j=0:=Nat.lt_one_iff.1 hj
 rw [e];decide
theorem b6a (s:f5):(F2 (D1 (v8 s).1 [45]) && F2 (v8 s).2)=(m6 s).2.2∧((m6 s).2.2=true→(m6 s).1=(v8 s).1∧(m6 s).2.1=(v8 s).2):=by
 have hs:=O0 s
 have hd:=d3c s (g8 s) hs.1
 have hstop:=c56 s (g8 s)
 have hsg:∀ j,j < g8 s→bt s j=45:=fun j hj=>by
  unfold g8 at hj
  split at hj
  ·rename_i h;have:j=0:=oM
   subst this;exact h.2
  ·omega
 unfold v8 H6
 by_cases hp:0≤Lib.indexByte s 47
 ·obtain ⟨p1,p2⟩:=f5s hp
  have p3:=(T4 s 47).1
  simp only [if_pos hp]
  obtain ⟨p,hpe⟩:∃ p,p=(Lib.indexByte s 47).toNat:=⟨_,rfl⟩
  rw [show (Lib.indexByte s 47+1).toNat=p+1 by omega]
  rw [← hpe] at p1 p2 ⊢
  have hpl:p < s.length:=oM
  have hip:g8 s≤p:=by
   by_cases h:p < g8 s
   ·have:=hsg p h;rw [p1] at this;simp at this
   ·omega
  have p1':bt s p=47:=p1
  have hkp:j7 s (g8 s)≤p:=by
   by_cases h:p < j7 s (g8 s)
   ·have:=Y2 s (g8 s) p hip h;omega
   ·omega
  rw [c53 hip oM,a6z oM hip (fun _=>by omega)]
  have hden:s.drop (p+1)=(s.take s.length).drop (p+1):=by rw [List.take_length]
  simp only [if_true]
  rw [hden,a6z (Nat.le_refl _) oM (fun h=>by omega)]
  unfold m6
  simp only []
  by_cases h1:j7 s (g8 s)=g8 s
  ·rw [if_pos h1]
   refine ⟨?_,fun h=>by cases h⟩
   rw [decide_eq_false oM];rfl
  ·rw [if_neg h1,if_neg oM]
   by_cases h2:j7 s (g8 s)=p
   ·rw [h2]
    by_cases h3:p+1=s.length
    ·rw [if_pos (.inr h3)]
     refine ⟨?_,fun h=>by cases h⟩
     rw [show decide (p+1 < s.length∧j7 s (p+1)=s.length)=false from decide_eq_false oM,Bool.and_false]
    ·rw [if_neg oM]
     have hsp:g8 s < p:=oM
     by_cases h4:j7 s (p+1)=s.length
     ·rw [if_pos h4]
      refine ⟨?_,fun _=>⟨by simp,by simp⟩⟩
      rw [decide_eq_true ⟨hsp,rfl⟩,decide_eq_true ⟨oM,h4⟩];rfl
     ·rw [if_neg h4]
      refine ⟨?_,fun h=>by cases h⟩
      rw [show decide (p+1 < s.length∧j7 s (p+1)=s.length)=false from decide_eq_false (fun h=>h4 h.2),Bool.and_false]
   ·rw [if_pos (.inl (p2 _ oM))]
    refine ⟨?_,fun h=>by cases h⟩
    rw [decide_eq_false (fun h=>h2 h.2)];rfl
 ·have p2:=e25 hp
  simp only [if_neg hp]
  rw [show D1 s [45]=(s.take s.length).drop (g8 s) by rw [List.take_length,V6],a6z (Nat.le_refl _) hs.1 (fun h=>by omega)]
  simp only [Bool.false_eq_true,if_false]
  rw [c97,Bool.and_true]
  unfold m6
  simp only []
  by_cases h1:j7 s (g8 s)=g8 s
  ·rw [if_pos h1]
   refine ⟨decide_eq_false oM,fun h=>by cases h⟩
  ·rw [if_neg h1]
   by_cases h2:j7 s (g8 s)=s.length
   ·rw [if_pos h2]
    exact ⟨decide_eq_true ⟨oM,h2⟩,fun _=>⟨rfl,rfl⟩⟩
   ·rw [if_neg h2,if_pos (.inl (p2 _ oM))]
    exact ⟨decide_eq_false (fun h=>h2 h.2),fun h=>by cases h⟩
theorem d29:k6 1 47=[47]:=dE
theorem d7k:j3 138 (sp1 fun s=>.ret (.t [.c (.s (v8 s).1),.c (.s (v8 s).2),.c (.b (m6 s).2.2)])):=k7 (fun fn h=>e44 h) [(157,_),(159,_),(158,_)] (.cons f8i (.cons a0a (.cons e29 .nil))) fun U fn hfn ⟨s,hs⟩ vs bs hv hb=>by
 have hc:=hfn 157 _ rfl
 have ht:=hfn 159 _ rfl
 have hi:=hfn 158 _ rfl
 have hv:j5 [.c (.s s)] vs:=hv
 have hb:RBs [] bs:=hb
 have hs:s.length < 90000:=hs
 show g7 U _ fun v bs'=>j6 (.ret (.t [.c (.s (v8 s).1),.c (.s (v8 s).2),.c (.b (m6 s).2.2)])) v∧RBs [] bs'
 unfold d9a
 obtain ⟨n1,n2⟩:=b6a s
 have hl:(v8 s).1.length≤s.length∧((v8 s).2.length≤s.length∨(v8 s).2.length≤1):=by
  unfold v8 H6
  split <;> simp [Q6] <;> omega
 have hcp:(D1 (v8 s).1 [45]).length≤(v8 s).1.length:=by unfold D1;split <;> simp
 rw [← n1]
 (refine Zq ?_;intros)
 refine f6 hc ⟨(s,k6 1 47),⟨hs,47,d29⟩⟩ (r:=.t [.c (.s (H6 s 47).1),.c (.s (H6 s 47).2.1),.c (.b (H6 s 47).2.2)]) (by show n6.ret (.t [.c (.s (H6 s ((k6 1 47).headD 0)).1),.c (.s (H6 s ((k6 1 47).headD 0)).2.1),.c (.b (H6 s ((k6 1 47).headD 0)).2.2)])=_;rw [d29];rfl) j4 .nil fun _ _ _ _=>?_
 (refine Zy ?_;intros)
 refine R6 (fun vs bs=>j5 [.c (.s (v8 s).1),.c (.s (v8 s).2)] vs∧RBs [] bs) ?_ ?_
 ·rintro vs' bs' ⟨hv',hb'⟩
  (refine Zq ?_;intros)
  refine f6 ht ⟨((v8 s).1,k6 1 45),trivial⟩ (r:=.c (.s (D1 (v8 s).1 [45]))) (by show n6.ret (.c (.s (D1 _ (k6 1 45))))=_;rw [b5b]) j4 .nil fun _ _ _ _=>?_
  (refine Zq ?_;intros)
  refine f6 hi ⟨D1 (v8 s).1 [45],oM⟩ (r:=.c (.b (F2 (D1 (v8 s).1 [45])))) rfl j4 .nil fun _ _ _ _=>?_
  (refine Zq ?_;with_reducible repeat' first|intro _|apply aI)
  ·have h1:F2 (D1 (v8 s).1 [45])=true:=‹_›
   rw [h1,Bool.true_and]
   refine f6 hi ⟨(v8 s).2,oM⟩ (r:=.c (.b (F2 (v8 s).2))) rfl j4 .nil fun _ _ _ _=>?_
   (refine Zq ?_;intros)
   exact g9 ⟨.ret _ _ j4,.nil⟩
  ·have h1:F2 (D1 (v8 s).1 [45])=false:=by simpa using ‹¬F2 (D1 (v8 s).1 [45])=true›
   rw [h1,Bool.false_and]
   exact g9 ⟨.ret _ _ j4,.nil⟩
 ·intro c hc
  have e1:(v8 s).1=(H6 s 47).1:=rfl
  have e2:(v8 s).2=if (H6 s 47).2.2 then (H6 s 47).2.1 else Q6:=rfl
  (refine Zq ?_;with_reducible repeat' first|intro _|apply aI)
  ·refine hc _ _ ⟨?_,.nil⟩
   rw [e1,e2,if_pos ‹_›]
   exact j4
  ·refine hc _ _ ⟨?_,.nil⟩
   rw [e1,e2,if_neg ‹_›]
   exact j4
theorem d6d (s:f5) (a:Nat):Lib.trimLeftS (s.drop a) [48]=s.drop (F5 s a):=by
 fun_induction F5 s a with
 | case1 a h1 h2 ih =>
  rw [← ih,List.drop_eq_getElem_cons h1]
  have:s[a]=48:=UInt8.toNat_inj.1 (by have e:bt s a=s[a].toNat:=by unfold bt;simp [List.getD,List.getElem?_eq_getElem h1]
                                      rw [e] at h2;show s[a].toNat=48;omega)
  unfold Lib.trimLeftS
  rw [List.dropWhile_cons_of_pos (by rw [this];decide)]
 | case2 a h1 h2 =>
  rw [List.drop_eq_getElem_cons h1]
  unfold Lib.trimLeftS
  rw [List.dropWhile_cons_of_neg]
  simp only [List.contains_cons,List.contains_nil,Bool.or_false,beq_iff_eq]
  intro e
  refine h2 ?_
  unfold bt;simp [List.getD,List.getElem?_eq_getElem h1,e]
 | case3 a h1=>rw [List.drop_eq_nil_of_le oM];rfl
theorem e7p:j3 140 (sp1 fun s=>.ret (.c (.s (plain s)))):=k7 (fun fn h=>e45 h) [(159,_),(167,_)] (.cons a0a (.cons d0q .nil)) fun U fn hfn ⟨s,hs⟩ vs bs hv hb=>by
 have ht:=hfn 159 _ rfl
 have hl:=hfn 167 _ rfl
 have hv:j5 [.c (.s s)] vs:=hv
 have hb:RBs [] bs:=hb
 have hs:s.length < 90000:=hs
 show g7 U _ fun v bs'=>j6 (.ret (.c (.s (plain s)))) v∧RBs [] bs'
 unfold d9b
 (refine Zq ?_;intros)
 refine f6 ht ⟨(s,k6 1 45),trivial⟩ (r:=.c (.s (s.drop (g8 s)))) (by show n6.ret (.c (.s (D1 s (k6 1 45))))=_;rw [b5b,V6]) j4 .nil fun _ _ _ _=>?_
 (refine Zq ?_;intros)
 refine f6 hl ⟨(s.drop (g8 s),k6 1 48),by show (s.drop (g8 s)).length < 4294967281;simp;omega,(by decide:(k6 1 48).length < 4294967281),(by decide:∀ b ∈ k6 1 48,b.toNat < 128)⟩ (r:=.c (.s (s.drop (F5 s (g8 s))))) (by show n6.ret (.c (.s (Lib.trimLeftS (s.drop (g8 s)) (k6 1 48))))=_;rw [← d6d];rfl) j4 .nil fun _ _ _ _=>?_
 have hsl:=O0 s
 have hz:=a97 s (g8 s) hsl.1
 have hbt:((s.getD 0 0).toNat:Int)=bt s 0:=rfl
 have e1:plain s=if F5 s (g8 s)=s.length then x5 else if g8 s=1 then [45] ++ s.drop (F5 s (g8 s)) else s.drop (F5 s (g8 s)):=by unfold plain;simp only [List.take_length]
 rw [e1]
 generalize F5 s (g8 s)=z at *
 have hdl:(s.drop z).length=s.length - z:=by simp
 have hpos:¬s.drop z=k6 0 0→0 < s.length:=fun h=>by
  rcases Nat.lt_or_ge 0 s.length with h2 | h2
  ·exact h2
  ·exact absurd (List.drop_eq_nil_of_le oM) h
 have hsg:g8 s=1↔(0 < s.length∧bt s 0=45):=by unfold g8;split <;> simp [*]
 (refine Zq ?_;with_reducible repeat' first|intro _|apply aI)
 ·have:z=s.length:=by
   have h:s.drop z=[]:=‹_›
   have:=List.drop_eq_nil_iff.1 h;omega
  rw [if_pos this]
  exact g9 ⟨.ret _ _ (.s _ _ _ rfl rfl),.nil⟩
 ·have h0:¬s.drop z=k6 0 0:=‹_›
  have hp:=hpos h0
  rw [if_neg (fun e=>h0 (List.drop_eq_nil_of_le oM))]
  (refine Zq ?_;with_reducible repeat' first|intro _|apply aI)
  ·rw [if_pos (hsg.2 ⟨hp,‹_›⟩)]
   refine e12 (x:=[45]) (y:=s.drop z) rfl rfl rfl ?_
   exact g9 ⟨.ret _ _ (.s _ _ _ (by simp;omega) rfl),.nil⟩
  ·rw [if_neg (fun e=>‹¬_› (hsg.1 e).2)]
   exact g9 ⟨.ret _ _ (.s _ _ _ rfl rfl),.nil⟩
end
end Go.Proofs.YtdldcfllnohkeaaGreatDoor
