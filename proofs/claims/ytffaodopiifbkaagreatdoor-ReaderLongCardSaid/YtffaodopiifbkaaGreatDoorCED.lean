/- The program's numbers: a text as limbs. -/
import Derived.Test.YtffaodopiifbkaaGreatDoorCEC
set_option linter.all false
namespace Go.Proofs.YtffaodopiifbkaaGreatDoor
open Go.Abs LQ Go.RowKit Go.Lib Go.Sort
set_option maxRecDepth 100000
set_option maxHeartbeats 4000000
noncomputable section
theorem e99 (l:List UInt8):∀ acc:Nat,(∀ c ∈ l,48≤c.toNat∧c.toNat≤57)→acc * 10 ^ l.length+z8 l≤4294967295→Lib.parseUintM 4294967295 acc l=.ok (acc * 10 ^ l.length+z8 l):=by
 induction l with
 | nil=>intro acc _ _;simp [Lib.parseUintM,z8,w7]
 | cons c r ih =>
  intro acc hd h
  obtain ⟨h1,h2⟩:=hd c (by simp)
  have e:z8 (c :: r)=(c.toNat - 48) * 10 ^ r.length+z8 r:=by
   rw [b45]
   have:(bt [c] 0 - 48).toNat=c.toNat - 48:=by show (((c.toNat:Nat):Int) - 48).toNat=_;omega
   rw [this]
  rw [e,List.length_cons,Nat.pow_succ] at h ⊢
  have hp:1≤10 ^ r.length:=Nat.one_le_pow _ _ dE
  have e2:(acc * 10+(c.toNat - 48)) * 10 ^ r.length+z8 r=acc * (10 ^ r.length * 10)+((c.toNat - 48) * 10 ^ r.length+z8 r):=by
   rw [Nat.add_mul,Nat.mul_assoc,Nat.mul_comm 10,Nat.add_assoc]
  have hb:acc * 10+(c.toNat - 48)≤(acc * 10+(c.toNat - 48)) * 10 ^ r.length:=Nat.le_mul_of_pos_right _ hp
  rw [Lib.parseUintM,if_pos ⟨h1,h2⟩,if_neg oM,if_neg oM,ih _ (fun d hd'=>hd d (by simp [hd'])) (by rw [e2];exact h),e2]
theorem d9z {s:j0} (h:∀ j,j < s.length→48≤bt s j∧bt s j≤57):∀ c ∈ s,48≤c.toNat∧c.toNat≤57:=fun c hc=>by
 obtain ⟨j,hj,rfl⟩:=List.getElem_of_mem hc
 have:=h j hj
 unfold bt at this
 simp only [List.getD,List.getElem?_eq_getElem hj,Option.getD_some] at this
 omega
theorem e5c {s:j0} (h0:0 < s.length) (h9:s.length≤9) (h:∀ j,j < s.length→48≤bt s j∧bt s j≤57):Lib.parseUintB 32 s=.ok (z8 s):=by
 have hl:=c2r s h
 have hp:(10:Nat) ^ s.length≤10 ^ 9:=Nat.pow_le_pow_right dE h9
 have:=e99 s 0 (d9z h) (by rw [Nat.zero_mul];omega)
 rw [Nat.zero_mul,Nat.zero_add] at this
 unfold Lib.parseUintB
 rw [if_neg (by intro e;subst e;simp at h0)]
 exact this
def f52:Sp where
 ι:={ s:j0 // 0 < s.length∧s.length≤9∧∀ j,j < s.length→48≤bt s j∧bt s j≤57 }
 A s:=[.c (.s s.1),.c (.i .i64 10),.c (.i .i64 32)]
 B _:=[]
 R s:=.ret (.t [.c (.i .u64 ((z8 s.1:Nat):Int)),.nilI])
 B' _:=[]
 inj i j vs bs h k _ _:=by
  obtain ⟨_,_,h1,k1,h,k⟩:=h.two k
  rw [F1 h1 k1];exact ⟨rfl,rfl⟩
theorem kPU:l6 221 f52:=fun ⟨s,h0,h9,hd⟩ vs bs hv hb=>by
 change l8 [.c (.s s),.c (.i .i64 10),.c (.i .i64 32)] vs at hv
 cases hb
 refine ⟨.ret (.tuple [.int .u64 ((z8 s:Nat):Int),.nilIface]),[],fun hok=>?_,.ret _ _ (.t _ _ (.k (.i _ _) (.k .nilI .nil))),.nil⟩
 have hx:vs.map toD=[D.str s,.int .i64 10,.int .i64 32]:=by
  cases hv with
  | cons _ _ v _ h1 h2=>cases h2 with
   | cons _ _ v2 _ h2 h3=>cases h3 with
    | cons _ _ v3 _ h3 h4 =>
     cases h4
     rw [List.map_cons,List.map_cons,List.map_cons,c1i h1,d0o h2,d0o h3];rfl
 rw [hx]
 refine M9 (d:=.tuple [.int .u64 ((z8 s:Nat):Int),.nilIface]) Tryz.call221 fun w S M us hg hwi hr=>?_
 have hus:us=[.string ⟨s.toArray⟩,.int .i64 10,.int .i64 32]:=by
  cases hr with
  | cons _ _ _ _ r1 r2=>cases r2 with
   | cons _ _ _ _ r2 r3=>cases r3 with
    | cons _ _ _ _ r3 r4 =>
     cases r4;cases r1;cases r2;cases r3
     rename_i sb hs
     rw [d3j hs]
 subst hus
 refine (Any.strconv_ParseUint_10_at32_ok Tryz.laysPu14 ⟨s.toArray⟩ (by simp [ByteArray.size];omega) (z8 s) (e5c h0 h9 hd) w).mono ?_
 rintro e w' ⟨rfl,hw⟩
 have hb:Below w.heap.size w w':=by
  rcases hw with rfl | rfl
  ·exact Below.refl _ _
  ·exact Lib.bytesWorld_below _ _ _
 refine ⟨hb,_,S,rfl,⟨fun _ _ h=>h,fun _ _ h=>.inl h⟩,a1k hwi hb,.tuple _ _ (.k (.int _ _) (.k .nilIface .nil)),⟨(fun _ _ _ h=>by cases h),fun vs ds hv hd i u e h1 h2=>?_⟩⟩
 injection hv with hv
 injection hd with hd
 subst hv hd
 intro len c z he
 subst he
 match i with
 | 0=>simp at h2
 | 1=>simp at h2
 | i+2=>simp at h2
section
variable {U:t6} {P:E6→List Bx→Prop}
theorem f2t {v:V} {K:Om} (hv:RV .nilI v) (h:j3 U K P):j3 U (U.uNilI v K) P:=fun e=>by
 have:=h e;subst e;cases hv;exact this
theorem d2q {a:Int} {K:Int→Om} (h:j3 U (K (if 0 < a then a else 0)) P):j3 U (U.fI (U.isel (U.iLt 0 a) a 0) K) P :=
 d1g a3p (fun k=>by rw [if_pos k] at h;exact h) (fun k=>by rw [if_neg k] at h;exact h)
end
def a1w (neg:Bool) (n:Nat):List G:=[.b neg,.l (w9 n)]
theorem c5y {D:j0} {m:Nat} (hm:m≤D.length) (h9:9≤m):z8 (D.take m)=z8 (D.take (m - 9)) * 10 ^ 9+z8 ((D.take m).drop (m - 9)):=by
 have e:D.take m=D.take (m - 9) ++ (D.take m).drop (m - 9):=by
  have:=(List.take_append_drop (m - 9) (D.take m)).symm
  rw [List.take_take,Nat.min_eq_left oM] at this;exact this
 conv=>lhs;rw [e]
 rw [b9k]
 have:((D.take m).drop (m - 9)).length=9:=by simp;omega
 rw [this]
theorem b9f {D:j0} (h:∀ j,j < D.length→48≤bt D j∧bt D j≤57) (k m:Nat) (hm:m≤D.length):∀ j,j < ((D.take m).drop k).length→48≤bt ((D.take m).drop k) j∧bt ((D.take m).drop k) j≤57:=fun j hj=>by
 simp at hj
 have e:bt ((D.take m).drop k) j=bt D (k+j):=by
  rw [a2c];unfold bt;simp [List.getD,List.getElem?_take,show k+j < m by omega]
 rw [e];exact h _ oM
theorem d14 (a:List Nat) (d:Nat):n6 (a ++ [d])=n6 a+B9 ^ a.length * d:=by rw [Q0,c84]
theorem d1f {acc:List Nat} {d:Nat} {n:Int} (h:n=d):acc.map lg ++ [[.i .u32 n]]=(acc ++ [d]).map lg:=by subst h;simp [lg]
theorem e1l {a:List Nat} {d:Nat} (h:LQ.LB a) (hd:d < 1000000000):LQ.LB (a ++ [d]):=fun x hx=>by
 rcases List.mem_append.1 hx with hx | hx
 ·exact h x hx
 ·simp at hx;subst hx;exact hd
theorem c9x {D:j0} {acc:List Nat} {m k N:Nat} (hd:∀ j,j < D.length→48≤bt D j∧bt D j≤57) (hm:m≤D.length) (hk:k=m - 9) (he:n6 acc+B9 ^ acc.length * z8 (D.take m)=N) :
  z8 ((D.take m).drop k) < 1000000000∧n6 (acc ++ [z8 ((D.take m).drop k)])+B9 ^ (acc ++ [z8 ((D.take m).drop k)]).length * z8 (D.take k)=N:=by
 subst hk
 have hlt:=c2r _ (b9f hd (m - 9) m hm)
 have hl:((D.take m).drop (m - 9)).length≤9:=by simp;omega
 have h9:z8 ((D.take m).drop (m - 9)) < 1000000000:=Nat.lt_of_lt_of_le hlt (Nat.pow_le_pow_right dE hl)
 refine ⟨h9,?_⟩
 rw [d14,← he,List.length_append,List.length_singleton,Nat.pow_succ]
 by_cases h:9≤m
 ·rw [c5y hm h]
  generalize z8 (D.take (m - 9))=a
  generalize z8 ((D.take m).drop (m - 9))=b
  rw [show (10:Nat) ^ 9=B9 from rfl,Nat.mul_add,Nat.mul_comm a B9,← Nat.mul_assoc]
  omega
 ·have e:m - 9=0:=oM
  rw [e,List.take_zero,List.drop_zero,show z8 ([]:j0)=0 by simp [z8,w7],Nat.mul_zero,Nat.add_zero]
theorem c9l (n:Nat):z8 (j5 n)=n:=by
 have hv:=C4 n
 have hok:=c0n n
 have hs:j4 (j5 n)=0:=by
  unfold j4;rw [if_neg];rintro ⟨h,h2⟩;have:=a09 n 0 h;omega
 unfold i7 at hv
 rw [if_pos hok,hs,if_neg dE] at hv
 unfold z8;omega
theorem e28 (s:j0):(j5 (i7 s).natAbs).length≤(J8 s).length∧(decide (((j5 (i7 s).natAbs).length:Int) < ((J8 s).length:Int))=decide (i7 s < 0)):=by
 rw [a02]
 unfold j6
 split <;> simp <;> omega
theorem d05:l6 201 (sp1 fun s=>.ret (.a (a1w (decide (i7 s < 0)) (i7 s).natAbs))):=o7 (fun fn h=>e0r h) [(176,_),(184,_),(221,_),(222,_)] (.cons a6a (.cons a0b (.cons kPU (.cons b5i .nil)))) fun U fn hfn ⟨s,hs⟩ vs bs hv hb=>by
 have hd:=hfn 176 _ rfl
 have ht:=hfn 184 _ rfl
 have hp:=hfn 221 _ rfl
 have hr:=hfn 222 _ rfl
 have hv:l8 [.c (.s s)] vs:=hv
 have hb:RBs [] bs:=hb
 have hs:s.length < 90000:=hs
 show j3 U _ fun v bs'=>l7 (.ret (.a (a1w (decide (i7 s < 0)) (i7 s).natAbs))) v∧RBs [] bs'
 unfold d7t
 (refine Zq ?_;intros)
 refine i6 hd ⟨s,hs⟩ (r:=.c (.s (J8 s))) rfl j7 .nil fun _ _ _ _=>?_
 have hl:=a88 s
 have h7:=e28 s
 (refine Zq ?_;intros)
 refine i6 ht ⟨(J8 s,q8 1 45),trivial⟩ (r:=.c (.s (j5 (i7 s).natAbs))) (by show t7.ret (.c (.s (D3 (J8 s) (q8 1 45))))=_;rw [b6t,U7,c4q]) j7 .nil fun _ _ _ _=>?_
 (refine Zq ?_;intros)
 generalize hD:j5 (i7 s).natAbs=D at *
 have hdig:∀ j,j < D.length→48≤bt D j∧bt D j≤57:=by rw [← hD];exact a09 _
 have hval:z8 D=(i7 s).natAbs:=by rw [← hD,c9l]
 refine C7 (fun (p:Nat × List Nat) vs bs=>∃ (m:Nat) (acc:List Nat) (v bx:V) (ng:Bool) (v4:V),p=(m,acc)∧vs=[.ptr 0 0,.str (D.take m).length (m8 (D.take m)),.ptr 1 0,v4]∧bs=[.cells [bx,.slice .nil 0 0 0 .exact],.cells [.bool ng,v],.tok acc.length 1]∧(U=CU→ng=decide (i7 s < 0))∧V4 2 1 (acc.map lg) v∧m≤D.length∧LQ.LB acc∧(9 * acc.length+m=D.length∨m=0∧9 * acc.length≤D.length+8)∧n6 acc+B9 ^ acc.length * z8 (D.take m)=(i7 s).natAbs∧RV (.c (.b false)) bx) (fun p=>p.1) (D.length,[]) ?_ (by simp only [x8];omega) ?_
 ·refine ⟨D.length,[],_,_,_,_,rfl,by simp only [List.take_length];rfl,rfl,fun e=>by subst e;rw [b0s];exact h7.2,.b rfl,Nat.le_refl _,fun d h=>(by cases h),by simp,by rw [← hval];simp [n6],.kn _⟩
 rintro self _ _ _ ⟨m,acc,v,bx,ng,v4,rfl,rfl,rfl,hng,htok,hm,hLB,hlen,he,hbx⟩ ih
 have hml:(D.take m).length=m:=by simp;omega
 (refine Zq ?_;with_reducible repeat' first|intro _|apply aI)
 ·refine d2q ?_
  obtain ⟨k,hk,hk2⟩:∃ k:Nat,k=m - 9∧(if 0 < ((D.take m).length:Int) - 9 then ((D.take m).length:Int) - 9 else 0)=(k:Int):=⟨m - 9,rfl,by split <;> omega⟩
  rw [hk2]
  have hkm:k≤m:=oM
  have hm0:0 < m:=oM
  (refine Zq ?_;intros)
  obtain ⟨s1,s2⟩:=c9x hdig hm hk he
  have hcl:((D.take m).drop k).length=m - k:=by simp;omega
  refine i6 hp ⟨(D.take m).drop k,oM,oM,b9f hdig k m hm⟩ (r:=.t [.c (.i .u64 ((z8 ((D.take m).drop k):Nat):Int)),.nilI]) rfl j7 .nil fun _ _ _ _=>?_
  (refine Zq ?_;intros)
  refine f2t aS ?_
  (refine Zq ?_;intros)
  refine a4n (m:=((z8 ((D.take m).drop k):Nat):Int)) rfl oM ?_
  (refine Zq ?_;intros)
  refine V8 aS (fun _=>G7 (by first | exact .i _ _ | exact .s _ _ _ rfl rfl | assumption)) (by rfl) (by simp) (by simp only [List.length_map];omega) fun _ _=>?_
  (refine Zq ?_;intros)
  have e1:List.drop (Int.toNat 0) (List.take ((k:Int)).toNat (D.take m))=D.take k:=by
   rw [Int.toNat_natCast,List.take_take,Nat.min_eq_left hkm];rfl
  rw [e1]
  refine ih (k,acc ++ [z8 ((D.take m).drop k)]) _ _ ?_ (by show k < m;omega)
  refine ⟨k,_,_,_,_,_,rfl,rfl,by rw [List.length_append];rfl,hng,.a _ _ (by simp) ?_,oM,e1l hLB s1,by rw [List.length_append,List.length_singleton];omega,s2,.b _⟩
  rw [← d1f (n:=((z8 ((D.take m).drop k):Nat):Int)) rfl]
  assumption
 ·have hm0:m=0:=oM
  subst hm0
  have e0:n6 acc=(i7 s).natAbs:=by
   rw [List.take_zero,show z8 ([]:j0)=0 by simp [z8,w7],Nat.mul_zero,Nat.add_zero] at he;exact he
  refine i6 hr ⟨acc,oM⟩ (r:=.sl 1 (w9 (i7 s).natAbs)) (by show t7.ret (.sl 1 ((E0 acc).map lg))=_;rw [a03 acc hLB,e0];rfl) j7 .nil fun _ _ _ _=>?_
  (refine Zq ?_;intros)
  exact I7 fun e=>by
   rw [hng e]
   exact ⟨.ret _ _ (.ag _ _ (.k (.b _) (.k (.cl _ _ _ _ _ (by simp [w9]) aS) .nil))),.nil⟩
end
end Go.Proofs.YtffaodopiifbkaaGreatDoor
namespace Go.Proofs.YtffaodopiifbkaaGreatDoor
open Go.Abs LQ
set_option maxRecDepth 100000
set_option maxHeartbeats 4000000
noncomputable section
section
variable {U:t6} {P:E6→List Bx→Prop}
theorem I6 {g:G} {v:V} {K:Q→Om} (hv:RV (.c g) v) (h:∀ x,RG g x→j3 U (K x) P):j3 U (U.uQ v K) P:=fun e=>by
 have h2:∃ x,CU.uQ v K=K x∧RG g x:=by
  cases hv with
  | b x=>exact ⟨_,rfl,.b x⟩
  | kn x=>exact ⟨_,rfl,.b x⟩
  | i k n=>exact ⟨_,rfl,.i k n⟩
  | s x l c h1 h2=>exact ⟨_,rfl,.s x l c h1 h2⟩
  | cl xs t n off len h1 h2=>exact ⟨_,rfl,.l xs t n off len h1 h2⟩
  | q _ x h=>exact ⟨_,rfl,h⟩
 obtain ⟨x,h3,h4⟩:=h2
 have:=h x h4 e
 subst e
 rw [h3];exact this
theorem d9r {x y:List UInt8} {l c1 c2:Nat} {K:Nat→Om} (h1:l=x.length) (e1:c1=m8 x) (e2:c2=m8 y) (k:j3 U (K (m8 (x ++ y))) P):j3 U (U.fN (U.sCat l c1 c2) K) P:=fun e=>by
 subst h1 e1 e2
 have:=k e
 subst e
 rw [a3u]
 show ∃ v bs,K (sCat x.length (m8 x) (m8 y))=some (v,bs)∧P v bs
 rw [b0p];exact this
end
theorem d65 {a b:Bool} {m n:Nat} (h:a1w a m=a1w b n):a=b∧m=n:=by
 simp only [a1w,List.cons.injEq,G.b.injEq,G.l.injEq,and_true] at h
 exact ⟨h.1,a8f h.2⟩
def T6:Sp where
 ι:={ p:Bool × Nat // (n8 p.2).length < 20000 }
 A p:=[.a (a1w p.1.1 p.1.2)]
 B _:=[]
 R p:=.ret (.c (.s (sgn p.1.1 p.1.2)))
 B' _:=[]
 inj i j vs bs h k _ _:=by
  obtain ⟨_,_,h1,k1,h,k⟩:=h.two k
  obtain ⟨e1,e2⟩:=d65 (h1.a_inj k1)
  rw [e1,e2];exact ⟨rfl,rfl⟩
theorem b7w (n:Nat):∀ r ∈ w9 n,r.length=1:=fun r hr=>by obtain ⟨_,_,rfl⟩:=List.mem_map.1 hr;rfl
theorem d0b {n:Nat} {x:Q} (h:RG (.l (w9 n)) x):RV (.sl 1 (w9 n)) (.q x):=.slq _ _ _ h (b7w n)
theorem a7q (n:Nat):(n8 n).length≤(j8 n).length:=by
 refine a8e ?_
 have h:=a1q (j8 n) (C2 n)
 rw [B4] at h
 exact Nat.lt_of_lt_of_le h (Nat.pow_le_pow_left dE _)
theorem e03 (n:Nat):sgn false n=j5 n:=b1a n
theorem f3e (hst:l6 203 T6):l6 178 (sp2 fun a b=>.ret (.c (.s (j5 (Nat.gcd (i7 a).natAbs (i7 b).natAbs))))):=o7 (fun fn h=>e1a h) [(201,_),(202,_),(203,_)] (.cons d05 (.cons c49 (.cons hst .nil))) fun U fn hfn ⟨(a,b),ha,hbl⟩ vs bs hv hb=>by
 have hp:=hfn 201 _ rfl
 have hd:=hfn 202 _ rfl
 have hs:=hfn 203 _ rfl
 have ha:a.length < 9000:=ha
 have hbl:b.length < 9000:=hbl
 have hv:l8 [.c (.s a),.c (.s b)] vs:=hv
 have hb:RBs [] bs:=hb
 show j3 U _ fun v bs'=>l7 (.ret (.c (.s (j5 (Nat.gcd (i7 a).natAbs (i7 b).natAbs))))) v∧RBs [] bs'
 have la:=a01 a
 have lb:=a01 b
 unfold d33
 (refine Zq ?_;intros)
 refine i6 hp ⟨a,by show a.length < 90000;omega⟩ (r:=.a (a1w (decide (i7 a < 0)) (i7 a).natAbs)) rfl j7 .nil fun _ _ hv1 _=>?_
 have hv1:RV (.a [.b _,.l (w9 _)]) _:=hv1
 (refine Zq ?_;intros)
 refine i6 hp ⟨b,by show b.length < 90000;omega⟩ (r:=.a (a1w (decide (i7 b < 0)) (i7 b).natAbs)) rfl j7 .nil fun _ _ hv2 _=>?_
 have hv2:RV (.a [.b _,.l (w9 _)]) _:=hv2
 generalize (i7 a).natAbs=x at *
 generalize (i7 b).natAbs=y at *
 (refine Zq ?_;intros)
 refine C7 (fun (p:Nat × Nat) vs bs=>∃ (m n:Nat) (v1 v2:V),p=(m,n)∧vs=[v1,v2]∧bs=[]∧RV (.c (.l (w9 m))) v1∧RV (.c (.l (w9 n))) v2∧Nat.gcd m n=Nat.gcd x y∧(j8 m).length < 9000∧(j8 n).length < 9000) (fun p=>mu p.1 p.2) (x,y) ⟨x,y,_,_,rfl,rfl,rfl,.q _ _ aS,.q _ _ aS,rfl,oM,oM⟩ (show mu x y < x8 from d9w oM oM) ?_
 rintro self _ _ _ ⟨m,n,v1,v2,rfl,rfl,rfl,h1,h2,hg,hm,hn⟩ ih
 have lm:=a7q m
 have ln:=a7q n
 (refine Zq ?_;intros)
 refine I6 h1 fun x1 g1=>?_
 (refine Zq ?_;intros)
 refine I6 h2 fun x2 g2=>?_
 (refine Zq ?_;intros)
 refine b1g g2 (b7w n) fun t off ht=>?_
 (refine Zq ?_;with_reducible repeat' first|intro _|apply aI)
 ·have hn0:n ≠ 0:=by rintro rfl;simp [w9,F3] at *
  refine i6 hd ⟨(m,n),by show (n8 m).length < 20000;omega,by show (n8 n).length < 20000;omega,hn0,by show (n8 m).length < 9000;omega,by show (n8 n).length < 9000;omega⟩ (r:=.t [.sl 1 (w9 (m / n)),.sl 1 (w9 (m % n))]) rfl (.k (d0b g1) (.k (d0b g2) .nil)) .nil fun _ _ _ _=>?_
  (refine Zq ?_;intros)
  refine ih (n,m % n) _ _ ⟨n,m % n,_,_,rfl,rfl,rfl,.q _ _ g2,.cl _ _ _ _ _ (by simp [w9]) aS,?_,hn,Nat.lt_of_le_of_lt (N2 (Nat.le_of_lt (Nat.mod_lt m (Nat.pos_of_ne_zero hn0)))) hn⟩ (c74 (Nat.pos_of_ne_zero hn0))
  rw [← hg,Nat.gcd_comm n (m % n),← Nat.gcd_rec n m,Nat.gcd_comm]
 ·have hn0:n=0:=by
   have:(w9 n).length=0:=oM
   simp only [w9,List.length_map,List.length_eq_zero_iff] at this
   exact b7o (this.trans F3.symm)
  subst hn0
  rw [Nat.gcd_zero_right] at hg
  subst hg
  refine i6 hs ⟨(false,Nat.gcd x y),by show (n8 (Nat.gcd x y)).length < 20000;omega⟩ (r:=.c (.s (j5 (Nat.gcd x y)))) (by show t7.ret (.c (.s (sgn false _)))=_;rw [e03]) (.k (.ag _ _ (.k (.kn _) (.k (.q _ _ g1) .nil))) .nil) .nil fun _ _ _ _=>?_
  (refine Zq ?_;intros)
  exact k9 ⟨.ret _ _ (.s _ _ _ rfl rfl),.nil⟩
theorem b3c (n:Int):0 < (j6 n).length:=by
 have:=a0d n.natAbs
 unfold j6;split <;> simp <;> omega
theorem a4l (n:Int):bt (j6 n) 0=45↔n < 0:=by
 unfold j6
 split
 ·rename_i h;exact ⟨fun _=>h,fun _=>rfl⟩
 ·rename_i h
  have:=a09 n.natAbs 0 (a0d _)
  exact ⟨fun k=>by omega,fun k=>absurd k h⟩
theorem b9s:j6 1=q8 1 49:=by
 show j6 ((1:Nat):Int)=_
 rw [a2q,b26];decide
theorem b23 (n:Int):j6 n=q8 1 49↔n=1:=⟨fun h=>a0h (h.trans b9s.symm),fun h=>by subst h;exact b9s⟩
theorem a1b (n:Int):j6 n=q8 1 48↔n=0:=⟨fun h=>a0h (h.trans dE),fun h=>by subst h;decide⟩
theorem e30:l6 177 (sp1 fun s=>.ret (.c (.s (d68 s)))):=o7 (fun fn h=>e0u h) [(176,_)] (.cons a6a .nil) fun U fn hfn ⟨s,hs⟩ vs bs hv hb=>by
 have hd:=hfn 176 _ rfl
 have hv:l8 [.c (.s s)] vs:=hv
 have hb:RBs [] bs:=hb
 have hs:s.length < 90000:=hs
 show j3 U _ fun v bs'=>l7 (.ret (.c (.s (d68 s)))) v∧RBs [] bs'
 unfold d54
 (refine Zq ?_;intros)
 have hl:=a88 s
 refine i6 hd ⟨s,hs⟩ (r:=.c (.s (J8 s))) rfl j7 .nil fun _ _ _ _=>?_
 rw [a02] at *
 unfold d68
 generalize i7 s=n at *
 have h0:=b3c n
 have hbt:(((j6 n).getD 0 0).toNat:Int)=bt (j6 n) 0:=rfl
 (refine Zq ?_;with_reducible repeat' first|intro _|apply aI)
 ·have e:n=0:=(a1b n).1 ‹_›
  subst e
  exact k9 ⟨.ret _ _ (.s _ _ _ rfl rfl),.nil⟩
 ·have e:n < 0:=(a4l n).1 ‹_›
  have e2:j6 (-n)=(j6 n).drop (Int.toNat 1):=by
   unfold j6
   rw [if_pos e,if_neg oM,Int.natAbs_neg];rfl
  rw [e2]
  exact k9 ⟨.ret _ _ (.s _ _ _ rfl rfl),.nil⟩
 ·have e:¬n < 0:=fun k=>‹¬(((j6 n).getD (Int.toNat 0) 0).toNat:Int)=45› ((a4l n).2 k)
  have e0:n ≠ 0:=fun k=>‹¬j6 n=q8 1 48› ((a1b n).2 k)
  have e2:j6 (-n)=[45] ++ j6 n:=by
   unfold j6
   rw [if_neg e,if_pos oM,Int.natAbs_neg]
  rw [e2]
  refine d9r (x:=[45]) (y:=j6 n) rfl rfl rfl ?_
  exact k9 ⟨.ret _ _ (.s _ _ _ (by simp;omega) rfl),.nil⟩
theorem d1z {s:j0} (h:s.length < 9000):(n8 (i7 s).natAbs).length < 9000:=by
 have:=a01 s
 have:=a7q (i7 s).natAbs
 omega
theorem e0k {a b:Int} (hb:0 < b) (hd:b ∣ a):sgn (decide (a < 0) != decide (b < 0)) (a.natAbs / b.natAbs)=j6 (a / b):=by
 obtain ⟨q,rfl⟩:=hd
 have h1:¬b < 0:=oM
 have hb':0 < b.natAbs:=oM
 rw [Int.mul_ediv_cancel_left _ oM,Int.natAbs_mul,Nat.mul_div_cancel_left _ hb',← e2x q]
 have:decide (b * q < 0)=decide (q < 0):=by
  rw [Bool.eq_iff_iff,decide_eq_true_iff,decide_eq_true_iff]
  constructor
  ·intro h
   by_cases hq:q < 0
   ·exact hq
   ·have:=Int.mul_nonneg (show 0≤b by omega) (show 0≤q by omega);omega
  ·intro h;exact Int.mul_neg_of_pos_of_neg hb h
 rw [this,decide_eq_false h1,Bool.bne_false]
theorem d5s {a b:Int} (hd:b ∣ a):a.natAbs % b.natAbs=0:=Nat.mod_eq_zero_of_dvd (Int.natAbs_dvd_natAbs.2 hd)
def f4v:Sp where
 ι:={ p:j0 × j0 // p.1.length < 9000∧p.2.length < 9000∧0 < i7 p.2∧i7 p.2 ∣ i7 p.1 }
 A p:=[.c (.s p.1.1),.c (.s p.1.2)]
 B _:=[]
 R p:=.ret (.t [.c (.s (j6 (i7 p.1.1 / i7 p.1.2))),.c (.s x6)])
 B' _:=[]
 inj i j vs bs h k _ _:=by
  obtain ⟨_,_,h1,k1,h,k⟩:=h.two k
  obtain ⟨_,_,h2,k2,h,k⟩:=h.two k
  rw [F1 h1 k1,F1 h2 k2];exact ⟨rfl,rfl⟩
theorem e3m (hst:l6 203 T6):l6 179 f4v:=o7 (fun fn h=>e35 h) [(201,_),(176,_),(202,_),(203,_)] (.cons d05 (.cons a6a (.cons c49 (.cons hst .nil)))) fun U fn hfn ⟨(a,b),ha,hbl,hb0,hba⟩ vs bs hv hb=>by
 have hp:=hfn 201 _ rfl
 have hd:=hfn 202 _ rfl
 have hs:=hfn 203 _ rfl
 have ha:a.length < 9000:=ha
 have hbl:b.length < 9000:=hbl
 have hb0:0 < i7 b:=hb0
 have hba:i7 b ∣ i7 a:=hba
 have hv:l8 [.c (.s a),.c (.s b)] vs:=hv
 have hb:RBs [] bs:=hb
 show j3 U _ fun v bs'=>l7 (.ret (.t [.c (.s (j6 (i7 a / i7 b))),.c (.s x6)])) v∧RBs [] bs'
 have la:=d1z ha
 have lb:=d1z hbl
 have e1:=e0k hb0 hba
 have e2:=d5s hba
 have hx0:(i7 b).natAbs ≠ 0:=oM
 have hq:(n8 ((i7 a).natAbs / (i7 b).natAbs)).length≤(n8 (i7 a).natAbs).length:=a9s (Nat.div_le_self _ _)
 unfold d6j
 (refine Zq ?_;intros)
 refine i6 hp ⟨a,by show a.length < 90000;omega⟩ (r:=.a (a1w (decide (i7 a < 0)) (i7 a).natAbs)) rfl j7 .nil fun _ _ hv1 _=>?_
 have hv1:RV (.a [.b _,.l (w9 _)]) _:=hv1
 (refine Zq ?_;intros)
 refine i6 hp ⟨b,by show b.length < 90000;omega⟩ (r:=.a (a1w (decide (i7 b < 0)) (i7 b).natAbs)) rfl j7 .nil fun _ _ hv2 _=>?_
 have hv2:RV (.a [.b _,.l (w9 _)]) _:=hv2
 generalize (i7 a).natAbs=x at *
 generalize (i7 b).natAbs=y at *
 have hly:(w9 y).length ≠ 0:=by
  intro e
  simp only [w9,List.length_map,List.length_eq_zero_iff] at e
  exact hx0 (b7o (e.trans F3.symm))
 (refine Zq ?_;intros)
 refine b1g aS (b7w y) fun t off ht=>?_
 (refine Zq ?_;with_reducible repeat' first|intro _|apply aI)
 ·exact absurd oM hly
 ·refine i6 hd ⟨(x,y),by show (n8 x).length < 20000;omega,by show (n8 y).length < 20000;omega,hx0,la,lb⟩ (r:=.t [.sl 1 (w9 (x / y)),.sl 1 (w9 0)]) (by show t7.ret (.t [.sl 1 (w9 (x / y)),.sl 1 (w9 (x % y))])=_;rw [e2]) (.k (d0b aS) (.k (d0b aS) .nil)) .nil fun _ _ _ _=>?_
  (refine Zq ?_;with_reducible repeat' first|intro _|apply aI)
  all_goals
   refine X8 (gs:=a1w (decide (i7 a < 0) != decide (i7 b < 0)) (x / y)) (.cells _ _ (.k (.b _) (.k (.cl _ _ _ _ _ (by simp [w9]) aS) .nil))) rfl fun _ hc1=>?_
   (refine Zq ?_;intros)
   refine X8 (gs:=a1w (decide (i7 b < 0)) 0) (.cells _ _ (.k (.q _ _ aS) (.k (.cl _ _ _ _ _ (by simp [w9]) aS) .nil))) rfl fun _ hc2=>?_
   (refine Zq ?_;with_reducible repeat' first|intro _|apply aI)
   all_goals first
   | exact absurd ‹0 < (((n8 0).length:Nat):Int)› (by simp [F3])
   | refine i6 hs ⟨(_,x / y),by show (n8 (x / y)).length < 20000;omega⟩ (r:=.c (.s (j6 (i7 a / i7 b)))) (by show t7.ret (.c (.s (sgn (decide (i7 a < 0) != decide (i7 b < 0)) (x / y))))=_;rw [e1]) (.cons _ _ _ _ (.a _ _ _ rfl aS) .nil) .nil fun _ _ _ _=>?_
     (refine Zq ?_;intros)
     refine i6 hs ⟨(decide (i7 b < 0),0),by show (n8 0).length < 20000;simp [F3]⟩ (r:=.c (.s x6)) rfl (.k (.a _ _ _ rfl aS) .nil) .nil fun _ _ _ _=>?_
     (refine Zq ?_;intros)
     exact k9 ⟨.ret _ _ j7,.nil⟩
theorem c2d (s:j0):i7 (J8 s)=i7 s:=by rw [a02,x7]
theorem c57 {a b a' b':j0} (h1:i7 a=i7 a') (h2:i7 b=i7 b'):s7 a b=s7 a' b':=by unfold s7;rw [h1,h2]
def d5d (R:j0→j0→t7):Sp where
 ι:={ p:j0 × j0 // p.1.length < 8000∧p.2.length < 8000 }
 A p:=[.c (.s p.1.1),.c (.s p.1.2)]
 B _:=[]
 R p:=R p.1.1 p.1.2
 B' _:=[]
 inj i j vs bs h k _ _:=by
  obtain ⟨_,_,h1,k1,h,k⟩:=h.two k
  obtain ⟨_,_,h2,k2,h,k⟩:=h.two k
  rw [F1 h1 k1,F1 h2 k2];exact ⟨rfl,rfl⟩
theorem c72 (n:Int):(j6 (-n)).length≤(j6 n).length+1:=by
 unfold j6
 rw [Int.natAbs_neg]
 split <;> split <;> simp <;> omega
theorem f3h (x:Int):s7 (j6 x) (j6 0)=(x6,S5):=by unfold s7;rw [x7,if_pos rfl]
theorem f1s (x:Int):s7 (j6 x) (j6 1)=(j6 x,j6 1):=by
 rw [a2y x 1 dE]
 simp
theorem e20 (x y:Int):s7 (j6 x) (j6 y)=s7 (j6 (-x)) (j6 (-y)):=by
 rw [a1s,a1s]
 simp only [x7]
 have:qn x y=qn (-x) (-y):=by
  unfold qn
  rw [Int.natAbs_neg,Int.natAbs_neg]
  by_cases hy:y=0
  ·rw [if_pos hy,if_pos oM]
  ·rw [if_neg hy,if_neg (show ¬-y=0 by omega)]
   by_cases hx:x=0
   ·subst hx;simp <;> (intro h;exact absurd h hy)
   ·have e:(if (x < 0)=(y < 0) then (1:Int) else -1)=if (-x < 0)=(-y < 0) then 1 else -1:=by
     by_cases h1:x < 0 <;> by_cases h2:y < 0 <;> simp [h1,h2] <;> omega
    rw [e]
 rw [this]
theorem e12 {m n:Int} (hn:0 < n) (h:Nat.gcd m.natAbs n.natAbs=1):s7 (j6 m) (j6 n)=(j6 m,j6 n):=by
 rw [a2y m n hn,h];simp
theorem b3x (hst:l6 203 T6):l6 155 (d5d fun a b=>.ret (.t [.c (.s (s7 a b).1),.c (.s (s7 a b).2)])):=o7 (fun fn h=>e0i h) [(176,_),(177,_),(178,_),(179,_)] (.cons a6a (.cons e30 (.cons (f3e hst) (.cons (e3m hst) .nil)))) fun U fn hfn ⟨(a,b),ha,hbl⟩ vs bs hv hb=>by
 have hd:=hfn 176 _ rfl
 have hn:=hfn 177 _ rfl
 have hg:=hfn 178 _ rfl
 have hq:=hfn 179 _ rfl
 have ha:a.length < 8000:=ha
 have hbl:b.length < 8000:=hbl
 have hv:l8 [.c (.s a),.c (.s b)] vs:=hv
 have hb:RBs [] bs:=hb
 show j3 U _ fun v bs'=>l7 (.ret (.t [.c (.s (s7 a b).1),.c (.s (s7 a b).2)])) v∧RBs [] bs'
 unfold d4y
 (refine Zq ?_;intros)
 refine i6 hd ⟨a,by show a.length < 90000;omega⟩ (r:=.c (.s (J8 a))) rfl j7 .nil fun _ _ _ _=>?_
 (refine Zq ?_;intros)
 refine i6 hd ⟨b,by show b.length < 90000;omega⟩ (r:=.c (.s (J8 b))) rfl j7 .nil fun _ _ _ _=>?_
 have la:(J8 a).length < 8000:=by have:=a88 a;omega
 have lb:(J8 b).length < 8000:=by have:=a88 b;omega
 rw [c57 (c2d a).symm (c2d b).symm]
 rw [a02 a,a02 b] at *
 generalize i7 a=x at *
 generalize i7 b=y at *
 have h0:=b3c y
 have hbt:(((j6 y).getD 0 0).toNat:Int)=bt (j6 y) 0:=rfl
 (refine Zy ?_;intros)
 refine C9 (fun vs bs=>∃ m n:Int,l8 [.c (.s (j6 m)),.c (.s (j6 n))] vs∧RBs [] bs∧0 < n∧(j6 m).length < 8500∧(j6 n).length < 8500∧s7 (j6 x) (j6 y)=s7 (j6 m) (j6 n)) ?_ ?_
 ·rintro vs' bs' ⟨m,n,hv',hb',hn0,hml,hnl,he⟩
  rw [he]
  have hgv:t7.ret (.c (.s (j5 (Nat.gcd (i7 (j6 m)).natAbs (i7 (j6 n)).natAbs))))=.ret (.c (.s (j5 (Nat.gcd m.natAbs n.natAbs)))):=by rw [x7,x7]
  obtain ⟨g,hge⟩:∃ g,g=Nat.gcd m.natAbs n.natAbs:=⟨_,rfl⟩
  rw [← hge] at hgv
  have hg0:0 < g:=by rw [hge];exact Nat.gcd_pos_of_pos_right _ oM
  have hgd:(g:Int) ∣ m∧(g:Int) ∣ n:=by
   rw [hge];exact ⟨Int.ofNat_dvd_left.2 (Nat.gcd_dvd_left _ _),Int.ofNat_dvd_left.2 (Nat.gcd_dvd_right _ _)⟩
  have hdv:i7 (j5 g)=(g:Int):=C4 g
  have hgl:(j5 g).length < 9000:=by
   have h1:=b3n g
   have h2:(j8 g).length≤(j8 n.natAbs).length:=N2 (by rw [hge];exact Nat.le_of_dvd oM (Nat.gcd_dvd_right _ _))
   have h3:=c32 n
   omega
  (refine Zq ?_;intros)
  refine i6 hg ⟨(j6 m,j6 n),by show (j6 m).length < 9000;omega,by show (j6 n).length < 9000;omega⟩ (r:=.c (.s (j5 g))) hgv j7 .nil fun _ _ _ _=>?_
  (refine Zq ?_;with_reducible repeat' first|intro _|apply aI)
  ·have e1:g=1:=by
    have:=(b23 (g:Int)).1 (by rw [a2q];assumption)
    omega
   rw [e12 hn0 (by rw [← hge];exact e1)]
   exact k9 ⟨.ret _ _ j7,.nil⟩
  ·rw [a2y m n hn0,← hge]
   refine i6 hq ⟨(j6 m,j5 g),by show (j6 m).length < 9000;omega,hgl,by show 0 < i7 (j5 g);omega,by show i7 (j5 g) ∣ i7 (j6 m);rw [hdv,x7];exact hgd.1⟩ (r:=.t [.c (.s (j6 (m / g))),.c (.s x6)]) (by show t7.ret (.t [.c (.s (j6 (i7 (j6 m) / i7 (j5 g)))),.c (.s x6)])=_;rw [hdv,x7]) j7 .nil fun _ _ _ _=>?_
   (refine Zq ?_;intros)
   refine i6 hq ⟨(j6 n,j5 g),by show (j6 n).length < 9000;omega,hgl,by show 0 < i7 (j5 g);omega,by show i7 (j5 g) ∣ i7 (j6 n);rw [hdv,x7];exact hgd.2⟩ (r:=.t [.c (.s (j6 (n / g))),.c (.s x6)]) (by show t7.ret (.t [.c (.s (j6 (i7 (j6 n) / i7 (j5 g)))),.c (.s x6)])=_;rw [hdv,x7]) j7 .nil fun _ _ _ _=>?_
   (refine Zq ?_;intros)
   exact k9 ⟨.ret _ _ j7,.nil⟩
 ·intro c hc
  (refine Zq ?_;with_reducible repeat' first|intro _|apply aI)
  ·have e:y=0:=(a1b y).1 ‹_›
   subst e
   rw [f3h]
   exact k9 ⟨.ret _ _ j7,.nil⟩
  ·have e:y=1:=(b23 y).1 ‹_›
   subst e
   rw [f1s]
   exact k9 ⟨.ret _ _ j7,.nil⟩
  ·have e:y < 0:=(a4l y).1 ‹_›
   refine i6 hn ⟨j6 x,by show (j6 x).length < 90000;omega⟩ (r:=.c (.s (j6 (-x)))) (by show t7.ret (.c (.s (j6 (-i7 (j6 x)))))=_;rw [x7]) j7 .nil fun _ _ _ _=>?_
   (refine Zq ?_;intros)
   refine i6 hn ⟨j6 y,by show (j6 y).length < 90000;omega⟩ (r:=.c (.s (j6 (-y)))) (by show t7.ret (.c (.s (j6 (-i7 (j6 y)))))=_;rw [x7]) j7 .nil fun _ _ _ _=>?_
   (refine Zq ?_;intros)
   have l1:=c72 x
   have l2:=c72 y
   exact hc _ _ ⟨-x,-y,by (exact j7),.nil,oM,oM,oM,e20 x y⟩
  ·have e:¬y < 0:=fun k=>‹¬(((j6 y).getD (Int.toNat 0) 0).toNat:Int)=45› ((a4l y).2 k)
   have e0:y ≠ 0:=fun k=>‹¬j6 y=q8 1 48› ((a1b y).2 k)
   exact hc _ _ ⟨x,y,by (exact j7),.nil,oM,oM,oM,rfl⟩
theorem b5r {p:UInt8→Bool}:∀ {l:j0},l.dropWhile p=[]↔∀ b ∈ l,p b=true
 | []=>by simp
 | c :: l=>by
  by_cases h:p c=true
  ·rw [List.dropWhile_cons_of_pos h,b5r];simp [h]
  ·rw [List.dropWhile_cons_of_neg h];simp [h]
theorem c73 {p:UInt8→Bool} {c:UInt8} {r:j0}:∀ {l:j0},l.dropWhile p=c :: r→p c=false
 | [],h=>by simp at h
 | d :: l,h=>by
  by_cases hp:p d=true
  ·rw [List.dropWhile_cons_of_pos hp] at h;exact c73 h
  ·rw [List.dropWhile_cons_of_neg hp] at h
   injection h with h _;subst h;simpa using hp
theorem c2g {l cs:j0}:Lib.trimS l cs=[]↔∀ b ∈ l,cs.contains b=true:=by
 unfold Lib.trimS Lib.trimLeftS Lib.trimRightS
 constructor
 ·intro h
  have h1:=b5r.1 h
  cases hd:l.reverse.dropWhile (cs.contains ·) with
  | nil=>intro b hb;exact b5r.1 hd b (List.mem_reverse.2 hb)
  | cons c r =>
   rw [hd] at h1
   have h2:=h1 c (by simp)
   have h3:=c73 hd
   rw [h2] at h3;cases h3
 ·intro h
  have:l.reverse.dropWhile (cs.contains ·)=[]:=b5r.2 fun b hb=>h b (List.mem_reverse.1 hb)
  rw [this];rfl
def ten:j0:=q8 10 270211885617516653982000
theorem c6x (b:UInt8):ten.contains b=P5 b.toNat:=by
 have key:∀ n:Fin 256,ten.contains (UInt8.ofNat n.1)=P5 n.1:=dE
 have:=key ⟨b.toNat,b.toNat_lt⟩
 simpa using this
def E9 (u:j0):Bool:=decide (u ≠ []∧m7 u 0=u.length)
theorem a9i {u:j0} {k:Nat} (hk:k≤u.length):m7 u k=u.length↔∀ j,k≤j→j < u.length→48≤bt u j∧bt u j≤57 :=
 ⟨fun h j h1 h2=>Y7 u k j h1 oM,fun h=>U9 u k hk h⟩
theorem d17 (u:j0):decide (Lib.trimS u ten=[])=decide (m7 u 0=u.length):=by
 rw [Bool.eq_iff_iff,decide_eq_true_iff,decide_eq_true_iff,c2g,a9i (Nat.zero_le _)]
 constructor
 ·intro h j _ hj
  have:=h u[j] (List.getElem_mem hj)
  rw [c6x] at this
  have e:bt u j=u[j].toNat:=by unfold bt;simp [List.getD,List.getElem?_eq_getElem hj]
  rw [e];simpa [P5] using this
 ·intro h b hb
  obtain ⟨j,hj,rfl⟩:=List.getElem_of_mem hb
  rw [c6x]
  have e:bt u j=u[j].toNat:=by unfold bt;simp [List.getD,List.getElem?_eq_getElem hj]
  have:=h j (Nat.zero_le _) hj
  rw [e] at this;simpa [P5] using this
theorem e2l:l6 183 (sp1 fun s=>.ret (.c (.b (E9 s)))):=o7 (fun fn h=>e29 h) [(165,_)] (.cons d20 .nil) fun U fn hfn ⟨s,hs⟩ vs bs hv hb=>by
 have ht:=hfn 165 _ rfl
 have hv:l8 [.c (.s s)] vs:=hv
 have hb:RBs [] bs:=hb
 have hs:s.length < 90000:=hs
 show j3 U _ fun v bs'=>l7 (.ret (.c (.b (E9 s)))) v∧RBs [] bs'
 unfold d48
 (refine Zq ?_;with_reducible repeat' first|intro _|apply aI)
 ·have h0:s=q8 0 0:=‹_›
  have e:E9 s=false:=by unfold E9;rw [decide_eq_false];exact fun h=>h.1 h0
  rw [e]
  exact k9 ⟨.ret _ _ (.kn _),.nil⟩
 ·have h0:¬s=q8 0 0:=‹_›
  refine i6 ht ⟨(s,ten),by show s.length < 4294967281;omega,(by decide:ten.length < 4294967281),(by decide:∀ b ∈ ten,b.toNat < 128)⟩ (r:=.c (.s (Lib.trimS s ten))) rfl j7 .nil fun _ _ _ _=>?_
  (refine Zq ?_;intros)
  exact I7 fun e=>by
   subst e
   refine ⟨.ret _ _ (J3 ?_),.nil⟩
   rw [c2m]
   show E9 s=decide (Lib.trimS s ten=[])
   rw [d17]
   unfold E9
   rw [Bool.eq_iff_iff,decide_eq_true_iff,decide_eq_true_iff]
   exact ⟨fun h=>h.2,fun h=>⟨h0,h⟩⟩
theorem f2z {s:j0} {c:UInt8} (h:0≤Lib.indexByte s c):bt s (Lib.indexByte s c).toNat=c.toNat∧∀ j,j < (Lib.indexByte s c).toNat→bt s j ≠ c.toNat:=by
 induction s with
 | nil=>simp [Lib.indexByte] at h
 | cons b r ih =>
  have ex:Lib.indexByte (b :: r) c=if b=c then 0 else if Lib.indexByte r c=-1 then -1 else Lib.indexByte r c+1:=by simp only [Lib.indexByte,beq_iff_eq]
  rw [ex] at h ⊢
  by_cases hb:b=c
  ·rw [if_pos hb];subst hb;exact ⟨rfl,fun j hj=>by simp at hj⟩
  ·rw [if_neg hb] at h ⊢
   by_cases h1:Lib.indexByte r c=-1
   ·rw [if_pos h1] at h;omega
   ·rw [if_neg h1] at h ⊢
    have hge:=(R6 r c).2
    obtain ⟨i1,i2⟩:=ih oM
    rw [show (Lib.indexByte r c+1).toNat=(Lib.indexByte r c).toNat+1 by omega]
    refine ⟨by rw [a05];exact i1,fun j hj=>?_⟩
    cases j with
    | zero=>exact fun e=>hb (UInt8.toNat_inj.1 (by have:bt (b :: r) 0=b.toNat:=rfl;omega))
    | succ j=>rw [a05];exact i2 j oM
theorem d96 {s:j0} {c:UInt8} (h:¬0≤Lib.indexByte s c):∀ j,j < s.length→bt s j ≠ c.toNat:=by
 induction s with
 | nil=>intro j hj;simp at hj
 | cons b r ih =>
  have ex:Lib.indexByte (b :: r) c=if b=c then 0 else if Lib.indexByte r c=-1 then -1 else Lib.indexByte r c+1:=by simp only [Lib.indexByte,beq_iff_eq]
  rw [ex] at h
  by_cases hb:b=c
  ·rw [if_pos hb] at h;omega
  ·rw [if_neg hb] at h
   have hge:=(R6 r c).2
   have h1:¬0≤Lib.indexByte r c:=by split at h <;> omega
   intro j hj
   cases j with
   | zero=>exact fun e=>hb (UInt8.toNat_inj.1 (by have:bt (b :: r) 0=b.toNat:=rfl;omega))
   | succ j=>rw [a05];exact ih h1 j (by simpa using hj)
theorem c6h (s:j0) (i:Nat):m7 s i < s.length→¬(48≤bt s (m7 s i)∧bt s (m7 s i)≤57):=by
 fun_induction m7 s i with
 | case1 i h1 h2 ih=>exact ih
 | case2 i h1 h2=>intro _ h;exact h2 (by simpa [P5] using h)
 | case3 i h1=>intro h;exact absurd h h1
def x9 (s:j0):j0 × j0:=((G8 s 47).1,if (G8 s 47).2.2 then (G8 s 47).2.1 else S5)
theorem d25 {s:j0} {i p:Nat} (hp:p≤s.length) (hi:i≤p) (hn:p < s.length→¬(48≤bt s p∧bt s p≤57)):(∀ j,i≤j→j < p→48≤bt s j∧bt s j≤57)↔m7 s i=p:=by
 constructor
 ·intro h
  have hA:At s i ((s.take p).drop i) (s.drop p):=by
   unfold At
   have:=(List.take_append_drop p s).symm
   conv=>lhs;rw [this]
   rw [List.drop_append_of_le_length (by simp;omega)]
  have hl:((s.take p).drop i).length=p - i:=by simp;omega
  rw [d2d hA (fun j hj=>by
   rw [hl] at hj
   have e:bt ((s.take p).drop i) j=bt s (i+j):=by rw [a2c];unfold bt;simp [List.getD,List.getElem?_take,show i+j < p by omega]
   rw [e];exact h _ oM oM) ?_,hl]
  ·omega
  ·by_cases h2:p < s.length
   ·right;rw [a2c];exact hn h2
   ·left;exact List.drop_eq_nil_of_le oM
 ·intro h j h1 h2;exact Y7 s i j h1 oM
theorem a68 {s:j0} {i p:Nat} (hp:p≤s.length) (hi:i≤p) (hn:p < s.length→¬(48≤bt s p∧bt s p≤57)):E9 ((s.take p).drop i)=decide (i < p∧m7 s i=p):=by
 unfold E9
 have hl:((s.take p).drop i).length=p - i:=by simp;omega
 rw [Bool.eq_iff_iff,decide_eq_true_iff,decide_eq_true_iff,a9i (Nat.zero_le _),hl,← d25 hp hi hn]
 have hb:∀ j,j < p - i→bt ((s.take p).drop i) j=bt s (i+j):=fun j hj=>by
  rw [a2c];unfold bt;simp [List.getD,List.getElem?_take,show i+j < p by omega]
 constructor
 ·rintro ⟨h1,h2⟩
  refine ⟨?_,fun j h3 h4=>?_⟩
  ·have:=List.length_pos_iff.2 h1;omega
  ·have:=h2 (j - i) (Nat.zero_le _) oM
   rw [hb _ oM,show i+(j - i)=j by omega] at this;exact this
 ·rintro ⟨h1,h2⟩
  refine ⟨fun e=>by rw [e] at hl;simp at hl;omega,fun j _ hj=>?_⟩
  rw [hb j hj];exact h2 _ oM oM
theorem c6l {s:j0} {p:Nat} (hp:j4 s≤p) (hl:p≤s.length):D3 (s.take p) [45]=(s.take p).drop (j4 s):=by
 rw [U7]
 congr 1
 have hs:=K5 s
 unfold j4 at hp ⊢
 have hlen:(s.take p).length=p:=by simp;omega
 by_cases h:0 < s.length∧bt s 0=45
 ·rw [if_pos h] at hp ⊢
  rw [if_pos ⟨oM,by unfold bt at *;simp only [List.getD,List.getElem?_take];rw [if_pos oM];exact h.2⟩]
 ·rw [if_neg h]
  rw [if_neg]
  rintro ⟨h1,h2⟩
  refine h ⟨oM,?_⟩
  unfold bt at h2 ⊢
  simp only [List.getD,List.getElem?_take] at h2
  rw [if_pos oM] at h2;exact h2
theorem c9z:E9 S5=true:=by
 unfold E9
 refine decide_eq_true ⟨dE,U9 S5 0 dE ?_⟩
 intro j _ hj
 have e:j=0:=Nat.lt_one_iff.1 hj
 rw [e];decide
theorem b6d (s:j0):(E9 (D3 (x9 s).1 [45]) && E9 (x9 s).2)=(m6 s).2.2∧((m6 s).2.2=true→(m6 s).1=(x9 s).1∧(m6 s).2.1=(x9 s).2):=by
 have hs:=K5 s
 have hd:=d3m s (j4 s) hs.1
 have hstop:=c6h s (j4 s)
 have hsg:∀ j,j < j4 s→bt s j=45:=fun j hj=>by
  unfold j4 at hj
  split at hj
  ·rename_i h;have:j=0:=oM
   subst this;exact h.2
  ·omega
 unfold x9 G8
 by_cases hp:0≤Lib.indexByte s 47
 ·obtain ⟨p1,p2⟩:=f2z hp
  have p3:=(R6 s 47).1
  simp only [if_pos hp]
  obtain ⟨p,hpe⟩:∃ p,p=(Lib.indexByte s 47).toNat:=⟨_,rfl⟩
  rw [show (Lib.indexByte s 47+1).toNat=p+1 by omega]
  rw [← hpe] at p1 p2 ⊢
  have hpl:p < s.length:=oM
  have hip:j4 s≤p:=by
   by_cases h:p < j4 s
   ·have:=hsg p h;rw [p1] at this;simp at this
   ·omega
  have p1':bt s p=47:=p1
  have hkp:m7 s (j4 s)≤p:=by
   by_cases h:p < m7 s (j4 s)
   ·have:=Y7 s (j4 s) p hip h;omega
   ·omega
  rw [c6l hip oM,a68 oM hip (fun _=>by omega)]
  have hden:s.drop (p+1)=(s.take s.length).drop (p+1):=by rw [List.take_length]
  simp only [if_true]
  rw [hden,a68 (Nat.le_refl _) oM (fun h=>by omega)]
  unfold m6
  simp only []
  by_cases h1:m7 s (j4 s)=j4 s
  ·rw [if_pos h1]
   refine ⟨?_,fun h=>by cases h⟩
   rw [decide_eq_false oM];rfl
  ·rw [if_neg h1,if_neg oM]
   by_cases h2:m7 s (j4 s)=p
   ·rw [h2]
    by_cases h3:p+1=s.length
    ·rw [if_pos (.inr h3)]
     refine ⟨?_,fun h=>by cases h⟩
     rw [show decide (p+1 < s.length∧m7 s (p+1)=s.length)=false from decide_eq_false oM,Bool.and_false]
    ·rw [if_neg oM]
     have hsp:j4 s < p:=oM
     by_cases h4:m7 s (p+1)=s.length
     ·rw [if_pos h4]
      refine ⟨?_,fun _=>⟨by simp,by simp⟩⟩
      rw [decide_eq_true ⟨hsp,rfl⟩,decide_eq_true ⟨oM,h4⟩];rfl
     ·rw [if_neg h4]
      refine ⟨?_,fun h=>by cases h⟩
      rw [show decide (p+1 < s.length∧m7 s (p+1)=s.length)=false from decide_eq_false (fun h=>h4 h.2),Bool.and_false]
   ·rw [if_pos (.inl (p2 _ oM))]
    refine ⟨?_,fun h=>by cases h⟩
    rw [decide_eq_false (fun h=>h2 h.2)];rfl
 ·have p2:=d96 hp
  simp only [if_neg hp]
  rw [show D3 s [45]=(s.take s.length).drop (j4 s) by rw [List.take_length,U7],a68 (Nat.le_refl _) hs.1 (fun h=>by omega)]
  simp only [Bool.false_eq_true,if_false]
  rw [c9z,Bool.and_true]
  unfold m6
  simp only []
  by_cases h1:m7 s (j4 s)=j4 s
  ·rw [if_pos h1]
   refine ⟨decide_eq_false oM,fun h=>by cases h⟩
  ·rw [if_neg h1]
   by_cases h2:m7 s (j4 s)=s.length
   ·rw [if_pos h2]
    exact ⟨decide_eq_true ⟨oM,h2⟩,fun _=>⟨rfl,rfl⟩⟩
   ·rw [if_neg h2,if_pos (.inl (p2 _ oM))]
    exact ⟨decide_eq_false (fun h=>h2 h.2),fun h=>by cases h⟩
theorem d3p:q8 1 47=[47]:=dE
theorem d5v:l6 164 (sp1 fun s=>.ret (.t [.c (.s (x9 s).1),.c (.s (x9 s).2),.c (.b (m6 s).2.2)])):=o7 (fun fn h=>e17 h) [(182,_),(184,_),(183,_)] (.cons f6d (.cons a0b (.cons e2l .nil))) fun U fn hfn ⟨s,hs⟩ vs bs hv hb=>by
 have hc:=hfn 182 _ rfl
 have ht:=hfn 184 _ rfl
 have hi:=hfn 183 _ rfl
 have hv:l8 [.c (.s s)] vs:=hv
 have hb:RBs [] bs:=hb
 have hs:s.length < 90000:=hs
 show j3 U _ fun v bs'=>l7 (.ret (.t [.c (.s (x9 s).1),.c (.s (x9 s).2),.c (.b (m6 s).2.2)])) v∧RBs [] bs'
 unfold d4t
 obtain ⟨n1,n2⟩:=b6d s
 have hl:(x9 s).1.length≤s.length∧((x9 s).2.length≤s.length∨(x9 s).2.length≤1):=by
  unfold x9 G8
  split <;> simp [S5] <;> omega
 have hcp:(D3 (x9 s).1 [45]).length≤(x9 s).1.length:=by unfold D3;split <;> simp
 rw [← n1]
 (refine Zq ?_;intros)
 refine i6 hc ⟨(s,q8 1 47),⟨hs,47,d3p⟩⟩ (r:=.t [.c (.s (G8 s 47).1),.c (.s (G8 s 47).2.1),.c (.b (G8 s 47).2.2)]) (by show t7.ret (.t [.c (.s (G8 s ((q8 1 47).headD 0)).1),.c (.s (G8 s ((q8 1 47).headD 0)).2.1),.c (.b (G8 s ((q8 1 47).headD 0)).2.2)])=_;rw [d3p];rfl) j7 .nil fun _ _ _ _=>?_
 (refine Zy ?_;intros)
 refine C9 (fun vs bs=>l8 [.c (.s (x9 s).1),.c (.s (x9 s).2)] vs∧RBs [] bs) ?_ ?_
 ·rintro vs' bs' ⟨hv',hb'⟩
  (refine Zq ?_;intros)
  refine i6 ht ⟨((x9 s).1,q8 1 45),trivial⟩ (r:=.c (.s (D3 (x9 s).1 [45]))) (by show t7.ret (.c (.s (D3 _ (q8 1 45))))=_;rw [b6t]) j7 .nil fun _ _ _ _=>?_
  (refine Zq ?_;intros)
  refine i6 hi ⟨D3 (x9 s).1 [45],oM⟩ (r:=.c (.b (E9 (D3 (x9 s).1 [45])))) rfl j7 .nil fun _ _ _ _=>?_
  (refine Zq ?_;with_reducible repeat' first|intro _|apply aI)
  ·have h1:E9 (D3 (x9 s).1 [45])=true:=‹_›
   rw [h1,Bool.true_and]
   refine i6 hi ⟨(x9 s).2,oM⟩ (r:=.c (.b (E9 (x9 s).2))) rfl j7 .nil fun _ _ _ _=>?_
   (refine Zq ?_;intros)
   exact k9 ⟨.ret _ _ j7,.nil⟩
  ·have h1:E9 (D3 (x9 s).1 [45])=false:=by simpa using ‹¬E9 (D3 (x9 s).1 [45])=true›
   rw [h1,Bool.false_and]
   exact k9 ⟨.ret _ _ j7,.nil⟩
 ·intro c hc
  have e1:(x9 s).1=(G8 s 47).1:=rfl
  have e2:(x9 s).2=if (G8 s 47).2.2 then (G8 s 47).2.1 else S5:=rfl
  (refine Zq ?_;with_reducible repeat' first|intro _|apply aI)
  ·refine hc _ _ ⟨?_,.nil⟩
   rw [e1,e2,if_pos ‹_›]
   exact j7
  ·refine hc _ _ ⟨?_,.nil⟩
   rw [e1,e2,if_neg ‹_›]
   exact j7
theorem d3u (s:j0) (a:Nat):Lib.trimLeftS (s.drop a) [48]=s.drop (A0 s a):=by
 fun_induction A0 s a with
 | case1 a h1 h2 ih =>
  rw [← ih,List.drop_eq_getElem_cons h1]
  have:s[a]=48:=UInt8.toNat_inj.1 (by have e:bt s a=s[a].toNat:=by unfold bt;simp [List.getD,List.getElem?_eq_getElem h1]
                                      rw [e] at h2;show s[a].toNat=48;omega)
  unfold Lib.trimLeftS
  rw [List.dropWhile_cons_of_pos (by rw [this];decide)]
 | case2 a h1 h2 =>
  rw [List.drop_eq_getElem_cons h1]
  unfold Lib.trimLeftS
  rw [List.dropWhile_cons_of_neg]
  simp only [List.contains_cons,List.contains_nil,Bool.or_false,beq_iff_eq]
  intro e
  refine h2 ?_
  unfold bt;simp [List.getD,List.getElem?_eq_getElem h1,e]
 | case3 a h1=>rw [List.drop_eq_nil_of_le oM];rfl
theorem e4p:l6 166 (sp1 fun s=>.ret (.c (.s (plain s)))):=o7 (fun fn h=>e1m h) [(184,_),(192,_)] (.cons a0b (.cons c83 .nil)) fun U fn hfn ⟨s,hs⟩ vs bs hv hb=>by
 have ht:=hfn 184 _ rfl
 have hl:=hfn 192 _ rfl
 have hv:l8 [.c (.s s)] vs:=hv
 have hb:RBs [] bs:=hb
 have hs:s.length < 90000:=hs
 show j3 U _ fun v bs'=>l7 (.ret (.c (.s (plain s)))) v∧RBs [] bs'
 unfold d51
 (refine Zq ?_;intros)
 refine i6 ht ⟨(s,q8 1 45),trivial⟩ (r:=.c (.s (s.drop (j4 s)))) (by show t7.ret (.c (.s (D3 s (q8 1 45))))=_;rw [b6t,U7]) j7 .nil fun _ _ _ _=>?_
 (refine Zq ?_;intros)
 refine i6 hl ⟨(s.drop (j4 s),q8 1 48),by show (s.drop (j4 s)).length < 4294967281;simp;omega,(by decide:(q8 1 48).length < 4294967281),(by decide:∀ b ∈ q8 1 48,b.toNat < 128)⟩ (r:=.c (.s (s.drop (A0 s (j4 s))))) (by show t7.ret (.c (.s (Lib.trimLeftS (s.drop (j4 s)) (q8 1 48))))=_;rw [← d3u];rfl) j7 .nil fun _ _ _ _=>?_
 have hsl:=K5 s
 have hz:=a9q s (j4 s) hsl.1
 have hbt:((s.getD 0 0).toNat:Int)=bt s 0:=rfl
 have e1:plain s=if A0 s (j4 s)=s.length then x6 else if j4 s=1 then [45] ++ s.drop (A0 s (j4 s)) else s.drop (A0 s (j4 s)):=by unfold plain;simp only [List.take_length]
 rw [e1]
 generalize A0 s (j4 s)=z at *
 have hdl:(s.drop z).length=s.length - z:=by simp
 have hpos:¬s.drop z=q8 0 0→0 < s.length:=fun h=>by
  rcases Nat.lt_or_ge 0 s.length with h2 | h2
  ·exact h2
  ·exact absurd (List.drop_eq_nil_of_le oM) h
 have hsg:j4 s=1↔(0 < s.length∧bt s 0=45):=by unfold j4;split <;> simp [*]
 (refine Zq ?_;with_reducible repeat' first|intro _|apply aI)
 ·have:z=s.length:=by
   have h:s.drop z=[]:=‹_›
   have:=List.drop_eq_nil_iff.1 h;omega
  rw [if_pos this]
  exact k9 ⟨.ret _ _ (.s _ _ _ rfl rfl),.nil⟩
 ·have h0:¬s.drop z=q8 0 0:=‹_›
  have hp:=hpos h0
  rw [if_neg (fun e=>h0 (List.drop_eq_nil_of_le oM))]
  (refine Zq ?_;with_reducible repeat' first|intro _|apply aI)
  ·rw [if_pos (hsg.2 ⟨hp,‹_›⟩)]
   refine d9r (x:=[45]) (y:=s.drop z) rfl rfl rfl ?_
   exact k9 ⟨.ret _ _ (.s _ _ _ (by simp;omega) rfl),.nil⟩
  ·rw [if_neg (fun e=>‹¬_› (hsg.1 e).2)]
   exact k9 ⟨.ret _ _ (.s _ _ _ rfl rfl),.nil⟩
end
end Go.Proofs.YtffaodopiifbkaaGreatDoor
