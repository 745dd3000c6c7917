/- The program's numbers: a text as limbs. -/
import Derived.Test.YtgipbdffgfbedaaGreatDoorCJ3
set_option linter.all false
namespace Go.Proofs.YtgipbdffgfbedaaGreatDoor
open Go.Abs LQ Go.RowKit Go.Lib Go.Sort
set_option maxRecDepth 100000
set_option maxHeartbeats 4000000
noncomputable section
theorem e3j (l:List UInt8):∀ acc:Nat,(∀ c ∈ l,48≤c.toNat∧c.toNat≤57)→acc * 10 ^ l.length+A5 l≤4294967295→Lib.parseUintM 4294967295 acc l=.ok (acc * 10 ^ l.length+A5 l):=by
 induction l with
 | nil=>intro acc _ _;simp [Lib.parseUintM,A5,u2]
 | cons c r ih =>
  intro acc hd h
  obtain ⟨h1,h2⟩:=hd c (by simp)
  have e:A5 (c :: r)=(c.toNat - 48) * 10 ^ r.length+A5 r:=by
   rw [b4x]
   have:(bt [c] 0 - 48).toNat=c.toNat - 48:=by show (((c.toNat:Nat):Int) - 48).toNat=_;omega
   rw [this]
  rw [e,List.length_cons,Nat.pow_succ] at h ⊢
  have hp:1≤10 ^ r.length:=Nat.one_le_pow _ _ dE
  have e2:(acc * 10+(c.toNat - 48)) * 10 ^ r.length+A5 r=acc * (10 ^ r.length * 10)+((c.toNat - 48) * 10 ^ r.length+A5 r):=by
   rw [Nat.add_mul,Nat.mul_assoc,Nat.mul_comm 10,Nat.add_assoc]
  have hb:acc * 10+(c.toNat - 48)≤(acc * 10+(c.toNat - 48)) * 10 ^ r.length:=Nat.le_mul_of_pos_right _ hp
  rw [Lib.parseUintM,if_pos ⟨h1,h2⟩,if_neg oM,if_neg oM,ih _ (fun d hd'=>hd d (by simp [hd'])) (by rw [e2];exact h),e2]
theorem d8p {s:f6} (h:∀ j,j < s.length→48≤bt s j∧bt s j≤57):∀ c ∈ s,48≤c.toNat∧c.toNat≤57:=fun c hc=>by
 obtain ⟨j,hj,rfl⟩:=List.getElem_of_mem hc
 have:=h j hj
 unfold bt at this
 simp only [List.getD,List.getElem?_eq_getElem hj,Option.getD_some] at this
 omega
theorem e3i {s:f6} (h0:0 < s.length) (h9:s.length≤9) (h:∀ j,j < s.length→48≤bt s j∧bt s j≤57):Lib.parseUintB 32 s=.ok (A5 s):=by
 have hl:=c2f s h
 have hp:(10:Nat) ^ s.length≤10 ^ 9:=Nat.pow_le_pow_right dE h9
 have:=e3j s 0 (d8p h) (by rw [Nat.zero_mul];omega)
 rw [Nat.zero_mul,Nat.zero_add] at this
 unfold Lib.parseUintB
 rw [if_neg (by intro e;subst e;simp at h0)]
 exact this
def f4u:Sp where
 ι:={ s:f6 // 0 < s.length∧s.length≤9∧∀ j,j < s.length→48≤bt s j∧bt s j≤57 }
 A s:=[.c (.s s.1),.c (.i .i64 10),.c (.i .i64 32)]
 B _:=[]
 R s:=.ret (.t [.c (.i .u64 ((A5 s.1:Nat):Int)),.nilI])
 B' _:=[]
 inj i j vs bs h k _ _:=by
  obtain ⟨_,_,h1,k1,h,k⟩:=h.two k
  rw [F5 h1 k1];exact ⟨rfl,rfl⟩
theorem kPU:j4 122 f4u:=fun ⟨s,h0,h9,hd⟩ vs bs hv hb=>by
 change j6 [.c (.s s),.c (.i .i64 10),.c (.i .i64 32)] vs at hv
 cases hb
 refine ⟨.ret (.tuple [.int .u64 ((A5 s:Nat):Int),.nilIface]),[],fun hok=>?_,.ret _ _ (.t _ _ (.k (.i _ _) (.k .nilI .nil))),.nil⟩
 have hx:vs.map toD=[D.str s,.int .i64 10,.int .i64 32]:=by
  cases hv with
  | cons _ _ v _ h1 h2=>cases h2 with
   | cons _ _ v2 _ h2 h3=>cases h3 with
    | cons _ _ v3 _ h3 h4 =>
     cases h4
     rw [List.map_cons,List.map_cons,List.map_cons,c0l h1,c9u h2,c9u h3];rfl
 rw [hx]
 refine K7 (d:=.tuple [.int .u64 ((A5 s:Nat):Int),.nilIface]) Tryz.call122 fun w S M us hg hwi hr=>?_
 have hus:us=[.string ⟨s.toArray⟩,.int .i64 10,.int .i64 32]:=by
  cases hr with
  | cons _ _ _ _ r1 r2=>cases r2 with
   | cons _ _ _ _ r2 r3=>cases r3 with
    | cons _ _ _ _ r3 r4 =>
     cases r4;cases r1;cases r2;cases r3
     rename_i sb hs
     rw [d2u hs]
 subst hus
 refine (Any.strconv_ParseUint_10_at32_ok Tryz.laysPu14 ⟨s.toArray⟩ (by simp [ByteArray.size];omega) (A5 s) (e3i h0 h9 hd) w).mono ?_
 rintro e w' ⟨rfl,hw⟩
 have hb:Below w.heap.size w w':=by
  rcases hw with rfl | rfl
  ·exact Below.refl _ _
  ·exact Lib.bytesWorld_below _ _ _
 refine ⟨hb,_,S,rfl,⟨fun _ _ h=>h,fun _ _ h=>.inl h⟩,S3 hwi hb,.tuple _ _ (.k (.int _ _) (.k .nilIface .nil)),⟨(fun _ _ _ h=>by cases h),fun vs ds hv hd i u e h1 h2=>?_⟩⟩
 injection hv with hv
 injection hd with hd
 subst hv hd
 intro len c z he
 subst he
 match i with
 | 0=>simp at h2
 | 1=>simp at h2
 | i+2=>simp at h2
section
variable {U:q7} {P:J0→List Bx→Prop}
theorem e86 {v:V} {K:Om} (hv:RV .nilI v) (h:g8 U K P):g8 U (U.uNilI v K) P:=fun e=>by
 have:=h e;subst e;cases hv;exact this
theorem d2i {a:Int} {K:Int→Om} (h:g8 U (K (if 0 < a then a else 0)) P):g8 U (U.fI (U.isel (U.iLt 0 a) a 0) K) P :=
 d2h a3a (fun k=>by rw [if_pos k] at h;exact h) (fun k=>by rw [if_neg k] at h;exact h)
end
def a08 (neg:Bool) (n:Nat):List G:=[.b neg,.l (u1 n)]
theorem c4q {D:f6} {m:Nat} (hm:m≤D.length) (h9:9≤m):A5 (D.take m)=A5 (D.take (m - 9)) * 10 ^ 9+A5 ((D.take m).drop (m - 9)):=by
 have e:D.take m=D.take (m - 9) ++ (D.take m).drop (m - 9):=by
  have:=(List.take_append_drop (m - 9) (D.take m)).symm
  rw [List.take_take,Nat.min_eq_left oM] at this;exact this
 conv=>lhs;rw [e]
 rw [b8i]
 have:((D.take m).drop (m - 9)).length=9:=by simp;omega
 rw [this]
theorem b7x {D:f6} (h:∀ j,j < D.length→48≤bt D j∧bt D j≤57) (k m:Nat) (hm:m≤D.length):∀ j,j < ((D.take m).drop k).length→48≤bt ((D.take m).drop k) j∧bt ((D.take m).drop k) j≤57:=fun j hj=>by
 simp at hj
 have e:bt ((D.take m).drop k) j=bt D (k+j):=by
  rw [a1v];unfold bt;simp [List.getD,List.getElem?_take,show k+j < m by omega]
 rw [e];exact h _ oM
theorem d1i (a:List Nat) (d:Nat):k7 (a ++ [d])=k7 a+B9 ^ a.length * d:=by rw [Q2,c8f]
theorem d1k {acc:List Nat} {d:Nat} {n:Int} (h:n=d):acc.map lg ++ [[.i .u32 n]]=(acc ++ [d]).map lg:=by subst h;simp [lg]
theorem d8c {a:List Nat} {d:Nat} (h:LQ.LB a) (hd:d < 1000000000):LQ.LB (a ++ [d]):=fun x hx=>by
 rcases List.mem_append.1 hx with hx | hx
 ·exact h x hx
 ·simp at hx;subst hx;exact hd
theorem c8x {D:f6} {acc:List Nat} {m k N:Nat} (hd:∀ j,j < D.length→48≤bt D j∧bt D j≤57) (hm:m≤D.length) (hk:k=m - 9) (he:k7 acc+B9 ^ acc.length * A5 (D.take m)=N) :
  A5 ((D.take m).drop k) < 1000000000∧k7 (acc ++ [A5 ((D.take m).drop k)])+B9 ^ (acc ++ [A5 ((D.take m).drop k)]).length * A5 (D.take k)=N:=by
 subst hk
 have hlt:=c2f _ (b7x hd (m - 9) m hm)
 have hl:((D.take m).drop (m - 9)).length≤9:=by simp;omega
 have h9:A5 ((D.take m).drop (m - 9)) < 1000000000:=Nat.lt_of_lt_of_le hlt (Nat.pow_le_pow_right dE hl)
 refine ⟨h9,?_⟩
 rw [d1i,← he,List.length_append,List.length_singleton,Nat.pow_succ]
 by_cases h:9≤m
 ·rw [c4q hm h]
  generalize A5 (D.take (m - 9))=a
  generalize A5 ((D.take m).drop (m - 9))=b
  rw [show (10:Nat) ^ 9=B9 from rfl,Nat.mul_add,Nat.mul_comm a B9,← Nat.mul_assoc]
  omega
 ·have e:m - 9=0:=oM
  rw [e,List.take_zero,List.drop_zero,show A5 ([]:f6)=0 by simp [A5,u2],Nat.mul_zero,Nat.add_zero]
theorem c8m (n:Nat):A5 (f7 n)=n:=by
 have hv:=D7 n
 have hok:=T7 n
 have hs:g9 (f7 n)=0:=by
  unfold g9;rw [if_neg];rintro ⟨h,h2⟩;have:=a0z n 0 h;omega
 unfold f8 at hv
 rw [if_pos hok,hs,if_neg dE] at hv
 unfold A5;omega
theorem e05 (s:f6):(f7 (f8 s).natAbs).length≤(J8 s).length∧(decide (((f7 (f8 s).natAbs).length:Int) < ((J8 s).length:Int))=decide (f8 s < 0)):=by
 rw [a0l]
 unfold g7
 split <;> simp <;> omega
theorem d08:j4 104 (sp1 fun s=>.ret (.a (a08 (decide (f8 s < 0)) (f8 s).natAbs))):=l9 (fun fn h=>d94 h) [(92,_),(91,_),(122,_),(123,_)] (.cons a4w (.cons Y7 (.cons kPU (.cons b4r .nil)))) fun U fn hfn ⟨s,hs⟩ vs bs hv hb=>by
 have hd:=hfn 92 _ rfl
 have ht:=hfn 91 _ rfl
 have hp:=hfn 122 _ rfl
 have hr:=hfn 123 _ rfl
 have hv:j6 [.c (.s s)] vs:=hv
 have hb:RBs [] bs:=hb
 have hs:s.length < 21600000:=hs
 show g8 U _ fun v bs'=>j7 (.ret (.a (a08 (decide (f8 s < 0)) (f8 s).natAbs))) v∧RBs [] bs'
 unfold e3p
 (refine Zq ?_;intros)
 refine f9 hd ⟨s,hs⟩ (r:=.c (.s (J8 s))) rfl j3 .nil fun _ _ _ _=>?_
 have hl:=a74 s
 have h7:=e05 s
 (refine Zq ?_;intros)
 refine f9 ht ⟨(J8 s,n5 1 45),trivial⟩ (r:=.c (.s (f7 (f8 s).natAbs))) (by show o8.ret (.c (.s (C9 (J8 s) (n5 1 45))))=_;rw [b33,U2,c03]) j3 .nil fun _ _ _ _=>?_
 (refine Zq ?_;intros)
 generalize hD:f7 (f8 s).natAbs=D at *
 have hdig:∀ j,j < D.length→48≤bt D j∧bt D j≤57:=by rw [← hD];exact a0z _
 have hval:A5 D=(f8 s).natAbs:=by rw [← hD,c8m]
 refine F3 (fun (p:Nat × List Nat) vs bs=>∃ (m:Nat) (acc:List Nat) (v bx:V) (ng:Bool) (v4:V),p=(m,acc)∧vs=[.ptr 0 0,.str (D.take m).length (j9 (D.take m)),.ptr 1 0,v4]∧bs=[.cells [bx,.slice .nil 0 0 0 .exact],.cells [.bool ng,v],.tok acc.length 1]∧(U=CU→ng=decide (f8 s < 0))∧a0w 2 1 (acc.map lg) v∧m≤D.length∧LQ.LB acc∧(9 * acc.length+m=D.length∨m=0∧9 * acc.length≤D.length+8)∧k7 acc+B9 ^ acc.length * A5 (D.take m)=(f8 s).natAbs∧RV (.c (.b false)) bx) (fun p=>p.1) (D.length,[]) ?_ (by simp only [y8];omega) ?_
 ·refine ⟨D.length,[],_,_,_,_,rfl,by simp only [List.take_length];rfl,rfl,fun e=>by subst e;rw [b2x];exact h7.2,.b rfl,Nat.le_refl _,fun d h=>(by cases h),by simp,by rw [← hval];simp [k7],.kn _⟩
 rintro self _ _ _ ⟨m,acc,v,bx,ng,v4,rfl,rfl,rfl,hng,htok,hm,hLB,hlen,he,hbx⟩ ih
 have hml:(D.take m).length=m:=by simp;omega
 (refine Zq ?_;with_reducible repeat' first|intro _|apply aI)
 ·refine d2i ?_
  obtain ⟨k,hk,hk2⟩:∃ k:Nat,k=m - 9∧(if 0 < ((D.take m).length:Int) - 9 then ((D.take m).length:Int) - 9 else 0)=(k:Int):=⟨m - 9,rfl,by split <;> omega⟩
  rw [hk2]
  have hkm:k≤m:=oM
  have hm0:0 < m:=oM
  (refine Zq ?_;intros)
  obtain ⟨s1,s2⟩:=c8x hdig hm hk he
  have hcl:((D.take m).drop k).length=m - k:=by simp;omega
  refine f9 hp ⟨(D.take m).drop k,oM,oM,b7x hdig k m hm⟩ (r:=.t [.c (.i .u64 ((A5 ((D.take m).drop k):Nat):Int)),.nilI]) rfl j3 .nil fun _ _ _ _=>?_
  (refine Zq ?_;intros)
  refine e86 aS ?_
  (refine Zq ?_;intros)
  refine a3s (m:=((A5 ((D.take m).drop k):Nat):Int)) rfl oM ?_
  (refine Zq ?_;intros)
  refine T4 aS (fun _=>E7 (by first | exact .i _ _ | exact .s _ _ _ rfl rfl | assumption)) (by rfl) (by simp) (by simp only [List.length_map];omega) fun _ _=>?_
  (refine Zq ?_;intros)
  have e1:List.drop (Int.toNat 0) (List.take ((k:Int)).toNat (D.take m))=D.take k:=by
   rw [Int.toNat_natCast,List.take_take,Nat.min_eq_left hkm];rfl
  rw [e1]
  refine ih (k,acc ++ [A5 ((D.take m).drop k)]) _ _ ?_ (by show k < m;omega)
  refine ⟨k,_,_,_,_,_,rfl,rfl,by rw [List.length_append];rfl,hng,.a _ _ (by simp) ?_,oM,d8c hLB s1,by rw [List.length_append,List.length_singleton];omega,s2,.b _⟩
  rw [← d1k (n:=((A5 ((D.take m).drop k):Nat):Int)) rfl]
  assumption
 ·have hm0:m=0:=oM
  subst hm0
  have e0:k7 acc=(f8 s).natAbs:=by
   rw [List.take_zero,show A5 ([]:f6)=0 by simp [A5,u2],Nat.mul_zero,Nat.add_zero] at he;exact he
  refine f9 hr ⟨acc,oM⟩ (r:=.sl 1 (u1 (f8 s).natAbs)) (by show o8.ret (.sl 1 ((D6 acc).map lg))=_;rw [a0r acc hLB,e0];rfl) j3 .nil fun _ _ _ _=>?_
  (refine Zq ?_;intros)
  exact D5 fun e=>by
   rw [hng e]
   exact ⟨.ret _ _ (.ag _ _ (.k (.b _) (.k (.cl _ _ _ _ _ (by simp [u1]) aS) .nil))),.nil⟩
end
end Go.Proofs.YtgipbdffgfbedaaGreatDoor
namespace Go.Proofs.YtgipbdffgfbedaaGreatDoor
open Go.Abs LQ
set_option maxRecDepth 100000
set_option maxHeartbeats 4000000
noncomputable section
section
variable {U:q7} {P:J0→List Bx→Prop}
theorem sQR {g:G} {v:V} {K:Q→Om} (hv:RV (.c g) v) (h:∀ x,RG g x→g8 U (K x) P):g8 U (U.uQ v K) P:=fun e=>by
 have h2:∃ x,CU.uQ v K=K x∧RG g x:=by
  cases hv with
  | b x=>exact ⟨_,rfl,.b x⟩
  | kn x=>exact ⟨_,rfl,.b x⟩
  | i k n=>exact ⟨_,rfl,.i k n⟩
  | s x l c h1 h2=>exact ⟨_,rfl,.s x l c h1 h2⟩
  | cl xs t n off len h1 h2=>exact ⟨_,rfl,.l xs t n off len h1 h2⟩
  | q _ x h=>exact ⟨_,rfl,h⟩
 obtain ⟨x,h3,h4⟩:=h2
 have:=h x h4 e
 subst e
 rw [h3];exact this
theorem d70 {x y:List UInt8} {l c1 c2:Nat} {K:Nat→Om} (h1:l=x.length) (e1:c1=j9 x) (e2:c2=j9 y) (k:g8 U (K (j9 (x ++ y))) P):g8 U (U.fN (U.sCat l c1 c2) K) P:=fun e=>by
 subst h1 e1 e2
 have:=k e
 subst e
 rw [a5x]
 show ∃ v bs,K (sCat x.length (j9 x) (j9 y))=some (v,bs)∧P v bs
 rw [b8y];exact this
end
theorem d4c {a b:Bool} {m n:Nat} (h:a08 a m=a08 b n):a=b∧m=n:=by
 simp only [a08,List.cons.injEq,G.b.injEq,G.l.injEq,and_true] at h
 exact ⟨h.1,a64 h.2⟩
def a1g:Sp where
 ι:={ p:Bool × Nat // (k9 p.2).length < 4800000 }
 A p:=[.a (a08 p.1.1 p.1.2)]
 B _:=[]
 R p:=.ret (.c (.s (K0 p.1.1 p.1.2)))
 B' _:=[]
 inj i j vs bs h k _ _:=by
  obtain ⟨_,_,h1,k1,h,k⟩:=h.two k
  obtain ⟨e1,e2⟩:=d4c (h1.a_inj k1)
  rw [e1,e2];exact ⟨rfl,rfl⟩
theorem b6x (n:Nat):∀ r ∈ u1 n,r.length=1:=fun r hr=>by obtain ⟨_,_,rfl⟩:=List.mem_map.1 hr;rfl
theorem c88 {n:Nat} {x:Q} (h:RG (.l (u1 n)) x):RV (.sl 1 (u1 n)) (.q x):=.slq _ _ _ h (b6x n)
theorem a6f (n:Nat):(k9 n).length≤(i6 n).length:=by
 refine a68 ?_
 have h:=a1m (i6 n) (C4 n)
 rw [B4] at h
 exact Nat.lt_of_lt_of_le h (Nat.pow_le_pow_left dE _)
theorem e03 (n:Nat):K0 false n=f7 n:=b0t n
theorem e8p (hst:j4 106 a1g):j4 94 (sp2 fun a b=>.ret (.c (.s (f7 (Nat.gcd (f8 a).natAbs (f8 b).natAbs))))):=l9 (fun fn h=>e6b h) [(104,_),(105,_),(106,_)] (.cons d08 (.cons c1u (.cons hst .nil))) fun U fn hfn ⟨(a,b),ha,hbl⟩ vs bs hv hb=>by
 have hp:=hfn 104 _ rfl
 have hd:=hfn 105 _ rfl
 have hs:=hfn 106 _ rfl
 have ha:a.length < 2160000:=ha
 have hbl:b.length < 2160000:=hbl
 have hv:j6 [.c (.s a),.c (.s b)] vs:=hv
 have hb:RBs [] bs:=hb
 show g8 U _ fun v bs'=>j7 (.ret (.c (.s (f7 (Nat.gcd (f8 a).natAbs (f8 b).natAbs))))) v∧RBs [] bs'
 have la:=a0a a
 have lb:=a0a b
 unfold r94
 (refine Zq ?_;intros)
 refine f9 hp ⟨a,by show a.length < 21600000;omega⟩ (r:=.a (a08 (decide (f8 a < 0)) (f8 a).natAbs)) rfl j3 .nil fun _ _ hv1 _=>?_
 have hv1:RV (.a [.b _,.l (u1 _)]) _:=hv1
 (refine Zq ?_;intros)
 refine f9 hp ⟨b,by show b.length < 21600000;omega⟩ (r:=.a (a08 (decide (f8 b < 0)) (f8 b).natAbs)) rfl j3 .nil fun _ _ hv2 _=>?_
 have hv2:RV (.a [.b _,.l (u1 _)]) _:=hv2
 generalize (f8 a).natAbs=x at *
 generalize (f8 b).natAbs=y at *
 (refine Zq ?_;intros)
 refine F3 (fun (p:Nat × Nat) vs bs=>∃ (m n:Nat) (v1 v2:V),p=(m,n)∧vs=[v1,v2]∧bs=[]∧RV (.c (.l (u1 m))) v1∧RV (.c (.l (u1 n))) v2∧Nat.gcd m n=Nat.gcd x y∧(i6 m).length < 2160000∧(i6 n).length < 2160000) (fun p=>mu p.1 p.2) (x,y) ⟨x,y,_,_,rfl,rfl,rfl,.q _ _ aS,.q _ _ aS,rfl,oM,oM⟩ (show mu x y < y8 from d7c oM oM) ?_
 rintro self _ _ _ ⟨m,n,v1,v2,rfl,rfl,rfl,h1,h2,hg,hm,hn⟩ ih
 have lm:=a6f m
 have ln:=a6f n
 (refine Zq ?_;intros)
 refine sQR h1 fun x1 g1=>?_
 (refine Zq ?_;intros)
 refine sQR h2 fun x2 g2=>?_
 (refine Zq ?_;intros)
 refine b0m g2 (b6x n) fun t off ht=>?_
 (refine Zq ?_;with_reducible repeat' first|intro _|apply aI)
 ·have hn0:n ≠ 0:=by rintro rfl;simp [u1,F7] at *
  refine f9 hd ⟨(m,n),by show (k9 m).length < 4800000;omega,by show (k9 n).length < 4800000;omega,hn0,by show (k9 m).length < 2160000;omega,by show (k9 n).length < 2160000;omega⟩ (r:=.t [.sl 1 (u1 (m / n)),.sl 1 (u1 (m % n))]) rfl (.k (c88 g1) (.k (c88 g2) .nil)) .nil fun _ _ _ _=>?_
  (refine Zq ?_;intros)
  refine ih (n,m % n) _ _ ⟨n,m % n,_,_,rfl,rfl,rfl,.q _ _ g2,.cl _ _ _ _ _ (by simp [u1]) aS,?_,hn,Nat.lt_of_le_of_lt (N5 (Nat.le_of_lt (Nat.mod_lt m (Nat.pos_of_ne_zero hn0)))) hn⟩ (c6m (Nat.pos_of_ne_zero hn0))
  rw [← hg,Nat.gcd_comm n (m % n),← Nat.gcd_rec n m,Nat.gcd_comm]
 ·have hn0:n=0:=by
   have:(u1 n).length=0:=oM
   simp only [u1,List.length_map,List.length_eq_zero_iff] at this
   exact b6z (this.trans F7.symm)
  subst hn0
  rw [Nat.gcd_zero_right] at hg
  subst hg
  refine f9 hs ⟨(false,Nat.gcd x y),by show (k9 (Nat.gcd x y)).length < 4800000;omega⟩ (r:=.c (.s (f7 (Nat.gcd x y)))) (by show o8.ret (.c (.s (K0 false _)))=_;rw [e03]) (.k (.ag _ _ (.k (.kn _) (.k (.q _ _ g1) .nil))) .nil) .nil fun _ _ _ _=>?_
  (refine Zq ?_;intros)
  exact i7 ⟨.ret _ _ (.s _ _ _ rfl rfl),.nil⟩
theorem b2j (n:Int):0 < (g7 n).length:=by
 have:=Z0 n.natAbs
 unfold g7;split <;> simp <;> omega
theorem a3t (n:Int):bt (g7 n) 0=45↔n < 0:=by
 unfold g7
 split
 ·rename_i h;exact ⟨fun _=>h,fun _=>rfl⟩
 ·rename_i h
  have:=a0z n.natAbs 0 (Z0 _)
  exact ⟨fun k=>by omega,fun k=>absurd k h⟩
theorem b85:g7 1=n5 1 49:=by
 show g7 ((1:Nat):Int)=_
 rw [a2f,a2h];decide
theorem b2i (n:Int):g7 n=n5 1 49↔n=1:=⟨fun h=>Y8 (h.trans b85.symm),fun h=>by subst h;exact b85⟩
theorem a1d (n:Int):g7 n=n5 1 48↔n=0:=⟨fun h=>Y8 (h.trans dE),fun h=>by subst h;decide⟩
theorem d4l:j4 93 (sp1 fun s=>.ret (.c (.s (d41 s)))):=l9 (fun fn h=>e6a h) [(92,_)] (.cons a4w .nil) fun U fn hfn ⟨s,hs⟩ vs bs hv hb=>by
 have hd:=hfn 92 _ rfl
 have hv:j6 [.c (.s s)] vs:=hv
 have hb:RBs [] bs:=hb
 have hs:s.length < 21600000:=hs
 show g8 U _ fun v bs'=>j7 (.ret (.c (.s (d41 s)))) v∧RBs [] bs'
 unfold r93
 (refine Zq ?_;intros)
 have hl:=a74 s
 refine f9 hd ⟨s,hs⟩ (r:=.c (.s (J8 s))) rfl j3 .nil fun _ _ _ _=>?_
 rw [a0l] at *
 unfold d41
 generalize f8 s=n at *
 have h0:=b2j n
 have hbt:(((g7 n).getD 0 0).toNat:Int)=bt (g7 n) 0:=rfl
 (refine Zq ?_;with_reducible repeat' first|intro _|apply aI)
 ·have e:n=0:=(a1d n).1 ‹_›
  subst e
  exact i7 ⟨.ret _ _ (.s _ _ _ rfl rfl),.nil⟩
 ·have e:n < 0:=(a3t n).1 ‹_›
  have e2:g7 (-n)=(g7 n).drop (Int.toNat 1):=by
   unfold g7
   rw [if_pos e,if_neg oM,Int.natAbs_neg];rfl
  rw [e2]
  exact i7 ⟨.ret _ _ (.s _ _ _ rfl rfl),.nil⟩
 ·have e:¬n < 0:=fun k=>‹¬(((g7 n).getD (Int.toNat 0) 0).toNat:Int)=45› ((a3t n).2 k)
  have e0:n ≠ 0:=fun k=>‹¬g7 n=n5 1 48› ((a1d n).2 k)
  have e2:g7 (-n)=[45] ++ g7 n:=by
   unfold g7
   rw [if_neg e,if_pos oM,Int.natAbs_neg]
  rw [e2]
  refine d70 (x:=[45]) (y:=g7 n) rfl rfl rfl ?_
  exact i7 ⟨.ret _ _ (.s _ _ _ (by simp;omega) rfl),.nil⟩
theorem d1f {s:f6} (h:s.length < 2160000):(k9 (f8 s).natAbs).length < 2160000:=by
 have:=a0a s
 have:=a6f (f8 s).natAbs
 omega
theorem e04 {a b:Int} (hb:0 < b) (hd:b ∣ a):K0 (decide (a < 0) != decide (b < 0)) (a.natAbs / b.natAbs)=g7 (a / b):=by
 obtain ⟨q,rfl⟩:=hd
 have h1:¬b < 0:=oM
 have hb':0 < b.natAbs:=oM
 rw [Int.mul_ediv_cancel_left _ oM,Int.natAbs_mul,Nat.mul_div_cancel_left _ hb',← e02 q]
 have:decide (b * q < 0)=decide (q < 0):=by
  rw [Bool.eq_iff_iff,decide_eq_true_iff,decide_eq_true_iff]
  constructor
  ·intro h
   by_cases hq:q < 0
   ·exact hq
   ·have:=Int.mul_nonneg (show 0≤b by omega) (show 0≤q by omega);omega
  ·intro h;exact Int.mul_neg_of_pos_of_neg hb h
 rw [this,decide_eq_false h1,Bool.bne_false]
theorem d4x {a b:Int} (hd:b ∣ a):a.natAbs % b.natAbs=0:=Nat.mod_eq_zero_of_dvd (Int.natAbs_dvd_natAbs.2 hd)
def e9d:Sp where
 ι:={ p:f6 × f6 // p.1.length < 2160000∧p.2.length < 2160000∧0 < f8 p.2∧f8 p.2 ∣ f8 p.1 }
 A p:=[.c (.s p.1.1),.c (.s p.1.2)]
 B _:=[]
 R p:=.ret (.t [.c (.s (g7 (f8 p.1.1 / f8 p.1.2))),.c (.s w9)])
 B' _:=[]
 inj i j vs bs h k _ _:=by
  obtain ⟨_,_,h1,k1,h,k⟩:=h.two k
  obtain ⟨_,_,h2,k2,h,k⟩:=h.two k
  rw [F5 h1 k1,F5 h2 k2];exact ⟨rfl,rfl⟩
theorem d4g (hst:j4 106 a1g):j4 95 e9d:=l9 (fun fn h=>e6c h) [(104,_),(92,_),(105,_),(106,_)] (.cons d08 (.cons a4w (.cons c1u (.cons hst .nil)))) fun U fn hfn ⟨(a,b),ha,hbl,hb0,hba⟩ vs bs hv hb=>by
 have hp:=hfn 104 _ rfl
 have hd:=hfn 105 _ rfl
 have hs:=hfn 106 _ rfl
 have ha:a.length < 2160000:=ha
 have hbl:b.length < 2160000:=hbl
 have hb0:0 < f8 b:=hb0
 have hba:f8 b ∣ f8 a:=hba
 have hv:j6 [.c (.s a),.c (.s b)] vs:=hv
 have hb:RBs [] bs:=hb
 show g8 U _ fun v bs'=>j7 (.ret (.t [.c (.s (g7 (f8 a / f8 b))),.c (.s w9)])) v∧RBs [] bs'
 have la:=d1f ha
 have lb:=d1f hbl
 have e1:=e04 hb0 hba
 have e2:=d4x hba
 have hx0:(f8 b).natAbs ≠ 0:=oM
 have hq:(k9 ((f8 a).natAbs / (f8 b).natAbs)).length≤(k9 (f8 a).natAbs).length:=a8f (Nat.div_le_self _ _)
 unfold r95
 (refine Zq ?_;intros)
 refine f9 hp ⟨a,by show a.length < 21600000;omega⟩ (r:=.a (a08 (decide (f8 a < 0)) (f8 a).natAbs)) rfl j3 .nil fun _ _ hv1 _=>?_
 have hv1:RV (.a [.b _,.l (u1 _)]) _:=hv1
 (refine Zq ?_;intros)
 refine f9 hp ⟨b,by show b.length < 21600000;omega⟩ (r:=.a (a08 (decide (f8 b < 0)) (f8 b).natAbs)) rfl j3 .nil fun _ _ hv2 _=>?_
 have hv2:RV (.a [.b _,.l (u1 _)]) _:=hv2
 generalize (f8 a).natAbs=x at *
 generalize (f8 b).natAbs=y at *
 have hly:(u1 y).length ≠ 0:=by
  intro e
  simp only [u1,List.length_map,List.length_eq_zero_iff] at e
  exact hx0 (b6z (e.trans F7.symm))
 (refine Zq ?_;intros)
 refine b0m aS (b6x y) fun t off ht=>?_
 (refine Zq ?_;with_reducible repeat' first|intro _|apply aI)
 ·exact absurd oM hly
 ·refine f9 hd ⟨(x,y),by show (k9 x).length < 4800000;omega,by show (k9 y).length < 4800000;omega,hx0,la,lb⟩ (r:=.t [.sl 1 (u1 (x / y)),.sl 1 (u1 0)]) (by show o8.ret (.t [.sl 1 (u1 (x / y)),.sl 1 (u1 (x % y))])=_;rw [e2]) (.k (c88 aS) (.k (c88 aS) .nil)) .nil fun _ _ _ _=>?_
  (refine Zq ?_;with_reducible repeat' first|intro _|apply aI)
  all_goals
   refine b0l (gs:=a08 (decide (f8 a < 0) != decide (f8 b < 0)) (x / y)) (.cells _ _ (.k (.b _) (.k (.cl _ _ _ _ _ (by simp [u1]) aS) .nil))) rfl fun _ hc1=>?_
   (refine Zq ?_;intros)
   refine b0l (gs:=a08 (decide (f8 b < 0)) 0) (.cells _ _ (.k (.q _ _ aS) (.k (.cl _ _ _ _ _ (by simp [u1]) aS) .nil))) rfl fun _ hc2=>?_
   (refine Zq ?_;with_reducible repeat' first|intro _|apply aI)
   all_goals first
   | exact absurd ‹0 < (((k9 0).length:Nat):Int)› (by simp [F7])
   | refine f9 hs ⟨(_,x / y),by show (k9 (x / y)).length < 4800000;omega⟩ (r:=.c (.s (g7 (f8 a / f8 b)))) (by show o8.ret (.c (.s (K0 (decide (f8 a < 0) != decide (f8 b < 0)) (x / y))))=_;rw [e1]) (.cons _ _ _ _ (.a _ _ _ rfl aS) .nil) .nil fun _ _ _ _=>?_
     (refine Zq ?_;intros)
     refine f9 hs ⟨(decide (f8 b < 0),0),by show (k9 0).length < 4800000;simp [F7]⟩ (r:=.c (.s w9)) rfl (.k (.a _ _ _ rfl aS) .nil) .nil fun _ _ _ _=>?_
     (refine Zq ?_;intros)
     exact i7 ⟨.ret _ _ j3,.nil⟩
theorem c04 (s:f6):f8 (J8 s)=f8 s:=by rw [a0l,x7]
theorem c43 {a b a' b':f6} (h1:f8 a=f8 a') (h2:f8 b=f8 b'):m7 a b=m7 a' b':=by unfold m7;rw [h1,h2]
def e67 (R:f6→f6→o8):Sp where
 ι:={ p:f6 × f6 // p.1.length < 1920000∧p.2.length < 1920000 }
 A p:=[.c (.s p.1.1),.c (.s p.1.2)]
 B _:=[]
 R p:=R p.1.1 p.1.2
 B' _:=[]
 inj i j vs bs h k _ _:=by
  obtain ⟨_,_,h1,k1,h,k⟩:=h.two k
  obtain ⟨_,_,h2,k2,h,k⟩:=h.two k
  rw [F5 h1 k1,F5 h2 k2];exact ⟨rfl,rfl⟩
theorem c6n (n:Int):(g7 (-n)).length≤(g7 n).length+1:=by
 unfold g7
 rw [Int.natAbs_neg]
 split <;> split <;> simp <;> omega
theorem e83 (x:Int):m7 (g7 x) (g7 0)=(w9,R6):=by unfold m7;rw [x7,if_pos rfl]
theorem e84 (x:Int):m7 (g7 x) (g7 1)=(g7 x,g7 1):=by
 rw [a6j x 1 dE]
 simp
theorem e0u (x y:Int):m7 (g7 x) (g7 y)=m7 (g7 (-x)) (g7 (-y)):=by
 rw [a3p,a3p]
 simp only [x7]
 have:qn x y=qn (-x) (-y):=by
  unfold qn
  rw [Int.natAbs_neg,Int.natAbs_neg]
  by_cases hy:y=0
  ·rw [if_pos hy,if_pos oM]
  ·rw [if_neg hy,if_neg (show ¬-y=0 by omega)]
   by_cases hx:x=0
   ·subst hx;simp <;> (intro h;exact absurd h hy)
   ·have e:(if (x < 0)=(y < 0) then (1:Int) else -1)=if (-x < 0)=(-y < 0) then 1 else -1:=by
     by_cases h1:x < 0 <;> by_cases h2:y < 0 <;> simp [h1,h2] <;> omega
    rw [e]
 rw [this]
theorem e0t {m n:Int} (hn:0 < n) (h:Nat.gcd m.natAbs n.natAbs=1):m7 (g7 m) (g7 n)=(g7 m,g7 n):=by
 rw [a6j m n hn,h];simp
theorem c10 (hst:j4 106 a1g):j4 83 (e67 fun a b=>.ret (.t [.c (.s (m7 a b).1),.c (.s (m7 a b).2)])):=l9 (fun fn h=>e55 h) [(92,_),(93,_),(94,_),(95,_)] (.cons a4w (.cons d4l (.cons (e8p hst) (.cons (d4g hst) .nil)))) fun U fn hfn ⟨(a,b),ha,hbl⟩ vs bs hv hb=>by
 have hd:=hfn 92 _ rfl
 have hn:=hfn 93 _ rfl
 have hg:=hfn 94 _ rfl
 have hq:=hfn 95 _ rfl
 have ha:a.length < 1920000:=ha
 have hbl:b.length < 1920000:=hbl
 have hv:j6 [.c (.s a),.c (.s b)] vs:=hv
 have hb:RBs [] bs:=hb
 show g8 U _ fun v bs'=>j7 (.ret (.t [.c (.s (m7 a b).1),.c (.s (m7 a b).2)])) v∧RBs [] bs'
 unfold r83
 (refine Zq ?_;intros)
 refine f9 hd ⟨a,by show a.length < 21600000;omega⟩ (r:=.c (.s (J8 a))) rfl j3 .nil fun _ _ _ _=>?_
 (refine Zq ?_;intros)
 refine f9 hd ⟨b,by show b.length < 21600000;omega⟩ (r:=.c (.s (J8 b))) rfl j3 .nil fun _ _ _ _=>?_
 have la:(J8 a).length < 1920000:=by have:=a74 a;omega
 have lb:(J8 b).length < 1920000:=by have:=a74 b;omega
 rw [c43 (c04 a).symm (c04 b).symm]
 rw [a0l a,a0l b] at *
 generalize f8 a=x at *
 generalize f8 b=y at *
 have h0:=b2j y
 have hbt:(((g7 y).getD 0 0).toNat:Int)=bt (g7 y) 0:=rfl
 (refine Zy ?_;intros)
 refine Q4 (fun vs bs=>∃ m n:Int,j6 [.c (.s (g7 m)),.c (.s (g7 n))] vs∧RBs [] bs∧0 < n∧(g7 m).length < 2040000∧(g7 n).length < 2040000∧m7 (g7 x) (g7 y)=m7 (g7 m) (g7 n)) ?_ ?_
 ·rintro vs' bs' ⟨m,n,hv',hb',hn0,hml,hnl,he⟩
  rw [he]
  have hgv:o8.ret (.c (.s (f7 (Nat.gcd (f8 (g7 m)).natAbs (f8 (g7 n)).natAbs))))=.ret (.c (.s (f7 (Nat.gcd m.natAbs n.natAbs)))):=by rw [x7,x7]
  obtain ⟨g,hge⟩:∃ g,g=Nat.gcd m.natAbs n.natAbs:=⟨_,rfl⟩
  rw [← hge] at hgv
  have hg0:0 < g:=by rw [hge];exact Nat.gcd_pos_of_pos_right _ oM
  have hgd:(g:Int) ∣ m∧(g:Int) ∣ n:=by
   rw [hge];exact ⟨Int.ofNat_dvd_left.2 (Nat.gcd_dvd_left _ _),Int.ofNat_dvd_left.2 (Nat.gcd_dvd_right _ _)⟩
  have hdv:f8 (f7 g)=(g:Int):=D7 g
  have hgl:(f7 g).length < 2160000:=by
   have h1:=b2k g
   have h2:(i6 g).length≤(i6 n.natAbs).length:=N5 (by rw [hge];exact Nat.le_of_dvd oM (Nat.gcd_dvd_right _ _))
   have h3:=c1f n
   omega
  (refine Zq ?_;intros)
  refine f9 hg ⟨(g7 m,g7 n),by show (g7 m).length < 2160000;omega,by show (g7 n).length < 2160000;omega⟩ (r:=.c (.s (f7 g))) hgv j3 .nil fun _ _ _ _=>?_
  (refine Zq ?_;with_reducible repeat' first|intro _|apply aI)
  ·have e1:g=1:=by
    have:=(b2i (g:Int)).1 (by rw [a2f];assumption)
    omega
   rw [e0t hn0 (by rw [← hge];exact e1)]
   exact i7 ⟨.ret _ _ j3,.nil⟩
  ·rw [a6j m n hn0,← hge]
   refine f9 hq ⟨(g7 m,f7 g),by show (g7 m).length < 2160000;omega,hgl,by show 0 < f8 (f7 g);omega,by show f8 (f7 g) ∣ f8 (g7 m);rw [hdv,x7];exact hgd.1⟩ (r:=.t [.c (.s (g7 (m / g))),.c (.s w9)]) (by show o8.ret (.t [.c (.s (g7 (f8 (g7 m) / f8 (f7 g)))),.c (.s w9)])=_;rw [hdv,x7]) j3 .nil fun _ _ _ _=>?_
   (refine Zq ?_;intros)
   refine f9 hq ⟨(g7 n,f7 g),by show (g7 n).length < 2160000;omega,hgl,by show 0 < f8 (f7 g);omega,by show f8 (f7 g) ∣ f8 (g7 n);rw [hdv,x7];exact hgd.2⟩ (r:=.t [.c (.s (g7 (n / g))),.c (.s w9)]) (by show o8.ret (.t [.c (.s (g7 (f8 (g7 n) / f8 (f7 g)))),.c (.s w9)])=_;rw [hdv,x7]) j3 .nil fun _ _ _ _=>?_
   (refine Zq ?_;intros)
   exact i7 ⟨.ret _ _ j3,.nil⟩
 ·intro c hc
  (refine Zq ?_;with_reducible repeat' first|intro _|apply aI)
  ·have e:y=0:=(a1d y).1 ‹_›
   subst e
   rw [e83]
   exact i7 ⟨.ret _ _ j3,.nil⟩
  ·have e:y=1:=(b2i y).1 ‹_›
   subst e
   rw [e84]
   exact i7 ⟨.ret _ _ j3,.nil⟩
  ·have e:y < 0:=(a3t y).1 ‹_›
   refine f9 hn ⟨g7 x,by show (g7 x).length < 21600000;omega⟩ (r:=.c (.s (g7 (-x)))) (by show o8.ret (.c (.s (g7 (-f8 (g7 x)))))=_;rw [x7]) j3 .nil fun _ _ _ _=>?_
   (refine Zq ?_;intros)
   refine f9 hn ⟨g7 y,by show (g7 y).length < 21600000;omega⟩ (r:=.c (.s (g7 (-y)))) (by show o8.ret (.c (.s (g7 (-f8 (g7 y)))))=_;rw [x7]) j3 .nil fun _ _ _ _=>?_
   (refine Zq ?_;intros)
   have l1:=c6n x
   have l2:=c6n y
   exact hc _ _ ⟨-x,-y,by (exact j3),.nil,oM,oM,oM,e0u x y⟩
  ·have e:¬y < 0:=fun k=>‹¬(((g7 y).getD (Int.toNat 0) 0).toNat:Int)=45› ((a3t y).2 k)
   have e0:y ≠ 0:=fun k=>‹¬g7 y=n5 1 48› ((a1d y).2 k)
   exact hc _ _ ⟨x,y,by (exact j3),.nil,oM,oM,oM,rfl⟩
theorem b37 {p:UInt8→Bool}:∀ {l:f6},l.dropWhile p=[]↔∀ b ∈ l,p b=true
 | []=>by simp
 | c :: l=>by
  by_cases h:p c=true
  ·rw [List.dropWhile_cons_of_pos h,b37];simp [h]
  ·rw [List.dropWhile_cons_of_neg h];simp [h]
theorem c5v {p:UInt8→Bool} {c:UInt8} {r:f6}:∀ {l:f6},l.dropWhile p=c :: r→p c=false
 | [],h=>by simp at h
 | d :: l,h=>by
  by_cases hp:p d=true
  ·rw [List.dropWhile_cons_of_pos hp] at h;exact c5v h
  ·rw [List.dropWhile_cons_of_neg hp] at h
   injection h with h _;subst h;simpa using hp
theorem c3w {l cs:f6}:Lib.trimS l cs=[]↔∀ b ∈ l,cs.contains b=true:=by
 unfold Lib.trimS Lib.trimLeftS Lib.trimRightS
 constructor
 ·intro h
  have h1:=b37.1 h
  cases hd:l.reverse.dropWhile (cs.contains ·) with
  | nil=>intro b hb;exact b37.1 hd b (List.mem_reverse.2 hb)
  | cons c r =>
   rw [hd] at h1
   have h2:=h1 c (by simp)
   have h3:=c5v hd
   rw [h2] at h3;cases h3
 ·intro h
  have:l.reverse.dropWhile (cs.contains ·)=[]:=b37.2 fun b hb=>h b (List.mem_reverse.1 hb)
  rw [this];rfl
def ten:f6:=n5 10 270211885617516653982000
theorem c7c (b:UInt8):ten.contains b=P3 b.toNat:=by
 have key:∀ n:Fin 256,ten.contains (UInt8.ofNat n.1)=P3 n.1:=dE
 have:=key ⟨b.toNat,b.toNat_lt⟩
 simpa using this
def E8 (u:f6):Bool:=decide (u ≠ []∧j8 u 0=u.length)
theorem a78 {u:f6} {k:Nat} (hk:k≤u.length):j8 u k=u.length↔∀ j,k≤j→j < u.length→48≤bt u j∧bt u j≤57 :=
 ⟨fun h j h1 h2=>W9 u k j h1 oM,fun h=>P9 u k hk h⟩
theorem d0e (u:f6):decide (Lib.trimS u ten=[])=decide (j8 u 0=u.length):=by
 rw [Bool.eq_iff_iff,decide_eq_true_iff,decide_eq_true_iff,c3w,a78 (Nat.zero_le _)]
 constructor
 ·intro h j _ hj
  have:=h u[j] (List.getElem_mem hj)
  rw [c7c] at this
  have e:bt u j=u[j].toNat:=by unfold bt;simp [List.getD,List.getElem?_eq_getElem hj]
  rw [e];simpa [P3] using this
 ·intro h b hb
  obtain ⟨j,hj,rfl⟩:=List.getElem_of_mem hb
  rw [c7c]
  have e:bt u j=u[j].toNat:=by unfold bt;simp [List.getD,List.getElem?_eq_getElem hj]
  have:=h j (Nat.zero_le _) hj
  rw [e] at this;simpa [P3] using this
theorem d8z:j4 146 (sp1 fun s=>.ret (.c (.b (E8 s)))):=l9 (fun fn h=>e0q h) [(138,_)] (.cons d1c .nil) fun U fn hfn ⟨s,hs⟩ vs bs hv hb=>by
 have ht:=hfn 138 _ rfl
 have hv:j6 [.c (.s s)] vs:=hv
 have hb:RBs [] bs:=hb
 have hs:s.length < 21600000:=hs
 show g8 U _ fun v bs'=>j7 (.ret (.c (.b (E8 s)))) v∧RBs [] bs'
 unfold e4g
 (refine Zq ?_;with_reducible repeat' first|intro _|apply aI)
 ·have h0:s=n5 0 0:=‹_›
  have e:E8 s=false:=by unfold E8;rw [decide_eq_false];exact fun h=>h.1 h0
  rw [e]
  exact i7 ⟨.ret _ _ (.kn _),.nil⟩
 ·have h0:¬s=n5 0 0:=‹_›
  refine f9 ht ⟨(s,ten),by show s.length < 4294967281;omega,(by decide:ten.length < 4294967281),(by decide:∀ b ∈ ten,b.toNat < 128)⟩ (r:=.c (.s (Lib.trimS s ten))) rfl j3 .nil fun _ _ _ _=>?_
  (refine Zq ?_;intros)
  exact D5 fun e=>by
   subst e
   refine ⟨.ret _ _ (M5 ?_),.nil⟩
   rw [a9u]
   show E8 s=decide (Lib.trimS s ten=[])
   rw [d0e]
   unfold E8
   rw [Bool.eq_iff_iff,decide_eq_true_iff,decide_eq_true_iff]
   exact ⟨fun h=>h.2,fun h=>⟨h0,h⟩⟩
theorem e8l {s:f6} {c:UInt8} (h:0≤Lib.indexByte s c):bt s (Lib.indexByte s c).toNat=c.toNat∧∀ j,j < (Lib.indexByte s c).toNat→bt s j ≠ c.toNat:=by
 induction s with
 | nil=>simp [Lib.indexByte] at h
 | cons b r ih =>
  have ex:Lib.indexByte (b :: r) c=if b=c then 0 else if Lib.indexByte r c=-1 then -1 else Lib.indexByte r c+1:=by simp only [Lib.indexByte,beq_iff_eq]
  rw [ex] at h ⊢
  by_cases hb:b=c
  ·rw [if_pos hb];subst hb;exact ⟨rfl,fun j hj=>by simp at hj⟩
  ·rw [if_neg hb] at h ⊢
   by_cases h1:Lib.indexByte r c=-1
   ·rw [if_pos h1] at h;omega
   ·rw [if_neg h1] at h ⊢
    have hge:=(R5 r c).2
    obtain ⟨i1,i2⟩:=ih oM
    rw [show (Lib.indexByte r c+1).toNat=(Lib.indexByte r c).toNat+1 by omega]
    refine ⟨by rw [W7];exact i1,fun j hj=>?_⟩
    cases j with
    | zero=>exact fun e=>hb (UInt8.toNat_inj.1 (by have:bt (b :: r) 0=b.toNat:=rfl;omega))
    | succ j=>rw [W7];exact i2 j oM
theorem d8x {s:f6} {c:UInt8} (h:¬0≤Lib.indexByte s c):∀ j,j < s.length→bt s j ≠ c.toNat:=by
 induction s with
 | nil=>intro j hj;simp at hj
 | cons b r ih =>
  have ex:Lib.indexByte (b :: r) c=if b=c then 0 else if Lib.indexByte r c=-1 then -1 else Lib.indexByte r c+1:=by simp only [Lib.indexByte,beq_iff_eq]
  rw [ex] at h
  by_cases hb:b=c
  ·rw [if_pos hb] at h;omega
  ·rw [if_neg hb] at h
   have hge:=(R5 r c).2
   have h1:¬0≤Lib.indexByte r c:=by split at h <;> omega
   intro j hj
   cases j with
   | zero=>exact fun e=>hb (UInt8.toNat_inj.1 (by have:bt (b :: r) 0=b.toNat:=rfl;omega))
   | succ j=>rw [W7];exact ih h1 j (by simpa using hj)
theorem c4f (s:f6) (i:Nat):j8 s i < s.length→¬(48≤bt s (j8 s i)∧bt s (j8 s i)≤57):=by
 fun_induction j8 s i with
 | case1 i h1 h2 ih=>exact ih
 | case2 i h1 h2=>intro _ h;exact h2 (by simpa [P3] using h)
 | case3 i h1=>intro h;exact absurd h h1
def u4 (s:f6):f6 × f6:=((H0 s 47).1,if (H0 s 47).2.2 then (H0 s 47).2.1 else R6)
theorem d0s {s:f6} {i p:Nat} (hp:p≤s.length) (hi:i≤p) (hn:p < s.length→¬(48≤bt s p∧bt s p≤57)):(∀ j,i≤j→j < p→48≤bt s j∧bt s j≤57)↔j8 s i=p:=by
 constructor
 ·intro h
  have hA:At s i ((s.take p).drop i) (s.drop p):=by
   unfold At
   have:=(List.take_append_drop p s).symm
   conv=>lhs;rw [this]
   rw [List.drop_append_of_le_length (by simp;omega)]
  have hl:((s.take p).drop i).length=p - i:=by simp;omega
  rw [d0p hA (fun j hj=>by
   rw [hl] at hj
   have e:bt ((s.take p).drop i) j=bt s (i+j):=by rw [a1v];unfold bt;simp [List.getD,List.getElem?_take,show i+j < p by omega]
   rw [e];exact h _ oM oM) ?_,hl]
  ·omega
  ·by_cases h2:p < s.length
   ·right;rw [a1v];exact hn h2
   ·left;exact List.drop_eq_nil_of_le oM
 ·intro h j h1 h2;exact W9 s i j h1 oM
theorem a56 {s:f6} {i p:Nat} (hp:p≤s.length) (hi:i≤p) (hn:p < s.length→¬(48≤bt s p∧bt s p≤57)):E8 ((s.take p).drop i)=decide (i < p∧j8 s i=p):=by
 unfold E8
 have hl:((s.take p).drop i).length=p - i:=by simp;omega
 rw [Bool.eq_iff_iff,decide_eq_true_iff,decide_eq_true_iff,a78 (Nat.zero_le _),hl,← d0s hp hi hn]
 have hb:∀ j,j < p - i→bt ((s.take p).drop i) j=bt s (i+j):=fun j hj=>by
  rw [a1v];unfold bt;simp [List.getD,List.getElem?_take,show i+j < p by omega]
 constructor
 ·rintro ⟨h1,h2⟩
  refine ⟨?_,fun j h3 h4=>?_⟩
  ·have:=List.length_pos_iff.2 h1;omega
  ·have:=h2 (j - i) (Nat.zero_le _) oM
   rw [hb _ oM,show i+(j - i)=j by omega] at this;exact this
 ·rintro ⟨h1,h2⟩
  refine ⟨fun e=>by rw [e] at hl;simp at hl;omega,fun j _ hj=>?_⟩
  rw [hb j hj];exact h2 _ oM oM
theorem c4c {s:f6} {p:Nat} (hp:g9 s≤p) (hl:p≤s.length):C9 (s.take p) [45]=(s.take p).drop (g9 s):=by
 rw [U2]
 congr 1
 have hs:=N2 s
 unfold g9 at hp ⊢
 have hlen:(s.take p).length=p:=by simp;omega
 by_cases h:0 < s.length∧bt s 0=45
 ·rw [if_pos h] at hp ⊢
  rw [if_pos ⟨oM,by unfold bt at *;simp only [List.getD,List.getElem?_take];rw [if_pos oM];exact h.2⟩]
 ·rw [if_neg h]
  rw [if_neg]
  rintro ⟨h1,h2⟩
  refine h ⟨oM,?_⟩
  unfold bt at h2 ⊢
  simp only [List.getD,List.getElem?_take] at h2
  rw [if_pos oM] at h2;exact h2
theorem c7w:E8 R6=true:=by
 unfold E8
 refine decide_eq_true ⟨dE,P9 R6 0 dE ?_⟩
 intro j _ hj
 have e:j=0:=Nat.lt_one_iff.1 hj
 rw [e];decide
theorem b4y (s:f6):(E8 (C9 (u4 s).1 [45]) && E8 (u4 s).2)=(n6 s).2.2∧((n6 s).2.2=true→(n6 s).1=(u4 s).1∧(n6 s).2.1=(u4 s).2):=by
 have hs:=N2 s
 have hd:=d0q s (g9 s) hs.1
 have hstop:=c4f s (g9 s)
 have hsg:∀ j,j < g9 s→bt s j=45:=fun j hj=>by
  unfold g9 at hj
  split at hj
  ·rename_i h;have:j=0:=oM
   subst this;exact h.2
  ·omega
 unfold u4 H0
 by_cases hp:0≤Lib.indexByte s 47
 ·obtain ⟨p1,p2⟩:=e8l hp
  have p3:=(R5 s 47).1
  simp only [if_pos hp]
  obtain ⟨p,hpe⟩:∃ p,p=(Lib.indexByte s 47).toNat:=⟨_,rfl⟩
  rw [show (Lib.indexByte s 47+1).toNat=p+1 by omega]
  rw [← hpe] at p1 p2 ⊢
  have hpl:p < s.length:=oM
  have hip:g9 s≤p:=by
   by_cases h:p < g9 s
   ·have:=hsg p h;rw [p1] at this;simp at this
   ·omega
  have p1':bt s p=47:=p1
  have hkp:j8 s (g9 s)≤p:=by
   by_cases h:p < j8 s (g9 s)
   ·have:=W9 s (g9 s) p hip h;omega
   ·omega
  rw [c4c hip oM,a56 oM hip (fun _=>by omega)]
  have hden:s.drop (p+1)=(s.take s.length).drop (p+1):=by rw [List.take_length]
  simp only [if_true]
  rw [hden,a56 (Nat.le_refl _) oM (fun h=>by omega)]
  unfold n6
  simp only []
  by_cases h1:j8 s (g9 s)=g9 s
  ·rw [if_pos h1]
   refine ⟨?_,fun h=>by cases h⟩
   rw [decide_eq_false oM];rfl
  ·rw [if_neg h1,if_neg oM]
   by_cases h2:j8 s (g9 s)=p
   ·rw [h2]
    by_cases h3:p+1=s.length
    ·rw [if_pos (.inr h3)]
     refine ⟨?_,fun h=>by cases h⟩
     rw [show decide (p+1 < s.length∧j8 s (p+1)=s.length)=false from decide_eq_false oM,Bool.and_false]
    ·rw [if_neg oM]
     have hsp:g9 s < p:=oM
     by_cases h4:j8 s (p+1)=s.length
     ·rw [if_pos h4]
      refine ⟨?_,fun _=>⟨by simp,by simp⟩⟩
      rw [decide_eq_true ⟨hsp,rfl⟩,decide_eq_true ⟨oM,h4⟩];rfl
     ·rw [if_neg h4]
      refine ⟨?_,fun h=>by cases h⟩
      rw [show decide (p+1 < s.length∧j8 s (p+1)=s.length)=false from decide_eq_false (fun h=>h4 h.2),Bool.and_false]
   ·rw [if_pos (.inl (p2 _ oM))]
    refine ⟨?_,fun h=>by cases h⟩
    rw [decide_eq_false (fun h=>h2 h.2)];rfl
 ·have p2:=d8x hp
  simp only [if_neg hp]
  rw [show C9 s [45]=(s.take s.length).drop (g9 s) by rw [List.take_length,U2],a56 (Nat.le_refl _) hs.1 (fun h=>by omega)]
  simp only [Bool.false_eq_true,if_false]
  rw [c7w,Bool.and_true]
  unfold n6
  simp only []
  by_cases h1:j8 s (g9 s)=g9 s
  ·rw [if_pos h1]
   refine ⟨decide_eq_false oM,fun h=>by cases h⟩
  ·rw [if_neg h1]
   by_cases h2:j8 s (g9 s)=s.length
   ·rw [if_pos h2]
    exact ⟨decide_eq_true ⟨oM,h2⟩,fun _=>⟨rfl,rfl⟩⟩
   ·rw [if_neg h2,if_pos (.inl (p2 _ oM))]
    exact ⟨decide_eq_false (fun h=>h2 h.2),fun h=>by cases h⟩
theorem d0n:n5 1 47=[47]:=dE
theorem d4m:j4 137 (sp1 fun s=>.ret (.t [.c (.s (u4 s).1),.c (.s (u4 s).2),.c (.b (n6 s).2.2)])):=l9 (fun fn h=>e0m h) [(145,_),(91,_),(146,_)] (.cons f4a (.cons Y7 (.cons d8z .nil))) fun U fn hfn ⟨s,hs⟩ vs bs hv hb=>by
 have hc:=hfn 145 _ rfl
 have ht:=hfn 91 _ rfl
 have hi:=hfn 146 _ rfl
 have hv:j6 [.c (.s s)] vs:=hv
 have hb:RBs [] bs:=hb
 have hs:s.length < 21600000:=hs
 show g8 U _ fun v bs'=>j7 (.ret (.t [.c (.s (u4 s).1),.c (.s (u4 s).2),.c (.b (n6 s).2.2)])) v∧RBs [] bs'
 unfold e4a
 obtain ⟨n1,n2⟩:=b4y s
 have hl:(u4 s).1.length≤s.length∧((u4 s).2.length≤s.length∨(u4 s).2.length≤1):=by
  unfold u4 H0
  split <;> simp [R6] <;> omega
 have hcp:(C9 (u4 s).1 [45]).length≤(u4 s).1.length:=by unfold C9;split <;> simp
 rw [← n1]
 (refine Zq ?_;intros)
 refine f9 hc ⟨(s,n5 1 47),⟨hs,47,d0n⟩⟩ (r:=.t [.c (.s (H0 s 47).1),.c (.s (H0 s 47).2.1),.c (.b (H0 s 47).2.2)]) (by show o8.ret (.t [.c (.s (H0 s ((n5 1 47).headD 0)).1),.c (.s (H0 s ((n5 1 47).headD 0)).2.1),.c (.b (H0 s ((n5 1 47).headD 0)).2.2)])=_;rw [d0n];rfl) j3 .nil fun _ _ _ _=>?_
 (refine Zy ?_;intros)
 refine Q4 (fun vs bs=>j6 [.c (.s (u4 s).1),.c (.s (u4 s).2)] vs∧RBs [] bs) ?_ ?_
 ·rintro vs' bs' ⟨hv',hb'⟩
  (refine Zq ?_;intros)
  refine f9 ht ⟨((u4 s).1,n5 1 45),trivial⟩ (r:=.c (.s (C9 (u4 s).1 [45]))) (by show o8.ret (.c (.s (C9 _ (n5 1 45))))=_;rw [b33]) j3 .nil fun _ _ _ _=>?_
  (refine Zq ?_;intros)
  refine f9 hi ⟨C9 (u4 s).1 [45],oM⟩ (r:=.c (.b (E8 (C9 (u4 s).1 [45])))) rfl j3 .nil fun _ _ _ _=>?_
  (refine Zq ?_;with_reducible repeat' first|intro _|apply aI)
  ·have h1:E8 (C9 (u4 s).1 [45])=true:=‹_›
   rw [h1,Bool.true_and]
   refine f9 hi ⟨(u4 s).2,oM⟩ (r:=.c (.b (E8 (u4 s).2))) rfl j3 .nil fun _ _ _ _=>?_
   (refine Zq ?_;intros)
   exact i7 ⟨.ret _ _ j3,.nil⟩
  ·have h1:E8 (C9 (u4 s).1 [45])=false:=by simpa using ‹¬E8 (C9 (u4 s).1 [45])=true›
   rw [h1,Bool.false_and]
   exact i7 ⟨.ret _ _ j3,.nil⟩
 ·intro c hc
  have e1:(u4 s).1=(H0 s 47).1:=rfl
  have e2:(u4 s).2=if (H0 s 47).2.2 then (H0 s 47).2.1 else R6:=rfl
  (refine Zq ?_;with_reducible repeat' first|intro _|apply aI)
  ·refine hc _ _ ⟨?_,.nil⟩
   rw [e1,e2,if_pos ‹_›]
   exact j3
  ·refine hc _ _ ⟨?_,.nil⟩
   rw [e1,e2,if_neg ‹_›]
   exact j3
theorem d3m (s:f6) (a:Nat):Lib.trimLeftS (s.drop a) [48]=s.drop (F4 s a):=by
 fun_induction F4 s a with
 | case1 a h1 h2 ih =>
  rw [← ih,List.drop_eq_getElem_cons h1]
  have:s[a]=48:=UInt8.toNat_inj.1 (by have e:bt s a=s[a].toNat:=by unfold bt;simp [List.getD,List.getElem?_eq_getElem h1]
                                      rw [e] at h2;show s[a].toNat=48;omega)
  unfold Lib.trimLeftS
  rw [List.dropWhile_cons_of_pos (by rw [this];decide)]
 | case2 a h1 h2 =>
  rw [List.drop_eq_getElem_cons h1]
  unfold Lib.trimLeftS
  rw [List.dropWhile_cons_of_neg]
  simp only [List.contains_cons,List.contains_nil,Bool.or_false,beq_iff_eq]
  intro e
  refine h2 ?_
  unfold bt;simp [List.getD,List.getElem?_eq_getElem h1,e]
 | case3 a h1=>rw [List.drop_eq_nil_of_le oM];rfl
theorem e2s:j4 139 (sp1 fun s=>.ret (.c (.s (plain s)))):=l9 (fun fn h=>e0n h) [(91,_),(154,_)] (.cons Y7 (.cons c8d .nil)) fun U fn hfn ⟨s,hs⟩ vs bs hv hb=>by
 have ht:=hfn 91 _ rfl
 have hl:=hfn 154 _ rfl
 have hv:j6 [.c (.s s)] vs:=hv
 have hb:RBs [] bs:=hb
 have hs:s.length < 21600000:=hs
 show g8 U _ fun v bs'=>j7 (.ret (.c (.s (plain s)))) v∧RBs [] bs'
 unfold e4b
 (refine Zq ?_;intros)
 refine f9 ht ⟨(s,n5 1 45),trivial⟩ (r:=.c (.s (s.drop (g9 s)))) (by show o8.ret (.c (.s (C9 s (n5 1 45))))=_;rw [b33,U2]) j3 .nil fun _ _ _ _=>?_
 (refine Zq ?_;intros)
 refine f9 hl ⟨(s.drop (g9 s),n5 1 48),by show (s.drop (g9 s)).length < 4294967281;simp;omega,(by decide:(n5 1 48).length < 4294967281),(by decide:∀ b ∈ n5 1 48,b.toNat < 128)⟩ (r:=.c (.s (s.drop (F4 s (g9 s))))) (by show o8.ret (.c (.s (Lib.trimLeftS (s.drop (g9 s)) (n5 1 48))))=_;rw [← d3m];rfl) j3 .nil fun _ _ _ _=>?_
 have hsl:=N2 s
 have hz:=a86 s (g9 s) hsl.1
 have hbt:((s.getD 0 0).toNat:Int)=bt s 0:=rfl
 have e1:plain s=if F4 s (g9 s)=s.length then w9 else if g9 s=1 then [45] ++ s.drop (F4 s (g9 s)) else s.drop (F4 s (g9 s)):=by unfold plain;simp only [List.take_length]
 rw [e1]
 generalize F4 s (g9 s)=z at *
 have hdl:(s.drop z).length=s.length - z:=by simp
 have hpos:¬s.drop z=n5 0 0→0 < s.length:=fun h=>by
  rcases Nat.lt_or_ge 0 s.length with h2 | h2
  ·exact h2
  ·exact absurd (List.drop_eq_nil_of_le oM) h
 have hsg:g9 s=1↔(0 < s.length∧bt s 0=45):=by unfold g9;split <;> simp [*]
 (refine Zq ?_;with_reducible repeat' first|intro _|apply aI)
 ·have:z=s.length:=by
   have h:s.drop z=[]:=‹_›
   have:=List.drop_eq_nil_iff.1 h;omega
  rw [if_pos this]
  exact i7 ⟨.ret _ _ (.s _ _ _ rfl rfl),.nil⟩
 ·have h0:¬s.drop z=n5 0 0:=‹_›
  have hp:=hpos h0
  rw [if_neg (fun e=>h0 (List.drop_eq_nil_of_le oM))]
  (refine Zq ?_;with_reducible repeat' first|intro _|apply aI)
  ·rw [if_pos (hsg.2 ⟨hp,‹_›⟩)]
   refine d70 (x:=[45]) (y:=s.drop z) rfl rfl rfl ?_
   exact i7 ⟨.ret _ _ (.s _ _ _ (by simp;omega) rfl),.nil⟩
  ·rw [if_neg (fun e=>‹¬_› (hsg.1 e).2)]
   exact i7 ⟨.ret _ _ (.s _ _ _ rfl rfl),.nil⟩
inductive RT where
 | nil
 | node (k:Int) (nu de:f6) (s:Sy) (t:f6) (ps r:RT)
def RT.rows:RT→List (List G)
 | .nil=>[]
 | .node k nu de s t ps r=>[.i .i64 k,.s nu,.s de,.s s.1,.s s.2,.s t,.l ps.rows] :: r.rows
structure Ob where
 k:Int
 nu:f6
 de:f6
 s:Sy
 t:f6
 ps:RT
def Ob.g (o:Ob):List G:=[.i .i64 o.k,.s o.nu,.s o.de,.s o.s.1,.s o.s.2,.s o.t,.l o.ps.rows]
def RT.obs:RT→List Ob
 | .nil=>[]
 | .node k nu de s t ps r=>⟨k,nu,de,s,t,ps⟩ :: r.obs
theorem RT.rows_eq:∀ p:RT,p.rows=p.obs.map Ob.g
 | .nil=>rfl
 | .node _ _ _ _ _ _ r=>by simp only [RT.rows,RT.obs,List.map_cons,r.rows_eq];rfl
theorem Ob.g_eq (o:Ob):o.g=[.i .i64 o.k,.s o.nu,.s o.de,.s o.s.1,.s o.s.2,.s o.t,.l (o.ps.obs.map Ob.g)]:=by rw [← RT.rows_eq];rfl
theorem Ob.g_len (o:Ob):o.g.length=7:=rfl
theorem RT.rows_inj:∀ {p q:RT},p.rows=q.rows→p=q
 | .nil,.nil,_=>rfl
 | .nil,.node ..,h=>by simp [RT.rows] at h
 | .node ..,.nil,h=>by simp [RT.rows] at h
 | .node k nu de s t ps r,.node k' nu' de' s' t' ps' r',h=>by
  simp only [RT.rows,List.cons.injEq,G.i.injEq,G.s.injEq,G.l.injEq,true_and,and_true] at h
  obtain ⟨⟨h1,h2,h3,h4,h5,h6,h7⟩,h8⟩:=h
  rw [h1,h2,h3,Prod.ext h4 h5,h6,RT.rows_inj h7,RT.rows_inj h8]
theorem Ob.g_inj {a b:Ob} (h:a.g=b.g):a=b:=by
 obtain ⟨k,nu,de,s,t,ps⟩:=a
 obtain ⟨k',nu',de',s',t',ps'⟩:=b
 simp only [Ob.g,List.cons.injEq,G.i.injEq,G.s.injEq,G.l.injEq,true_and,and_true] at h
 obtain ⟨h1,h2,h3,h4,h5,h6,h7⟩:=h
 rw [h1,h2,h3,Prod.ext h4 h5,h6,RT.rows_inj h7]
def RT.sz:RT→Nat
 | .nil=>0
 | .node _ _ _ _ _ ps r=>1+ps.sz+r.sz
def Ob.sz (o:Ob):Nat:=1+o.ps.sz
theorem RT.obs_sz:∀ {p:RT} {x:Ob},x ∈ p.obs→x.sz≤p.sz
 | .nil,x,h=>by simp [RT.obs] at h
 | .node k nu de s t ps r,x,h=>by
  simp only [RT.obs,List.mem_cons] at h
  rcases h with rfl | h
  ·simp only [Ob.sz,RT.sz];omega
  ·have:=RT.obs_sz h;simp only [RT.sz];omega
theorem RT.two_sz {p:RT} {x y:Ob} (h:p.obs=[x,y]):x.sz+y.sz=p.sz:=by
 cases p with
 | nil=>cases h
 | node k nu de s t ps r =>
  simp only [RT.obs,List.cons.injEq] at h
  obtain ⟨rfl,h⟩:=h
  cases r with
  | nil=>cases h
  | node k nu de s t ps' r =>
   simp only [RT.obs,List.cons.injEq] at h
   obtain ⟨rfl,h⟩:=h
   cases r with
   | nil=>simp only [Ob.sz,RT.sz];omega
   | node=>simp [RT.obs] at h
theorem d29 {l:List Ob} (h:((l.length:Nat):Int)=2):∃ x y,l=[x,y]:=by
 match l,h with
 | [x,y],_=>exact ⟨x,y,rfl⟩
 | [],h=>simp at h
 | [_],h=>simp at h
 | _ :: _ :: _ :: _,h=>simp at h;omega
def RT.sm:RT→Prop
 | .nil=>True
 | .node _ nu de s _ ps r=>(nu.length < 1920000∧de.length < 1920000∧s.1.length < 21600000∧s.2.length < 21600000)∧ps.sm∧r.sm
def Ob.sm (o:Ob):Prop:=(o.nu.length < 1920000∧o.de.length < 1920000∧o.s.1.length < 21600000∧o.s.2.length < 21600000)∧o.ps.sm
theorem RT.obs_sm:∀ {p:RT} {x:Ob},p.sm→x ∈ p.obs→x.sm
 | .nil,x,_,h=>by simp [RT.obs] at h
 | .node k nu de s t ps r,x,hs,h=>by
  simp only [RT.obs,List.mem_cons] at h
  rcases h with rfl | h
  ·exact ⟨hs.1,hs.2.1⟩
  ·exact RT.obs_sm hs.2.2 h
def RT.rest:RT→List (Int→Int)
 | .nil=>[]
 | .node _ _ _ _ _ ps r=>(fun l=>if 0 < l then match ps.rest with
  | [f,g]=>g (f (l - 1))
  | _=>l - 1 else l - 1) :: r.rest
def Ob.rest (o:Ob) (l:Int):Int:=if 0 < l then match o.ps.rest with
 | [f,g]=>g (f (l - 1))
 | _=>l - 1 else l - 1
theorem RT.rest_eq:∀ p:RT,p.rest=p.obs.map Ob.rest
 | .nil=>rfl
 | .node _ _ _ _ _ ps r=>by simp only [RT.rest,RT.obs,List.map_cons,r.rest_eq];rfl
theorem Ob.rest_eq (o:Ob) (l:Int):o.rest l=if 0 < l then match o.ps.obs with
  | [x,y]=>y.rest (x.rest (l - 1))
  | _=>l - 1 else l - 1:=by
 unfold Ob.rest
 rw [o.ps.rest_eq]
 rcases o.ps.obs with _ | ⟨x,_ | ⟨y,_ | ⟨z,r⟩⟩⟩ <;> rfl
def RT.nd:RT→List Nat
 | .nil=>[]
 | .node _ _ _ _ _ ps r=>(match ps.nd with
  | [f,g]=>1+f+g
  | _=>1) :: r.nd
def Ob.nd (o:Ob):Nat:=match o.ps.nd with
 | [f,g]=>1+f+g
 | _=>1
theorem RT.nd_eq:∀ p:RT,p.nd=p.obs.map Ob.nd
 | .nil=>rfl
 | .node _ _ _ _ _ ps r=>by simp only [RT.nd,RT.obs,List.map_cons,r.nd_eq];rfl
theorem Ob.nd_eq (o:Ob):o.nd=match o.ps.obs with
  | [x,y]=>1+x.nd+y.nd
  | _=>1:=by
 unfold Ob.nd
 rw [o.ps.nd_eq]
 rcases o.ps.obs with _ | ⟨x,_ | ⟨y,_ | ⟨z,r⟩⟩⟩ <;> rfl
theorem Ob.nd_pos (o:Ob):1≤o.nd:=by rw [o.nd_eq];split <;> omega
theorem b3j {o:Ob} {l:Int} (h:l≤0):o.rest l=l - 1:=by rw [o.rest_eq,if_neg oM]
theorem b1q:∀ (n:Nat) (o:Ob) (l:Int),o.sz≤n→0≤l→((o.nd:Int)≤l→o.rest l=l - o.nd)∧(l < o.nd→o.rest l < 0)∧-1 - l≤o.rest l
 | 0,o,_,h,_=>by simp [Ob.sz] at h
 | n+1,o,l,h,hl=>by
  have h2:o.sz=1+o.ps.sz:=rfl
  rw [o.rest_eq,o.nd_eq]
  by_cases h0:0 < l
  ·rw [if_pos h0]
   rcases e:o.ps.obs with _ | ⟨x,_ | ⟨y,_ | ⟨z,r⟩⟩⟩
   ·simp only [];omega
   ·simp only [];omega
   ·simp only []
    have h1:=RT.two_sz e
    have h3:1≤y.sz:=by simp [Ob.sz]
    have h4:1≤x.sz:=by simp [Ob.sz]
    have i1:=b1q n x (l - 1) oM oM
    have p1:=x.nd_pos
    have p2:=y.nd_pos
    rcases Int.lt_or_le (x.rest (l - 1)) 0 with hx | hx
    ·rw [b3j (o:=y) oM];omega
    ·have i2:=b1q n y (x.rest (l - 1)) oM hx
     have i3:=b3j (o:=y) (l:=0) oM
     omega
   ·simp only [];omega
  ·rw [if_neg h0]
   have:=o.nd_pos
   rw [o.nd_eq] at this
   omega
theorem a7a (p:RT):(∃ x y,p.obs=[x,y])∨(¬((p.obs.length:Nat):Int)=2∧∀ x y,p.obs ≠ [x,y]):=by
 by_cases h:((p.obs.length:Nat):Int)=2
 ·exact .inl (d29 h)
 ·exact .inr ⟨h,fun x y e=>h (by rw [e];rfl)⟩
theorem d5v {o x y:Ob} {l:Int} (h:o.ps.obs=[x,y]) (hl:0 < l):o.rest l=y.rest (x.rest (l - 1)):=by rw [o.rest_eq,if_pos hl,h]
theorem e0x {o:Ob} {l:Int} (h:∀ x y,o.ps.obs ≠ [x,y]):o.rest l=l - 1:=by
 rw [o.rest_eq]
 split
 ·split
  ·rename_i e;exact absurd e (h _ _)
  ·rfl
 ·rfl
def b0v (ok:Ob→Prop) (g:Ob→GV):Sp where
 ι:={ o:Ob // ok o }
 A o:=[.a o.1.g]
 B _:=[]
 R o:=.ret (g o.1)
 B' _:=[]
 inj i j vs bs h k _ _:=by
  obtain ⟨_,_,h1,k1,h,k⟩:=h.two k
  rw [Ob.g_inj (h1.a_inj k1)];exact ⟨rfl,rfl⟩
def d2s:Sp where
 ι:={ p:Ob × Int // -1000000000≤p.2∧p.2 < 21600000 }
 A p:=[.a p.1.1.g,.c (.i .i64 p.1.2)]
 B _:=[]
 R p:=.ret (.c (.i .i64 (p.1.1.rest p.1.2)))
 B' _:=[]
 inj i j vs bs h k _ _:=by
  obtain ⟨_,_,h1,k1,h,k⟩:=h.two k
  obtain ⟨_,_,h2,k2,h,k⟩:=h.two k
  rw [Ob.g_inj (h1.a_inj k1),Z7 h2 k2];exact ⟨rfl,rfl⟩
theorem e8s:j4 69 d2s:=Q1 (fun p=>p.1.2.toNat) fun n ih=>l9 (fun fn h=>e5u h) [(69,d2s.lt _ n)] (.cons ih .nil) fun U fn hfn ⟨⟨(o,l),hl1,hl2⟩,hn⟩ vs bs hv hb=>by
 have hr:=hfn 69 _ rfl
 have hl1:-1000000000≤l:=hl1
 have hl2:l < 21600000:=hl2
 have hv:j6 [.a o.g,.c (.i .i64 l)] vs:=hv
 have hb:RBs [] bs:=hb
 have hn:l.toNat < n+1:=hn
 show g8 U _ fun v bs'=>j7 (.ret (.c (.i .i64 (o.rest l)))) v∧RBs [] bs'
 unfold r69
 (refine Zq ?_;intros)
 refine F3 (fun (p:Ob × Int) vs bs=>∃ (x:Ob) (l':Int),p=(x,l')∧vs=[.int .i64 l',.ptr 0 0]∧RBs [x.g] bs∧x.rest l'=o.rest l∧-1000000000≤l'∧l' < 21600000∧l'≤l) (fun p=>p.2.toNat) (o,l) ⟨o,l,rfl,rfl,RB.bx aS rfl,rfl,hl1,hl2,Int.le_refl _⟩ (show l.toNat < y8 by simp only [y8];omega) ?_
 rintro self _ _ _ ⟨x,l',rfl,rfl,hb,he,h1,h2,h3⟩ ih2
 rw [x.g_eq] at hb
 rcases a7a x.ps with ⟨a,b,e⟩ | ⟨hne,hno⟩
 ·rw [e] at hb
  (refine Zq ?_;with_reducible repeat' first|intro _|apply aI)
  ·(refine B5 (f:=Ob.g) aS (u0 Ob.g_len) fun _ _ _=>?_)
   (refine Zq ?_;with_reducible repeat' first|intro _|apply aI)
   ·(refine B5 (f:=Ob.g) aS (u0 Ob.g_len) fun _ _ _=>?_)
    (refine Zq ?_;intros)
    have k1:=b1q a.sz a (l' - 1) (Nat.le_refl _) oM
    refine f9 hr ⟨⟨(a,l' - 1),show -1000000000≤l' - 1 by omega,show l' - 1 < 21600000 by omega⟩,show (l' - 1).toNat < n by omega⟩ (r:=.c (.i .i64 (a.rest (l' - 1)))) rfl j3 .nil fun _ _ _ _=>?_
    (refine Zq ?_;intros)
    (refine B5 (f:=Ob.g) aS (u0 Ob.g_len) fun _ _ _=>?_)
    (refine Zq ?_;intros)
    have k2:a.rest (l' - 1)≤l' - 1 - 1:=by
     have:=a.nd_pos
     rcases Int.lt_or_le (l' - 1) a.nd with h | h
     ·have:=k1.2.1 h;omega
     ·have:=k1.1 h;omega
    exact ih2 (b,a.rest (l' - 1)) _ _ ⟨b,_,rfl,rfl,RB.bx aS rfl,by rw [← he,d5v e oM],oM,oM,oM⟩ (show (a.rest (l' - 1)).toNat < l'.toNat by omega)
   ·exact absurd rfl ‹¬_›
  ·rw [← he,b3j oM]
   exact i7 ⟨.ret _ _ (.i _ _),.nil⟩
 ·rw [← he,e0x hno]
  (refine Zq ?_;with_reducible repeat' first|intro _|apply aI)
  ·(refine B5 (f:=Ob.g) aS (u0 Ob.g_len) fun _ _ _=>?_)
   (refine Zq ?_;with_reducible repeat' first|intro _|apply aI)
   ·exact absurd ‹_› hne
   ·exact i7 ⟨.ret _ _ (.i _ _),.nil⟩
  ·exact i7 ⟨.ret _ _ (.i _ _),.nil⟩
theorem d89:j4 47 (b0v (fun _=>True) fun o=>.c (.i .i64 (min o.nd 3001:Nat))):=l9 (fun fn h=>e5a h) [(69,_)] (.cons e8s .nil) fun U fn hfn ⟨o,_⟩ vs bs hv hb=>by
 have hr:=hfn 69 _ rfl
 have hv:j6 [.a o.g] vs:=hv
 have hb:RBs [] bs:=hb
 show g8 U _ fun v bs'=>j7 (.ret (.c (.i .i64 (min o.nd 3001:Nat)))) v∧RBs [] bs'
 unfold r47
 have key:=b1q o.sz o 3001 (Nat.le_refl _) oM
 (refine Zq ?_;intros)
 refine f9 hr ⟨(o,3001),oM,oM⟩ (r:=.c (.i .i64 (o.rest 3001))) rfl j3 .nil fun _ _ _ _=>?_
 (refine Zq ?_;intros)
 refine d2i ?_
 refine b5t (by split <;> omega) ?_
 exact i7 ⟨.ret _ _ (Y1 (by split <;> omega)),.nil⟩
end
end Go.Proofs.YtgipbdffgfbedaaGreatDoor
