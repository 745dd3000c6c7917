/- The program's numbers: a text as limbs. -/
import Derived.Test.YtffaodopiifbkaaGreatDoorKEC
set_option linter.all false
namespace Go.Proofs.YtffaodopiifbkaaGreatDoor
open Go.Abs LQ Go.RowKit Go.Lib Go.Sort
set_option maxRecDepth 100000
set_option maxHeartbeats 4000000
noncomputable section
theorem e6o (l:List UInt8):∀ acc:Nat,(∀ c ∈ l,48≤c.toNat∧c.toNat≤57)→acc * 10 ^ l.length+y8 l≤4294967295→Lib.parseUintM 4294967295 acc l=.ok (acc * 10 ^ l.length+y8 l):=by
 induction l with
 | nil=>intro acc _ _;simp [Lib.parseUintM,y8,t7]
 | cons c r ih =>
  intro acc hd h
  obtain ⟨h1,h2⟩:=hd c (by simp)
  have e:y8 (c :: r)=(c.toNat - 48) * 10 ^ r.length+y8 r:=by
   rw [b5r]
   have:(bt [c] 0 - 48).toNat=c.toNat - 48:=by show (((c.toNat:Nat):Int) - 48).toNat=_;omega
   rw [this]
  rw [e,List.length_cons,Nat.pow_succ] at h ⊢
  have hp:1≤10 ^ r.length:=Nat.one_le_pow _ _ dE
  have e2:(acc * 10+(c.toNat - 48)) * 10 ^ r.length+y8 r=acc * (10 ^ r.length * 10)+((c.toNat - 48) * 10 ^ r.length+y8 r):=by
   rw [Nat.add_mul,Nat.mul_assoc,Nat.mul_comm 10,Nat.add_assoc]
  have hb:acc * 10+(c.toNat - 48)≤(acc * 10+(c.toNat - 48)) * 10 ^ r.length:=Nat.le_mul_of_pos_right _ hp
  rw [Lib.parseUintM,if_pos ⟨h1,h2⟩,if_neg oM,if_neg oM,ih _ (fun d hd'=>hd d (by simp [hd'])) (by rw [e2];exact h),e2]
theorem e20 {s:f4} (h:∀ j,j < s.length→48≤bt s j∧bt s j≤57):∀ c ∈ s,48≤c.toNat∧c.toNat≤57:=fun c hc=>by
 obtain ⟨j,hj,rfl⟩:=List.getElem_of_mem hc
 have:=h j hj
 unfold bt at this
 simp only [List.getD,List.getElem?_eq_getElem hj,Option.getD_some] at this
 omega
theorem f0f {s:f4} (h0:0 < s.length) (h9:s.length≤9) (h:∀ j,j < s.length→48≤bt s j∧bt s j≤57):Lib.parseUintB 32 s=.ok (y8 s):=by
 have hl:=c1n s h
 have hp:(10:Nat) ^ s.length≤10 ^ 9:=Nat.pow_le_pow_right dE h9
 have:=e6o s 0 (e20 h) (by rw [Nat.zero_mul];omega)
 rw [Nat.zero_mul,Nat.zero_add] at this
 unfold Lib.parseUintB
 rw [if_neg (by intro e;subst e;simp at h0)]
 exact this
def f69:Sp where
 ι:={ s:f4 // 0 < s.length∧s.length≤9∧∀ j,j < s.length→48≤bt s j∧bt s j≤57 }
 A s:=[.c (.s s.1),.c (.i .i64 10),.c (.i .i64 32)]
 B _:=[]
 R s:=.ret (.t [.c (.i .u64 ((y8 s.1:Nat):Int)),.nilI])
 B' _:=[]
 inj i j vs bs h k _ _:=by
  obtain ⟨_,_,h1,k1,h,k⟩:=h.two k
  rw [F2 h1 k1];exact ⟨rfl,rfl⟩
theorem kPU:j5 221 f69:=fun ⟨s,h0,h9,hd⟩ vs bs hv hb=>by
 change j6 [.c (.s s),.c (.i .i64 10),.c (.i .i64 32)] vs at hv
 cases hb
 refine ⟨.ret (.tuple [.int .u64 ((y8 s:Nat):Int),.nilIface]),[],fun hok=>?_,.ret _ _ (.t _ _ (.k (.i _ _) (.k .nilI .nil))),.nil⟩
 have hx:vs.map toD=[D.str s,.int .i64 10,.int .i64 32]:=by
  cases hv with
  | cons _ _ v _ h1 h2=>cases h2 with
   | cons _ _ v2 _ h2 h3=>cases h3 with
    | cons _ _ v3 _ h3 h4 =>
     cases h4
     rw [List.map_cons,List.map_cons,List.map_cons,c0t h1,d1a h2,d1a h3];rfl
 rw [hx]
 refine H0 (d:=.tuple [.int .u64 ((y8 s:Nat):Int),.nilIface]) Tryz.call221 fun w S M us hg hwi hr=>?_
 have hus:us=[.string ⟨s.toArray⟩,.int .i64 10,.int .i64 32]:=by
  cases hr with
  | cons _ _ _ _ r1 r2=>cases r2 with
   | cons _ _ _ _ r2 r3=>cases r3 with
    | cons _ _ _ _ r3 r4 =>
     cases r4;cases r1;cases r2;cases r3
     rename_i sb hs
     rw [d36 hs]
 subst hus
 refine (Any.strconv_ParseUint_10_at32_ok Tryz.laysPu14 ⟨s.toArray⟩ (by simp [ByteArray.size];omega) (y8 s) (f0f h0 h9 hd) w).mono ?_
 rintro e w' ⟨rfl,hw⟩
 have hb:Below w.heap.size w w':=by
  rcases hw with rfl | rfl
  ·exact Below.refl _ _
  ·exact Lib.bytesWorld_below _ _ _
 refine ⟨hb,_,S,rfl,⟨fun _ _ h=>h,fun _ _ h=>.inl h⟩,N7 hwi hb,.tuple _ _ (.k (.int _ _) (.k .nilIface .nil)),⟨(fun _ _ _ h=>by cases h),fun vs ds hv hd i u e h1 h2=>?_⟩⟩
 injection hv with hv
 injection hd with hd
 subst hv hd
 intro len c z he
 subst he
 match i with
 | 0=>simp at h2
 | 1=>simp at h2
 | i+2=>simp at h2
section
variable {U:q8} {P:H6→List Bx→Prop}
theorem f4w {v:V} {K:Om} (hv:RV .nilI v) (h:g8 U K P):g8 U (U.uNilI v K) P:=fun e=>by
 have:=h e;subst e;cases hv;exact this
theorem d3d {a:Int} {K:Int→Om} (h:g8 U (K (if 0 < a then a else 0)) P):g8 U (U.fI (U.isel (U.iLt 0 a) a 0) K) P :=
 d37 a3e (fun k=>by rw [if_pos k] at h;exact h) (fun k=>by rw [if_neg k] at h;exact h)
end
def a1p (neg:Bool) (n:Nat):List G:=[.b neg,.l (t8 n)]
theorem c41 {D:f4} {m:Nat} (hm:m≤D.length) (h9:9≤m):y8 (D.take m)=y8 (D.take (m - 9)) * 10 ^ 9+y8 ((D.take m).drop (m - 9)):=by
 have e:D.take m=D.take (m - 9) ++ (D.take m).drop (m - 9):=by
  have:=(List.take_append_drop (m - 9) (D.take m)).symm
  rw [List.take_take,Nat.min_eq_left oM] at this;exact this
 conv=>lhs;rw [e]
 rw [b9t]
 have:((D.take m).drop (m - 9)).length=9:=by simp;omega
 rw [this]
theorem b8s {D:f4} (h:∀ j,j < D.length→48≤bt D j∧bt D j≤57) (k m:Nat) (hm:m≤D.length):∀ j,j < ((D.take m).drop k).length→48≤bt ((D.take m).drop k) j∧bt ((D.take m).drop k) j≤57:=fun j hj=>by
 simp at hj
 have e:bt ((D.take m).drop k) j=bt D (k+j):=by
  rw [a10];unfold bt;simp [List.getD,List.getElem?_take,show k+j < m by omega]
 rw [e];exact h _ oM
theorem d11 (a:List Nat) (d:Nat):k5 (a ++ [d])=k5 a+B9 ^ a.length * d:=by rw [Q4,d0m]
theorem d1g {acc:List Nat} {d:Nat} {n:Int} (h:n=d):acc.map lg ++ [[.i .u32 n]]=(acc ++ [d]).map lg:=by subst h;simp [lg]
theorem e52 {a:List Nat} {d:Nat} (h:LQ.LB a) (hd:d < 1000000000):LQ.LB (a ++ [d]):=fun x hx=>by
 rcases List.mem_append.1 hx with hx | hx
 ·exact h x hx
 ·simp at hx;subst hx;exact hd
theorem c9o {D:f4} {acc:List Nat} {m k N:Nat} (hd:∀ j,j < D.length→48≤bt D j∧bt D j≤57) (hm:m≤D.length) (hk:k=m - 9) (he:k5 acc+B9 ^ acc.length * y8 (D.take m)=N) :
  y8 ((D.take m).drop k) < 1000000000∧k5 (acc ++ [y8 ((D.take m).drop k)])+B9 ^ (acc ++ [y8 ((D.take m).drop k)]).length * y8 (D.take k)=N:=by
 subst hk
 have hlt:=c1n _ (b8s hd (m - 9) m hm)
 have hl:((D.take m).drop (m - 9)).length≤9:=by simp;omega
 have h9:y8 ((D.take m).drop (m - 9)) < 1000000000:=Nat.lt_of_lt_of_le hlt (Nat.pow_le_pow_right dE hl)
 refine ⟨h9,?_⟩
 rw [d11,← he,List.length_append,List.length_singleton,Nat.pow_succ]
 by_cases h:9≤m
 ·rw [c41 hm h]
  generalize y8 (D.take (m - 9))=a
  generalize y8 ((D.take m).drop (m - 9))=b
  rw [show (10:Nat) ^ 9=B9 from rfl,Nat.mul_add,Nat.mul_comm a B9,← Nat.mul_assoc]
  omega
 ·have e:m - 9=0:=oM
  rw [e,List.take_zero,List.drop_zero,show y8 ([]:f4)=0 by simp [y8,t7],Nat.mul_zero,Nat.add_zero]
theorem d0n (n:Nat):y8 (f7 n)=n:=by
 have hv:=y9 n
 have hok:=a26 n
 have hs:g7 (f7 n)=0:=by
  unfold g7;rw [if_neg];rintro ⟨h,h2⟩;have:=a02 n 0 h;omega
 unfold f6 at hv
 rw [if_pos hok,hs,if_neg dE] at hv
 unfold y8;omega
theorem e1y (s:f4):(f7 (f6 s).natAbs).length≤(J4 s).length∧(decide (((f7 (f6 s).natAbs).length:Int) < ((J4 s).length:Int))=decide (f6 s < 0)):=by
 rw [a0u]
 unfold f8
 split <;> simp <;> omega
theorem d3c:j5 201 (sp1 fun s=>.ret (.a (a1p (decide (f6 s < 0)) (f6 s).natAbs))):=k8 (fun fn h=>e5u h) [(176,_),(184,_),(221,_),(222,_)] (.cons a4q (.cons Y3 (.cons kPU (.cons b5i .nil)))) fun U fn hfn ⟨s,hs⟩ vs bs hv hb=>by
 have hd:=hfn 176 _ rfl
 have ht:=hfn 184 _ rfl
 have hp:=hfn 221 _ rfl
 have hr:=hfn 222 _ rfl
 have hv:j6 [.c (.s s)] vs:=hv
 have hb:g9 [] bs:=hb
 have hs:s.length < 90000:=hs
 show g8 U _ fun v bs'=>j7 (.ret (.a (a1p (decide (f6 s < 0)) (f6 s).natAbs))) v∧g9 [] bs'
 unfold d86
 (refine Zq ?_;intros)
 refine f5 hd ⟨s,hs⟩ (r:=.c (.s (J4 s))) rfl j4 .nil fun _ _ _ _=>?_
 have hl:=a8q s
 have h7:=e1y s
 (refine Zq ?_;intros)
 refine f5 ht ⟨(J4 s,k7 1 45),trivial⟩ (r:=.c (.s (f7 (f6 s).natAbs))) (by show n5.ret (.c (.s (C4 (J4 s) (k7 1 45))))=_;rw [b6g,U1,c2t]) j4 .nil fun _ _ _ _=>?_
 (refine Zq ?_;intros)
 generalize hD:f7 (f6 s).natAbs=D at *
 have hdig:∀ j,j < D.length→48≤bt D j∧bt D j≤57:=by rw [← hD];exact a02 _
 have hval:y8 D=(f6 s).natAbs:=by rw [← hD,d0n]
 refine D3 (fun (p:Nat × List Nat) vs bs=>∃ (m:Nat) (acc:List Nat) (v bx:V) (ng:Bool) (v4:V),p=(m,acc)∧vs=[.ptr 0 0,.str (D.take m).length (j9 (D.take m)),.ptr 1 0,v4]∧bs=[.cells [bx,.slice .nil 0 0 0 .exact],.cells [.bool ng,v],.tok acc.length 1]∧(U=CU→ng=decide (f6 s < 0))∧a0m 2 1 (acc.map lg) v∧m≤D.length∧LQ.LB acc∧(9 * acc.length+m=D.length∨m=0∧9 * acc.length≤D.length+8)∧k5 acc+B9 ^ acc.length * y8 (D.take m)=(f6 s).natAbs∧RV (.c (.b false)) bx) (fun p=>p.1) (D.length,[]) ?_ (by simp only [v8];omega) ?_
 ·refine ⟨D.length,[],_,_,_,_,rfl,by simp only [List.take_length];rfl,rfl,fun e=>by subst e;rw [b0w];exact h7.2,.b rfl,Nat.le_refl _,fun d h=>(by cases h),by simp,by rw [← hval];simp [k5],.kn _⟩
 rintro self _ _ _ ⟨m,acc,v,bx,ng,v4,rfl,rfl,rfl,hng,htok,hm,hLB,hlen,he,hbx⟩ ih
 have hml:(D.take m).length=m:=by simp;omega
 (refine Zq ?_;with_reducible repeat' first|intro _|apply aI)
 ·refine d3d ?_
  obtain ⟨k,hk,hk2⟩:∃ k:Nat,k=m - 9∧(if 0 < ((D.take m).length:Int) - 9 then ((D.take m).length:Int) - 9 else 0)=(k:Int):=⟨m - 9,rfl,by split <;> omega⟩
  rw [hk2]
  have hkm:k≤m:=oM
  have hm0:0 < m:=oM
  (refine Zq ?_;intros)
  obtain ⟨s1,s2⟩:=c9o hdig hm hk he
  have hcl:((D.take m).drop k).length=m - k:=by simp;omega
  refine f5 hp ⟨(D.take m).drop k,oM,oM,b8s hdig k m hm⟩ (r:=.t [.c (.i .u64 ((y8 ((D.take m).drop k):Nat):Int)),.nilI]) rfl j4 .nil fun _ _ _ _=>?_
  (refine Zq ?_;intros)
  refine f4w aS ?_
  (refine Zq ?_;intros)
  refine a3x (m:=((y8 ((D.take m).drop k):Nat):Int)) rfl oM ?_
  (refine Zq ?_;intros)
  refine S3 aS (fun _=>E2 (by first | exact .i _ _ | exact .s _ _ _ rfl rfl | assumption)) (by rfl) (by simp) (by simp only [List.length_map];omega) fun _ _=>?_
  (refine Zq ?_;intros)
  have e1:List.drop (Int.toNat 0) (List.take ((k:Int)).toNat (D.take m))=D.take k:=by
   rw [Int.toNat_natCast,List.take_take,Nat.min_eq_left hkm];rfl
  rw [e1]
  refine ih (k,acc ++ [y8 ((D.take m).drop k)]) _ _ ?_ (by show k < m;omega)
  refine ⟨k,_,_,_,_,_,rfl,rfl,by rw [List.length_append];rfl,hng,.a _ _ (by simp) ?_,oM,e52 hLB s1,by rw [List.length_append,List.length_singleton];omega,s2,.b _⟩
  rw [← d1g (n:=((y8 ((D.take m).drop k):Nat):Int)) rfl]
  assumption
 ·have hm0:m=0:=oM
  subst hm0
  have e0:k5 acc=(f6 s).natAbs:=by
   rw [List.take_zero,show y8 ([]:f4)=0 by simp [y8,t7],Nat.mul_zero,Nat.add_zero] at he;exact he
  refine f5 hr ⟨acc,oM⟩ (r:=.sl 1 (t8 (f6 s).natAbs)) (by show n5.ret (.sl 1 ((D4 acc).map lg))=_;rw [a0y acc hLB,e0];rfl) j4 .nil fun _ _ _ _=>?_
  (refine Zq ?_;intros)
  exact D8 fun e=>by
   rw [hng e]
   exact ⟨.ret _ _ (.ag _ _ (.k (.b _) (.k (.cl _ _ _ _ _ (by simp [t8]) aS) .nil))),.nil⟩
end
end Go.Proofs.YtffaodopiifbkaaGreatDoor
namespace Go.Proofs.YtffaodopiifbkaaGreatDoor
open Go.Abs LQ
set_option maxRecDepth 100000
set_option maxHeartbeats 4000000
noncomputable section
section
variable {U:q8} {P:H6→List Bx→Prop}
theorem sQR {g:G} {v:V} {K:Q→Om} (hv:RV (.c g) v) (h:∀ x,RG g x→g8 U (K x) P):g8 U (U.uQ v K) P:=fun e=>by
 have h2:∃ x,CU.uQ v K=K x∧RG g x:=by
  cases hv with
  | b x=>exact ⟨_,rfl,.b x⟩
  | kn x=>exact ⟨_,rfl,.b x⟩
  | i k n=>exact ⟨_,rfl,.i k n⟩
  | s x l c h1 h2=>exact ⟨_,rfl,.s x l c h1 h2⟩
  | cl xs t n off len h1 h2=>exact ⟨_,rfl,.l xs t n off len h1 h2⟩
  | q _ x h=>exact ⟨_,rfl,h⟩
 obtain ⟨x,h3,h4⟩:=h2
 have:=h x h4 e
 subst e
 rw [h3];exact this
theorem d96 {x y:List UInt8} {l c1 c2:Nat} {K:Nat→Om} (h1:l=x.length) (e1:c1=j9 x) (e2:c2=j9 y) (k:g8 U (K (j9 (x ++ y))) P):g8 U (U.fN (U.sCat l c1 c2) K) P:=fun e=>by
 subst h1 e1 e2
 have:=k e
 subst e
 rw [a3b]
 show ∃ v bs,K (sCat x.length (j9 x) (j9 y))=some (v,bs)∧P v bs
 rw [b0q];exact this
end
theorem d6v {a b:Bool} {m n:Nat} (h:a1p a m=a1p b n):a=b∧m=n:=by
 simp only [a1p,List.cons.injEq,G.b.injEq,G.l.injEq,and_true] at h
 exact ⟨h.1,a7i h.2⟩
def a1e:Sp where
 ι:={ p:Bool × Nat // (k9 p.2).length < 20000 }
 A p:=[.a (a1p p.1.1 p.1.2)]
 B _:=[]
 R p:=.ret (.c (.s (sgn p.1.1 p.1.2)))
 B' _:=[]
 inj i j vs bs h k _ _:=by
  obtain ⟨_,_,h1,k1,h,k⟩:=h.two k
  obtain ⟨e1,e2⟩:=d6v (h1.a_inj k1)
  rw [e1,e2];exact ⟨rfl,rfl⟩
theorem b7j (n:Nat):∀ r ∈ t8 n,r.length=1:=fun r hr=>by obtain ⟨_,_,rfl⟩:=List.mem_map.1 hr;rfl
theorem c8r {n:Nat} {x:Q} (h:RG (.l (t8 n)) x):RV (.sl 1 (t8 n)) (.q x):=.slq _ _ _ h (b7j n)
theorem a6s (n:Nat):(k9 n).length≤(i7 n).length:=by
 refine a7y ?_
 have h:=a1h (i7 n) (B6 n)
 rw [A9] at h
 exact Nat.lt_of_lt_of_le h (Nat.pow_le_pow_left dE _)
theorem e3q (n:Nat):sgn false n=f7 n:=b0t n
theorem f4o (hst:j5 203 a1e):j5 178 (sp2 fun a b=>.ret (.c (.s (f7 (Nat.gcd (f6 a).natAbs (f6 b).natAbs))))):=k8 (fun fn h=>e33 h) [(201,_),(202,_),(203,_)] (.cons d3c (.cons c2a (.cons hst .nil))) fun U fn hfn ⟨(a,b),ha,hbl⟩ vs bs hv hb=>by
 have hp:=hfn 201 _ rfl
 have hd:=hfn 202 _ rfl
 have hs:=hfn 203 _ rfl
 have ha:a.length < 9000:=ha
 have hbl:b.length < 9000:=hbl
 have hv:j6 [.c (.s a),.c (.s b)] vs:=hv
 have hb:g9 [] bs:=hb
 show g8 U _ fun v bs'=>j7 (.ret (.c (.s (f7 (Nat.gcd (f6 a).natAbs (f6 b).natAbs))))) v∧g9 [] bs'
 have la:=a0e a
 have lb:=a0e b
 unfold d8b
 (refine Zq ?_;intros)
 refine f5 hp ⟨a,by show a.length < 90000;omega⟩ (r:=.a (a1p (decide (f6 a < 0)) (f6 a).natAbs)) rfl j4 .nil fun _ _ hv1 _=>?_
 have hv1:RV (.a [.b _,.l (t8 _)]) _:=hv1
 (refine Zq ?_;intros)
 refine f5 hp ⟨b,by show b.length < 90000;omega⟩ (r:=.a (a1p (decide (f6 b < 0)) (f6 b).natAbs)) rfl j4 .nil fun _ _ hv2 _=>?_
 have hv2:RV (.a [.b _,.l (t8 _)]) _:=hv2
 generalize (f6 a).natAbs=x at *
 generalize (f6 b).natAbs=y at *
 (refine Zq ?_;intros)
 refine D3 (fun (p:Nat × Nat) vs bs=>∃ (m n:Nat) (v1 v2:V),p=(m,n)∧vs=[v1,v2]∧bs=[]∧RV (.c (.l (t8 m))) v1∧RV (.c (.l (t8 n))) v2∧Nat.gcd m n=Nat.gcd x y∧(i7 m).length < 9000∧(i7 n).length < 9000) (fun p=>mu p.1 p.2) (x,y) ⟨x,y,_,_,rfl,rfl,rfl,.q _ _ aS,.q _ _ aS,rfl,oM,oM⟩ (show mu x y < v8 from e1d oM oM) ?_
 rintro self _ _ _ ⟨m,n,v1,v2,rfl,rfl,rfl,h1,h2,hg,hm,hn⟩ ih
 have lm:=a6s m
 have ln:=a6s n
 (refine Zq ?_;intros)
 refine sQR h1 fun x1 g1=>?_
 (refine Zq ?_;intros)
 refine sQR h2 fun x2 g2=>?_
 (refine Zq ?_;intros)
 refine b0x g2 (b7j n) fun t off ht=>?_
 (refine Zq ?_;with_reducible repeat' first|intro _|apply aI)
 ·have hn0:n ≠ 0:=by rintro rfl;simp [t8,E7] at *
  refine f5 hd ⟨(m,n),by show (k9 m).length < 20000;omega,by show (k9 n).length < 20000;omega,hn0,by show (k9 m).length < 9000;omega,by show (k9 n).length < 9000;omega⟩ (r:=.t [.sl 1 (t8 (m / n)),.sl 1 (t8 (m % n))]) rfl (.k (c8r g1) (.k (c8r g2) .nil)) .nil fun _ _ _ _=>?_
  (refine Zq ?_;intros)
  refine ih (n,m % n) _ _ ⟨n,m % n,_,_,rfl,rfl,rfl,.q _ _ g2,.cl _ _ _ _ _ (by simp [t8]) aS,?_,hn,Nat.lt_of_le_of_lt (N1 (Nat.le_of_lt (Nat.mod_lt m (Nat.pos_of_ne_zero hn0)))) hn⟩ (c7j (Nat.pos_of_ne_zero hn0))
  rw [← hg,Nat.gcd_comm n (m % n),← Nat.gcd_rec n m,Nat.gcd_comm]
 ·have hn0:n=0:=by
   have:(t8 n).length=0:=oM
   simp only [t8,List.length_map,List.length_eq_zero_iff] at this
   exact b7b (this.trans E7.symm)
  subst hn0
  rw [Nat.gcd_zero_right] at hg
  subst hg
  refine f5 hs ⟨(false,Nat.gcd x y),by show (k9 (Nat.gcd x y)).length < 20000;omega⟩ (r:=.c (.s (f7 (Nat.gcd x y)))) (by show n5.ret (.c (.s (sgn false _)))=_;rw [e3q]) (.k (.ag _ _ (.k (.kn _) (.k (.q _ _ g1) .nil))) .nil) .nil fun _ _ _ _=>?_
  (refine Zq ?_;intros)
  exact i6 ⟨.ret _ _ (.s _ _ _ rfl rfl),.nil⟩
theorem b2j (n:Int):0 < (f8 n).length:=by
 have:=Y5 n.natAbs
 unfold f8;split <;> simp <;> omega
theorem a3m (n:Int):bt (f8 n) 0=45↔n < 0:=by
 unfold f8
 split
 ·rename_i h;exact ⟨fun _=>h,fun _=>rfl⟩
 ·rename_i h
  have:=a02 n.natAbs 0 (Y5 _)
  exact ⟨fun k=>by omega,fun k=>absurd k h⟩
theorem b8e:f8 1=k7 1 49:=by
 show f8 ((1:Nat):Int)=_
 rw [a2g,a6i];decide
theorem b29 (n:Int):f8 n=k7 1 49↔n=1:=⟨fun h=>Y4 (h.trans b8e.symm),fun h=>by subst h;exact b8e⟩
theorem a1n (n:Int):f8 n=k7 1 48↔n=0:=⟨fun h=>Y4 (h.trans dE),fun h=>by subst h;decide⟩
theorem e17:j5 177 (sp1 fun s=>.ret (.c (.s (d8v s)))):=k8 (fun fn h=>e5a h) [(176,_)] (.cons a4q .nil) fun U fn hfn ⟨s,hs⟩ vs bs hv hb=>by
 have hd:=hfn 176 _ rfl
 have hv:j6 [.c (.s s)] vs:=hv
 have hb:g9 [] bs:=hb
 have hs:s.length < 90000:=hs
 show g8 U _ fun v bs'=>j7 (.ret (.c (.s (d8v s)))) v∧g9 [] bs'
 unfold d6u
 (refine Zq ?_;intros)
 have hl:=a8q s
 refine f5 hd ⟨s,hs⟩ (r:=.c (.s (J4 s))) rfl j4 .nil fun _ _ _ _=>?_
 rw [a0u] at *
 unfold d8v
 generalize f6 s=n at *
 have h0:=b2j n
 have hbt:(((f8 n).getD 0 0).toNat:Int)=bt (f8 n) 0:=rfl
 (refine Zq ?_;with_reducible repeat' first|intro _|apply aI)
 ·have e:n=0:=(a1n n).1 ‹_›
  subst e
  exact i6 ⟨.ret _ _ (.s _ _ _ rfl rfl),.nil⟩
 ·have e:n < 0:=(a3m n).1 ‹_›
  have e2:f8 (-n)=(f8 n).drop (Int.toNat 1):=by
   unfold f8
   rw [if_pos e,if_neg oM,Int.natAbs_neg];rfl
  rw [e2]
  exact i6 ⟨.ret _ _ (.s _ _ _ rfl rfl),.nil⟩
 ·have e:¬n < 0:=fun k=>‹¬(((f8 n).getD (Int.toNat 0) 0).toNat:Int)=45› ((a3m n).2 k)
  have e0:n ≠ 0:=fun k=>‹¬f8 n=k7 1 48› ((a1n n).2 k)
  have e2:f8 (-n)=[45] ++ f8 n:=by
   unfold f8
   rw [if_neg e,if_pos oM,Int.natAbs_neg]
  rw [e2]
  refine d96 (x:=[45]) (y:=f8 n) rfl rfl rfl ?_
  exact i6 ⟨.ret _ _ (.s _ _ _ (by simp;omega) rfl),.nil⟩
theorem d1z {s:f4} (h:s.length < 9000):(k9 (f6 s).natAbs).length < 9000:=by
 have:=a0e s
 have:=a6s (f6 s).natAbs
 omega
theorem e42 {a b:Int} (hb:0 < b) (hd:b ∣ a):sgn (decide (a < 0) != decide (b < 0)) (a.natAbs / b.natAbs)=f8 (a / b):=by
 obtain ⟨q,rfl⟩:=hd
 have h1:¬b < 0:=oM
 have hb':0 < b.natAbs:=oM
 rw [Int.mul_ediv_cancel_left _ oM,Int.natAbs_mul,Nat.mul_div_cancel_left _ hb',← e2d q]
 have:decide (b * q < 0)=decide (q < 0):=by
  rw [Bool.eq_iff_iff,decide_eq_true_iff,decide_eq_true_iff]
  constructor
  ·intro h
   by_cases hq:q < 0
   ·exact hq
   ·have:=Int.mul_nonneg (show 0≤b by omega) (show 0≤q by omega);omega
  ·intro h;exact Int.mul_neg_of_pos_of_neg hb h
 rw [this,decide_eq_false h1,Bool.bne_false]
theorem d8o {a b:Int} (hd:b ∣ a):a.natAbs % b.natAbs=0:=Nat.mod_eq_zero_of_dvd (Int.natAbs_dvd_natAbs.2 hd)
def f65:Sp where
 ι:={ p:f4 × f4 // p.1.length < 9000∧p.2.length < 9000∧0 < f6 p.2∧f6 p.2 ∣ f6 p.1 }
 A p:=[.c (.s p.1.1),.c (.s p.1.2)]
 B _:=[]
 R p:=.ret (.t [.c (.s (f8 (f6 p.1.1 / f6 p.1.2))),.c (.s u6)])
 B' _:=[]
 inj i j vs bs h k _ _:=by
  obtain ⟨_,_,h1,k1,h,k⟩:=h.two k
  obtain ⟨_,_,h2,k2,h,k⟩:=h.two k
  rw [F2 h1 k1,F2 h2 k2];exact ⟨rfl,rfl⟩
theorem e2j (hst:j5 203 a1e):j5 179 f65:=k8 (fun fn h=>e1x h) [(201,_),(176,_),(202,_),(203,_)] (.cons d3c (.cons a4q (.cons c2a (.cons hst .nil)))) fun U fn hfn ⟨(a,b),ha,hbl,hb0,hba⟩ vs bs hv hb=>by
 have hp:=hfn 201 _ rfl
 have hd:=hfn 202 _ rfl
 have hs:=hfn 203 _ rfl
 have ha:a.length < 9000:=ha
 have hbl:b.length < 9000:=hbl
 have hb0:0 < f6 b:=hb0
 have hba:f6 b ∣ f6 a:=hba
 have hv:j6 [.c (.s a),.c (.s b)] vs:=hv
 have hb:g9 [] bs:=hb
 show g8 U _ fun v bs'=>j7 (.ret (.t [.c (.s (f8 (f6 a / f6 b))),.c (.s u6)])) v∧g9 [] bs'
 have la:=d1z ha
 have lb:=d1z hbl
 have e1:=e42 hb0 hba
 have e2:=d8o hba
 have hx0:(f6 b).natAbs ≠ 0:=oM
 have hq:(k9 ((f6 a).natAbs / (f6 b).natAbs)).length≤(k9 (f6 a).natAbs).length:=a8e (Nat.div_le_self _ _)
 unfold d43
 (refine Zq ?_;intros)
 refine f5 hp ⟨a,by show a.length < 90000;omega⟩ (r:=.a (a1p (decide (f6 a < 0)) (f6 a).natAbs)) rfl j4 .nil fun _ _ hv1 _=>?_
 have hv1:RV (.a [.b _,.l (t8 _)]) _:=hv1
 (refine Zq ?_;intros)
 refine f5 hp ⟨b,by show b.length < 90000;omega⟩ (r:=.a (a1p (decide (f6 b < 0)) (f6 b).natAbs)) rfl j4 .nil fun _ _ hv2 _=>?_
 have hv2:RV (.a [.b _,.l (t8 _)]) _:=hv2
 generalize (f6 a).natAbs=x at *
 generalize (f6 b).natAbs=y at *
 have hly:(t8 y).length ≠ 0:=by
  intro e
  simp only [t8,List.length_map,List.length_eq_zero_iff] at e
  exact hx0 (b7b (e.trans E7.symm))
 (refine Zq ?_;intros)
 refine b0x aS (b7j y) fun t off ht=>?_
 (refine Zq ?_;with_reducible repeat' first|intro _|apply aI)
 ·exact absurd oM hly
 ·refine f5 hd ⟨(x,y),by show (k9 x).length < 20000;omega,by show (k9 y).length < 20000;omega,hx0,la,lb⟩ (r:=.t [.sl 1 (t8 (x / y)),.sl 1 (t8 0)]) (by show n5.ret (.t [.sl 1 (t8 (x / y)),.sl 1 (t8 (x % y))])=_;rw [e2]) (.k (c8r aS) (.k (c8r aS) .nil)) .nil fun _ _ _ _=>?_
  (refine Zq ?_;with_reducible repeat' first|intro _|apply aI)
  all_goals
   refine a97 (gs:=a1p (decide (f6 a < 0) != decide (f6 b < 0)) (x / y)) (.cells _ _ (.k (.b _) (.k (.cl _ _ _ _ _ (by simp [t8]) aS) .nil))) rfl fun _ hc1=>?_
   (refine Zq ?_;intros)
   refine a97 (gs:=a1p (decide (f6 b < 0)) 0) (.cells _ _ (.k (.q _ _ aS) (.k (.cl _ _ _ _ _ (by simp [t8]) aS) .nil))) rfl fun _ hc2=>?_
   (refine Zq ?_;with_reducible repeat' first|intro _|apply aI)
   all_goals first
   | exact absurd ‹0 < (((k9 0).length:Nat):Int)› (by simp [E7])
   | refine f5 hs ⟨(_,x / y),by show (k9 (x / y)).length < 20000;omega⟩ (r:=.c (.s (f8 (f6 a / f6 b)))) (by show n5.ret (.c (.s (sgn (decide (f6 a < 0) != decide (f6 b < 0)) (x / y))))=_;rw [e1]) (.cons _ _ _ _ (.a _ _ _ rfl aS) .nil) .nil fun _ _ _ _=>?_
     (refine Zq ?_;intros)
     refine f5 hs ⟨(decide (f6 b < 0),0),by show (k9 0).length < 20000;simp [E7]⟩ (r:=.c (.s u6)) rfl (.k (.a _ _ _ rfl aS) .nil) .nil fun _ _ _ _=>?_
     (refine Zq ?_;intros)
     exact i6 ⟨.ret _ _ j4,.nil⟩
theorem c3t (s:f4):f6 (J4 s)=f6 s:=by rw [a0u,o8]
theorem c53 {a b a' b':f4} (h1:f6 a=f6 a') (h2:f6 b=f6 b'):n9 a b=n9 a' b':=by unfold n9;rw [h1,h2]
def f08 (R:f4→f4→n5):Sp where
 ι:={ p:f4 × f4 // p.1.length < 8000∧p.2.length < 8000 }
 A p:=[.c (.s p.1.1),.c (.s p.1.2)]
 B _:=[]
 R p:=R p.1.1 p.1.2
 B' _:=[]
 inj i j vs bs h k _ _:=by
  obtain ⟨_,_,h1,k1,h,k⟩:=h.two k
  obtain ⟨_,_,h2,k2,h,k⟩:=h.two k
  rw [F2 h1 k1,F2 h2 k2];exact ⟨rfl,rfl⟩
theorem c64 (n:Int):(f8 (-n)).length≤(f8 n).length+1:=by
 unfold f8
 rw [Int.natAbs_neg]
 split <;> split <;> simp <;> omega
theorem f4i (x:Int):n9 (f8 x) (f8 0)=(u6,P5):=by unfold n9;rw [o8,if_pos rfl]
theorem f4m (x:Int):n9 (f8 x) (f8 1)=(f8 x,f8 1):=by
 rw [a6v x 1 dE]
 simp
theorem e3p (x y:Int):n9 (f8 x) (f8 y)=n9 (f8 (-x)) (f8 (-y)):=by
 rw [X1,X1]
 simp only [o8]
 have:qn x y=qn (-x) (-y):=by
  unfold qn
  rw [Int.natAbs_neg,Int.natAbs_neg]
  by_cases hy:y=0
  ·rw [if_pos hy,if_pos oM]
  ·rw [if_neg hy,if_neg (show ¬-y=0 by omega)]
   by_cases hx:x=0
   ·subst hx;simp <;> (intro h;exact absurd h hy)
   ·have e:(if (x < 0)=(y < 0) then (1:Int) else -1)=if (-x < 0)=(-y < 0) then 1 else -1:=by
     by_cases h1:x < 0 <;> by_cases h2:y < 0 <;> simp [h1,h2] <;> omega
    rw [e]
 rw [this]
theorem e3s {m n:Int} (hn:0 < n) (h:Nat.gcd m.natAbs n.natAbs=1):n9 (f8 m) (f8 n)=(f8 m,f8 n):=by
 rw [a6v m n hn,h];simp
theorem c4w (hst:j5 203 a1e):j5 155 (f08 fun a b=>.ret (.t [.c (.s (n9 a b).1),.c (.s (n9 a b).2)])):=k8 (fun fn h=>e4l h) [(176,_),(177,_),(178,_),(179,_)] (.cons a4q (.cons e17 (.cons (f4o hst) (.cons (e2j hst) .nil)))) fun U fn hfn ⟨(a,b),ha,hbl⟩ vs bs hv hb=>by
 have hd:=hfn 176 _ rfl
 have hn:=hfn 177 _ rfl
 have hg:=hfn 178 _ rfl
 have hq:=hfn 179 _ rfl
 have ha:a.length < 8000:=ha
 have hbl:b.length < 8000:=hbl
 have hv:j6 [.c (.s a),.c (.s b)] vs:=hv
 have hb:g9 [] bs:=hb
 show g8 U _ fun v bs'=>j7 (.ret (.t [.c (.s (n9 a b).1),.c (.s (n9 a b).2)])) v∧g9 [] bs'
 unfold d73
 (refine Zq ?_;intros)
 refine f5 hd ⟨a,by show a.length < 90000;omega⟩ (r:=.c (.s (J4 a))) rfl j4 .nil fun _ _ _ _=>?_
 (refine Zq ?_;intros)
 refine f5 hd ⟨b,by show b.length < 90000;omega⟩ (r:=.c (.s (J4 b))) rfl j4 .nil fun _ _ _ _=>?_
 have la:(J4 a).length < 8000:=by have:=a8q a;omega
 have lb:(J4 b).length < 8000:=by have:=a8q b;omega
 rw [c53 (c3t a).symm (c3t b).symm]
 rw [a0u a,a0u b] at *
 generalize f6 a=x at *
 generalize f6 b=y at *
 have h0:=b2j y
 have hbt:(((f8 y).getD 0 0).toNat:Int)=bt (f8 y) 0:=rfl
 (refine Zy ?_;intros)
 refine L2 (fun vs bs=>∃ m n:Int,j6 [.c (.s (f8 m)),.c (.s (f8 n))] vs∧g9 [] bs∧0 < n∧(f8 m).length < 8500∧(f8 n).length < 8500∧n9 (f8 x) (f8 y)=n9 (f8 m) (f8 n)) ?_ ?_
 ·rintro vs' bs' ⟨m,n,hv',hb',hn0,hml,hnl,he⟩
  rw [he]
  have hgv:n5.ret (.c (.s (f7 (Nat.gcd (f6 (f8 m)).natAbs (f6 (f8 n)).natAbs))))=.ret (.c (.s (f7 (Nat.gcd m.natAbs n.natAbs)))):=by rw [o8,o8]
  obtain ⟨g,hge⟩:∃ g,g=Nat.gcd m.natAbs n.natAbs:=⟨_,rfl⟩
  rw [← hge] at hgv
  have hg0:0 < g:=by rw [hge];exact Nat.gcd_pos_of_pos_right _ oM
  have hgd:(g:Int) ∣ m∧(g:Int) ∣ n:=by
   rw [hge];exact ⟨Int.ofNat_dvd_left.2 (Nat.gcd_dvd_left _ _),Int.ofNat_dvd_left.2 (Nat.gcd_dvd_right _ _)⟩
  have hdv:f6 (f7 g)=(g:Int):=y9 g
  have hgl:(f7 g).length < 9000:=by
   have h1:=a6c g
   have h2:(i7 g).length≤(i7 n.natAbs).length:=N1 (by rw [hge];exact Nat.le_of_dvd oM (Nat.gcd_dvd_right _ _))
   have h3:=c15 n
   omega
  (refine Zq ?_;intros)
  refine f5 hg ⟨(f8 m,f8 n),by show (f8 m).length < 9000;omega,by show (f8 n).length < 9000;omega⟩ (r:=.c (.s (f7 g))) hgv j4 .nil fun _ _ _ _=>?_
  (refine Zq ?_;with_reducible repeat' first|intro _|apply aI)
  ·have e1:g=1:=by
    have:=(b29 (g:Int)).1 (by rw [a2g];assumption)
    omega
   rw [e3s hn0 (by rw [← hge];exact e1)]
   exact i6 ⟨.ret _ _ j4,.nil⟩
  ·rw [a6v m n hn0,← hge]
   refine f5 hq ⟨(f8 m,f7 g),by show (f8 m).length < 9000;omega,hgl,by show 0 < f6 (f7 g);omega,by show f6 (f7 g) ∣ f6 (f8 m);rw [hdv,o8];exact hgd.1⟩ (r:=.t [.c (.s (f8 (m / g))),.c (.s u6)]) (by show n5.ret (.t [.c (.s (f8 (f6 (f8 m) / f6 (f7 g)))),.c (.s u6)])=_;rw [hdv,o8]) j4 .nil fun _ _ _ _=>?_
   (refine Zq ?_;intros)
   refine f5 hq ⟨(f8 n,f7 g),by show (f8 n).length < 9000;omega,hgl,by show 0 < f6 (f7 g);omega,by show f6 (f7 g) ∣ f6 (f8 n);rw [hdv,o8];exact hgd.2⟩ (r:=.t [.c (.s (f8 (n / g))),.c (.s u6)]) (by show n5.ret (.t [.c (.s (f8 (f6 (f8 n) / f6 (f7 g)))),.c (.s u6)])=_;rw [hdv,o8]) j4 .nil fun _ _ _ _=>?_
   (refine Zq ?_;intros)
   exact i6 ⟨.ret _ _ j4,.nil⟩
 ·intro c hc
  (refine Zq ?_;with_reducible repeat' first|intro _|apply aI)
  ·have e:y=0:=(a1n y).1 ‹_›
   subst e
   rw [f4i]
   exact i6 ⟨.ret _ _ j4,.nil⟩
  ·have e:y=1:=(b29 y).1 ‹_›
   subst e
   rw [f4m]
   exact i6 ⟨.ret _ _ j4,.nil⟩
  ·have e:y < 0:=(a3m y).1 ‹_›
   refine f5 hn ⟨f8 x,by show (f8 x).length < 90000;omega⟩ (r:=.c (.s (f8 (-x)))) (by show n5.ret (.c (.s (f8 (-f6 (f8 x)))))=_;rw [o8]) j4 .nil fun _ _ _ _=>?_
   (refine Zq ?_;intros)
   refine f5 hn ⟨f8 y,by show (f8 y).length < 90000;omega⟩ (r:=.c (.s (f8 (-y)))) (by show n5.ret (.c (.s (f8 (-f6 (f8 y)))))=_;rw [o8]) j4 .nil fun _ _ _ _=>?_
   (refine Zq ?_;intros)
   have l1:=c64 x
   have l2:=c64 y
   exact hc _ _ ⟨-x,-y,by (exact j4),.nil,oM,oM,oM,e3p x y⟩
  ·have e:¬y < 0:=fun k=>‹¬(((f8 y).getD (Int.toNat 0) 0).toNat:Int)=45› ((a3m y).2 k)
   have e0:y ≠ 0:=fun k=>‹¬f8 y=k7 1 48› ((a1n y).2 k)
   exact hc _ _ ⟨x,y,by (exact j4),.nil,oM,oM,oM,rfl⟩
theorem b5q {p:UInt8→Bool}:∀ {l:f4},l.dropWhile p=[]↔∀ b ∈ l,p b=true
 | []=>by simp
 | c :: l=>by
  by_cases h:p c=true
  ·rw [List.dropWhile_cons_of_pos h,b5q];simp [h]
  ·rw [List.dropWhile_cons_of_neg h];simp [h]
theorem c7i {p:UInt8→Bool} {c:UInt8} {r:f4}:∀ {l:f4},l.dropWhile p=c :: r→p c=false
 | [],h=>by simp at h
 | d :: l,h=>by
  by_cases hp:p d=true
  ·rw [List.dropWhile_cons_of_pos hp] at h;exact c7i h
  ·rw [List.dropWhile_cons_of_neg hp] at h
   injection h with h _;subst h;simpa using hp
theorem c4b {l cs:f4}:Lib.trimS l cs=[]↔∀ b ∈ l,cs.contains b=true:=by
 unfold Lib.trimS Lib.trimLeftS Lib.trimRightS
 constructor
 ·intro h
  have h1:=b5q.1 h
  cases hd:l.reverse.dropWhile (cs.contains ·) with
  | nil=>intro b hb;exact b5q.1 hd b (List.mem_reverse.2 hb)
  | cons c r =>
   rw [hd] at h1
   have h2:=h1 c (by simp)
   have h3:=c7i hd
   rw [h2] at h3;cases h3
 ·intro h
  have:l.reverse.dropWhile (cs.contains ·)=[]:=b5q.2 fun b hb=>h b (List.mem_reverse.1 hb)
  rw [this];rfl
def ten:f4:=k7 10 270211885617516653982000
theorem c75 (b:UInt8):ten.contains b=P8 b.toNat:=by
 have key:∀ n:Fin 256,ten.contains (UInt8.ofNat n.1)=P8 n.1:=dE
 have:=key ⟨b.toNat,b.toNat_lt⟩
 simpa using this
def E4 (u:f4):Bool:=decide (u ≠ []∧j8 u 0=u.length)
theorem a73 {u:f4} {k:Nat} (hk:k≤u.length):j8 u k=u.length↔∀ j,k≤j→j < u.length→48≤bt u j∧bt u j≤57 :=
 ⟨fun h j h1 h2=>W7 u k j h1 oM,fun h=>P9 u k hk h⟩
theorem d4r (u:f4):decide (Lib.trimS u ten=[])=decide (j8 u 0=u.length):=by
 rw [Bool.eq_iff_iff,decide_eq_true_iff,decide_eq_true_iff,c4b,a73 (Nat.zero_le _)]
 constructor
 ·intro h j _ hj
  have:=h u[j] (List.getElem_mem hj)
  rw [c75] at this
  have e:bt u j=u[j].toNat:=by unfold bt;simp [List.getD,List.getElem?_eq_getElem hj]
  rw [e];simpa [P8] using this
 ·intro h b hb
  obtain ⟨j,hj,rfl⟩:=List.getElem_of_mem hb
  rw [c75]
  have e:bt u j=u[j].toNat:=by unfold bt;simp [List.getD,List.getElem?_eq_getElem hj]
  have:=h j (Nat.zero_le _) hj
  rw [e] at this;simpa [P8] using this
theorem e3z:j5 183 (sp1 fun s=>.ret (.c (.b (E4 s)))):=k8 (fun fn h=>e49 h) [(165,_)] (.cons d1l .nil) fun U fn hfn ⟨s,hs⟩ vs bs hv hb=>by
 have ht:=hfn 165 _ rfl
 have hv:j6 [.c (.s s)] vs:=hv
 have hb:g9 [] bs:=hb
 have hs:s.length < 90000:=hs
 show g8 U _ fun v bs'=>j7 (.ret (.c (.b (E4 s)))) v∧g9 [] bs'
 unfold d9c
 (refine Zq ?_;with_reducible repeat' first|intro _|apply aI)
 ·have h0:s=k7 0 0:=‹_›
  have e:E4 s=false:=by unfold E4;rw [decide_eq_false];exact fun h=>h.1 h0
  rw [e]
  exact i6 ⟨.ret _ _ (.kn _),.nil⟩
 ·have h0:¬s=k7 0 0:=‹_›
  refine f5 ht ⟨(s,ten),by show s.length < 4294967281;omega,(by decide:ten.length < 4294967281),(by decide:∀ b ∈ ten,b.toNat < 128)⟩ (r:=.c (.s (Lib.trimS s ten))) rfl j4 .nil fun _ _ _ _=>?_
  (refine Zq ?_;intros)
  exact D8 fun e=>by
   subst e
   refine ⟨.ret _ _ (K9 ?_),.nil⟩
   rw [b0j]
   show E4 s=decide (Lib.trimS s ten=[])
   rw [d4r]
   unfold E4
   rw [Bool.eq_iff_iff,decide_eq_true_iff,decide_eq_true_iff]
   exact ⟨fun h=>h.2,fun h=>⟨h0,h⟩⟩
theorem f48 {s:f4} {c:UInt8} (h:0≤Lib.indexByte s c):bt s (Lib.indexByte s c).toNat=c.toNat∧∀ j,j < (Lib.indexByte s c).toNat→bt s j ≠ c.toNat:=by
 induction s with
 | nil=>simp [Lib.indexByte] at h
 | cons b r ih =>
  have ex:Lib.indexByte (b :: r) c=if b=c then 0 else if Lib.indexByte r c=-1 then -1 else Lib.indexByte r c+1:=by simp only [Lib.indexByte,beq_iff_eq]
  rw [ex] at h ⊢
  by_cases hb:b=c
  ·rw [if_pos hb];subst hb;exact ⟨rfl,fun j hj=>by simp at hj⟩
  ·rw [if_neg hb] at h ⊢
   by_cases h1:Lib.indexByte r c=-1
   ·rw [if_pos h1] at h;omega
   ·rw [if_neg h1] at h ⊢
    have hge:=(R7 r c).2
    obtain ⟨i1,i2⟩:=ih oM
    rw [show (Lib.indexByte r c+1).toNat=(Lib.indexByte r c).toNat+1 by omega]
    refine ⟨by rw [X4];exact i1,fun j hj=>?_⟩
    cases j with
    | zero=>exact fun e=>hb (UInt8.toNat_inj.1 (by have:bt (b :: r) 0=b.toNat:=rfl;omega))
    | succ j=>rw [X4];exact i2 j oM
theorem e1r {s:f4} {c:UInt8} (h:¬0≤Lib.indexByte s c):∀ j,j < s.length→bt s j ≠ c.toNat:=by
 induction s with
 | nil=>intro j hj;simp at hj
 | cons b r ih =>
  have ex:Lib.indexByte (b :: r) c=if b=c then 0 else if Lib.indexByte r c=-1 then -1 else Lib.indexByte r c+1:=by simp only [Lib.indexByte,beq_iff_eq]
  rw [ex] at h
  by_cases hb:b=c
  ·rw [if_pos hb] at h;omega
  ·rw [if_neg hb] at h
   have hge:=(R7 r c).2
   have h1:¬0≤Lib.indexByte r c:=by split at h <;> omega
   intro j hj
   cases j with
   | zero=>exact fun e=>hb (UInt8.toNat_inj.1 (by have:bt (b :: r) 0=b.toNat:=rfl;omega))
   | succ j=>rw [X4];exact ih h1 j (by simpa using hj)
theorem c52 (s:f4) (i:Nat):j8 s i < s.length→¬(48≤bt s (j8 s i)∧bt s (j8 s i)≤57):=by
 fun_induction j8 s i with
 | case1 i h1 h2 ih=>exact ih
 | case2 i h1 h2=>intro _ h;exact h2 (by simpa [P8] using h)
 | case3 i h1=>intro h;exact absurd h h1
def u4 (s:f4):f4 × f4:=((G6 s 47).1,if (G6 s 47).2.2 then (G6 s 47).2.1 else P5)
theorem d1k {s:f4} {i p:Nat} (hp:p≤s.length) (hi:i≤p) (hn:p < s.length→¬(48≤bt s p∧bt s p≤57)):(∀ j,i≤j→j < p→48≤bt s j∧bt s j≤57)↔j8 s i=p:=by
 constructor
 ·intro h
  have hA:At s i ((s.take p).drop i) (s.drop p):=by
   unfold At
   have:=(List.take_append_drop p s).symm
   conv=>lhs;rw [this]
   rw [List.drop_append_of_le_length (by simp;omega)]
  have hl:((s.take p).drop i).length=p - i:=by simp;omega
  rw [d29 hA (fun j hj=>by
   rw [hl] at hj
   have e:bt ((s.take p).drop i) j=bt s (i+j):=by rw [a10];unfold bt;simp [List.getD,List.getElem?_take,show i+j < p by omega]
   rw [e];exact h _ oM oM) ?_,hl]
  ·omega
  ·by_cases h2:p < s.length
   ·right;rw [a10];exact hn h2
   ·left;exact List.drop_eq_nil_of_le oM
 ·intro h j h1 h2;exact W7 s i j h1 oM
theorem a6l {s:f4} {i p:Nat} (hp:p≤s.length) (hi:i≤p) (hn:p < s.length→¬(48≤bt s p∧bt s p≤57)):E4 ((s.take p).drop i)=decide (i < p∧j8 s i=p):=by
 unfold E4
 have hl:((s.take p).drop i).length=p - i:=by simp;omega
 rw [Bool.eq_iff_iff,decide_eq_true_iff,decide_eq_true_iff,a73 (Nat.zero_le _),hl,← d1k hp hi hn]
 have hb:∀ j,j < p - i→bt ((s.take p).drop i) j=bt s (i+j):=fun j hj=>by
  rw [a10];unfold bt;simp [List.getD,List.getElem?_take,show i+j < p by omega]
 constructor
 ·rintro ⟨h1,h2⟩
  refine ⟨?_,fun j h3 h4=>?_⟩
  ·have:=List.length_pos_iff.2 h1;omega
  ·have:=h2 (j - i) (Nat.zero_le _) oM
   rw [hb _ oM,show i+(j - i)=j by omega] at this;exact this
 ·rintro ⟨h1,h2⟩
  refine ⟨fun e=>by rw [e] at hl;simp at hl;omega,fun j _ hj=>?_⟩
  rw [hb j hj];exact h2 _ oM oM
theorem c56 {s:f4} {p:Nat} (hp:g7 s≤p) (hl:p≤s.length):C4 (s.take p) [45]=(s.take p).drop (g7 s):=by
 rw [U1]
 congr 1
 have hs:=J8 s
 unfold g7 at hp ⊢
 have hlen:(s.take p).length=p:=by simp;omega
 by_cases h:0 < s.length∧bt s 0=45
 ·rw [if_pos h] at hp ⊢
  rw [if_pos ⟨oM,by unfold bt at *;simp only [List.getD,List.getElem?_take];rw [if_pos oM];exact h.2⟩]
 ·rw [if_neg h]
  rw [if_neg]
  rintro ⟨h1,h2⟩
  refine h ⟨oM,?_⟩
  unfold bt at h2 ⊢
  simp only [List.getD,List.getElem?_take] at h2
  rw [if_pos oM] at h2;exact h2
theorem c8z:E4 P5=true:=by
 unfold E4
 refine decide_eq_true ⟨dE,P9 P5 0 dE ?_⟩
 intro j _ hj
 have e:j=0:=Nat.lt_one_iff.1 hj
 rw [e];decide
theorem b6m (s:f4):(E4 (C4 (u4 s).1 [45]) && E4 (u4 s).2)=(m6 s).2.2∧((m6 s).2.2=true→(m6 s).1=(u4 s).1∧(m6 s).2.1=(u4 s).2):=by
 have hs:=J8 s
 have hd:=d14 s (g7 s) hs.1
 have hstop:=c52 s (g7 s)
 have hsg:∀ j,j < g7 s→bt s j=45:=fun j hj=>by
  unfold g7 at hj
  split at hj
  ·rename_i h;have:j=0:=oM
   subst this;exact h.2
  ·omega
 unfold u4 G6
 by_cases hp:0≤Lib.indexByte s 47
 ·obtain ⟨p1,p2⟩:=f48 hp
  have p3:=(R7 s 47).1
  simp only [if_pos hp]
  obtain ⟨p,hpe⟩:∃ p,p=(Lib.indexByte s 47).toNat:=⟨_,rfl⟩
  rw [show (Lib.indexByte s 47+1).toNat=p+1 by omega]
  rw [← hpe] at p1 p2 ⊢
  have hpl:p < s.length:=oM
  have hip:g7 s≤p:=by
   by_cases h:p < g7 s
   ·have:=hsg p h;rw [p1] at this;simp at this
   ·omega
  have p1':bt s p=47:=p1
  have hkp:j8 s (g7 s)≤p:=by
   by_cases h:p < j8 s (g7 s)
   ·have:=W7 s (g7 s) p hip h;omega
   ·omega
  rw [c56 hip oM,a6l oM hip (fun _=>by omega)]
  have hden:s.drop (p+1)=(s.take s.length).drop (p+1):=by rw [List.take_length]
  simp only [if_true]
  rw [hden,a6l (Nat.le_refl _) oM (fun h=>by omega)]
  unfold m6
  simp only []
  by_cases h1:j8 s (g7 s)=g7 s
  ·rw [if_pos h1]
   refine ⟨?_,fun h=>by cases h⟩
   rw [decide_eq_false oM];rfl
  ·rw [if_neg h1,if_neg oM]
   by_cases h2:j8 s (g7 s)=p
   ·rw [h2]
    by_cases h3:p+1=s.length
    ·rw [if_pos (.inr h3)]
     refine ⟨?_,fun h=>by cases h⟩
     rw [show decide (p+1 < s.length∧j8 s (p+1)=s.length)=false from decide_eq_false oM,Bool.and_false]
    ·rw [if_neg oM]
     have hsp:g7 s < p:=oM
     by_cases h4:j8 s (p+1)=s.length
     ·rw [if_pos h4]
      refine ⟨?_,fun _=>⟨by simp,by simp⟩⟩
      rw [decide_eq_true ⟨hsp,rfl⟩,decide_eq_true ⟨oM,h4⟩];rfl
     ·rw [if_neg h4]
      refine ⟨?_,fun h=>by cases h⟩
      rw [show decide (p+1 < s.length∧j8 s (p+1)=s.length)=false from decide_eq_false (fun h=>h4 h.2),Bool.and_false]
   ·rw [if_pos (.inl (p2 _ oM))]
    refine ⟨?_,fun h=>by cases h⟩
    rw [decide_eq_false (fun h=>h2 h.2)];rfl
 ·have p2:=e1r hp
  simp only [if_neg hp]
  rw [show C4 s [45]=(s.take s.length).drop (g7 s) by rw [List.take_length,U1],a6l (Nat.le_refl _) hs.1 (fun h=>by omega)]
  simp only [Bool.false_eq_true,if_false]
  rw [c8z,Bool.and_true]
  unfold m6
  simp only []
  by_cases h1:j8 s (g7 s)=g7 s
  ·rw [if_pos h1]
   refine ⟨decide_eq_false oM,fun h=>by cases h⟩
  ·rw [if_neg h1]
   by_cases h2:j8 s (g7 s)=s.length
   ·rw [if_pos h2]
    exact ⟨decide_eq_true ⟨oM,h2⟩,fun _=>⟨rfl,rfl⟩⟩
   ·rw [if_neg h2,if_pos (.inl (p2 _ oM))]
    exact ⟨decide_eq_false (fun h=>h2 h.2),fun h=>by cases h⟩
theorem d3h:k7 1 47=[47]:=dE
theorem d76:j5 164 (sp1 fun s=>.ret (.t [.c (.s (u4 s).1),.c (.s (u4 s).2),.c (.b (m6 s).2.2)])):=k8 (fun fn h=>e4c h) [(182,_),(184,_),(183,_)] (.cons f7e (.cons Y3 (.cons e3z .nil))) fun U fn hfn ⟨s,hs⟩ vs bs hv hb=>by
 have hc:=hfn 182 _ rfl
 have ht:=hfn 184 _ rfl
 have hi:=hfn 183 _ rfl
 have hv:j6 [.c (.s s)] vs:=hv
 have hb:g9 [] bs:=hb
 have hs:s.length < 90000:=hs
 show g8 U _ fun v bs'=>j7 (.ret (.t [.c (.s (u4 s).1),.c (.s (u4 s).2),.c (.b (m6 s).2.2)])) v∧g9 [] bs'
 unfold d8e
 obtain ⟨n1,n2⟩:=b6m s
 have hl:(u4 s).1.length≤s.length∧((u4 s).2.length≤s.length∨(u4 s).2.length≤1):=by
  unfold u4 G6
  split <;> simp [P5] <;> omega
 have hcp:(C4 (u4 s).1 [45]).length≤(u4 s).1.length:=by unfold C4;split <;> simp
 rw [← n1]
 (refine Zq ?_;intros)
 refine f5 hc ⟨(s,k7 1 47),⟨hs,47,d3h⟩⟩ (r:=.t [.c (.s (G6 s 47).1),.c (.s (G6 s 47).2.1),.c (.b (G6 s 47).2.2)]) (by show n5.ret (.t [.c (.s (G6 s ((k7 1 47).headD 0)).1),.c (.s (G6 s ((k7 1 47).headD 0)).2.1),.c (.b (G6 s ((k7 1 47).headD 0)).2.2)])=_;rw [d3h];rfl) j4 .nil fun _ _ _ _=>?_
 (refine Zy ?_;intros)
 refine L2 (fun vs bs=>j6 [.c (.s (u4 s).1),.c (.s (u4 s).2)] vs∧g9 [] bs) ?_ ?_
 ·rintro vs' bs' ⟨hv',hb'⟩
  (refine Zq ?_;intros)
  refine f5 ht ⟨((u4 s).1,k7 1 45),trivial⟩ (r:=.c (.s (C4 (u4 s).1 [45]))) (by show n5.ret (.c (.s (C4 _ (k7 1 45))))=_;rw [b6g]) j4 .nil fun _ _ _ _=>?_
  (refine Zq ?_;intros)
  refine f5 hi ⟨C4 (u4 s).1 [45],oM⟩ (r:=.c (.b (E4 (C4 (u4 s).1 [45])))) rfl j4 .nil fun _ _ _ _=>?_
  (refine Zq ?_;with_reducible repeat' first|intro _|apply aI)
  ·have h1:E4 (C4 (u4 s).1 [45])=true:=‹_›
   rw [h1,Bool.true_and]
   refine f5 hi ⟨(u4 s).2,oM⟩ (r:=.c (.b (E4 (u4 s).2))) rfl j4 .nil fun _ _ _ _=>?_
   (refine Zq ?_;intros)
   exact i6 ⟨.ret _ _ j4,.nil⟩
  ·have h1:E4 (C4 (u4 s).1 [45])=false:=by simpa using ‹¬E4 (C4 (u4 s).1 [45])=true›
   rw [h1,Bool.false_and]
   exact i6 ⟨.ret _ _ j4,.nil⟩
 ·intro c hc
  have e1:(u4 s).1=(G6 s 47).1:=rfl
  have e2:(u4 s).2=if (G6 s 47).2.2 then (G6 s 47).2.1 else P5:=rfl
  (refine Zq ?_;with_reducible repeat' first|intro _|apply aI)
  ·refine hc _ _ ⟨?_,.nil⟩
   rw [e1,e2,if_pos ‹_›]
   exact j4
  ·refine hc _ _ ⟨?_,.nil⟩
   rw [e1,e2,if_neg ‹_›]
   exact j4
theorem d25 (s:f4) (a:Nat):Lib.trimLeftS (s.drop a) [48]=s.drop (z7 s a):=by
 fun_induction z7 s a with
 | case1 a h1 h2 ih =>
  rw [← ih,List.drop_eq_getElem_cons h1]
  have:s[a]=48:=UInt8.toNat_inj.1 (by have e:bt s a=s[a].toNat:=by unfold bt;simp [List.getD,List.getElem?_eq_getElem h1]
                                      rw [e] at h2;show s[a].toNat=48;omega)
  unfold Lib.trimLeftS
  rw [List.dropWhile_cons_of_pos (by rw [this];decide)]
 | case2 a h1 h2 =>
  rw [List.drop_eq_getElem_cons h1]
  unfold Lib.trimLeftS
  rw [List.dropWhile_cons_of_neg]
  simp only [List.contains_cons,List.contains_nil,Bool.or_false,beq_iff_eq]
  intro e
  refine h2 ?_
  unfold bt;simp [List.getD,List.getElem?_eq_getElem h1,e]
 | case3 a h1=>rw [List.drop_eq_nil_of_le oM];rfl
theorem e7o:j5 166 (sp1 fun s=>.ret (.c (.s (plain s)))):=k8 (fun fn h=>e12 h) [(184,_),(192,_)] (.cons Y3 (.cons d05 .nil)) fun U fn hfn ⟨s,hs⟩ vs bs hv hb=>by
 have ht:=hfn 184 _ rfl
 have hl:=hfn 192 _ rfl
 have hv:j6 [.c (.s s)] vs:=hv
 have hb:g9 [] bs:=hb
 have hs:s.length < 90000:=hs
 show g8 U _ fun v bs'=>j7 (.ret (.c (.s (plain s)))) v∧g9 [] bs'
 unfold d9o
 (refine Zq ?_;intros)
 refine f5 ht ⟨(s,k7 1 45),trivial⟩ (r:=.c (.s (s.drop (g7 s)))) (by show n5.ret (.c (.s (C4 s (k7 1 45))))=_;rw [b6g,U1]) j4 .nil fun _ _ _ _=>?_
 (refine Zq ?_;intros)
 refine f5 hl ⟨(s.drop (g7 s),k7 1 48),by show (s.drop (g7 s)).length < 4294967281;simp;omega,(by decide:(k7 1 48).length < 4294967281),(by decide:∀ b ∈ k7 1 48,b.toNat < 128)⟩ (r:=.c (.s (s.drop (z7 s (g7 s))))) (by show n5.ret (.c (.s (Lib.trimLeftS (s.drop (g7 s)) (k7 1 48))))=_;rw [← d25];rfl) j4 .nil fun _ _ _ _=>?_
 have hsl:=J8 s
 have hz:=a77 s (g7 s) hsl.1
 have hbt:((s.getD 0 0).toNat:Int)=bt s 0:=rfl
 have e1:plain s=if z7 s (g7 s)=s.length then u6 else if g7 s=1 then [45] ++ s.drop (z7 s (g7 s)) else s.drop (z7 s (g7 s)):=by unfold plain;simp only [List.take_length]
 rw [e1]
 generalize z7 s (g7 s)=z at *
 have hdl:(s.drop z).length=s.length - z:=by simp
 have hpos:¬s.drop z=k7 0 0→0 < s.length:=fun h=>by
  rcases Nat.lt_or_ge 0 s.length with h2 | h2
  ·exact h2
  ·exact absurd (List.drop_eq_nil_of_le oM) h
 have hsg:g7 s=1↔(0 < s.length∧bt s 0=45):=by unfold g7;split <;> simp [*]
 (refine Zq ?_;with_reducible repeat' first|intro _|apply aI)
 ·have:z=s.length:=by
   have h:s.drop z=[]:=‹_›
   have:=List.drop_eq_nil_iff.1 h;omega
  rw [if_pos this]
  exact i6 ⟨.ret _ _ (.s _ _ _ rfl rfl),.nil⟩
 ·have h0:¬s.drop z=k7 0 0:=‹_›
  have hp:=hpos h0
  rw [if_neg (fun e=>h0 (List.drop_eq_nil_of_le oM))]
  (refine Zq ?_;with_reducible repeat' first|intro _|apply aI)
  ·rw [if_pos (hsg.2 ⟨hp,‹_›⟩)]
   refine d96 (x:=[45]) (y:=s.drop z) rfl rfl rfl ?_
   exact i6 ⟨.ret _ _ (.s _ _ _ (by simp;omega) rfl),.nil⟩
  ·rw [if_neg (fun e=>‹¬_› (hsg.1 e).2)]
   exact i6 ⟨.ret _ _ (.s _ _ _ rfl rfl),.nil⟩
end
end Go.Proofs.YtffaodopiifbkaaGreatDoor
