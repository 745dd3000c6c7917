/- The program's numbers: a text as limbs. -/
import Derived.Test.YtffaodopiifbkaaGreatDoorCEC
set_option linter.all false
namespace Go.Proofs.YtffaodopiifbkaaGreatDoor
open Go.Abs LQ Go.RowKit Go.Lib Go.Sort
set_option maxRecDepth 100000
set_option maxHeartbeats 4000000
noncomputable section
theorem e3f (l:List UInt8):∀ acc:Nat,(∀ c ∈ l,48≤c.toNat∧c.toNat≤57)→acc * 10 ^ l.length+C2 l≤4294967295→Lib.parseUintM 4294967295 acc l=.ok (acc * 10 ^ l.length+C2 l):=by
 induction l with
 | nil=>intro acc _ _;simp [Lib.parseUintM,C2,A0]
 | cons c r ih =>
  intro acc hd h
  obtain ⟨h1,h2⟩:=hd c (by simp)
  have e:C2 (c :: r)=(c.toNat - 48) * 10 ^ r.length+C2 r:=by
   rw [b43]
   have:(bt [c] 0 - 48).toNat=c.toNat - 48:=by show (((c.toNat:Nat):Int) - 48).toNat=_;omega
   rw [this]
  rw [e,List.length_cons,Nat.pow_succ] at h ⊢
  have hp:1≤10 ^ r.length:=Nat.one_le_pow _ _ (by decide)
  have e2:(acc * 10+(c.toNat - 48)) * 10 ^ r.length+C2 r=acc * (10 ^ r.length * 10)+((c.toNat - 48) * 10 ^ r.length+C2 r):=by
   rw [Nat.add_mul,Nat.mul_assoc,Nat.mul_comm 10,Nat.add_assoc]
  have hb:acc * 10+(c.toNat - 48)≤(acc * 10+(c.toNat - 48)) * 10 ^ r.length:=Nat.le_mul_of_pos_right _ hp
  rw [Lib.parseUintM,if_pos ⟨h1,h2⟩,if_neg (by omega),if_neg (by omega),ih _ (fun d hd'=>hd d (by simp [hd'])) (by rw [e2];exact h),e2]
theorem e0u {s:i7} (h:∀ j,j < s.length→48≤bt s j∧bt s j≤57):∀ c ∈ s,48≤c.toNat∧c.toNat≤57:=fun c hc=>by
 obtain ⟨j,hj,rfl⟩:=List.getElem_of_mem hc
 have:=h j hj
 unfold bt at this
 simp only [List.getD,List.getElem?_eq_getElem hj,Option.getD_some] at this
 omega
theorem e3l {s:i7} (h0:0 < s.length) (h9:s.length≤9) (h:∀ j,j < s.length→48≤bt s j∧bt s j≤57):Lib.parseUintB 32 s=.ok (C2 s):=by
 have hl:=c10 s h
 have hp:(10:Nat) ^ s.length≤10 ^ 9:=Nat.pow_le_pow_right (by decide) h9
 have:=e3f s 0 (e0u h) (by rw [Nat.zero_mul];omega)
 rw [Nat.zero_mul,Nat.zero_add] at this
 unfold Lib.parseUintB
 rw [if_neg (by intro e;subst e;simp at h0)]
 exact this
def f1c:Sp where
 ι:={ s:i7 // 0 < s.length∧s.length≤9∧∀ j,j < s.length→48≤bt s j∧bt s j≤57 }
 A s:=[.c (.s s.1),.c (.i .i64 10),.c (.i .i64 32)]
 B _:=[]
 R s:=.ret (.t [.c (.i .u64 ((C2 s.1:Nat):Int)),.nilI])
 B' _:=[]
 inj i j vs bs h k _ _:=by
  obtain ⟨_,_,h1,k1,h,k⟩:=h.two k
  rw [H3 h1 k1];exact ⟨rfl,rfl⟩
theorem kPU:l5 221 f1c:=fun ⟨s,h0,h9,hd⟩ vs bs hv hb=>by
 change l9 [.c (.s s),.c (.i .i64 10),.c (.i .i64 32)] vs at hv
 cases hb
 refine ⟨.ret (.tuple [.int .u64 ((C2 s:Nat):Int),.nilIface]),[],fun hok=>?_,.ret _ _ (.t _ _ (.cons _ _ _ _ (.i _ _) (.cons _ _ _ _ .nilI .nil))),.nil⟩
 have hx:vs.map toD=[D.str s,.int .i64 10,.int .i64 32]:=by
  cases hv with
  | cons _ _ v _ h1 h2=>cases h2 with
   | cons _ _ v2 _ h2 h3=>cases h3 with
    | cons _ _ v3 _ h3 h4 =>
     cases h4
     rw [List.map_cons,List.map_cons,List.map_cons,c0n h1,c62 h2,c62 h3];rfl
 rw [hx]
 refine O0 (d:=.tuple [.int .u64 ((C2 s:Nat):Int),.nilIface]) Tryz.call221 fun w S M us hg hwi hr=>?_
 have hus:us=[.string ⟨s.toArray⟩,.int .i64 10,.int .i64 32]:=by
  cases hr with
  | cons _ _ _ _ r1 r2=>cases r2 with
   | cons _ _ _ _ r2 r3=>cases r3 with
    | cons _ _ _ _ r3 r4 =>
     cases r4;cases r1;cases r2;cases r3
     rename_i sb hs
     rw [d0w hs]
 subst hus
 refine (Any.strconv_ParseUint_10_at32_ok Tryz.laysPu14 ⟨s.toArray⟩ (by simp [ByteArray.size];omega) (C2 s) (e3l h0 h9 hd) w).mono ?_
 rintro e w' ⟨rfl,hw⟩
 have hb:Below w.heap.size w w':=by
  rcases hw with rfl | rfl
  ·exact Below.refl _ _
  ·exact Lib.bytesWorld_below _ _ _
 refine ⟨hb,_,S,rfl,⟨fun _ _ h=>h,fun _ _ h=>.inl h⟩,a1t hwi hb,.tuple _ _ (.cons _ _ _ _ (.int _ _) (.cons _ _ _ _ .nilIface .nil)),⟨(fun _ _ _ h=>by cases h),fun vs ds hv hd i u e h1 h2=>?_⟩⟩
 injection hv with hv
 injection hd with hd
 subst hv hd
 intro len c z he
 subst he
 match i with
 | 0=>simp at h2
 | 1=>simp at h2
 | i+2=>simp at h2
section
variable {U:w7} {P:G3→List Bx→Prop}
theorem e8j {v:V} {K:Om} (hv:RV .nilI v) (h:j3 U K P):j3 U (U.uNilI v K) P:=fun e=>by
 have:=h e;subst e;cases hv;exact this
theorem c9q {a:Int} {K:Int→Om} (h:j3 U (K (if 0 < a then a else 0)) P):j3 U (U.fI (U.isel (U.iLt 0 a) a 0) K) P :=
 d12 a3p (fun k=>by rw [if_pos k] at h;exact h) (fun k=>by rw [if_neg k] at h;exact h)
end
def a1h (neg:Bool) (n:Nat):List G:=[.b neg,.l (z8 n)]
theorem c4i {D:i7} {m:Nat} (hm:m≤D.length) (h9:9≤m):C2 (D.take m)=C2 (D.take (m - 9)) * 10 ^ 9+C2 ((D.take m).drop (m - 9)):=by
 have e:D.take m=D.take (m - 9) ++ (D.take m).drop (m - 9):=by
  have:=(List.take_append_drop (m - 9) (D.take m)).symm
  rw [List.take_take,Nat.min_eq_left (by omega)] at this;exact this
 conv=>lhs;rw [e]
 rw [b8k]
 have:((D.take m).drop (m - 9)).length=9:=by simp;omega
 rw [this]
theorem b8z {D:i7} (h:∀ j,j < D.length→48≤bt D j∧bt D j≤57) (k m:Nat) (hm:m≤D.length):∀ j,j < ((D.take m).drop k).length→48≤bt ((D.take m).drop k) j∧bt ((D.take m).drop k) j≤57:=fun j hj=>by
 simp at hj
 have e:bt ((D.take m).drop k) j=bt D (k+j):=by
  rw [a14];unfold bt;simp [List.getD,List.getElem?_take,show k+j < m by omega]
 rw [e];exact h _ (by omega)
theorem c9y (a:List Nat) (d:Nat):m9 (a ++ [d])=m9 a+B9 ^ a.length * d:=by rw [Q8,c63]
theorem d1b {acc:List Nat} {d:Nat} {n:Int} (h:n=d):acc.map lg ++ [[.i .u32 n]]=(acc ++ [d]).map lg:=by subst h;simp [lg]
theorem e1v {a:List Nat} {d:Nat} (h:LQ.LB a) (hd:d < 1000000000):LQ.LB (a ++ [d]):=fun x hx=>by
 rcases List.mem_append.1 hx with hx | hx
 ·exact h x hx
 ·simp at hx;subst hx;exact hd
theorem c8e {D:i7} {acc:List Nat} {m k N:Nat} (hd:∀ j,j < D.length→48≤bt D j∧bt D j≤57) (hm:m≤D.length) (hk:k=m - 9) (he:m9 acc+B9 ^ acc.length * C2 (D.take m)=N) :
  C2 ((D.take m).drop k) < 1000000000∧m9 (acc ++ [C2 ((D.take m).drop k)])+B9 ^ (acc ++ [C2 ((D.take m).drop k)]).length * C2 (D.take k)=N:=by
 subst hk
 have hlt:=c10 _ (b8z hd (m - 9) m hm)
 have hl:((D.take m).drop (m - 9)).length≤9:=by simp;omega
 have h9:C2 ((D.take m).drop (m - 9)) < 1000000000:=Nat.lt_of_lt_of_le hlt (Nat.pow_le_pow_right (by decide) hl)
 refine ⟨h9,?_⟩
 rw [c9y,← he,List.length_append,List.length_singleton,Nat.pow_succ]
 by_cases h:9≤m
 ·rw [c4i hm h]
  generalize C2 (D.take (m - 9))=a
  generalize C2 ((D.take m).drop (m - 9))=b
  rw [show (10:Nat) ^ 9=B9 from rfl,Nat.mul_add,Nat.mul_comm a B9,← Nat.mul_assoc]
  omega
 ·have e:m - 9=0:=by omega
  rw [e,List.take_zero,List.drop_zero,show C2 ([]:i7)=0 by simp [C2,A0],Nat.mul_zero,Nat.add_zero]
theorem c8y (n:Nat):C2 (j5 n)=n:=by
 have hv:=E5 n
 have hok:=b90 n
 have hs:j0 (j5 n)=0:=by
  unfold j0;rw [if_neg];rintro ⟨h,h2⟩;have:=a1p n 0 h;omega
 unfold i6 at hv
 rw [if_pos hok,hs,if_neg (by decide)] at hv
 unfold C2;omega
theorem e0n (s:i7):(j5 (i6 s).natAbs).length≤(L2 s).length∧(decide (((j5 (i6 s).natAbs).length:Int) < ((L2 s).length:Int))=decide (i6 s < 0)):=by
 rw [a02]
 unfold j6
 split <;> simp <;> omega
theorem d1e:l5 201 (sp1 fun s=>.ret (.a (a1h (decide (i6 s < 0)) (i6 s).natAbs))):=v7 (fun fn h=>d88 h) [(176,_),(184,_),(221,_),(222,_)] (.cons a5c (.cons a0e (.cons kPU (.cons b5z .nil)))) fun U fn hfn ⟨s,hs⟩ vs bs hv hb=>by
 have hd:=hfn 176 _ rfl
 have ht:=hfn 184 _ rfl
 have hp:=hfn 221 _ rfl
 have hr:=hfn 222 _ rfl
 have hv:l9 [.c (.s s)] vs:=hv
 have hb:RBs [] bs:=hb
 have hs:s.length < 90000:=hs
 show j3 U _ fun v bs'=>m8 (.ret (.a (a1h (decide (i6 s < 0)) (i6 s).natAbs))) v∧RBs [] bs'
 unfold d19
 (refine Zq ?_;with_reducible repeat' first|intro _|apply aI)
 refine j4 hd ⟨s,hs⟩ (r:=.c (.s (L2 s))) rfl j9 .nil fun _ _ _ _=>?_
 have hl:=a8m s
 have h7:=e0n s
 (refine Zq ?_;with_reducible repeat' first|intro _|apply aI)
 refine j4 ht ⟨(L2 s,u7 1 45),trivial⟩ (r:=.c (.s (j5 (i6 s).natAbs))) (by show y4.ret (.c (.s (E9 (L2 s) (u7 1 45))))=_;rw [b5p,U6,c1g]) j9 .nil fun _ _ _ _=>?_
 (refine Zq ?_;with_reducible repeat' first|intro _|apply aI)
 generalize hD:j5 (i6 s).natAbs=D at *
 have hdig:∀ j,j < D.length→48≤bt D j∧bt D j≤57:=by rw [← hD];exact a1p _
 have hval:C2 D=(i6 s).natAbs:=by rw [← hD,c8y]
 refine F8 (fun (p:Nat × List Nat) vs bs=>∃ (m:Nat) (acc:List Nat) (v bx:V) (ng:Bool) (v4:V),p=(m,acc)∧vs=[.ptr 0 0,.str (D.take m).length (n6 (D.take m)),.ptr 1 0,v4]∧bs=[.cells [bx,.slice .nil 0 0 0 .exact],.cells [.bool ng,v],.tok acc.length 1]∧(U=CU→ng=decide (i6 s < 0))∧Z4 2 1 (acc.map lg) v∧m≤D.length∧LQ.LB acc∧(9 * acc.length+m=D.length∨m=0∧9 * acc.length≤D.length+8)∧m9 acc+B9 ^ acc.length * C2 (D.take m)=(i6 s).natAbs∧RV (.c (.b false)) bx) (fun p=>p.1) (D.length,[]) ?_ (by simp only [B8];omega) ?_
 ·refine ⟨D.length,[],_,_,_,_,rfl,by simp only [List.take_length];rfl,rfl,fun e=>by subst e;rw [b4b];exact h7.2,.b rfl,Nat.le_refl _,fun d h=>(by cases h),by simp,by rw [← hval];simp [m9],.kn _⟩
 rintro self _ _ _ ⟨m,acc,v,bx,ng,v4,rfl,rfl,rfl,hng,htok,hm,hLB,hlen,he,hbx⟩ ih
 have hml:(D.take m).length=m:=by simp;omega
 (refine Zq ?_;with_reducible repeat' first|intro _|apply aI)
 ·refine c9q ?_
  obtain ⟨k,hk,hk2⟩:∃ k:Nat,k=m - 9∧(if 0 < ((D.take m).length:Int) - 9 then ((D.take m).length:Int) - 9 else 0)=(k:Int):=⟨m - 9,rfl,by split <;> omega⟩
  rw [hk2]
  have hkm:k≤m:=by omega
  have hm0:0 < m:=by omega
  (refine Zq ?_;with_reducible repeat' first|intro _|apply aI)
  obtain ⟨s1,s2⟩:=c8e hdig hm hk he
  have hcl:((D.take m).drop k).length=m - k:=by simp;omega
  refine j4 hp ⟨(D.take m).drop k,by omega,by omega,b8z hdig k m hm⟩ (r:=.t [.c (.i .u64 ((C2 ((D.take m).drop k):Nat):Int)),.nilI]) rfl j9 .nil fun _ _ _ _=>?_
  (refine Zq ?_;with_reducible repeat' first|intro _|apply aI)
  refine e8j (by assumption) ?_
  (refine Zq ?_;with_reducible repeat' first|intro _|apply aI)
  refine a4i (m:=((C2 ((D.take m).drop k):Nat):Int)) rfl (by omega) ?_
  (refine Zq ?_;with_reducible repeat' first|intro _|apply aI)
  refine Z5 (by assumption) (fun _=>I9 (by first | exact .i _ _ | exact .s _ _ _ rfl rfl | assumption)) (by rfl) (by simp) (by simp only [List.length_map];omega) fun _ _=>?_
  (refine Zq ?_;with_reducible repeat' first|intro _|apply aI)
  have e1:List.drop (Int.toNat 0) (List.take ((k:Int)).toNat (D.take m))=D.take k:=by
   rw [Int.toNat_natCast,List.take_take,Nat.min_eq_left hkm];rfl
  rw [e1]
  refine ih (k,acc ++ [C2 ((D.take m).drop k)]) _ _ ?_ (by show k < m;omega)
  refine ⟨k,_,_,_,_,_,rfl,rfl,by rw [List.length_append];rfl,hng,.a _ _ (by simp) ?_,by omega,e1v hLB s1,by rw [List.length_append,List.length_singleton];omega,s2,.b _⟩
  rw [← d1b (n:=((C2 ((D.take m).drop k):Nat):Int)) rfl]
  assumption
 ·have hm0:m=0:=by omega
  subst hm0
  have e0:m9 acc=(i6 s).natAbs:=by
   rw [List.take_zero,show C2 ([]:i7)=0 by simp [C2,A0],Nat.mul_zero,Nat.add_zero] at he;exact he
  refine j4 hr ⟨acc,by omega⟩ (r:=.sl 1 (z8 (i6 s).natAbs)) (by show y4.ret (.sl 1 ((F2 acc).map lg))=_;rw [a01 acc hLB,e0];rfl) j9 .nil fun _ _ _ _=>?_
  (refine Zq ?_;with_reducible repeat' first|intro _|apply aI)
  exact N5 fun e=>by
   rw [hng e]
   exact ⟨.ret _ _ (.ag _ _ (.cons _ _ _ _ (.b _) (.cons _ _ _ _ (.cl _ _ _ _ _ (by simp [z8]) (by assumption)) .nil))),.nil⟩
end
end Go.Proofs.YtffaodopiifbkaaGreatDoor
namespace Go.Proofs.YtffaodopiifbkaaGreatDoor
open Go.Abs LQ
set_option maxRecDepth 100000
set_option maxHeartbeats 4000000
noncomputable section
section
variable {U:w7} {P:G3→List Bx→Prop}
theorem sQR {g:G} {v:V} {K:Q→Om} (hv:RV (.c g) v) (h:∀ x,RG g x→j3 U (K x) P):j3 U (U.uQ v K) P:=fun e=>by
 have h2:∃ x,CU.uQ v K=K x∧RG g x:=by
  cases hv with
  | b x=>exact ⟨_,rfl,.b x⟩
  | kn x=>exact ⟨_,rfl,.b x⟩
  | i k n=>exact ⟨_,rfl,.i k n⟩
  | s x l c h1 h2=>exact ⟨_,rfl,.s x l c h1 h2⟩
  | cl xs t n off len h1 h2=>exact ⟨_,rfl,.l xs t n off len h1 h2⟩
  | q _ x h=>exact ⟨_,rfl,h⟩
 obtain ⟨x,h3,h4⟩:=h2
 have:=h x h4 e
 subst e
 rw [h3];exact this
theorem d7o {x y:List UInt8} {l c1 c2:Nat} {K:Nat→Om} (h1:l=x.length) (e1:c1=n6 x) (e2:c2=n6 y) (k:j3 U (K (n6 (x ++ y))) P):j3 U (U.fN (U.sCat l c1 c2) K) P:=fun e=>by
 subst h1 e1 e2
 have:=k e
 subst e
 rw [a3l]
 show ∃ v bs,K (sCat x.length (n6 x) (n6 y))=some (v,bs)∧P v bs
 rw [b0t];exact this
end
theorem d32 {a b:Bool} {m n:Nat} (h:a1h a m=a1h b n):a=b∧m=n:=by
 simp only [a1h,List.cons.injEq,G.b.injEq,G.l.injEq,and_true] at h
 exact ⟨h.1,a7o h.2⟩
def T7:Sp where
 ι:={ p:Bool × Nat // (n7 p.2).length < 20000 }
 A p:=[.a (a1h p.1.1 p.1.2)]
 B _:=[]
 R p:=.ret (.c (.s (sgn p.1.1 p.1.2)))
 B' _:=[]
 inj i j vs bs h k _ _:=by
  obtain ⟨_,_,h1,k1,h,k⟩:=h.two k
  obtain ⟨e1,e2⟩:=d32 (h1.a_inj k1)
  rw [e1,e2];exact ⟨rfl,rfl⟩
theorem b7k (n:Nat):∀ r ∈ z8 n,r.length=1:=fun r hr=>by obtain ⟨_,_,rfl⟩:=List.mem_map.1 hr;rfl
theorem c8u {n:Nat} {x:Q} (h:RG (.l (z8 n)) x):RV (.sl 1 (z8 n)) (.q x):=.slq _ _ _ h (b7k n)
theorem a7g (n:Nat):(n7 n).length≤(j7 n).length:=by
 refine a7m ?_
 have h:=a1n (j7 n) (D8 n)
 rw [D3] at h
 exact Nat.lt_of_lt_of_le h (Nat.pow_le_pow_left (by decide) _)
theorem d8o (n:Nat):sgn false n=j5 n:=a97 n
theorem e92 (hst:l5 203 T7):l5 178 (sp2 fun a b=>.ret (.c (.s (j5 (Nat.gcd (i6 a).natAbs (i6 b).natAbs))))):=v7 (fun fn h=>e06 h) [(201,_),(202,_),(203,_)] (.cons d1e (.cons c3t (.cons hst .nil))) fun U fn hfn ⟨(a,b),ha,hbl⟩ vs bs hv hb=>by
 have hp:=hfn 201 _ rfl
 have hd:=hfn 202 _ rfl
 have hs:=hfn 203 _ rfl
 have ha:a.length < 9000:=ha
 have hbl:b.length < 9000:=hbl
 have hv:l9 [.c (.s a),.c (.s b)] vs:=hv
 have hb:RBs [] bs:=hb
 show j3 U _ fun v bs'=>m8 (.ret (.c (.s (j5 (Nat.gcd (i6 a).natAbs (i6 b).natAbs))))) v∧RBs [] bs'
 have la:=a0q a
 have lb:=a0q b
 unfold d2t
 (refine Zq ?_;with_reducible repeat' first|intro _|apply aI)
 refine j4 hp ⟨a,by show a.length < 90000;omega⟩ (r:=.a (a1h (decide (i6 a < 0)) (i6 a).natAbs)) rfl j9 .nil fun _ _ hv1 _=>?_
 have hv1:RV (.a [.b _,.l (z8 _)]) _:=hv1
 (refine Zq ?_;with_reducible repeat' first|intro _|apply aI)
 refine j4 hp ⟨b,by show b.length < 90000;omega⟩ (r:=.a (a1h (decide (i6 b < 0)) (i6 b).natAbs)) rfl j9 .nil fun _ _ hv2 _=>?_
 have hv2:RV (.a [.b _,.l (z8 _)]) _:=hv2
 generalize (i6 a).natAbs=x at *
 generalize (i6 b).natAbs=y at *
 (refine Zq ?_;with_reducible repeat' first|intro _|apply aI)
 refine F8 (fun (p:Nat × Nat) vs bs=>∃ (m n:Nat) (v1 v2:V),p=(m,n)∧vs=[v1,v2]∧bs=[]∧RV (.c (.l (z8 m))) v1∧RV (.c (.l (z8 n))) v2∧Nat.gcd m n=Nat.gcd x y∧(j7 m).length < 9000∧(j7 n).length < 9000) (fun p=>mu p.1 p.2) (x,y) ⟨x,y,_,_,rfl,rfl,rfl,.q _ _ (by assumption),.q _ _ (by assumption),rfl,by omega,by omega⟩ (show mu x y < B8 from d70 (by omega) (by omega)) ?_
 rintro self _ _ _ ⟨m,n,v1,v2,rfl,rfl,rfl,h1,h2,hg,hm,hn⟩ ih
 have lm:=a7g m
 have ln:=a7g n
 (refine Zq ?_;with_reducible repeat' first|intro _|apply aI)
 refine sQR h1 fun x1 g1=>?_
 (refine Zq ?_;with_reducible repeat' first|intro _|apply aI)
 refine sQR h2 fun x2 g2=>?_
 (refine Zq ?_;with_reducible repeat' first|intro _|apply aI)
 refine a9y g2 (b7k n) fun t off ht=>?_
 (refine Zq ?_;with_reducible repeat' first|intro _|apply aI)
 ·have hn0:n ≠ 0:=by rintro rfl;simp [z8,G7] at *
  refine j4 hd ⟨(m,n),by show (n7 m).length < 20000;omega,by show (n7 n).length < 20000;omega,hn0,by show (n7 m).length < 9000;omega,by show (n7 n).length < 9000;omega⟩ (r:=.t [.sl 1 (z8 (m / n)),.sl 1 (z8 (m % n))]) rfl (.cons _ _ _ _ (c8u g1) (.cons _ _ _ _ (c8u g2) .nil)) .nil fun _ _ _ _=>?_
  (refine Zq ?_;with_reducible repeat' first|intro _|apply aI)
  refine ih (n,m % n) _ _ ⟨n,m % n,_,_,rfl,rfl,rfl,.q _ _ g2,.cl _ _ _ _ _ (by simp [z8]) (by assumption),?_,hn,Nat.lt_of_le_of_lt (O3 (Nat.le_of_lt (Nat.mod_lt m (Nat.pos_of_ne_zero hn0)))) hn⟩ (c5n (Nat.pos_of_ne_zero hn0))
  rw [← hg,Nat.gcd_comm n (m % n),← Nat.gcd_rec n m,Nat.gcd_comm]
 ·have hn0:n=0:=by
   have:(z8 n).length=0:=by omega
   simp only [z8,List.length_map,List.length_eq_zero_iff] at this
   exact b6s (this.trans G7.symm)
  subst hn0
  rw [Nat.gcd_zero_right] at hg
  subst hg
  refine j4 hs ⟨(false,Nat.gcd x y),by show (n7 (Nat.gcd x y)).length < 20000;omega⟩ (r:=.c (.s (j5 (Nat.gcd x y)))) (by show y4.ret (.c (.s (sgn false _)))=_;rw [d8o]) (.cons _ _ _ _ (.ag _ _ (.cons _ _ _ _ (.kn _) (.cons _ _ _ _ (.q _ _ g1) .nil))) .nil) .nil fun _ _ _ _=>?_
  (refine Zq ?_;with_reducible repeat' first|intro _|apply aI)
  exact l6 ⟨.ret _ _ (.s _ _ _ rfl rfl),.nil⟩
theorem b20 (n:Int):0 < (j6 n).length:=by
 have:=Z8 n.natAbs
 unfold j6;split <;> simp <;> omega
theorem a35 (n:Int):bt (j6 n) 0=45↔n < 0:=by
 unfold j6
 split
 ·rename_i h;exact ⟨fun _=>h,fun _=>rfl⟩
 ·rename_i h
  have:=a1p n.natAbs 0 (Z8 _)
  exact ⟨fun k=>by omega,fun k=>absurd k h⟩
theorem b9l:j6 1=u7 1 49:=by
 show j6 ((1:Nat):Int)=_
 rw [a2r,b2q];decide
theorem b2c (n:Int):j6 n=u7 1 49↔n=1:=⟨fun h=>a0i (h.trans b9l.symm),fun h=>by subst h;exact b9l⟩
theorem a1l (n:Int):j6 n=u7 1 48↔n=0:=⟨fun h=>a0i (h.trans (by decide)),fun h=>by subst h;decide⟩
theorem d8k:l5 177 (sp1 fun s=>.ret (.c (.s (d2j s)))):=v7 (fun fn h=>e0k h) [(176,_)] (.cons a5c .nil) fun U fn hfn ⟨s,hs⟩ vs bs hv hb=>by
 have hd:=hfn 176 _ rfl
 have hv:l9 [.c (.s s)] vs:=hv
 have hb:RBs [] bs:=hb
 have hs:s.length < 90000:=hs
 show j3 U _ fun v bs'=>m8 (.ret (.c (.s (d2j s)))) v∧RBs [] bs'
 unfold d57
 (refine Zq ?_;with_reducible repeat' first|intro _|apply aI)
 have hl:=a8m s
 refine j4 hd ⟨s,hs⟩ (r:=.c (.s (L2 s))) rfl j9 .nil fun _ _ _ _=>?_
 rw [a02] at *
 unfold d2j
 generalize i6 s=n at *
 have h0:=b20 n
 have hbt:(((j6 n).getD 0 0).toNat:Int)=bt (j6 n) 0:=rfl
 (refine Zq ?_;with_reducible repeat' first|intro _|apply aI)
 ·have e:n=0:=(a1l n).1 ‹_›
  subst e
  exact l6 ⟨.ret _ _ (.s _ _ _ rfl rfl),.nil⟩
 ·have e:n < 0:=(a35 n).1 ‹_›
  have e2:j6 (-n)=(j6 n).drop (Int.toNat 1):=by
   unfold j6
   rw [if_pos e,if_neg (by omega),Int.natAbs_neg];rfl
  rw [e2]
  exact l6 ⟨.ret _ _ (.s _ _ _ rfl rfl),.nil⟩
 ·have e:¬n < 0:=fun k=>‹¬(((j6 n).getD (Int.toNat 0) 0).toNat:Int)=45› ((a35 n).2 k)
  have e0:n ≠ 0:=fun k=>‹¬j6 n=u7 1 48› ((a1l n).2 k)
  have e2:j6 (-n)=[45] ++ j6 n:=by
   unfold j6
   rw [if_neg e,if_pos (by omega),Int.natAbs_neg]
  rw [e2]
  refine d7o (x:=[45]) (y:=j6 n) rfl rfl rfl ?_
  exact l6 ⟨.ret _ _ (.s _ _ _ (by simp;omega) rfl),.nil⟩
theorem d05 {s:i7} (h:s.length < 9000):(n7 (i6 s).natAbs).length < 9000:=by
 have:=a0q s
 have:=a7g (i6 s).natAbs
 omega
theorem d9n {a b:Int} (hb:0 < b) (hd:b ∣ a):sgn (decide (a < 0) != decide (b < 0)) (a.natAbs / b.natAbs)=j6 (a / b):=by
 obtain ⟨q,rfl⟩:=hd
 have h1:¬b < 0:=by omega
 have hb':0 < b.natAbs:=by omega
 rw [Int.mul_ediv_cancel_left _ (by omega),Int.natAbs_mul,Nat.mul_div_cancel_left _ hb',← d8f q]
 have:decide (b * q < 0)=decide (q < 0):=by
  rw [Bool.eq_iff_iff,decide_eq_true_iff,decide_eq_true_iff]
  constructor
  ·intro h
   by_cases hq:q < 0
   ·exact hq
   ·have:=Int.mul_nonneg (show 0≤b by omega) (show 0≤q by omega);omega
  ·intro h;exact Int.mul_neg_of_pos_of_neg hb h
 rw [this,decide_eq_false h1,Bool.bne_false]
theorem d2h {a b:Int} (hd:b ∣ a):a.natAbs % b.natAbs=0:=Nat.mod_eq_zero_of_dvd (Int.natAbs_dvd_natAbs.2 hd)
def f2s:Sp where
 ι:={ p:i7 × i7 // p.1.length < 9000∧p.2.length < 9000∧0 < i6 p.2∧i6 p.2 ∣ i6 p.1 }
 A p:=[.c (.s p.1.1),.c (.s p.1.2)]
 B _:=[]
 R p:=.ret (.t [.c (.s (j6 (i6 p.1.1 / i6 p.1.2))),.c (.s A5)])
 B' _:=[]
 inj i j vs bs h k _ _:=by
  obtain ⟨_,_,h1,k1,h,k⟩:=h.two k
  obtain ⟨_,_,h2,k2,h,k⟩:=h.two k
  rw [H3 h1 k1,H3 h2 k2];exact ⟨rfl,rfl⟩
theorem d8m (hst:l5 203 T7):l5 179 f2s:=v7 (fun fn h=>e0l h) [(201,_),(176,_),(202,_),(203,_)] (.cons d1e (.cons a5c (.cons c3t (.cons hst .nil)))) fun U fn hfn ⟨(a,b),ha,hbl,hb0,hba⟩ vs bs hv hb=>by
 have hp:=hfn 201 _ rfl
 have hd:=hfn 202 _ rfl
 have hs:=hfn 203 _ rfl
 have ha:a.length < 9000:=ha
 have hbl:b.length < 9000:=hbl
 have hb0:0 < i6 b:=hb0
 have hba:i6 b ∣ i6 a:=hba
 have hv:l9 [.c (.s a),.c (.s b)] vs:=hv
 have hb:RBs [] bs:=hb
 show j3 U _ fun v bs'=>m8 (.ret (.t [.c (.s (j6 (i6 a / i6 b))),.c (.s A5)])) v∧RBs [] bs'
 have la:=d05 ha
 have lb:=d05 hbl
 have e1:=d9n hb0 hba
 have e2:=d2h hba
 have hx0:(i6 b).natAbs ≠ 0:=by omega
 have hq:(n7 ((i6 a).natAbs / (i6 b).natAbs)).length≤(n7 (i6 a).natAbs).length:=a81 (Nat.div_le_self _ _)
 unfold d4y
 (refine Zq ?_;with_reducible repeat' first|intro _|apply aI)
 refine j4 hp ⟨a,by show a.length < 90000;omega⟩ (r:=.a (a1h (decide (i6 a < 0)) (i6 a).natAbs)) rfl j9 .nil fun _ _ hv1 _=>?_
 have hv1:RV (.a [.b _,.l (z8 _)]) _:=hv1
 (refine Zq ?_;with_reducible repeat' first|intro _|apply aI)
 refine j4 hp ⟨b,by show b.length < 90000;omega⟩ (r:=.a (a1h (decide (i6 b < 0)) (i6 b).natAbs)) rfl j9 .nil fun _ _ hv2 _=>?_
 have hv2:RV (.a [.b _,.l (z8 _)]) _:=hv2
 generalize (i6 a).natAbs=x at *
 generalize (i6 b).natAbs=y at *
 have hly:(z8 y).length ≠ 0:=by
  intro e
  simp only [z8,List.length_map,List.length_eq_zero_iff] at e
  exact hx0 (b6s (e.trans G7.symm))
 (refine Zq ?_;with_reducible repeat' first|intro _|apply aI)
 refine a9y (by assumption) (b7k y) fun t off ht=>?_
 (refine Zq ?_;with_reducible repeat' first|intro _|apply aI)
 ·exact absurd (by omega) hly
 ·refine j4 hd ⟨(x,y),by show (n7 x).length < 20000;omega,by show (n7 y).length < 20000;omega,hx0,la,lb⟩ (r:=.t [.sl 1 (z8 (x / y)),.sl 1 (z8 0)]) (by show y4.ret (.t [.sl 1 (z8 (x / y)),.sl 1 (z8 (x % y))])=_;rw [e2]) (.cons _ _ _ _ (c8u (by assumption)) (.cons _ _ _ _ (c8u (by assumption)) .nil)) .nil fun _ _ _ _=>?_
  (refine Zq ?_;with_reducible repeat' first|intro _|apply aI)
  all_goals
   refine a1f (gs:=a1h (decide (i6 a < 0) != decide (i6 b < 0)) (x / y)) (.cells _ _ (.cons _ _ _ _ (.b _) (.cons _ _ _ _ (.cl _ _ _ _ _ (by simp [z8]) (by assumption)) .nil))) rfl fun _ hc1=>?_
   (refine Zq ?_;with_reducible repeat' first|intro _|apply aI)
   refine a1f (gs:=a1h (decide (i6 b < 0)) 0) (.cells _ _ (.cons _ _ _ _ (.q _ _ (by assumption)) (.cons _ _ _ _ (.cl _ _ _ _ _ (by simp [z8]) (by assumption)) .nil))) rfl fun _ hc2=>?_
   (refine Zq ?_;with_reducible repeat' first|intro _|apply aI)
   all_goals first
   | exact absurd ‹0 < (((n7 0).length:Nat):Int)› (by simp [G7])
   | refine j4 hs ⟨(_,x / y),by show (n7 (x / y)).length < 20000;omega⟩ (r:=.c (.s (j6 (i6 a / i6 b)))) (by show y4.ret (.c (.s (sgn (decide (i6 a < 0) != decide (i6 b < 0)) (x / y))))=_;rw [e1]) (.cons _ _ _ _ (.a _ _ _ rfl (by assumption)) .nil) .nil fun _ _ _ _=>?_
     (refine Zq ?_;with_reducible repeat' first|intro _|apply aI)
     refine j4 hs ⟨(decide (i6 b < 0),0),by show (n7 0).length < 20000;simp [G7]⟩ (r:=.c (.s A5)) rfl (.cons _ _ _ _ (.a _ _ _ rfl (by assumption)) .nil) .nil fun _ _ _ _=>?_
     (refine Zq ?_;with_reducible repeat' first|intro _|apply aI)
     exact l6 ⟨.ret _ _ j9,.nil⟩
theorem c13 (s:i7):i6 (L2 s)=i6 s:=by rw [a02,B0]
theorem c4h {a b a' b':i7} (h1:i6 a=i6 a') (h2:i6 b=i6 b'):u9 a b=u9 a' b':=by unfold u9;rw [h1,h2]
def d2f (R:i7→i7→y4):Sp where
 ι:={ p:i7 × i7 // p.1.length < 8000∧p.2.length < 8000 }
 A p:=[.c (.s p.1.1),.c (.s p.1.2)]
 B _:=[]
 R p:=R p.1.1 p.1.2
 B' _:=[]
 inj i j vs bs h k _ _:=by
  obtain ⟨_,_,h1,k1,h,k⟩:=h.two k
  obtain ⟨_,_,h2,k2,h,k⟩:=h.two k
  rw [H3 h1 k1,H3 h2 k2];exact ⟨rfl,rfl⟩
theorem c6d (n:Int):(j6 (-n)).length≤(j6 n).length+1:=by
 unfold j6
 rw [Int.natAbs_neg]
 split <;> split <;> simp <;> omega
theorem e8x (x:Int):u9 (j6 x) (j6 0)=(A5,R4):=by unfold u9;rw [B0,if_pos rfl]
theorem e9v (x:Int):u9 (j6 x) (j6 1)=(j6 x,j6 1):=by
 rw [a2o x 1 (by decide)]
 simp
theorem e0g (x y:Int):u9 (j6 x) (j6 y)=u9 (j6 (-x)) (j6 (-y)):=by
 rw [a1o,a1o]
 simp only [B0]
 have:qn x y=qn (-x) (-y):=by
  unfold qn
  rw [Int.natAbs_neg,Int.natAbs_neg]
  by_cases hy:y=0
  ·rw [if_pos hy,if_pos (by omega)]
  ·rw [if_neg hy,if_neg (show ¬-y=0 by omega)]
   by_cases hx:x=0
   ·subst hx;simp <;> (intro h;exact absurd h hy)
   ·have e:(if (x < 0)=(y < 0) then (1:Int) else -1)=if (-x < 0)=(-y < 0) then 1 else -1:=by
     by_cases h1:x < 0 <;> by_cases h2:y < 0 <;> simp [h1,h2] <;> omega
    rw [e]
 rw [this]
theorem e17 {m n:Int} (hn:0 < n) (h:Nat.gcd m.natAbs n.natAbs=1):u9 (j6 m) (j6 n)=(j6 m,j6 n):=by
 rw [a2o m n hn,h];simp
theorem b3s (hst:l5 203 T7):l5 155 (d2f fun a b=>.ret (.t [.c (.s (u9 a b).1),.c (.s (u9 a b).2)])):=v7 (fun fn h=>e08 h) [(176,_),(177,_),(178,_),(179,_)] (.cons a5c (.cons d8k (.cons (e92 hst) (.cons (d8m hst) .nil)))) fun U fn hfn ⟨(a,b),ha,hbl⟩ vs bs hv hb=>by
 have hd:=hfn 176 _ rfl
 have hn:=hfn 177 _ rfl
 have hg:=hfn 178 _ rfl
 have hq:=hfn 179 _ rfl
 have ha:a.length < 8000:=ha
 have hbl:b.length < 8000:=hbl
 have hv:l9 [.c (.s a),.c (.s b)] vs:=hv
 have hb:RBs [] bs:=hb
 show j3 U _ fun v bs'=>m8 (.ret (.t [.c (.s (u9 a b).1),.c (.s (u9 a b).2)])) v∧RBs [] bs'
 unfold d3d
 (refine Zq ?_;with_reducible repeat' first|intro _|apply aI)
 refine j4 hd ⟨a,by show a.length < 90000;omega⟩ (r:=.c (.s (L2 a))) rfl j9 .nil fun _ _ _ _=>?_
 (refine Zq ?_;with_reducible repeat' first|intro _|apply aI)
 refine j4 hd ⟨b,by show b.length < 90000;omega⟩ (r:=.c (.s (L2 b))) rfl j9 .nil fun _ _ _ _=>?_
 have la:(L2 a).length < 8000:=by have:=a8m a;omega
 have lb:(L2 b).length < 8000:=by have:=a8m b;omega
 rw [c4h (c13 a).symm (c13 b).symm]
 rw [a02 a,a02 b] at *
 generalize i6 a=x at *
 generalize i6 b=y at *
 have h0:=b20 y
 have hbt:(((j6 y).getD 0 0).toNat:Int)=bt (j6 y) 0:=rfl
 (refine Zy ?_;with_reducible repeat' first|intro _|apply aI)
 refine H6 (fun vs bs=>∃ m n:Int,l9 [.c (.s (j6 m)),.c (.s (j6 n))] vs∧RBs [] bs∧0 < n∧(j6 m).length < 8500∧(j6 n).length < 8500∧u9 (j6 x) (j6 y)=u9 (j6 m) (j6 n)) ?_ ?_
 ·rintro vs' bs' ⟨m,n,hv',hb',hn0,hml,hnl,he⟩
  rw [he]
  have hgv:y4.ret (.c (.s (j5 (Nat.gcd (i6 (j6 m)).natAbs (i6 (j6 n)).natAbs))))=.ret (.c (.s (j5 (Nat.gcd m.natAbs n.natAbs)))):=by rw [B0,B0]
  obtain ⟨g,hge⟩:∃ g,g=Nat.gcd m.natAbs n.natAbs:=⟨_,rfl⟩
  rw [← hge] at hgv
  have hg0:0 < g:=by rw [hge];exact Nat.gcd_pos_of_pos_right _ (by omega)
  have hgd:(g:Int) ∣ m∧(g:Int) ∣ n:=by
   rw [hge];exact ⟨Int.ofNat_dvd_left.2 (Nat.gcd_dvd_left _ _),Int.ofNat_dvd_left.2 (Nat.gcd_dvd_right _ _)⟩
  have hdv:i6 (j5 g)=(g:Int):=E5 g
  have hgl:(j5 g).length < 9000:=by
   have h1:=b23 g
   have h2:(j7 g).length≤(j7 n.natAbs).length:=O3 (by rw [hge];exact Nat.le_of_dvd (by omega) (Nat.gcd_dvd_right _ _))
   have h3:=c3l n
   omega
  (refine Zq ?_;with_reducible repeat' first|intro _|apply aI)
  refine j4 hg ⟨(j6 m,j6 n),by show (j6 m).length < 9000;omega,by show (j6 n).length < 9000;omega⟩ (r:=.c (.s (j5 g))) hgv j9 .nil fun _ _ _ _=>?_
  (refine Zq ?_;with_reducible repeat' first|intro _|apply aI)
  ·have e1:g=1:=by
    have:=(b2c (g:Int)).1 (by rw [a2r];assumption)
    omega
   rw [e17 hn0 (by rw [← hge];exact e1)]
   exact l6 ⟨.ret _ _ j9,.nil⟩
  ·rw [a2o m n hn0,← hge]
   refine j4 hq ⟨(j6 m,j5 g),by show (j6 m).length < 9000;omega,hgl,by show 0 < i6 (j5 g);omega,by show i6 (j5 g) ∣ i6 (j6 m);rw [hdv,B0];exact hgd.1⟩ (r:=.t [.c (.s (j6 (m / g))),.c (.s A5)]) (by show y4.ret (.t [.c (.s (j6 (i6 (j6 m) / i6 (j5 g)))),.c (.s A5)])=_;rw [hdv,B0]) j9 .nil fun _ _ _ _=>?_
   (refine Zq ?_;with_reducible repeat' first|intro _|apply aI)
   refine j4 hq ⟨(j6 n,j5 g),by show (j6 n).length < 9000;omega,hgl,by show 0 < i6 (j5 g);omega,by show i6 (j5 g) ∣ i6 (j6 n);rw [hdv,B0];exact hgd.2⟩ (r:=.t [.c (.s (j6 (n / g))),.c (.s A5)]) (by show y4.ret (.t [.c (.s (j6 (i6 (j6 n) / i6 (j5 g)))),.c (.s A5)])=_;rw [hdv,B0]) j9 .nil fun _ _ _ _=>?_
   (refine Zq ?_;with_reducible repeat' first|intro _|apply aI)
   exact l6 ⟨.ret _ _ j9,.nil⟩
 ·intro c hc
  (refine Zq ?_;with_reducible repeat' first|intro _|apply aI)
  ·have e:y=0:=(a1l y).1 ‹_›
   subst e
   rw [e8x]
   exact l6 ⟨.ret _ _ j9,.nil⟩
  ·have e:y=1:=(b2c y).1 ‹_›
   subst e
   rw [e9v]
   exact l6 ⟨.ret _ _ j9,.nil⟩
  ·have e:y < 0:=(a35 y).1 ‹_›
   refine j4 hn ⟨j6 x,by show (j6 x).length < 90000;omega⟩ (r:=.c (.s (j6 (-x)))) (by show y4.ret (.c (.s (j6 (-i6 (j6 x)))))=_;rw [B0]) j9 .nil fun _ _ _ _=>?_
   (refine Zq ?_;with_reducible repeat' first|intro _|apply aI)
   refine j4 hn ⟨j6 y,by show (j6 y).length < 90000;omega⟩ (r:=.c (.s (j6 (-y)))) (by show y4.ret (.c (.s (j6 (-i6 (j6 y)))))=_;rw [B0]) j9 .nil fun _ _ _ _=>?_
   (refine Zq ?_;with_reducible repeat' first|intro _|apply aI)
   have l1:=c6d x
   have l2:=c6d y
   exact hc _ _ ⟨-x,-y,by (exact j9),.nil,by omega,by omega,by omega,e0g x y⟩
  ·have e:¬y < 0:=fun k=>‹¬(((j6 y).getD (Int.toNat 0) 0).toNat:Int)=45› ((a35 y).2 k)
   have e0:y ≠ 0:=fun k=>‹¬j6 y=u7 1 48› ((a1l y).2 k)
   exact hc _ _ ⟨x,y,by (exact j9),.nil,by omega,by omega,by omega,rfl⟩
end
end Go.Proofs.YtffaodopiifbkaaGreatDoor
namespace Go.Proofs.YtffaodopiifbkaaGreatDoor
open Go.Abs LQ
set_option maxRecDepth 100000
set_option maxHeartbeats 4000000
noncomputable section
theorem b5b {p:UInt8→Bool}:∀ {l:i7},l.dropWhile p=[]↔∀ b ∈ l,p b=true
 | []=>by simp
 | c :: l=>by
  by_cases h:p c=true
  ·rw [List.dropWhile_cons_of_pos h,b5b];simp [h]
  ·rw [List.dropWhile_cons_of_neg h];simp [h]
theorem c57 {p:UInt8→Bool} {c:UInt8} {r:i7}:∀ {l:i7},l.dropWhile p=c :: r→p c=false
 | [],h=>by simp at h
 | d :: l,h=>by
  by_cases hp:p d=true
  ·rw [List.dropWhile_cons_of_pos hp] at h;exact c57 h
  ·rw [List.dropWhile_cons_of_neg hp] at h
   injection h with h _;subst h;simpa using hp
theorem c0u {l cs:i7}:Lib.trimS l cs=[]↔∀ b ∈ l,cs.contains b=true:=by
 unfold Lib.trimS Lib.trimLeftS Lib.trimRightS
 constructor
 ·intro h
  have h1:=b5b.1 h
  cases hd:l.reverse.dropWhile (cs.contains ·) with
  | nil=>intro b hb;exact b5b.1 hd b (List.mem_reverse.2 hb)
  | cons c r =>
   rw [hd] at h1
   have h2:=h1 c (by simp)
   have h3:=c57 hd
   rw [h2] at h3;cases h3
 ·intro h
  have:l.reverse.dropWhile (cs.contains ·)=[]:=b5b.2 fun b hb=>h b (List.mem_reverse.1 hb)
  rw [this];rfl
def ten:i7:=u7 10 270211885617516653982000
theorem c5p (b:UInt8):ten.contains b=Q2 b.toNat:=by
 have key:∀ n:Fin 256,ten.contains (UInt8.ofNat n.1)=Q2 n.1:=by decide
 have:=key ⟨b.toNat,b.toNat_lt⟩
 simpa using this
def G5 (u:i7):Bool:=decide (u ≠ []∧m6 u 0=u.length)
theorem a8u {u:i7} {k:Nat} (hk:k≤u.length):m6 u k=u.length↔∀ j,k≤j→j < u.length→48≤bt u j∧bt u j≤57 :=
 ⟨fun h j h1 h2=>Y3 u k j h1 (by omega),fun h=>V2 u k hk h⟩
theorem d1s (u:i7):decide (Lib.trimS u ten=[])=decide (m6 u 0=u.length):=by
 rw [Bool.eq_iff_iff,decide_eq_true_iff,decide_eq_true_iff,c0u,a8u (Nat.zero_le _)]
 constructor
 ·intro h j _ hj
  have:=h u[j] (List.getElem_mem hj)
  rw [c5p] at this
  have e:bt u j=u[j].toNat:=by unfold bt;simp [List.getD,List.getElem?_eq_getElem hj]
  rw [e];simpa [Q2] using this
 ·intro h b hb
  obtain ⟨j,hj,rfl⟩:=List.getElem_of_mem hb
  rw [c5p]
  have e:bt u j=u[j].toNat:=by unfold bt;simp [List.getD,List.getElem?_eq_getElem hj]
  have:=h j (Nat.zero_le _) hj
  rw [e] at this;simpa [Q2] using this
theorem d8i:l5 183 (sp1 fun s=>.ret (.c (.b (G5 s)))):=v7 (fun fn h=>d8w h) [(165,_)] (.cons d1d .nil) fun U fn hfn ⟨s,hs⟩ vs bs hv hb=>by
 have ht:=hfn 165 _ rfl
 have hv:l9 [.c (.s s)] vs:=hv
 have hb:RBs [] bs:=hb
 have hs:s.length < 90000:=hs
 show j3 U _ fun v bs'=>m8 (.ret (.c (.b (G5 s)))) v∧RBs [] bs'
 unfold d5x
 (refine Zq ?_;with_reducible repeat' first|intro _|apply aI)
 ·have h0:s=u7 0 0:=‹_›
  have e:G5 s=false:=by unfold G5;rw [decide_eq_false];exact fun h=>h.1 h0
  rw [e]
  exact l6 ⟨.ret _ _ (.kn _),.nil⟩
 ·have h0:¬s=u7 0 0:=‹_›
  refine j4 ht ⟨(s,ten),by show s.length < 4294967281;omega,(by decide:ten.length < 4294967281),(by decide:∀ b ∈ ten,b.toNat < 128)⟩ (r:=.c (.s (Lib.trimS s ten))) rfl j9 .nil fun _ _ _ _=>?_
  (refine Zq ?_;with_reducible repeat' first|intro _|apply aI)
  exact N5 fun e=>by
   subst e
   refine ⟨.ret _ _ (Q1 ?_),.nil⟩
   rw [c3v]
   show G5 s=decide (Lib.trimS s ten=[])
   rw [d1s]
   unfold G5
   rw [Bool.eq_iff_iff,decide_eq_true_iff,decide_eq_true_iff]
   exact ⟨fun h=>h.2,fun h=>⟨h0,h⟩⟩
theorem e8f {s:i7} {c:UInt8} (h:0≤Lib.indexByte s c):bt s (Lib.indexByte s c).toNat=c.toNat∧∀ j,j < (Lib.indexByte s c).toNat→bt s j ≠ c.toNat:=by
 induction s with
 | nil=>simp [Lib.indexByte] at h
 | cons b r ih =>
  have ex:Lib.indexByte (b :: r) c=if b=c then 0 else if Lib.indexByte r c=-1 then -1 else Lib.indexByte r c+1:=by simp only [Lib.indexByte,beq_iff_eq]
  rw [ex] at h ⊢
  by_cases hb:b=c
  ·rw [if_pos hb];subst hb;exact ⟨rfl,fun j hj=>by simp at hj⟩
  ·rw [if_neg hb] at h ⊢
   by_cases h1:Lib.indexByte r c=-1
   ·rw [if_pos h1] at h;omega
   ·rw [if_neg h1] at h ⊢
    have hge:=(S9 r c).2
    obtain ⟨i1,i2⟩:=ih (by omega)
    rw [show (Lib.indexByte r c+1).toNat=(Lib.indexByte r c).toNat+1 by omega]
    refine ⟨by rw [a04];exact i1,fun j hj=>?_⟩
    cases j with
    | zero=>exact fun e=>hb (UInt8.toNat_inj.1 (by have:bt (b :: r) 0=b.toNat:=rfl;omega))
    | succ j=>rw [a04];exact i2 j (by omega)
theorem d93 {s:i7} {c:UInt8} (h:¬0≤Lib.indexByte s c):∀ j,j < s.length→bt s j ≠ c.toNat:=by
 induction s with
 | nil=>intro j hj;simp at hj
 | cons b r ih =>
  have ex:Lib.indexByte (b :: r) c=if b=c then 0 else if Lib.indexByte r c=-1 then -1 else Lib.indexByte r c+1:=by simp only [Lib.indexByte,beq_iff_eq]
  rw [ex] at h
  by_cases hb:b=c
  ·rw [if_pos hb] at h;omega
  ·rw [if_neg hb] at h
   have hge:=(S9 r c).2
   have h1:¬0≤Lib.indexByte r c:=by split at h <;> omega
   intro j hj
   cases j with
   | zero=>exact fun e=>hb (UInt8.toNat_inj.1 (by have:bt (b :: r) 0=b.toNat:=rfl;omega))
   | succ j=>rw [a04];exact ih h1 j (by simpa using hj)
theorem c4o (s:i7) (i:Nat):m6 s i < s.length→¬(48≤bt s (m6 s i)∧bt s (m6 s i)≤57):=by
 fun_induction m6 s i with
 | case1 i h1 h2 ih=>exact ih
 | case2 i h1 h2=>intro _ h;exact h2 (by simpa [Q2] using h)
 | case3 i h1=>intro h;exact absurd h h1
def A8 (s:i7):i7 × i7:=((I8 s 47).1,if (I8 s 47).2.2 then (I8 s 47).2.1 else R4)
theorem c9f {s:i7} {i p:Nat} (hp:p≤s.length) (hi:i≤p) (hn:p < s.length→¬(48≤bt s p∧bt s p≤57)):(∀ j,i≤j→j < p→48≤bt s j∧bt s j≤57)↔m6 s i=p:=by
 constructor
 ·intro h
  have hA:At s i ((s.take p).drop i) (s.drop p):=by
   unfold At
   have:=(List.take_append_drop p s).symm
   conv=>lhs;rw [this]
   rw [List.drop_append_of_le_length (by simp;omega)]
  have hl:((s.take p).drop i).length=p - i:=by simp;omega
  rw [c9z hA (fun j hj=>by
   rw [hl] at hj
   have e:bt ((s.take p).drop i) j=bt s (i+j):=by rw [a14];unfold bt;simp [List.getD,List.getElem?_take,show i+j < p by omega]
   rw [e];exact h _ (by omega) (by omega)) ?_,hl]
  ·omega
  ·by_cases h2:p < s.length
   ·right;rw [a14];exact hn h2
   ·left;exact List.drop_eq_nil_of_le (by omega)
 ·intro h j h1 h2;exact Y3 s i j h1 (by omega)
theorem a63 {s:i7} {i p:Nat} (hp:p≤s.length) (hi:i≤p) (hn:p < s.length→¬(48≤bt s p∧bt s p≤57)):G5 ((s.take p).drop i)=decide (i < p∧m6 s i=p):=by
 unfold G5
 have hl:((s.take p).drop i).length=p - i:=by simp;omega
 rw [Bool.eq_iff_iff,decide_eq_true_iff,decide_eq_true_iff,a8u (Nat.zero_le _),hl,← c9f hp hi hn]
 have hb:∀ j,j < p - i→bt ((s.take p).drop i) j=bt s (i+j):=fun j hj=>by
  rw [a14];unfold bt;simp [List.getD,List.getElem?_take,show i+j < p by omega]
 constructor
 ·rintro ⟨h1,h2⟩
  refine ⟨?_,fun j h3 h4=>?_⟩
  ·have:=List.length_pos_iff.2 h1;omega
  ·have:=h2 (j - i) (Nat.zero_le _) (by omega)
   rw [hb _ (by omega),show i+(j - i)=j by omega] at this;exact this
 ·rintro ⟨h1,h2⟩
  refine ⟨fun e=>by rw [e] at hl;simp at hl;omega,fun j _ hj=>?_⟩
  rw [hb j hj];exact h2 _ (by omega) (by omega)
theorem c4u {s:i7} {p:Nat} (hp:j0 s≤p) (hl:p≤s.length):E9 (s.take p) [45]=(s.take p).drop (j0 s):=by
 rw [U6]
 congr 1
 have hs:=L6 s
 unfold j0 at hp ⊢
 have hlen:(s.take p).length=p:=by simp;omega
 by_cases h:0 < s.length∧bt s 0=45
 ·rw [if_pos h] at hp ⊢
  rw [if_pos ⟨by omega,by unfold bt at *;simp only [List.getD,List.getElem?_take];rw [if_pos (by omega)];exact h.2⟩]
 ·rw [if_neg h]
  rw [if_neg]
  rintro ⟨h1,h2⟩
  refine h ⟨by omega,?_⟩
  unfold bt at h2 ⊢
  simp only [List.getD,List.getElem?_take] at h2
  rw [if_pos (by omega)] at h2;exact h2
theorem c7z:G5 R4=true:=by
 unfold G5
 refine decide_eq_true ⟨by decide,V2 R4 0 (by decide) ?_⟩
 intro j _ hj
 have e:j=0:=Nat.lt_one_iff.1 hj
 rw [e];decide
theorem b5d (s:i7):(G5 (E9 (A8 s).1 [45]) && G5 (A8 s).2)=(l8 s).2.2∧((l8 s).2.2=true→(l8 s).1=(A8 s).1∧(l8 s).2.1=(A8 s).2):=by
 have hs:=L6 s
 have hd:=d1z s (j0 s) hs.1
 have hstop:=c4o s (j0 s)
 have hsg:∀ j,j < j0 s→bt s j=45:=fun j hj=>by
  unfold j0 at hj
  split at hj
  ·rename_i h;have:j=0:=by omega
   subst this;exact h.2
  ·omega
 unfold A8 I8
 by_cases hp:0≤Lib.indexByte s 47
 ·obtain ⟨p1,p2⟩:=e8f hp
  have p3:=(S9 s 47).1
  simp only [if_pos hp]
  obtain ⟨p,hpe⟩:∃ p,p=(Lib.indexByte s 47).toNat:=⟨_,rfl⟩
  rw [show (Lib.indexByte s 47+1).toNat=p+1 by omega]
  rw [← hpe] at p1 p2 ⊢
  have hpl:p < s.length:=by omega
  have hip:j0 s≤p:=by
   by_cases h:p < j0 s
   ·have:=hsg p h;rw [p1] at this;simp at this
   ·omega
  have p1':bt s p=47:=p1
  have hkp:m6 s (j0 s)≤p:=by
   by_cases h:p < m6 s (j0 s)
   ·have:=Y3 s (j0 s) p hip h;omega
   ·omega
  rw [c4u hip (by omega),a63 (by omega) hip (fun _=>by omega)]
  have hden:s.drop (p+1)=(s.take s.length).drop (p+1):=by rw [List.take_length]
  simp only [if_true]
  rw [hden,a63 (Nat.le_refl _) (by omega) (fun h=>by omega)]
  unfold l8
  simp only []
  by_cases h1:m6 s (j0 s)=j0 s
  ·rw [if_pos h1]
   refine ⟨?_,fun h=>by cases h⟩
   rw [decide_eq_false (by omega)];rfl
  ·rw [if_neg h1,if_neg (by omega)]
   by_cases h2:m6 s (j0 s)=p
   ·rw [h2]
    by_cases h3:p+1=s.length
    ·rw [if_pos (.inr h3)]
     refine ⟨?_,fun h=>by cases h⟩
     rw [show decide (p+1 < s.length∧m6 s (p+1)=s.length)=false from decide_eq_false (by omega),Bool.and_false]
    ·rw [if_neg (by omega)]
     have hsp:j0 s < p:=by omega
     by_cases h4:m6 s (p+1)=s.length
     ·rw [if_pos h4]
      refine ⟨?_,fun _=>⟨by simp,by simp⟩⟩
      rw [decide_eq_true ⟨hsp,rfl⟩,decide_eq_true ⟨by omega,h4⟩];rfl
     ·rw [if_neg h4]
      refine ⟨?_,fun h=>by cases h⟩
      rw [show decide (p+1 < s.length∧m6 s (p+1)=s.length)=false from decide_eq_false (fun h=>h4 h.2),Bool.and_false]
   ·rw [if_pos (.inl (p2 _ (by omega)))]
    refine ⟨?_,fun h=>by cases h⟩
    rw [decide_eq_false (fun h=>h2 h.2)];rfl
 ·have p2:=d93 hp
  simp only [if_neg hp]
  rw [show E9 s [45]=(s.take s.length).drop (j0 s) by rw [List.take_length,U6],a63 (Nat.le_refl _) hs.1 (fun h=>by omega)]
  simp only [Bool.false_eq_true,if_false]
  rw [c7z,Bool.and_true]
  unfold l8
  simp only []
  by_cases h1:m6 s (j0 s)=j0 s
  ·rw [if_pos h1]
   refine ⟨decide_eq_false (by omega),fun h=>by cases h⟩
  ·rw [if_neg h1]
   by_cases h2:m6 s (j0 s)=s.length
   ·rw [if_pos h2]
    exact ⟨decide_eq_true ⟨by omega,h2⟩,fun _=>⟨rfl,rfl⟩⟩
   ·rw [if_neg h2,if_pos (.inl (p2 _ (by omega)))]
    exact ⟨decide_eq_false (fun h=>h2 h.2),fun h=>by cases h⟩
theorem d17:u7 1 47=[47]:=by decide
theorem d5o:l5 164 (sp1 fun s=>.ret (.t [.c (.s (A8 s).1),.c (.s (A8 s).2),.c (.b (l8 s).2.2)])):=v7 (fun fn h=>d94 h) [(182,_),(184,_),(183,_)] (.cons f1e (.cons a0e (.cons d8i .nil))) fun U fn hfn ⟨s,hs⟩ vs bs hv hb=>by
 have hc:=hfn 182 _ rfl
 have ht:=hfn 184 _ rfl
 have hi:=hfn 183 _ rfl
 have hv:l9 [.c (.s s)] vs:=hv
 have hb:RBs [] bs:=hb
 have hs:s.length < 90000:=hs
 show j3 U _ fun v bs'=>m8 (.ret (.t [.c (.s (A8 s).1),.c (.s (A8 s).2),.c (.b (l8 s).2.2)])) v∧RBs [] bs'
 unfold d5v
 obtain ⟨n1,n2⟩:=b5d s
 have hl:(A8 s).1.length≤s.length∧((A8 s).2.length≤s.length∨(A8 s).2.length≤1):=by
  unfold A8 I8
  split <;> simp [R4] <;> omega
 have hcp:(E9 (A8 s).1 [45]).length≤(A8 s).1.length:=by unfold E9;split <;> simp
 rw [← n1]
 (refine Zq ?_;with_reducible repeat' first|intro _|apply aI)
 refine j4 hc ⟨(s,u7 1 47),⟨hs,47,d17⟩⟩ (r:=.t [.c (.s (I8 s 47).1),.c (.s (I8 s 47).2.1),.c (.b (I8 s 47).2.2)]) (by show y4.ret (.t [.c (.s (I8 s ((u7 1 47).headD 0)).1),.c (.s (I8 s ((u7 1 47).headD 0)).2.1),.c (.b (I8 s ((u7 1 47).headD 0)).2.2)])=_;rw [d17];rfl) j9 .nil fun _ _ _ _=>?_
 (refine Zy ?_;with_reducible repeat' first|intro _|apply aI)
 refine H6 (fun vs bs=>l9 [.c (.s (A8 s).1),.c (.s (A8 s).2)] vs∧RBs [] bs) ?_ ?_
 ·rintro vs' bs' ⟨hv',hb'⟩
  (refine Zq ?_;with_reducible repeat' first|intro _|apply aI)
  refine j4 ht ⟨((A8 s).1,u7 1 45),trivial⟩ (r:=.c (.s (E9 (A8 s).1 [45]))) (by show y4.ret (.c (.s (E9 _ (u7 1 45))))=_;rw [b5p]) j9 .nil fun _ _ _ _=>?_
  (refine Zq ?_;with_reducible repeat' first|intro _|apply aI)
  refine j4 hi ⟨E9 (A8 s).1 [45],by omega⟩ (r:=.c (.b (G5 (E9 (A8 s).1 [45])))) rfl j9 .nil fun _ _ _ _=>?_
  (refine Zq ?_;with_reducible repeat' first|intro _|apply aI)
  ·have h1:G5 (E9 (A8 s).1 [45])=true:=‹_›
   rw [h1,Bool.true_and]
   refine j4 hi ⟨(A8 s).2,by omega⟩ (r:=.c (.b (G5 (A8 s).2))) rfl j9 .nil fun _ _ _ _=>?_
   (refine Zq ?_;with_reducible repeat' first|intro _|apply aI)
   exact l6 ⟨.ret _ _ j9,.nil⟩
  ·have h1:G5 (E9 (A8 s).1 [45])=false:=by simpa using ‹¬G5 (E9 (A8 s).1 [45])=true›
   rw [h1,Bool.false_and]
   exact l6 ⟨.ret _ _ j9,.nil⟩
 ·intro c hc
  have e1:(A8 s).1=(I8 s 47).1:=rfl
  have e2:(A8 s).2=if (I8 s 47).2.2 then (I8 s 47).2.1 else R4:=rfl
  (refine Zq ?_;with_reducible repeat' first|intro _|apply aI)
  ·refine hc _ _ ⟨?_,.nil⟩
   rw [e1,e2,if_pos ‹_›]
   exact j9
  ·refine hc _ _ ⟨?_,.nil⟩
   rw [e1,e2,if_neg ‹_›]
   exact j9
theorem c97 (s:i7) (a:Nat):Lib.trimLeftS (s.drop a) [48]=s.drop (C5 s a):=by
 fun_induction C5 s a with
 | case1 a h1 h2 ih =>
  rw [← ih,List.drop_eq_getElem_cons h1]
  have:s[a]=48:=UInt8.toNat_inj.1 (by have e:bt s a=s[a].toNat:=by unfold bt;simp [List.getD,List.getElem?_eq_getElem h1]
                                      rw [e] at h2;show s[a].toNat=48;omega)
  unfold Lib.trimLeftS
  rw [List.dropWhile_cons_of_pos (by rw [this];decide)]
 | case2 a h1 h2 =>
  rw [List.drop_eq_getElem_cons h1]
  unfold Lib.trimLeftS
  rw [List.dropWhile_cons_of_neg]
  simp only [List.contains_cons,List.contains_nil,Bool.or_false,beq_iff_eq]
  intro e
  refine h2 ?_
  unfold bt;simp [List.getD,List.getElem?_eq_getElem h1,e]
 | case3 a h1=>rw [List.drop_eq_nil_of_le (by omega)];rfl
theorem e4u:l5 166 (sp1 fun s=>.ret (.c (.s (plain s)))):=v7 (fun fn h=>e10 h) [(184,_),(192,_)] (.cons a0e (.cons c61 .nil)) fun U fn hfn ⟨s,hs⟩ vs bs hv hb=>by
 have ht:=hfn 184 _ rfl
 have hl:=hfn 192 _ rfl
 have hv:l9 [.c (.s s)] vs:=hv
 have hb:RBs [] bs:=hb
 have hs:s.length < 90000:=hs
 show j3 U _ fun v bs'=>m8 (.ret (.c (.s (plain s)))) v∧RBs [] bs'
 unfold d5f
 (refine Zq ?_;with_reducible repeat' first|intro _|apply aI)
 refine j4 ht ⟨(s,u7 1 45),trivial⟩ (r:=.c (.s (s.drop (j0 s)))) (by show y4.ret (.c (.s (E9 s (u7 1 45))))=_;rw [b5p,U6]) j9 .nil fun _ _ _ _=>?_
 (refine Zq ?_;with_reducible repeat' first|intro _|apply aI)
 refine j4 hl ⟨(s.drop (j0 s),u7 1 48),by show (s.drop (j0 s)).length < 4294967281;simp;omega,(by decide:(u7 1 48).length < 4294967281),(by decide:∀ b ∈ u7 1 48,b.toNat < 128)⟩ (r:=.c (.s (s.drop (C5 s (j0 s))))) (by show y4.ret (.c (.s (Lib.trimLeftS (s.drop (j0 s)) (u7 1 48))))=_;rw [← c97];rfl) j9 .nil fun _ _ _ _=>?_
 have hsl:=L6 s
 have hz:=a89 s (j0 s) hsl.1
 have hbt:((s.getD 0 0).toNat:Int)=bt s 0:=rfl
 have e1:plain s=if C5 s (j0 s)=s.length then A5 else if j0 s=1 then [45] ++ s.drop (C5 s (j0 s)) else s.drop (C5 s (j0 s)):=by unfold plain;simp only [List.take_length]
 rw [e1]
 generalize C5 s (j0 s)=z at *
 have hdl:(s.drop z).length=s.length - z:=by simp
 have hpos:¬s.drop z=u7 0 0→0 < s.length:=fun h=>by
  rcases Nat.lt_or_ge 0 s.length with h2 | h2
  ·exact h2
  ·exact absurd (List.drop_eq_nil_of_le (by omega)) h
 have hsg:j0 s=1↔(0 < s.length∧bt s 0=45):=by unfold j0;split <;> simp [*]
 (refine Zq ?_;with_reducible repeat' first|intro _|apply aI)
 ·have:z=s.length:=by
   have h:s.drop z=[]:=‹_›
   have:=List.drop_eq_nil_iff.1 h;omega
  rw [if_pos this]
  exact l6 ⟨.ret _ _ (.s _ _ _ rfl rfl),.nil⟩
 ·have h0:¬s.drop z=u7 0 0:=‹_›
  have hp:=hpos h0
  rw [if_neg (fun e=>h0 (List.drop_eq_nil_of_le (by omega)))]
  (refine Zq ?_;with_reducible repeat' first|intro _|apply aI)
  ·rw [if_pos (hsg.2 ⟨hp,‹_›⟩)]
   refine d7o (x:=[45]) (y:=s.drop z) rfl rfl rfl ?_
   exact l6 ⟨.ret _ _ (.s _ _ _ (by simp;omega) rfl),.nil⟩
  ·rw [if_neg (fun e=>‹¬_› (hsg.1 e).2)]
   exact l6 ⟨.ret _ _ (.s _ _ _ rfl rfl),.nil⟩
end
end Go.Proofs.YtffaodopiifbkaaGreatDoor
