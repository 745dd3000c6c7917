/- The program's numbers: a text as limbs. -/
import Derived.Test.YtkojildpddaccaaGreatDoorCJ9
set_option linter.all false
namespace Go.Proofs.YtkojildpddaccaaGreatDoor
open Go.Abs LQ Go.RowKit Go.Lib Go.Sort
set_option maxRecDepth 100000
set_option maxHeartbeats 4000000
noncomputable section
theorem f7d (l:List UInt8):∀ acc:Nat,(∀ c ∈ l,48≤c.toNat∧c.toNat≤57)→acc * 10 ^ l.length+L3 l≤4294967295→Lib.parseUintM 4294967295 acc l=.ok (acc * 10 ^ l.length+L3 l):=by
 induction l with
 | nil=>intro acc _ _;simp [Lib.parseUintM,L3,D0]
 | cons c r ih =>
  intro acc hd h
  obtain ⟨h1,h2⟩:=hd c (by simp)
  have e:L3 (c :: r)=(c.toNat - 48) * 10 ^ r.length+L3 r:=by
   rw [b6k]
   have:(bt [c] 0 - 48).toNat=c.toNat - 48:=by show (((c.toNat:Nat):Int) - 48).toNat=_;omega
   rw [this]
  rw [e,List.length_cons,Nat.pow_succ] at h ⊢
  have hp:1≤10 ^ r.length:=Nat.one_le_pow _ _ dE
  have e2:(acc * 10+(c.toNat - 48)) * 10 ^ r.length+L3 r=acc * (10 ^ r.length * 10)+((c.toNat - 48) * 10 ^ r.length+L3 r):=by
   rw [Nat.add_mul,Nat.mul_assoc,Nat.mul_comm 10,Nat.add_assoc]
  have hb:acc * 10+(c.toNat - 48)≤(acc * 10+(c.toNat - 48)) * 10 ^ r.length:=Nat.le_mul_of_pos_right _ hp
  rw [Lib.parseUintM,if_pos ⟨h1,h2⟩,if_neg oM,if_neg oM,ih _ (fun d hd'=>hd d (by simp [hd'])) (by rw [e2];exact h),e2]
theorem e8r {s:u4} (h:∀ j,j < s.length→48≤bt s j∧bt s j≤57):∀ c ∈ s,48≤c.toNat∧c.toNat≤57:=fun c hc=>by
 obtain ⟨j,hj,rfl⟩:=List.getElem_of_mem hc
 have:=h j hj
 unfold bt at this
 simp only [List.getD,List.getElem?_eq_getElem hj,Option.getD_some] at this
 omega
theorem f7c {s:u4} (h0:0 < s.length) (h9:s.length≤9) (h:∀ j,j < s.length→48≤bt s j∧bt s j≤57):Lib.parseUintB 32 s=.ok (L3 s):=by
 have hl:=e0y s h
 have hp:(10:Nat) ^ s.length≤10 ^ 9:=Nat.pow_le_pow_right dE h9
 have:=f7d s 0 (e8r h) (by rw [Nat.zero_mul];omega)
 rw [Nat.zero_mul,Nat.zero_add] at this
 unfold Lib.parseUintB
 rw [if_neg (by intro e;subst e;simp at h0)]
 exact this
def g97:Sp where
 ι:={ s:u4 // 0 < s.length∧s.length≤9∧∀ j,j < s.length→48≤bt s j∧bt s j≤57 }
 A s:=[.c (.s s.1),.c (.i .i64 10),.c (.i .i64 32)]
 B _:=[]
 R s:=.ret (.t [.c (.i .u64 ((L3 s.1:Nat):Int)),.nilI])
 B' _:=[]
 inj i j vs bs h k _ _:=by
  obtain ⟨_,_,h1,k1,h,k⟩:=h.two k
  rw [a4l h1 k1];exact ⟨rfl,rfl⟩
theorem kPU:s9 282 g97:=fun ⟨s,h0,h9,hd⟩ vs bs hv hb=>by
 change t7 [.c (.s s),.c (.i .i64 10),.c (.i .i64 32)] vs at hv
 cases hb
 refine ⟨.ret (.tuple [.int .u64 ((L3 s:Nat):Int),.nilIface]),[],fun hok=>?_,.ret _ _ (.t _ _ (.k (.i _ _) (.k .nilI .nil))),.nil⟩
 have hx:vs.map toD=[D.str s,.int .i64 10,.int .i64 32]:=by
  cases hv with
  | cons _ _ v _ h1 h2=>cases h2 with
   | cons _ _ v2 _ h2 h3=>cases h3 with
    | cons _ _ v3 _ h3 h4 =>
     cases h4
     rw [List.map_cons,List.map_cons,List.map_cons,g5j h1,e7y h2,e7y h3];rfl
 rw [hx]
 refine a7e (d:=.tuple [.int .u64 ((L3 s:Nat):Int),.nilIface]) Tryz.call282 fun w S M us hg hwi hr=>?_
 have hus:us=[.string ⟨s.toArray⟩,.int .i64 10,.int .i64 32]:=by
  cases hr with
  | cons _ _ _ _ r1 r2=>cases r2 with
   | cons _ _ _ _ r2 r3=>cases r3 with
    | cons _ _ _ _ r3 r4 =>
     cases r4;cases r1;cases r2;cases r3
     rename_i sb hs
     rw [g0p hs]
 subst hus
 refine (Any.strconv_ParseUint_10_at32_ok Tryz.laysPu14 ⟨s.toArray⟩ (by simp [ByteArray.size];omega) (L3 s) (f7c h0 h9 hd) w).mono ?_
 rintro e w' ⟨rfl,hw⟩
 have hb:Below w.heap.size w w':=by
  rcases hw with rfl | rfl
  ·exact Below.refl _ _
  ·exact Lib.bytesWorld_below _ _ _
 refine ⟨hb,_,S,rfl,⟨fun _ _ h=>h,fun _ _ h=>.inl h⟩,a5y hwi hb,.tuple _ _ (.k (.int _ _) (.k .nilIface .nil)),⟨(fun _ _ _ h=>by cases h),fun vs ds hv hd i u e h1 h2=>?_⟩⟩
 injection hv with hv
 injection hd with hd
 subst hv hd
 intro len c z he
 subst he
 match i with
 | 0=>simp at h2
 | 1=>simp at h2
 | i+2=>simp at h2
section
variable {U:B0} {P:H4→List Bx→Prop}
end
def b8b (neg:Bool) (n:Nat):List G:=[.b neg,.l (lgs n)]
end
end Go.Proofs.YtkojildpddaccaaGreatDoor
namespace Go.Proofs.YtkojildpddaccaaGreatDoor
open Go.Abs LQ
set_option maxRecDepth 100000
set_option maxHeartbeats 4000000
noncomputable section
section
variable {U:B0} {P:H4→List Bx→Prop}
theorem sQR {g:G} {v:V} {K:Q→Om} (hv:RV (.c g) v) (h:∀ x,RG g x→s4 U (K x) P):s4 U (U.uQ v K) P:=fun e=>by
 have h2:∃ x,CU.uQ v K=K x∧RG g x:=by
  cases hv with
  | b x=>exact ⟨_,rfl,.b x⟩
  | kn x=>exact ⟨_,rfl,.b x⟩
  | i k n=>exact ⟨_,rfl,.i k n⟩
  | s x l c h1 h2=>exact ⟨_,rfl,.s x l c h1 h2⟩
  | cl xs t n off len h1 h2=>exact ⟨_,rfl,.l xs t n off len h1 h2⟩
  | q _ x h=>exact ⟨_,rfl,h⟩
 obtain ⟨x,h3,h4⟩:=h2
 have:=h x h4 e
 subst e
 rw [h3];exact this
end
theorem e0f {a b:Bool} {m n:Nat} (h:b8b a m=b8b b n):a=b∧m=n:=by
 simp only [b8b,List.cons.injEq,G.b.injEq,G.l.injEq,and_true] at h
 exact ⟨h.1,e9r h.2⟩
def g9y:Sp where
 ι:={ p:Bool × Nat // (T3 p.2).length < 20000 }
 A p:=[.a (b8b p.1.1 p.1.2)]
 B _:=[]
 R p:=.ret (.c (.s (J0 p.1.1 p.1.2)))
 B' _:=[]
 inj i j vs bs h k _ _:=by
  obtain ⟨_,_,h1,k1,h,k⟩:=h.two k
  obtain ⟨e1,e2⟩:=e0f (h1.a_inj k1)
  rw [e1,e2];exact ⟨rfl,rfl⟩
inductive RT where
 | nil
 | node (k:Int) (nu de:u4) (s:Sy) (t:u4) (ps r:RT)
structure Ob where
 k:Int
 nu:u4
 de:u4
 s:Sy
 t:u4
 ps:RT
theorem g4f:s9 236 (c11 fun s=>.c (.b (named s))):=u2 (fun fn h=>c9m h) [] .nil fun U fn hfn ⟨s,h1,h2⟩ vs bs hv hb=>by
 have h1:s.1.length < 90000:=h1
 have hv:t7 [.a [.s s.1,.s s.2]] vs:=hv
 have hb:s5 [] bs:=hb
 show s4 U _ fun v bs'=>u0 (.ret (.c (.b (named s)))) v∧s5 [] bs'
 unfold d3i
 (refine Zy ?_;intros)
 refine g9a (fun vs bs=>∃ b:Bool,t7 [.p 0 0,.c (.b b)] vs∧s5 [[.s s.1,.s s.2]] bs∧(U=CU→b=!decide (1≤s.1.length∧s.1.length≤40∧1≤s.2.length∧s.2.length≤40))) ?_ ?_
 ·rintro vs' bs' ⟨b,hv',hb',hbe⟩
  refine fun e=>?_
  have hbe:=hbe e
  refine (show s4 U _ _ from ?_) e
  (refine Zq ?_;with_reducible repeat' first|intro _|apply aI)
  ·have:named s=false:=by
    have hb1:b=true:=‹_›
    rw [hb1] at hbe
    have h3:¬(1≤s.1.length∧s.1.length≤40∧1≤s.2.length∧s.2.length≤40):=fun h=>by rw [decide_eq_true h] at hbe;cases hbe
    unfold named F6
    rw [Bool.eq_false_iff]
    intro h4
    simp only [Bool.and_eq_true,decide_eq_true_iff] at h4
    omega
   rw [this]
   exact p9 ⟨.ret _ _ (.kn _),.nil⟩
  ·have h3:1≤s.1.length∧s.1.length≤40∧1≤s.2.length∧s.2.length≤40:=by
    have hb1:b=false:=by simpa using ‹¬b=true›
    rw [hb1] at hbe
    by_cases h:1≤s.1.length∧s.1.length≤40∧1≤s.2.length∧s.2.length≤40
    ·exact h
    ·rw [decide_eq_false h] at hbe;cases hbe
   have hnm:named s=(decide (97≤bt s.1 0∧bt s.1 0≤122) && J8 s.1 0):=by
    unfold named F6
    rw [Bool.eq_iff_iff]
    simp only [Bool.and_eq_true,decide_eq_true_iff]
    constructor
    ·rintro ⟨⟨a,b⟩,c⟩;exact ⟨⟨oM,oM⟩,b⟩
    ·rintro ⟨a,b⟩;exact ⟨⟨⟨oM,oM,oM,oM⟩,b⟩,oM⟩
   rw [hnm]
   refine F9 (fun (i:Nat) vs bs=>vs=[.ptr 0 0,.int .i64 s.1.length,.int .i64 i]∧s5 [[.s s.1,.s s.2]] bs∧i≤s.1.length∧J8 s.1 i=J8 s.1 0∧(i=0∨97≤bt s.1 0∧bt s.1 0≤122)) (fun i=>s.1.length - i) 0 ⟨rfl,RB.bx aS rfl,oM,rfl,.inl rfl⟩ (by simp only [C9];omega) ?_
   rintro self i _ _ ⟨rfl,hb,hi,he,h0⟩ ih
   have hbi:bt s.1 i=((s.1.getD i 0).toNat:Int):=rfl
   have hz:i=0→bt s.1 0=((s.1.getD i 0).toNat:Int):=by rintro rfl;rfl
   have no:¬a4y (bt s.1 i)=true→i < s.1.length→(decide (97≤bt s.1 0∧bt s.1 0≤122) && J8 s.1 0)=false:=fun h hl=>by rw [← he,c76 hl h,Bool.and_false]
   have no2:¬(97≤bt s.1 0∧bt s.1 0≤122)→(decide (97≤bt s.1 0∧bt s.1 0≤122) && J8 s.1 0)=false:=fun h=>by rw [decide_eq_false h];rfl
   (refine Zq ?_;with_reducible repeat' first|intro _|apply aI)
   all_goals first
    | exact ih (i+1) _ _ ⟨rfl,RB.bx aS rfl,oM,(a0p (i:=i) oM (d1x.2 oM)).symm.trans he,.inr oM⟩ oM
    | exact p9 ⟨.ret _ _ (H8 (no (fun h=>by have:=d1x.1 h;omega) oM)),.nil⟩
    | exact p9 ⟨.ret _ _ (H8 (no2 oM)),.nil⟩
    | skip
   have hl:¬i < s.1.length:=oM
   rw [decide_eq_true oM,← he,b23 hl]
   exact p9 ⟨.ret _ _ (.kn _),.nil⟩
 ·intro c hc
  (refine Zq ?_;with_reducible repeat' first|intro _|apply aI)
  all_goals refine hc _ _ ⟨_,by (exact u5),RB.bx aS rfl,fun e=>?_⟩
  all_goals first
   | exact (congrArg (!·) (decide_eq_false oM)).symm
   | skip
  subst e
  rw [b73]
  by_cases h:(40:Int) < (s.2.length:Int)
  ·rw [decide_eq_true h,decide_eq_false oM];rfl
  ·rw [decide_eq_false h,decide_eq_true oM];rfl
end
end Go.Proofs.YtkojildpddaccaaGreatDoor
