/- Terms whose variables are replaced: where a term and its instance both have values, these are the same (whatever the limits of steps). No program in sight. -/
import Derived.Test.YtkojildpddaccaaGreatDoorCJ5
set_option linter.all false
namespace Go.Proofs.YtkojildpddaccaaGreatDoor
open Go.Abs LQ
set_option maxRecDepth 100000
noncomputable section
section
variable {ap:Ap} {L:List (List F)}
inductive SR (ap:Ap) (L:List (List F)) (e1 e2:Q1):T→T→Prop
 | v (s:Sy) (t:T):(∀ o m l o' r,O1 e1 s=some o→H0 ap L m t e2 l=some (o',0,r)→o'=o)→SR ap L e1 e2 (.v s) t
 | c (o:O):SR ap L e1 e2 (.c o) (.c o)
 | call (f:Sy) (xs ys:List T):xs.length=ys.length→(∀ (i:Nat) (x y:T),xs[i]?=some x→ys[i]?=some y→SR ap L e1 e2 x y)→SR ap L e1 e2 (.call f xs) (.call f ys)
def Agr (A:T→Nat→Option Ro) (B:T→Nat→Option Ro) (x y:T):Prop:=∀ l l' o r o' r',A x l=some (o,0,r)→B y l'=some (o',0,r')→o=o'
theorem c7i {A B:T→Nat→Option Ro}:∀ {xs ys:List T},xs.length=ys.length→(∀ (i:Nat) (x y:T),xs[i]?=some x→ys[i]?=some y→Agr A B x y)→∀ {l l':Nat} {acc a a':List O} {m m':Nat},P4 A xs l acc=some (.inr (a,m))→P4 B ys l' acc=some (.inr (a',m'))→a=a'
 | [],[],_,_,l,l',acc,a,a',m,m',h,k=>by
  rw [P4] at h k
  injection h with h;injection h with h;injection h with h _
  injection k with k;injection k with k;injection k with k _
  rw [← h,← k]
 | [],_ :: _,e,_,_,_,_,_,_,_,_,_,_=>by cases e
 | _ :: _,[],e,_,_,_,_,_,_,_,_,_,_=>by cases e
 | x :: xs,y :: ys,e,H,l,l',acc,a,a',m,m',h,k=>by
  rw [P4] at h k
  cases h1:A x l with
  | none=>rw [h1] at h;cases h
  | some q =>
   cases k1:B y l' with
   | none=>rw [k1] at k;cases k
   | some p =>
    rw [h1] at h
    rw [k1] at k
    simp only at h k
    obtain ⟨o,z,r⟩:=q
    obtain ⟨o',z',r'⟩:=p
    by_cases c:z=0
    ·by_cases c':z'=0
     ·subst c c'
      rw [if_pos rfl] at h k
      have:=H 0 x y rfl rfl l l' o r o' r' h1 k1
      subst this
      exact c7i (by simpa using e) (fun i a b ha hb=>H (i+1) a b (by simpa using ha) (by simpa using hb)) h k
     ·rw [if_neg c'] at k;injection k with k;cases k
    ·rw [if_neg c] at h;injection h with h;cases h
theorem b2q {A:T→Nat→Option Ro}:∀ {xs:List T} {l:Nat} {acc:List O} {p:Int × Nat},P4 A xs l acc=some (.inl p)→p.1 ≠ 0
 | [],l,acc,p,h=>by rw [P4] at h;injection h with h;cases h
 | x :: xs,l,acc,p,h=>by
  rw [P4] at h
  cases h1:A x l with
  | none=>rw [h1] at h;cases h
  | some q =>
   rw [h1] at h
   simp only at h
   by_cases c:q.2.1=0
   ·rw [if_pos c] at h;exact b2q h
   ·rw [if_neg c] at h;injection h with h;injection h with h;rw [← h];exact c
theorem e8u {A B:T→Nat→Option Ro} {xs ys:List T} (e:xs.length=ys.length) (H:∀ (i:Nat) (x y:T),xs[i]?=some x→ys[i]?=some y→Agr A B x y) {l l':Nat} {o o':O} {r r':Nat} (h:evI A xs l=some (o,0,r)) (k:evI B ys l'=some (o',0,r')):o=o':=by
 match xs,ys,e with
 | [a,b,c],[a',b',c'],_ =>
  rw [evI] at h k
  cases h1:A a l with
  | none=>rw [h1] at h;cases h
  | some q =>
   cases k1:B a' l' with
   | none=>rw [k1] at k;cases k
   | some p =>
    rw [h1] at h
    rw [k1] at k
    obtain ⟨u,z,s⟩:=q
    obtain ⟨u',z',s'⟩:=p
    simp only at h k
    by_cases c1:z=0
    ·by_cases c2:z'=0
     ·subst c1 c2
      rw [if_pos rfl] at h k
      have:=H 0 a a' rfl rfl l l' u s u' s' h1 k1
      subst this
      by_cases c3:O.eqb u C8=true
      ·rw [if_pos c3] at h k
       exact H 2 c c' rfl rfl _ _ _ _ _ _ h k
      ·rw [if_neg c3] at h k
       exact H 1 b b' rfl rfl _ _ _ _ _ _ h k
     ·rw [if_neg c2] at k;injection k with k;exact absurd (congrArg (·.2.1) k) c2
    ·rw [if_neg c1] at h;injection h with h;exact absurd (congrArg (·.2.1) h) c1
 | [],_,_=>cases h
 | [_],_,_=>cases h
 | [_,_],_,_=>cases h
 | _ :: _ :: _ :: _ :: _,_,_=>cases h
theorem d07 {n:Nat} {s:Sy} {env:Q1} {l:Nat} {o:O} {r:Nat} (h:H0 ap L n (.v s) env l=some (o,0,r)):O1 env s=some o:=by
 cases n with
 | zero=>cases h
 | succ n =>
  change P5 ap L _ _ _ _=_ at h
  rw [P5] at h
  split at h
  ·cases h
  ·split at h
   ·rename_i o2 e;injection h with h;injection h with h _;rw [e,h]
   ·injection h with h;injection h with _ h;injection h with h _;cases h
theorem SR.same (env:Q1):∀ t:T,SR ap L env env t t
 | .v s=>.v s _ fun o m l o' r h k=>by have:=d07 k;rw [h] at this;injection this with this;exact this.symm
 | .c o=>.c o
 | .call f xs=>.call f xs xs rfl fun i x y hx hy=>by
  rw [hx] at hy
  injection hy with hy
  subst hy
  have:SizeOf.sizeOf x < SizeOf.sizeOf xs:=List.sizeOf_lt_of_mem (List.mem_of_getElem? hx)
  exact SR.same env x
termination_by t=>SizeOf.sizeOf t
decreasing_by simp_wf;omega
theorem b14:∀ (n:Nat) {t t':T} {e1 e2:Q1},SR ap L e1 e2 t t'→∀ m,Agr (fun t l=>H0 ap L n t e1 l) (fun t l=>H0 ap L m t e2 l) t t'
 | 0,_,_,_,_,_,_,_,_,_,_,_,_,h,_=>by cases h
 | n+1,t,t',e1,e2,hs,m,l,l',o,r,o',r',h,k=>by
  cases hs with
  | v s _ H=>exact (H o m l' o' r' (d07 h) k).symm
  | c x =>
   cases m with
   | zero=>cases k
   | succ m =>
    change P5 ap L _ _ _ _=_ at h k
    rw [P5] at h k
    injection h with h;injection h with h _
    injection k with k;injection k with k _
    rw [← h,← k]
  | call f xs ys e H =>
   cases m with
   | zero=>cases k
   | succ m =>
    change P5 ap L _ _ _ _=_ at h k
    rw [P5] at h k
    rw [← e] at k
    split at h
    ·cases h
    rename_i c0
    rw [if_neg c0] at k
    split at h
    ·injection h with h;exact absurd (congrArg (·.2.1) h) (fun z=>by first | exact absurd (show (9:Int)=0 from z) dE | exact absurd (show (7:Int)=0 from z) dE | exact absurd (show (8:Int)=0 from z) dE | exact absurd (show (5:Int)=0 from z) dE)
    split at k
    ·injection k with k;exact absurd (congrArg (·.2.1) k) (fun z=>by first | exact absurd (show (9:Int)=0 from z) dE | exact absurd (show (7:Int)=0 from z) dE | exact absurd (show (8:Int)=0 from z) dE | exact absurd (show (5:Int)=0 from z) dE)
    cases ha:K9 L f with
    | none=>rw [ha] at h;injection h with h;exact absurd (congrArg (·.2.1) h) (fun z=>by first | exact absurd (show (9:Int)=0 from z) dE | exact absurd (show (7:Int)=0 from z) dE | exact absurd (show (8:Int)=0 from z) dE | exact absurd (show (5:Int)=0 from z) dE)
    | some q =>
     rw [ha] at h k
     simp only at h k
     by_cases c1:q=(xs.length:Int)
     ·rw [if_pos c1] at h k
      by_cases c2:(D5 f).isNone∧c2g L f ≠ 1
      ·rw [if_pos c2] at h;injection h with h;exact absurd (congrArg (·.2.1) h) (fun z=>by first | exact absurd (show (9:Int)=0 from z) dE | exact absurd (show (7:Int)=0 from z) dE | exact absurd (show (8:Int)=0 from z) dE | exact absurd (show (5:Int)=0 from z) dE)
      ·rw [if_neg c2] at h k
       have hc:isC (.call f ys) (o8 2 26217) 3=isC (.call f xs) (o8 2 26217) 3:=by show (decide (f=(s8,o8 2 26217)) && decide ((ys.length:Int)=3))=(decide (f=(s8,o8 2 26217)) && decide ((xs.length:Int)=3));rw [e]
       rw [hc] at k
       by_cases c3:isC (.call f xs) (o8 2 26217) 3=true
       ·rw [if_pos c3] at h k
        exact e8u e (fun i x y hx hy=>b14 n (H i x y hx hy) m) h k
       ·rw [if_neg c3] at h k
        unfold evC at h k
        cases h1:P4 (fun t l=>H0 ap L n t e1 l) xs (l - 1) [] with
        | none=>rw [h1] at h;cases h
        | some p =>
         cases k1:P4 (fun t l=>H0 ap L m t e2 l) ys (l' - 1) [] with
         | none=>rw [k1] at k;cases k
         | some p' =>
          rw [h1] at h
          rw [k1] at k
          cases p with
          | inl z=>injection h with h;exact absurd (congrArg (·.2.1) h) (b2q h1)
          | inr z =>
           cases p' with
           | inl z'=>injection k with k;exact absurd (congrArg (·.2.1) k) (b2q k1)
           | inr z' =>
            obtain ⟨a,u⟩:=z
            obtain ⟨a',u'⟩:=z'
            have:=c7i e (fun i x y hx hy=>b14 n (H i x y hx hy) m) h1 k1
            subst this
            simp only at h k
            cases hp:D5 f with
            | some _ =>
             rw [hp] at h k
             cases hq:ap f a with
             | none=>rw [hq] at h;cases h
             | some w =>
              rw [hq] at h k
              simp only [Option.map_some,Option.some.injEq,Prod.mk.injEq] at h k
              rw [← h.1,← k.1]
            | none =>
             rw [hp] at h k
             cases hf:K1 L f with
             | none=>rw [hf] at h;cases h
             | some fn =>
              rw [hf] at h k
              exact b14 n (SR.same _ _) m _ _ _ _ _ _ h k
     ·rw [if_neg c1] at h;injection h with h;exact absurd (congrArg (·.2.1) h) (fun z=>by first | exact absurd (show (9:Int)=0 from z) dE | exact absurd (show (7:Int)=0 from z) dE | exact absurd (show (8:Int)=0 from z) dE | exact absurd (show (5:Int)=0 from z) dE)
theorem c7j {n m:Nat} {t:T} {env:Q1} {l l':Nat} {o o':O} {r r':Nat} (h:H0 ap L n t env l=some (o,0,r)) (k:H0 ap L m t env l'=some (o',0,r')):o=o':=b14 n (SR.same env t) m _ _ _ _ _ _ h k
def asg:List (Sy × T)→Sy→Option T
 | [],_=>none
 | (x,t) :: l,s=>if x=s then some t else asg l s
mutual
/-- The instance of a term. -/
def C7 (σ:List (Sy × T)):T→T
 | .v s=>(asg σ s).getD (.v s)
 | .c o=>.c o
 | .call f xs=>.call f (a0d σ xs)
def a0d (σ:List (Sy × T)):List T→List T
 | []=>[]
 | t :: ts=>C7 σ t :: a0d σ ts
end
theorem a98 (σ:List (Sy × T)):∀ xs:List T,a0d σ xs=xs.map (C7 σ)
 | []=>rfl
 | t :: ts=>by rw [a0d,a98 σ ts];rfl
theorem d8a {σ:List (Sy × T)} {e1 e2:Q1} (H:∀ s o m l o' r,O1 e1 s=some o→H0 ap L m (C7 σ (.v s)) e2 l=some (o',0,r)→o'=o):∀ t:T,SR ap L e1 e2 t (C7 σ t)
 | .v s=>.v s _ fun o m l o' r=>H s o m l o' r
 | .c o=>.c o
 | .call f xs=>by
  rw [C7,a98]
  refine .call f xs _ (by simp) fun i x y hx hy=>?_
  rw [List.getElem?_map,hx] at hy
  injection hy with hy
  subst hy
  have:SizeOf.sizeOf x < SizeOf.sizeOf xs:=List.sizeOf_lt_of_mem (List.mem_of_getElem? hx)
  exact d8a H x
termination_by t=>SizeOf.sizeOf t
decreasing_by simp_wf;omega
theorem f3h {σ:List (Sy × T)} {e1 e2:Q1} {t:T} (H:∀ s o m l o' r,O1 e1 s=some o→H0 ap L m (C7 σ (.v s)) e2 l=some (o',0,r)→o'=o) {n m l l':Nat} {o o':O} {r r':Nat} (h:H0 ap L n t e1 l=some (o,0,r)) (k:H0 ap L m (C7 σ t) e2 l'=some (o',0,r')):o=o':=b14 n (d8a H t) m _ _ _ _ _ _ h k
end
set_option maxHeartbeats 4000000
theorem g3y {o:O} (h:o.fm=true):0 < o.da:=by
 cases o with
 | num n d =>
  have h:=(of_decide_eq_true h).1
  rw [a4j,v7,A7] at h
  have h:=a3b (congrArg Prod.snd h)
  show 0 < d
  by_cases h0:d=0
  ·subst h0
   rw [qn,if_pos (by rfl)] at h
   cases h
  ·omega
 | _=>exact Nat.zero_lt_one
theorem b22 {o:O} (h:o.fm=true):o.ok:=⟨g3z h,b2t h,g3y h⟩
theorem b3q (m n:Nat):(p7 (m+n)).length≤(p7 m).length+(p7 n).length+1:=by
 by_cases h:m=0
 ·subst h;rw [Nat.zero_add];omega
 ·by_cases h2:n=0
  ·subst h2;rw [Nat.add_zero];omega
  ·have h3:m+n≤m * n * 2:=by
    have h4:m≤m * n:=Nat.le_mul_of_pos_right _ oM
    have h5:n≤m * n:=Nat.le_mul_of_pos_left _ oM
    omega
   have h6:=D3 h3
   have h7:=N0 (m * n) 2
   have h8:=N0 m n
   have h9:(p7 2).length=1:=by rw [E1 dE,show 2 / 10=0 from rfl,C5];rfl
   omega
theorem g4t (x y:Int):(qn x y).1.natAbs≤x.natAbs∧(qn x y).2≤max 1 y.natAbs:=by
 unfold qn
 split
 ·exact ⟨by simp,by simp;omega⟩
 ·have h1:=Nat.div_le_self x.natAbs (Nat.gcd x.natAbs y.natAbs)
  have h2:=Nat.div_le_self y.natAbs (Nat.gcd x.natAbs y.natAbs)
  refine ⟨?_,oM⟩
  simp only
  generalize x.natAbs / Nat.gcd x.natAbs y.natAbs=q at *
  split <;> omega
def dl (x:Int) (k:Nat):Prop:=(p7 x.natAbs).length≤k
theorem b50 {x y:Int} {j k:Nat} (h:dl x j) (h2:dl y k):dl (x * y) (j+k):=by
 have:=N0 x.natAbs y.natAbs
 unfold dl at *
 rw [Int.natAbs_mul]
 omega
theorem f47 {x y:Int} {j k:Nat} (h:dl x j) (h2:dl y k):dl (x+y) (j+k+1):=by
 have h3:=b3q x.natAbs y.natAbs
 have h4:=D3 (Int.natAbs_add_le x y)
 unfold dl at *
 omega
theorem f5a {x:Int} {k:Nat} (h:dl x k):dl (-x) k:=by unfold dl at *;rw [Int.natAbs_neg];exact h
theorem f49 {n:Nat} {k:Nat} (h:(s3 n).length≤k):dl n k:=Nat.le_trans (by rw [Int.natAbs_natCast];exact a3y n) h
theorem f48 {n:Int} {k:Nat} (h:(p5 n).length≤k):dl n k:=Nat.le_trans (N2 n) h
theorem a2n {x y:Int} (hx:dl x 8000) (hy:dl y 8000):(L1 (qn x y)).sm:=by
 obtain ⟨h1,h2⟩:=g4t x y
 have k1:=P7 (qn x y).1
 have k2:=a3c (qn x y).2
 have k3:=D3 h1
 have h10:(p7 1).length=1:=by rw [E1 dE,show 1 / 10=0 from rfl,C5];rfl
 have k4:(p7 (qn x y).2).length≤8000:=by
  rcases Nat.le_total 1 y.natAbs with h | h
  ·rw [Nat.max_eq_right h] at h2;exact Nat.le_trans (D3 h2) hy
  ·rw [Nat.max_eq_left h] at h2;have:=D3 h2;omega
 unfold dl at hx
 exact ⟨show (p5 _).length < 9000 by omega,show (s3 _).length < 9000 by omega⟩
theorem d1r {a:O} (h:a.ok):dl a.na 1999:=f48 (by have:(p5 a.na).length < 2000:=h.1.1;omega)
theorem d1q {a:O} (h:a.ok):dl (a.da:Int) 1999:=f49 (by have:(s3 a.da).length < 2000:=h.1.2;omega)
theorem a1r {x:Int} {j k:Nat} (h:dl x j) (hjk:j≤k):dl x k:=Nat.le_trans h hjk
theorem b2y:C8.sm:=⟨dE,dE⟩
theorem c00 (b:Bool):(G0 b).sm:=by cases b <;> exact ⟨dE,dE⟩
theorem d77 {c:Prop} [Decidable c] {x y:O} (h:c→x.sm) (k:¬c→y.sm):(if c then x else y).sm:=by
 split
 ·exact h ‹_›
 ·exact k ‹_›
theorem e7x:tO.sm:=⟨dE,dE⟩
theorem g0q {a:O} (h:a.sm):(O.tx a.sym.1).sm∧(O.tx a.sym.2).sm:=by
 cases a with
 | sy s=>exact h
 | _=>exact ⟨Nat.zero_lt_succ _,Nat.zero_lt_succ _⟩
theorem d5j {n:Int} (h:n.natAbs < 1000000000):(O.num n 1).sm:=by
 have k0:=O3 (n:=n) oM
 have k1:(s3 1).length≤11:=by rw [← Z3];exact O3 dE
 exact ⟨show (p5 n).length < 9000 by omega,show (s3 1).length < 9000 by omega⟩
theorem e55:O.no.sm:=trivial
theorem e8v (x:Int) {n:Nat} (hn:0 < n):(x.fdiv n).natAbs≤x.natAbs+1:=by
 have h5:=Nat.div_le_self x.natAbs n
 by_cases hx:x < 0
 ·by_cases hr:x.natAbs % n=0
  ·rw [(d09 hn hx hr).1];generalize x.natAbs / n=q at *;omega
  ·rw [(d08 hn hx (Nat.pos_of_ne_zero hr)).1];generalize x.natAbs / n=q at *;omega
 ·rw [(d1a hn hx).1];generalize x.natAbs / n=q at *;omega
theorem f3f {a:O} (h:a.ok):a.strT.length < 9000:=h.sl
theorem c96 {a:O} (h:a.fm=true):a.strT.length≤200:=by
 cases a with
 | tx s=>exact of_decide_eq_true h
 | _=>exact Nat.zero_le _
theorem e95 (s:u4) {a:O} (h:a.fm=true):(G6 s a).sm:=by
 have hk:=b22 h
 have hna:=d1r hk
 have hda:=d1q hk
 have h1:dl 1 8000:=by unfold dl;rw [show (1:Int).natAbs=1 from rfl,E1 dE,show 1 / 10=0 from rfl,C5];decide
 have hst:=f3f hk
 have hf:dl (a.na.fdiv a.da) 2100:=by
  have k1:=D3 (e8v a.na hk.2.2)
  have k2:=b3q a.na.natAbs 1
  have k3:(p7 1).length=1:=by rw [E1 dE,show 1 / 10=0 from rfl,C5];rfl
  unfold dl at *
  omega
 have hsy:=g0q hk.2.1
 unfold G6
 repeat' (apply d77 <;> intro _)
 all_goals first
  | exact c00 _
  | exact e55
  | exact b2y
  | exact e7x
  | exact hsy.1
  | exact hsy.2
  | exact d5j oM
  | exact a2n (a1r hna dE) h1
  | exact a2n (a1r hda dE) h1
  | exact a2n (a1r hf dE) h1
  | exact a2n (a1r (f5a hna) dE) (a1r hda dE)
  | exact a2n (a1r hda dE) (a1r hna dE)
  | skip
 ·cases a with
  | co x y=>exact hk.2.1.1
  | _=>exact b2y
 ·cases a with
  | co x y=>exact hk.2.1.2
  | _=>exact b2y
 ·show [UInt8.ofNat _].length < 9000
  simp
 ·show ([]:u4).length < 9000
  simp
theorem f3m (s:u4) {a b:O} (h:a.fm=true) (h2:b.fm=true):(P1 s a b).sm:=by
 have hk:=b22 h
 have hk2:=b22 h2
 have hna:=d1r hk
 have hda:=d1q hk
 have hnb:=d1r hk2
 have hdb:=d1q hk2
 have hst:=c96 h
 have hst2:=c96 h2
 have hd:=b50 hda hdb
 unfold P1
 repeat' (apply d77 <;> intro _)
 all_goals first
  | exact c00 _
  | exact e55
  | exact b2y
  | exact e7x
  | exact ⟨hk.2.1,hk2.2.1⟩
  | skip
 ·exact a2n (a1r (f47 (b50 hna hdb) (b50 hnb hda)) dE) (a1r hd dE)
 ·exact a2n (a1r (b50 hna hnb) dE) (a1r hd dE)
 ·exact ⟨show b.strT.length < 9000 by omega,show a.strT.length < 9000 by omega⟩
 ·show (a.strT ++ b.strT).length < 9000
  rw [List.length_append];omega
 ·have:=(a.strT.getD (T0 a b).1.toNat 0).toNat_lt
  exact d5j oM
theorem d9h (f:Sy) {os:List O} (h:∀ o ∈ os,ok o) (h9:∀ n,D5 f=some n→(os.length:Int)=n→os.length ≠ 0∧os.length≤3):∃ r,apT f os=some r∧(r.2=0→ok r.1):=by
 have hv:∀ o:O,o.sm→∃ r,apV o=some r∧(r.2=0→ok r.1):=fun o ho=>by
  refine ⟨_,if_pos ho,?_⟩
  split
  ·rename_i k
   rw [Bool.and_eq_true,decide_eq_true_eq] at k
   exact fun _=>k
  ·intro k;cases k
 unfold apT
 cases ep:D5 f with
 | none=>exact ⟨_,rfl,fun k=>by cases k⟩
 | some n =>
  simp only
  by_cases hn:(os.length:Int)=n
  ·rw [if_pos hn]
   have h8:=h9 n ep hn
   match os,h,h8 with
   | [],_,h8=>exact absurd rfl h8.1
   | [a],h,_ =>
    have ha:=(h a (by simp)).2
    simp only [if_pos (b22 ha)]
    exact hv _ (e95 _ ha)
   | [a,b],h,_ =>
    have ha:=(h a (by simp)).2
    have hb:=(h b (by simp)).2
    simp only [if_pos (And.intro (b22 ha) (b22 hb))]
    exact hv _ (f3m _ ha hb)
   | [a,b,c],h,_ =>
    have hb:=b2t (h b (by simp)).2
    have hc:=b2t (h c (by simp)).2
    refine hv _ ?_
    split
    ·exact hc
    ·exact hb
   | _ :: _ :: _ :: _ :: _,_,h8=>exact absurd h8.2 (by simp)
  ·rw [if_neg hn];exact ⟨_,rfl,fun k=>by cases k⟩
inductive Okc:T→Prop
 | v (s:Sy):Okc (.v s)
 | c (o:O):ok o→Okc (.c o)
 | call (f:Sy) (xs:List T):xs.length < 90000→(∀ x ∈ xs,Okc x)→Okc (.call f xs)
def OkE (env:Q1):Prop:=(∀ b ∈ env,ok b.2)∧env.length < 90000
def OkL (L:List (List F)):Prop:=∀ f fn,K1 L f=some fn→Okc fn.bo∧fn.ps.length < 90000
theorem c4y:∀ {l:List (u4 × Int)} {s:u4} {n:Int},(∀ p ∈ l,1≤p.2∧p.2≤3)→a0y l s=some n→1≤n∧n≤3
 | [],_,_,_,h=>by cases h
 | p :: l,s,n,H,h=>by
  unfold a0y at h
  split at h
  ·injection h with h;subst h;exact H p (by simp)
  ·exact c4y (fun q hq=>H q (by simp [hq])) h
theorem b1r {f:Sy} {n:Int} (h:D5 f=some n):1≤n∧n≤3:=by
 unfold D5 at h
 split at h
 ·exact c4y dE h
 ·cases h
theorem c5v:∀ {env:Q1} {s:Sy} {o:O},(∀ b ∈ env,ok b.2)→O1 env s=some o→ok o
 | [],_,_,_,h=>by cases h
 | b :: env,s,o,H,h=>by
  unfold O1 at h
  split at h
  ·injection h with h;subst h;exact H b (by simp)
  ·exact c5v (fun q hq=>H q (by simp [hq])) h
section
variable {L:List (List F)}
def Gv (L:List (List F)) (t:T) (env:Q1) (l:Nat):Prop:=∃ n r,H0 apT L n t env l=some r∧(r.2.1=0→ok r.1)∧r.2.2≤l
theorem gvE {t:T} {env:Q1} {l n m:Nat} {e:Int} (h:H0 apT L n t env l=some (.no,e,m)) (he:e ≠ 0) (hm:m≤l):Gv L t env l:=⟨n,_,h,fun k=>absurd k he,hm⟩
theorem b5j {env:Q1} {m:Nat} (ih:∀ l,l < m→∀ t,Okc t→Gv L t env l):∀ (ts:List T) (l:Nat) (acc:List O),l < m→(∀ t ∈ ts,Okc t)→(∀ o ∈ acc,ok o) →
  ∃ n q,P4 (fun t l=>H0 apT L n t env l) ts l acc=some q∧∀ p,q=.inr p→(∀ o ∈ p.1,ok o)∧p.1.length=acc.length+ts.length∧p.2≤l
 | [],l,acc,_,_,ha=>⟨0,_,rfl,fun p hp=>by injection hp with hp;subst hp;exact ⟨ha,by simp,Nat.le_refl _⟩⟩
 | t :: ts,l,acc,hl,ht,ha=>by
  obtain ⟨n,r,hr,hok,hle⟩:=ih l hl t (ht t (by simp))
  by_cases h0:r.2.1=0
  ·obtain ⟨k,q,hq,hp⟩:=b5j ih ts r.2.2 (acc ++ [r.1]) oM (fun u hu=>ht u (by simp [hu])) (fun o ho=>by
    rcases List.mem_append.1 ho with ho | ho
    ·exact ha o ho
    ·rw [List.mem_singleton.1 ho];exact hok h0)
   refine ⟨max n k,q,?_,fun p e=>?_⟩
   ·rw [P4,a1t (Nat.le_max_left n k) hr]
    simp only [if_pos h0]
    exact a9k (fun t l r h=>a1t (Nat.le_max_right n k) h) hq
   ·obtain ⟨a,b,c⟩:=hp p e
    refine ⟨a,?_,oM⟩
    simp only [List.length_append,List.length_cons,List.length_nil] at b ⊢
    omega
  ·refine ⟨n,.inl (r.2.1,r.2.2),?_,fun p e=>by cases e⟩
   rw [P4,hr]
   simp only [if_neg h0]
theorem a9l (hL:OkL L):∀ (l:Nat) (t:T) (env:Q1),Okc t→OkE env→Gv L t env l:=by
 intro l
 induction l using Nat.strongRecOn with
 | ind l ih =>
  intro t env ht he
  cases ht with
  | v s =>
   refine ⟨1,?_⟩
   show ∃ r,P5 apT L _ (.v s) env l=some r∧_
   rw [P5,if_neg (by have:=he.2;omega)]
   cases hv:O1 env s with
   | some o=>exact ⟨_,rfl,fun _=>c5v he.1 hv,Nat.le_refl _⟩
   | none=>exact ⟨_,rfl,(fun h=>by cases h),Nat.le_refl _⟩
  | c o ho=>exact ⟨1,_,rfl,fun _=>ho,Nat.le_refl _⟩
  | call f xs hx hxs =>
   by_cases h1:l < 1
   ·exact gvE (n:=1) (e:=9) (m:=l) (by show P5 apT L _ (.call f xs) env l=_;rw [P5,if_neg oM,if_pos h1]) dE (Nat.le_refl _)
   cases ha:K9 L f with
   | none=>exact gvE (n:=1) (e:=7) (m:=l - 1) (by show P5 apT L _ (.call f xs) env l=_;rw [P5,if_neg oM,if_neg h1,ha]) dE (Nat.sub_le _ _)
   | some k =>
    by_cases hk:k=xs.length
    case neg=>exact gvE (n:=1) (e:=5) (m:=l - 1) (by show P5 apT L _ (.call f xs) env l=_;rw [P5,if_neg oM,if_neg h1,ha];simp only [if_neg hk]) dE (Nat.sub_le _ _)
    by_cases hc:(D5 f).isNone∧c2g L f ≠ 1
    case pos=>exact gvE (n:=1) (e:=8) (m:=l - 1) (by show P5 apT L _ (.call f xs) env l=_;rw [P5,if_neg oM,if_neg h1,ha];simp only [if_pos hk,if_pos hc]) dE (Nat.sub_le _ _)
    have hred:∀ n,H0 apT L (n+1) (.call f xs) env l=if isC (.call f xs) (o8 2 26217) 3 then evI (fun t l=>H0 apT L n t env l) xs (l - 1) else evC apT L (H0 apT L n) f xs env (l - 1):=fun n=>by
     show P5 apT L _ (.call f xs) env l=_
     rw [P5,if_neg oM,if_neg h1,ha];simp only [if_pos hk,if_neg hc]
    have ih':∀ l',l' < l→∀ t,Okc t→Gv L t env l':=fun l' h' t ht=>ih l' h' t env ht he
    by_cases hi:isC (.call f xs) (o8 2 26217) 3=true
    ·have h3:xs.length=3:=by
      unfold isC at hi
      rw [Bool.and_eq_true,decide_eq_true_eq,decide_eq_true_eq] at hi
      omega
     match xs,h3,hxs,hred with
     | [a,b,c],_,hxs,hred =>
      obtain ⟨n,r,hr,hok,hle⟩:=ih' (l - 1) oM a (hxs a (by simp))
      by_cases h0:r.2.1=0
      ·obtain ⟨m,r2,hr2,hok2,hle2⟩:=ih' r.2.2 oM (if O.eqb r.1 C8 then c else b) (by split <;> first | exact hxs c (by simp) | exact hxs b (by simp))
       refine ⟨max n m+1,r2,?_,hok2,oM⟩
       rw [hred,if_pos hi,evI,a1t (Nat.le_max_left n m) hr]
       simp only [if_pos h0]
       by_cases hb:O.eqb r.1 C8=true
       ·rw [if_pos hb] at hr2 ⊢;exact a1t (Nat.le_max_right n m) hr2
       ·rw [if_neg hb] at hr2 ⊢;exact a1t (Nat.le_max_right n m) hr2
      ·refine ⟨n+1,r,?_,fun h=>absurd h h0,oM⟩
       rw [hred,if_pos hi,evI,hr]
       simp only [if_neg h0]
    ·obtain ⟨n,q,hq,hp⟩:=b5j ih' xs (l - 1) [] oM hxs (by simp)
     cases q with
     | inl p =>
      refine ⟨n+1,(.no,p.1,p.2),?_,fun h=>absurd h (b2q hq),?_⟩
      ·rw [hred,if_neg hi,evC,hq]
      ·exact Nat.le_trans (b4h (fun t l r h=>a02 h) hq) (Nat.sub_le _ _)
     | inr p =>
      obtain ⟨hpo,hpl,hpm⟩:=hp p rfl
      simp only [List.length_nil,Nat.zero_add] at hpl
      cases hpf:D5 f with
      | some k2 =>
       obtain ⟨r,hr,hok⟩:=d9h f hpo (fun n2 e2 e3=>by have:=b1r e2;omega)
       refine ⟨n+1,(r.1,r.2,p.2),?_,hok,by show p.2≤l;omega⟩
       rw [hred,if_neg hi,evC,hq]
       simp only [hpf,hr]
       rfl
      | none =>
       cases hF:K1 L f with
       | none=>unfold K9 at ha;rw [hpf] at ha;simp only [hF] at ha;cases ha
       | some fn =>
        have hkl:(fn.ps.length:Int)=k:=by unfold K9 at ha;rw [hpf] at ha;simp only [hF] at ha;injection ha
        obtain ⟨hb,hps⟩:=hL f fn hF
        obtain ⟨m,r,hr,hok,hle⟩:=ih p.2 oM fn.bo (List.zip fn.ps p.1) hb ⟨fun b hb=>hpo b.2 (List.of_mem_zip hb).2,by simp;omega⟩
        refine ⟨max n m+1,r,?_,hok,oM⟩
        rw [hred,if_neg hi,evC,a9k (fun t l r h=>a1t (Nat.le_max_left n m) h) hq]
        simp only [hpf,hF]
        exact a1t (Nat.le_max_right n m) hr
end
mutual
def T.nd:T→Nat
 | .v _=>1
 | .c o=>o.size
 | .call _ xs=>1+T.nds xs
def T.nds:List T→Nat
 | []=>0
 | t :: ts=>T.nd t+T.nds ts
end
mutual
def T.dp:T→Nat
 | .call _ xs=>1+T.dps xs
 | _=>1
def T.dps:List T→Nat
 | []=>0
 | t :: ts=>max (T.dp t) (T.dps ts)
end
theorem b2g:∀ {σ:List (Sy × T)} {s:Sy} {t:T},asg σ s=some t→(s,t) ∈ σ
 | [],_,_,h=>by cases h
 | (x,u) :: l,s,t,h=>by
  unfold asg at h
  split at h
  ·rename_i e;injection h with h;subst e h;simp
  ·exact List.mem_cons_of_mem _ (b2g h)
mutual
/-- An instance has at most so many nodes. -/
theorem d5x {σ:List (Sy × T)} {M:Nat} (hM:1≤M) (h:∀ p ∈ σ,p.2.nd≤M):∀ t:T,(C7 σ t).nd≤t.nd * M
 | .v s=>by
  rw [C7,T.nd,Nat.one_mul]
  cases e:asg σ s with
  | none=>exact hM
  | some t=>exact h _ (b2g e)
 | .c o=>by rw [C7,T.nd];exact Nat.le_mul_of_pos_right _ hM
 | .call f xs=>by
  have:=c7z hM h xs
  rw [C7,T.nd,T.nd,Nat.add_mul,Nat.one_mul]
  omega
theorem c7z {σ:List (Sy × T)} {M:Nat} (hM:1≤M) (h:∀ p ∈ σ,p.2.nd≤M):∀ ts:List T,T.nds (a0d σ ts)≤T.nds ts * M
 | []=>by rw [a0d,T.nds];exact Nat.zero_le _
 | t :: ts=>by
  have h1:=d5x hM h t
  have h2:=c7z hM h ts
  rw [a0d,T.nds,T.nds,Nat.add_mul]
  omega
end
mutual
/-- An instance is at most so E0. -/
theorem d5b {σ:List (Sy × T)} {M:Nat} (hM:1≤M) (h:∀ p ∈ σ,p.2.dp≤M):∀ t:T,(C7 σ t).dp≤t.dp+M
 | .v s=>by
  rw [C7]
  cases e:asg σ s with
  | none=>show T.dp (.v s)≤_;omega
  | some t=>exact Nat.le_trans (h _ (b2g e)) (Nat.le_add_left _ _)
 | .c o=>by rw [C7];exact Nat.le_add_right _ _
 | .call f xs=>by
  have:=c7f hM h xs
  rw [C7,T.dp,T.dp]
  omega
theorem c7f {σ:List (Sy × T)} {M:Nat} (hM:1≤M) (h:∀ p ∈ σ,p.2.dp≤M):∀ ts:List T,T.dps (a0d σ ts)≤T.dps ts+M
 | []=>by rw [a0d,T.dps];exact Nat.zero_le _
 | t :: ts=>by
  have h1:=d5b hM h t
  have h2:=c7f hM h ts
  rw [a0d,T.dps,T.dps]
  omega
end
def R8 (s:Sy):Bool:=named s && decide (s ≠ (s8,o8 3 7104878)) && decide (s ≠ (s8,o8 1 116))
def a0z:O→Bool
 | .num _ _ | .tx _=>true
 | .sy s=>!R8 s
 | _=>false
def qtO (o:O):O:=u7 [.sy (s8,o8 5 435745158513),o]
mutual
/-- The form of a term. -/
def z6:T→O
 | .v s=>.sy s
 | .c o=>if a0z o then o else qtO o
 | .call f xs=>.co (.sy f) (u7 (L8 xs))
def L8:List T→List O
 | []=>[]
 | t :: ts=>z6 t :: L8 ts
end
theorem b1b:∀ xs:List T,L8 xs=xs.map z6
 | []=>rfl
 | t :: ts=>by rw [L8,b1b ts];rfl
variable {E:Prop} {env:Q1} {l:Nat} {Q:O→Nat→Prop}
section
variable {L:List (List F)} {E:Prop}
end
theorem d75:∀ os:List O,2 * os.length+1≤(u7 os).size
 | []=>dE
 | a :: l=>by
  have:=d75 l
  have h1:(u7 (a :: l)).size=1+a.size+(u7 l).size:=rfl
  have:=a.size_pos
  simp only [List.length_cons]
  omega
def szL:List O→Nat
 | []=>1
 | a :: l=>1+a.size+szL l
theorem d8c:∀ os:List O,(u7 os).size=szL os
 | []=>rfl
 | a :: l=>by show 1+a.size+(u7 l).size=_;rw [d8c l];rfl
theorem d5f:∀ os:List O,(u7 os).fm=true↔∀ x ∈ os,x.fm=true
 | []=>⟨fun _ x h=>absurd h (by simp),fun _=>f61.2⟩
 | a :: l=>by
  have e:(u7 (a :: l)).fm=(a.fm && (u7 l).fm):=rfl
  rw [e,Bool.and_eq_true,d5f l]
  simp
theorem b81 {U:B0} {P:H4→List Bx→Prop} {a b:Int} {K:Int→Om} (h:U=CU→a=b) (k:s4 U (K b) P):s4 U (U.fI a K) P:=fun e=>by
 have h1:=k e
 have h2:=h e
 subst e
 rw [a2a,h2];exact h1
structure Tq (ap:Ap) where
 w:Wd
 t:T
 env:Q1
 l:Nat
 n:Nat
 r:Ro
 h:H0 ap w.L n t env l=some r
 hw:w.1 ≠ []
 hl:l < 1000000000
def a7q (l:Nat) (r:Ro):GV:=if r.2.1=0 then .t [.a r.1.g,.c (.i .i64 ((l:Int) - r.2.2)),.c (.i .i64 0)] else .t [.a O.no.g,.c (.i .i64 0),.c (.i .i64 r.2.1)]
def g98 (ap:Ap):Sp where
 ι:=Tq ap
 A x:=[.sl 32 (x.w.1.map Et.g),.a x.t.g,.sl 9 (x.env.map bd),.c (.i .i64 x.l)]
 B _:=[]
 R x:=.ret (a7q x.l x.r)
 B' _:=[]
 inj i j vs bs h k _ _:=by
  obtain ⟨_,_,h1,k1,h,k⟩:=h.two k
  obtain ⟨_,_,h2,k2,h,k⟩:=h.two k
  obtain ⟨_,_,h3,k3,h,k⟩:=h.two k
  obtain ⟨_,_,h4,k4,h,k⟩:=h.two k
  have e1:=T.g_inj (h2.a_inj k2)
  have e2:=a6m (h3.sl_inj k3)
  have e5:i.w.L=j.w.L:=Z0 (h1.sl_inj k1)
  have e6:i.l=j.l:=by have:=(G.i.inj (h4.c_inj k4)).2;omega
  have hr:i.r=j.r:=c7k (n:=i.n) (m:=j.n) i.h (by rw [e5,e1,e2,e6];exact j.h)
  rw [hr,e6];exact ⟨rfl,rfl⟩
theorem f6o {ap:Ap} (hap:s9 91 (e34 ap)):s9 22 (g98 ap):=u2 (fun fn h=>f7p h) [(49,_)] (.cons (g4g hap) .nil) fun U fn hfn ⟨w,t,env,l,m,r,hr,hw,hl⟩ vs bs hv hb=>by
 have hT:=hfn 49 _ rfl
 change t7 [.sl 32 (w.1.map Et.g),.a t.g,.sl 9 (env.map bd),.c (.i .i64 l)] vs at hv
 change s5 [] bs at hb
 have hwm:w.1.map Et.g ≠ []:=by simpa using hw
 have hwn:∀ r ∈ w.1.map Et.g,r.length=32:=v6 Et.g_len
 have hle:=a02 hr
 show s4 U _ fun v bs'=>u0 (.ret (a7q l r)) v∧s5 [] bs'
 unfold r22
 (refine Zz ?_;intros)
 refine C4 aS (by first | exact (T.g_len _).symm | exact T.g_len _) fun _ _=>?_
 (refine Zz ?_;intros)
 refine b81 (b:=(l:Int)) (fun e=>by subst e;rw [b73,decide_eq_false oM];rfl) ?_
 (refine Zz ?_;intros)
 refine o7 hT ⟨w,t,env,l,m,r,hr,hw,hl⟩ (r:=.t [.a r.1.g,.c (.i .i64 r.2.1)]) rfl (.k (.p _ _) (.k (.a _ _ _ (T.g_len _).symm aS) (.k (.sl _ _ _ _ _ (by simp) aS) .nil))) (rbW aS rfl) fun _ _ _ hb2=>?_
 change s5 [[.l (w.1.map Et.g),.i .i64 r.2.2]] _ at hb2
 (refine Zz ?_;intros)
 refine oR fun _ _=>?_
 (refine Zz ?_;intros)
 refine a94 (d3l aS hwm hwn) fun _ _ _=>?_
 (refine Zz ?_;with_reducible repeat' first|intro _|apply aI)
 ·rw [a7q,if_pos aS]
  exact p9 ⟨.ret _ _ (.t _ _ (.k oV (.k (.i _ _) (.k (.i _ _) .nil)))),.nil⟩
 ·rw [a7q,if_neg aS]
  exact p9 ⟨.ret _ _ (.t _ _ (.k (.ag _ _ (by (exact Zru))) (.k (.i _ _) (.k (.i _ _) .nil)))),.nil⟩
structure Aq (ap:Ap) where
 w:Wd
 f:Sy
 os:List O
 l:Nat
 n:Nat
 r:Ro
 h:H0 ap w.L n (.call f (os.map T.c)) [] l=some r
 hw:w.1 ≠ []
 hl:l < 1000000000
 ho:os.length < 90000
end
end Go.Proofs.YtkojildpddaccaaGreatDoor
