/- Terms whose variables are replaced: where a term and its instance both have values, these are the same (whatever the limits of steps). No program in sight. -/
import Derived.Test.YtkojildpddaccaaGreatDoorCJ5
set_option linter.all false
namespace Go.Proofs.YtkojildpddaccaaGreatDoor
open Go.Abs LQ
set_option maxRecDepth 100000
noncomputable section
section
variable {ap:Ap} {L:List (List F)}
inductive SR (ap:Ap) (L:List (List F)) (e1 e2:M7):T→T→Prop
 | v (s:Sy) (t:T):(∀ o m l o' r,Z0 e1 s=some o→H1 ap L m t e2 l=some (o',0,r)→o'=o)→SR ap L e1 e2 (.v s) t
 | c (o:O):SR ap L e1 e2 (.c o) (.c o)
 | call (f:Sy) (xs ys:List T):xs.length=ys.length→(∀ (i:Nat) (x y:T),xs[i]?=some x→ys[i]?=some y→SR ap L e1 e2 x y)→SR ap L e1 e2 (.call f xs) (.call f ys)
def Agr (A:T→Nat→Option Ro) (B:T→Nat→Option Ro) (x y:T):Prop:=∀ l l' o r o' r',A x l=some (o,0,r)→B y l'=some (o',0,r')→o=o'
theorem d0w {A B:T→Nat→Option Ro}:∀ {xs ys:List T},xs.length=ys.length→(∀ (i:Nat) (x y:T),xs[i]?=some x→ys[i]?=some y→Agr A B x y)→∀ {l l':Nat} {acc a a':List O} {m m':Nat},R3 A xs l acc=some (.inr (a,m))→R3 B ys l' acc=some (.inr (a',m'))→a=a'
 | [],[],_,_,l,l',acc,a,a',m,m',h,k=>by
  rw [R3] at h k;injection h with h;injection h with h;injection h with h _;injection k with k;injection k with k;injection k with k _;rw [← h,← k]
 | [],_ :: _,e,_,_,_,_,_,_,_,_,_,_=>by cases e
 | _ :: _,[],e,_,_,_,_,_,_,_,_,_,_=>by cases e
 | x :: xs,y :: ys,e,H,l,l',acc,a,a',m,m',h,k=>by
  rw [R3] at h k;cases h1:A x l with
  | none=>rw [h1] at h;cases h
  | some q =>
   cases k1:B y l' with
   | none=>rw [k1] at k;cases k
   | some p =>
    rw [h1] at h;rw [k1] at k;simp only at h k;obtain ⟨o,z,r⟩:=q;obtain ⟨o',z',r'⟩:=p;by_cases c:z=0
    ·by_cases c':z'=0
     ·subst c c';rw [if_pos rfl] at h k;have:=H 0 x y rfl rfl l l' o r o' r' h1 k1;subst this;exact d0w (by simpa using e) (fun i a b ha hb=>H (i+1) a b (by simpa using ha) (by simpa using hb)) h k
     ·rw [if_neg c'] at k;injection k with k;cases k
    ·rw [if_neg c] at h;injection h with h;cases h
theorem b4h {A:T→Nat→Option Ro}:∀ {xs:List T} {l:Nat} {acc:List O} {p:Int × Nat},R3 A xs l acc=some (.inl p)→p.1 ≠ 0
 | [],l,acc,p,h=>by rw [R3] at h;injection h with h;cases h
 | x :: xs,l,acc,p,h=>by
  rw [R3] at h;cases h1:A x l with
  | none=>rw [h1] at h;cases h
  | some q =>
   rw [h1] at h;simp only at h;by_cases c:q.2.1=0
   ·rw [if_pos c] at h;exact b4h h
   ·rw [if_neg c] at h;injection h with h;injection h with h;rw [← h];exact c
theorem e7e {A B:T→Nat→Option Ro} {xs ys:List T} (e:xs.length=ys.length) (H:∀ (i:Nat) (x y:T),xs[i]?=some x→ys[i]?=some y→Agr A B x y) {l l':Nat} {o o':O} {r r':Nat} (h:evI A xs l=some (o,0,r)) (k:evI B ys l'=some (o',0,r')):o=o':=by
 match xs,ys,e with
 | [a,b,c],[a',b',c'],_ =>
  rw [evI] at h k;cases h1:A a l with
  | none=>rw [h1] at h;cases h
  | some q =>
   cases k1:B a' l' with
   | none=>rw [k1] at k;cases k
   | some p =>
    rw [h1] at h;rw [k1] at k;obtain ⟨u,z,s⟩:=q;obtain ⟨u',z',s'⟩:=p;simp only at h k;by_cases c1:z=0
    ·by_cases c2:z'=0
     ·subst c1 c2;rw [if_pos rfl] at h k;have:=H 0 a a' rfl rfl l l' u s u' s' h1 k1;subst this;by_cases c3:O.eqb u F6=true
      ·rw [if_pos c3] at h k;exact H 2 c c' rfl rfl _ _ _ _ _ _ h k
      ·rw [if_neg c3] at h k;exact H 1 b b' rfl rfl _ _ _ _ _ _ h k
     ·rw [if_neg c2] at k;injection k with k;exact absurd (congrArg (·.2.1) k) c2
    ·rw [if_neg c1] at h;injection h with h;exact absurd (congrArg (·.2.1) h) c1
 | [],_,_=>cases h
 | [_],_,_=>cases h
 | [_,_],_,_=>cases h
 | _ :: _ :: _ :: _ :: _,_,_=>cases h
theorem d3r {n:Nat} {s:Sy} {env:M7} {l:Nat} {o:O} {r:Nat} (h:H1 ap L n (.v s) env l=some (o,0,r)):Z0 env s=some o:=by
 cases n with
 | zero=>cases h
 | succ n =>
  change N9 ap L _ _ _ _=_ at h;rw [N9] at h;split at h
  ·cases h
  ·split at h
   ·rename_i o2 e;injection h with h;injection h with h _;rw [e,h]
   ·injection h with h;injection h with _ h;injection h with h _;cases h
theorem SR.same (env:M7):∀ t:T,SR ap L env env t t
 | .v s=>.v s _ fun o m l o' r h k=>by have:=d3r k;rw [h] at this;injection this with this;exact this.symm
 | .c o=>.c o
 | .call f xs=>.call f xs xs rfl fun i x y hx hy=>by
  rw [hx] at hy;injection hy with hy;subst hy;have:SizeOf.sizeOf x < SizeOf.sizeOf xs:=List.sizeOf_lt_of_mem (List.mem_of_getElem? hx);exact SR.same env x
termination_by t=>SizeOf.sizeOf t
decreasing_by simp_wf;omega
theorem b3v:∀ (n:Nat) {t t':T} {e1 e2:M7},SR ap L e1 e2 t t'→∀ m,Agr (fun t l=>H1 ap L n t e1 l) (fun t l=>H1 ap L m t e2 l) t t'
 | 0,_,_,_,_,_,_,_,_,_,_,_,_,h,_=>by cases h
 | n+1,t,t',e1,e2,hs,m,l,l',o,r,o',r',h,k=>by
  cases hs with
  | v s _ H=>exact (H o m l' o' r' (d3r h) k).symm
  | c x =>
   cases m with
   | zero=>cases k
   | succ m =>
    change N9 ap L _ _ _ _=_ at h k;rw [N9] at h k;injection h with h;injection h with h _;injection k with k;injection k with k _;rw [← h,← k]
  | call f xs ys e H =>
   cases m with
   | zero=>cases k
   | succ m =>
    change N9 ap L _ _ _ _=_ at h k;rw [N9] at h k;rw [← e] at k;split at h
    ·cases h
    rename_i c0;rw [if_neg c0] at k;split at h
    ·injection h with h;exact absurd (congrArg (·.2.1) h) (fun z=>by first | exact absurd (show (9:Int)=0 from z) dE | exact absurd (show (7:Int)=0 from z) dE | exact absurd (show (8:Int)=0 from z) dE | exact absurd (show (5:Int)=0 from z) dE)
    split at k
    ·injection k with k;exact absurd (congrArg (·.2.1) k) (fun z=>by first | exact absurd (show (9:Int)=0 from z) dE | exact absurd (show (7:Int)=0 from z) dE | exact absurd (show (8:Int)=0 from z) dE | exact absurd (show (5:Int)=0 from z) dE)
    cases ha:U9 L f with
    | none=>rw [ha] at h;injection h with h;exact absurd (congrArg (·.2.1) h) (fun z=>by first | exact absurd (show (9:Int)=0 from z) dE | exact absurd (show (7:Int)=0 from z) dE | exact absurd (show (8:Int)=0 from z) dE | exact absurd (show (5:Int)=0 from z) dE)
    | some q =>
     rw [ha] at h k;simp only at h k;by_cases c1:q=(xs.length:Int)
     ·rw [if_pos c1] at h k;by_cases c2:(D7 f).isNone∧c5h L f ≠ 1
      ·rw [if_pos c2] at h;injection h with h;exact absurd (congrArg (·.2.1) h) (fun z=>by first | exact absurd (show (9:Int)=0 from z) dE | exact absurd (show (7:Int)=0 from z) dE | exact absurd (show (8:Int)=0 from z) dE | exact absurd (show (5:Int)=0 from z) dE)
      ·rw [if_neg c2] at h k;have hc:isC (.call f ys) (s5 2 26217) 3=isC (.call f xs) (s5 2 26217) 3:=by show (decide (f=(B0,s5 2 26217)) && decide ((ys.length:Int)=3))=(decide (f=(B0,s5 2 26217)) && decide ((xs.length:Int)=3));rw [e]
       rw [hc] at k;by_cases c3:isC (.call f xs) (s5 2 26217) 3=true
       ·rw [if_pos c3] at h k;exact e7e e (fun i x y hx hy=>b3v n (H i x y hx hy) m) h k
       ·rw [if_neg c3] at h k;unfold evC at h k;cases h1:R3 (fun t l=>H1 ap L n t e1 l) xs (l - 1) [] with
        | none=>rw [h1] at h;cases h
        | some p =>
         cases k1:R3 (fun t l=>H1 ap L m t e2 l) ys (l' - 1) [] with
         | none=>rw [k1] at k;cases k
         | some p' =>
          rw [h1] at h;rw [k1] at k;cases p with
          | inl z=>injection h with h;exact absurd (congrArg (·.2.1) h) (b4h h1)
          | inr z =>
           cases p' with
           | inl z'=>injection k with k;exact absurd (congrArg (·.2.1) k) (b4h k1)
           | inr z' =>
            obtain ⟨a,u⟩:=z;obtain ⟨a',u'⟩:=z';have:=d0w e (fun i x y hx hy=>b3v n (H i x y hx hy) m) h1 k1;subst this;simp only at h k;cases hp:D7 f with
            | some _ =>
             rw [hp] at h k;cases hq:ap f a with
             | none=>rw [hq] at h;cases h
             | some w =>
              rw [hq] at h k;simp only [Option.map_some,Option.some.injEq,Prod.mk.injEq] at h k;rw [← h.1,← k.1]
            | none =>
             rw [hp] at h k;cases hf:L9 L f with
             | none=>rw [hf] at h;cases h
             | some fn =>
              rw [hf] at h k;exact b3v n (SR.same _ _) m _ _ _ _ _ _ h k
     ·rw [if_neg c1] at h;injection h with h;exact absurd (congrArg (·.2.1) h) (fun z=>by first | exact absurd (show (9:Int)=0 from z) dE | exact absurd (show (7:Int)=0 from z) dE | exact absurd (show (8:Int)=0 from z) dE | exact absurd (show (5:Int)=0 from z) dE)
theorem e7f {n m:Nat} {t:T} {env:M7} {l l':Nat} {o o':O} {r r':Nat} (h:H1 ap L n t env l=some (o,0,r)) (k:H1 ap L m t env l'=some (o',0,r')):o=o':=b3v n (SR.same env t) m _ _ _ _ _ _ h k
def asg:List (Sy × T)→Sy→Option T
 | [],_=>none
 | (x,t) :: l,s=>if x=s then some t else asg l s
mutual
/-- The instance of a term. -/
def H9 (σ:List (Sy × T)):T→T
 | .v s=>(asg σ s).getD (.v s)
 | .c o=>.c o
 | .call f xs=>.call f (c4z σ xs)
def c4z (σ:List (Sy × T)):List T→List T
 | []=>[]
 | t :: ts=>H9 σ t :: c4z σ ts
end
theorem b1n (σ:List (Sy × T)):∀ xs:List T,c4z σ xs=xs.map (H9 σ)
 | []=>rfl
 | t :: ts=>by rw [c4z,b1n σ ts];rfl
theorem d9u {σ:List (Sy × T)} {e1 e2:M7} (H:∀ s o m l o' r,Z0 e1 s=some o→H1 ap L m (H9 σ (.v s)) e2 l=some (o',0,r)→o'=o):∀ t:T,SR ap L e1 e2 t (H9 σ t)
 | .v s=>.v s _ fun o m l o' r=>H s o m l o' r
 | .c o=>.c o
 | .call f xs=>by
  rw [H9,b1n];refine .call f xs _ (by simp) fun i x y hx hy=>?_;rw [List.getElem?_map,hx] at hy;injection hy with hy;subst hy;have:SizeOf.sizeOf x < SizeOf.sizeOf xs:=List.sizeOf_lt_of_mem (List.mem_of_getElem? hx);exact d9u H x
termination_by t=>SizeOf.sizeOf t
decreasing_by simp_wf;omega
theorem f1u {σ:List (Sy × T)} {e1 e2:M7} {t:T} (H:∀ s o m l o' r,Z0 e1 s=some o→H1 ap L m (H9 σ (.v s)) e2 l=some (o',0,r)→o'=o) {n m l l':Nat} {o o':O} {r r':Nat} (h:H1 ap L n t e1 l=some (o,0,r)) (k:H1 ap L m (H9 σ t) e2 l'=some (o',0,r')):o=o':=b3v n (d9u H t) m _ _ _ _ _ _ h k
end
set_option maxHeartbeats 4000000
theorem g4d {o:O} (h:o.fm=true):0 < o.da:=by
 cases o with
 | num n d =>
  have h:=(of_decide_eq_true h).1;rw [O9,u2,B3] at h;have h:=P1 (congrArg Prod.snd h);show 0 < d;by_cases h0:d=0
  ·subst h0;rw [qn,if_pos (by rfl)] at h;cases h
  ·omega
 | _=>exact Nat.zero_lt_one
theorem a5o {o:O} (h:o.fm=true):o.ok:=⟨g4e h,b0v h,g4d h⟩
theorem b5k (m n:Nat):(t8 (m+n)).length≤(t8 m).length+(t8 n).length+1:=by
 by_cases h:m=0
 ·subst h;rw [Nat.zero_add];omega
 ·by_cases h2:n=0
  ·subst h2;rw [Nat.add_zero];omega
  ·have h3:m+n≤m * n * 2:=by
    have h4:m≤m * n:=Nat.le_mul_of_pos_right _ oM;have h5:n≤m * n:=Nat.le_mul_of_pos_left _ oM;omega
   have h6:=D8 h3;have h7:=V1 (m * n) 2;have h8:=V1 m n;have h9:(t8 2).length=1:=by rw [F2 dE,show 2 / 10=0 from rfl,C7];rfl
   omega
theorem d4p (x y:Int):(qn x y).1.natAbs≤x.natAbs∧(qn x y).2≤max 1 y.natAbs:=by
 unfold qn;split
 ·exact ⟨by simp,by simp;omega⟩
 ·have h1:=Nat.div_le_self x.natAbs (Nat.gcd x.natAbs y.natAbs);have h2:=Nat.div_le_self y.natAbs (Nat.gcd x.natAbs y.natAbs);refine ⟨?_,oM⟩;simp only;generalize x.natAbs / Nat.gcd x.natAbs y.natAbs=q at *;split <;> omega
def dl (x:Int) (k:Nat):Prop:=(t8 x.natAbs).length≤k
theorem b8f {x y:Int} {j k:Nat} (h:dl x j) (h2:dl y k):dl (x * y) (j+k):=by
 have:=V1 x.natAbs y.natAbs;unfold dl at *;rw [Int.natAbs_mul];omega
theorem f3d {x y:Int} {j k:Nat} (h:dl x j) (h2:dl y k):dl (x+y) (j+k+1):=by
 have h3:=b5k x.natAbs y.natAbs;have h4:=D8 (Int.natAbs_add_le x y);unfold dl at *;omega
theorem f3g {x:Int} {k:Nat} (h:dl x k):dl (-x) k:=by unfold dl at *;rw [Int.natAbs_neg];exact h
theorem f3f {n:Nat} {k:Nat} (h:(s8 n).length≤k):dl n k:=Nat.le_trans (by rw [Int.natAbs_natCast];exact a4v n) h
theorem f3e {n:Int} {k:Nat} (h:(s4 n).length≤k):dl n k:=Nat.le_trans (K8 n) h
theorem a3h {x y:Int} (hx:dl x 8000) (hy:dl y 8000):(K2 (qn x y)).sm:=by
 obtain ⟨h1,h2⟩:=d4p x y;have k1:=R5 (qn x y).1;have k2:=Z9 (qn x y).2;have k3:=D8 h1;have h10:(t8 1).length=1:=by rw [F2 dE,show 1 / 10=0 from rfl,C7];rfl
 have k4:(t8 (qn x y).2).length≤8000:=by
  rcases Nat.le_total 1 y.natAbs with h | h
  ·rw [Nat.max_eq_right h] at h2;exact Nat.le_trans (D8 h2) hy
  ·rw [Nat.max_eq_left h] at h2;have:=D8 h2;omega
 unfold dl at hx;exact ⟨show (s4 _).length < 9000 by omega,show (s8 _).length < 9000 by omega⟩
theorem d4f {a:O} (h:a.ok):dl a.na 1999:=f3e (by have:(s4 a.na).length < 2000:=h.1.1;omega)
theorem d4e {a:O} (h:a.ok):dl (a.da:Int) 1999:=f3f (by have:(s8 a.da).length < 2000:=h.1.2;omega)
theorem a2n {x:Int} {j k:Nat} (h:dl x j) (hjk:j≤k):dl x k:=Nat.le_trans h hjk
theorem b4t:F6.sm:=⟨dE,dE⟩
theorem c3r (b:Bool):(G0 b).sm:=by cases b <;> exact ⟨dE,dE⟩
theorem d9p {c:Prop} [Decidable c] {x y:O} (h:c→x.sm) (k:¬c→y.sm):(if c then x else y).sm:=by
 split
 ·exact h ‹_›
 ·exact k ‹_›
theorem e6h:tO.sm:=⟨dE,dE⟩
theorem g07 {a:O} (h:a.sm):(O.tx a.sym.1).sm∧(O.tx a.sym.2).sm:=by
 cases a with
 | sy s=>exact h
 | _=>exact ⟨Nat.zero_lt_succ _,Nat.zero_lt_succ _⟩
theorem d63 {n:Int} (h:n.natAbs < 1000000000):(O.num n 1).sm:=by
 have k0:=M8 (n:=n) oM;have k1:(s8 1).length≤11:=by rw [← a2v];exact M8 dE
 exact ⟨show (s4 n).length < 9000 by omega,show (s8 1).length < 9000 by omega⟩
theorem e5u:O.no.sm:=trivial
theorem e7g (x:Int) {n:Nat} (hn:0 < n):(x.fdiv n).natAbs≤x.natAbs+1:=by
 have h5:=Nat.div_le_self x.natAbs n;by_cases hx:x < 0
 ·by_cases hr:x.natAbs % n=0
  ·rw [(c4k hn hx hr).1];generalize x.natAbs / n=q at *;omega
  ·rw [(c4j hn hx (Nat.pos_of_ne_zero hr)).1];generalize x.natAbs / n=q at *;omega
 ·rw [(c4l hn hx).1];generalize x.natAbs / n=q at *;omega
theorem f1s {a:O} (h:a.ok):a.strT.length < 9000:=h.sl
theorem a2b {a:O} (h:a.fm=true):a.strT.length≤200:=by
 cases a with
 | tx s=>exact of_decide_eq_true h
 | _=>exact Nat.zero_le _
theorem e8f (s:u5) {a:O} (h:a.fm=true):(H0 s a).sm:=by
 have hk:=a5o h;have hna:=d4f hk;have hda:=d4e hk;have h1:dl 1 8000:=by unfold dl;rw [show (1:Int).natAbs=1 from rfl,F2 dE,show 1 / 10=0 from rfl,C7];decide
 have hst:=f1s hk;have hf:dl (a.na.fdiv a.da) 2100:=by
  have k1:=D8 (e7g a.na hk.2.2);have k2:=b5k a.na.natAbs 1;have k3:(t8 1).length=1:=by rw [F2 dE,show 1 / 10=0 from rfl,C7];rfl
  unfold dl at *;omega
 have hsy:=g07 hk.2.1;unfold H0
 repeat' (apply d9p <;> intro _)
 all_goals first
  | exact c3r _
  | exact e5u
  | exact b4t
  | exact e6h
  | exact hsy.1
  | exact hsy.2
  | exact d63 oM
  | exact a3h (a2n hna dE) h1
  | exact a3h (a2n hda dE) h1
  | exact a3h (a2n hf dE) h1
  | exact a3h (a2n (f3g hna) dE) (a2n hda dE)
  | exact a3h (a2n hda dE) (a2n hna dE)
  | skip
 ·cases a with
  | co x y=>exact hk.2.1.1
  | _=>exact b4t
 ·cases a with
  | co x y=>exact hk.2.1.2
  | _=>exact b4t
 ·show [UInt8.ofNat _].length < 9000;simp
 ·show ([]:u5).length < 9000;simp
theorem f10 (s:u5) {a b:O} (h:a.fm=true) (h2:b.fm=true):(Y9 s a b).sm:=by
 have hk:=a5o h;have hk2:=a5o h2;have hna:=d4f hk;have hda:=d4e hk;have hnb:=d4f hk2;have hdb:=d4e hk2;have hst:=a2b h;have hst2:=a2b h2;have hd:=b8f hda hdb;unfold Y9
 repeat' (apply d9p <;> intro _)
 all_goals first
  | exact c3r _
  | exact e5u
  | exact b4t
  | exact e6h
  | exact ⟨hk.2.1,hk2.2.1⟩
  | skip
 ·exact a3h (a2n (f3d (b8f hna hdb) (b8f hnb hda)) dE) (a2n hd dE)
 ·exact a3h (a2n (b8f hna hnb) dE) (a2n hd dE)
 ·exact ⟨show b.strT.length < 9000 by omega,show a.strT.length < 9000 by omega⟩
 ·show (a.strT ++ b.strT).length < 9000;rw [List.length_append];omega
 ·have:=(a.strT.getD (a1w a b).1.toNat 0).toNat_lt;exact d63 oM
theorem e05 (f:Sy) {os:List O} (h:∀ o ∈ os,ok o) (h9:∀ n,D7 f=some n→(os.length:Int)=n→os.length ≠ 0∧os.length≤3):∃ r,apT f os=some r∧(r.2=0→ok r.1):=by
 have hv:∀ o:O,o.sm→∃ r,apV o=some r∧(r.2=0→ok r.1):=fun o ho=>by
  refine ⟨_,if_pos ho,?_⟩;split
  ·rename_i k;rw [Bool.and_eq_true,decide_eq_true_eq] at k;exact fun _=>k
  ·intro k;cases k
 unfold apT;cases ep:D7 f with
 | none=>exact ⟨_,rfl,fun k=>by cases k⟩
 | some n =>
  simp only;by_cases hn:(os.length:Int)=n
  ·rw [if_pos hn];have h8:=h9 n ep hn
   match os,h,h8 with
   | [],_,h8=>exact absurd rfl h8.1
   | [a],h,_ =>
    have ha:=(h a (by simp)).2;simp only [if_pos (a5o ha)];exact hv _ (e8f _ ha)
   | [a,b],h,_ =>
    have ha:=(h a (by simp)).2;have hb:=(h b (by simp)).2;simp only [if_pos (And.intro (a5o ha) (a5o hb))];exact hv _ (f10 _ ha hb)
   | [a,b,c],h,_ =>
    have hb:=b0v (h b (by simp)).2;have hc:=b0v (h c (by simp)).2;refine hv _ ?_;split
    ·exact hc
    ·exact hb
   | _ :: _ :: _ :: _ :: _,_,h8=>exact absurd h8.2 (by simp)
  ·rw [if_neg hn];exact ⟨_,rfl,fun k=>by cases k⟩
inductive Okc:T→Prop
 | v (s:Sy):Okc (.v s)
 | c (o:O):ok o→Okc (.c o)
 | call (f:Sy) (xs:List T):xs.length < 90000→(∀ x ∈ xs,Okc x)→Okc (.call f xs)
def OkE (env:M7):Prop:=(∀ b ∈ env,ok b.2)∧env.length < 90000
def OkL (L:List (List F)):Prop:=∀ f fn,L9 L f=some fn→Okc fn.bo∧fn.ps.length < 90000
theorem c74:∀ {l:List (u5 × Int)} {s:u5} {n:Int},(∀ p ∈ l,1≤p.2∧p.2≤3)→N4 l s=some n→1≤n∧n≤3
 | [],_,_,_,h=>by cases h
 | p :: l,s,n,H,h=>by
  unfold N4 at h;split at h
  ·injection h with h;subst h;exact H p (by simp)
  ·exact c74 (fun q hq=>H q (by simp [hq])) h
theorem a4o {f:Sy} {n:Int} (h:D7 f=some n):1≤n∧n≤3:=by
 unfold D7 at h;split at h
 ·exact c74 dE h
 ·cases h
theorem c84:∀ {env:M7} {s:Sy} {o:O},(∀ b ∈ env,ok b.2)→Z0 env s=some o→ok o
 | [],_,_,_,h=>by cases h
 | b :: env,s,o,H,h=>by
  unfold Z0 at h;split at h
  ·injection h with h;subst h;exact H b (by simp)
  ·exact c84 (fun q hq=>H q (by simp [hq])) h
section
variable {L:List (List F)}
end
mutual
def T.nd:T→Nat
 | .v _=>1
 | .c o=>o.size
 | .call _ xs=>1+T.nds xs
def T.nds:List T→Nat
 | []=>0
 | t :: ts=>T.nd t+T.nds ts
end
theorem d0h:∀ {σ:List (Sy × T)} {s:Sy} {t:T},asg σ s=some t→(s,t) ∈ σ
 | [],_,_,h=>by cases h
 | (x,u) :: l,s,t,h=>by
  unfold asg at h;split at h
  ·rename_i e;injection h with h;subst e h;simp
  ·exact List.mem_cons_of_mem _ (d0h h)
variable {E:Prop} {env:M7} {l:Nat} {Q:O→Nat→Prop}
section
variable {L:List (List F)} {E:Prop}
end
def szL:List O→Nat
 | []=>1
 | a :: l=>1+a.size+szL l
theorem d9y:∀ os:List O,(a0e os).size=szL os
 | []=>rfl
 | a :: l=>by show 1+a.size+(a0e l).size=_;rw [d9y l];rfl
theorem d6t:∀ os:List O,(a0e os).fm=true↔∀ x ∈ os,x.fm=true
 | []=>⟨fun _ x h=>absurd h (by simp),fun _=>f5j.2⟩
 | a :: l=>by
  have e:(a0e (a :: l)).fm=(a.fm && (a0e l).fm):=rfl;rw [e,Bool.and_eq_true,d6t l];simp
theorem g0k {U:C3} {P:K0→List Bx→Prop} {a b:Int} {K:Int→Om} (h:U=CU→a=b) (k:t6 U (K b) P):t6 U (U.fI a K) P:=fun e=>by
 have h1:=k e;have h2:=h e;subst e;rw [T7,h2];exact h1
end
end Go.Proofs.YtkojildpddaccaaGreatDoor
