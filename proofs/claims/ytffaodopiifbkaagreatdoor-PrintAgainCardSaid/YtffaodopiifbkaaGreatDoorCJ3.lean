/- Numbers from Go's integers; the arithmetic that the built-in world P9. c5m is a hypothesis until the shelf's a13 is joined. -/
import Derived.Test.YtffaodopiifbkaaGreatDoorCRA
import Derived.Test.YtffaodopiifbkaaGreatDoorCTB
set_option linter.all false
namespace Go.Proofs.YtffaodopiifbkaaGreatDoor
open Go.Abs LQ
set_option maxRecDepth 100000
set_option maxHeartbeats 4000000
noncomputable section
theorem c8i (n:Int):qn n 1=(n,1):=by
 unfold qn
 rw [if_neg dE]
 refine Prod.ext ?_ ?_
 ·show (if (n < 0)=((1:Int) < 0) then (1:Int) else -1) * ((n.natAbs / Nat.gcd n.natAbs 1:Nat):Int)=n
  rw [Nat.gcd_one_right,Nat.div_one]
  by_cases h:n < 0
  ·rw [if_neg (fun e=>absurd (e.mp h) dE)];omega
  ·rw [if_pos (propext ⟨fun k=>absurd k h,fun k=>absurd k dE⟩)];omega
 ·show (1:Int).natAbs / Nat.gcd n.natAbs 1=1
  rw [Nat.gcd_one_right];rfl
theorem a29 {n k:Nat} (h:n < 10 ^ k):(j8 n).length≤k:=by
 by_cases h0:n=0
 ·subst h0;rw [A4];simp
 ·have h1:=a6j n h0
  have h2:10 ^ ((j8 n).length - 1) < 10 ^ k:=Nat.lt_of_le_of_lt h1 h
  have h3:=(Nat.pow_lt_pow_iff_right (by decide:1 < 10)).1 h2
  omega
theorem Y7 (n:Nat):j4 (n:Int)=i7 n:=by
 unfold j4
 rw [if_neg oM,Int.natAbs_natCast]
end
end Go.Proofs.YtffaodopiifbkaaGreatDoor
namespace Go.Abs
noncomputable section
def one (f:G→Q→Bool) (r:List G) (q:Q):Bool:=match r with | [g]=>f g q | _=>true
def a6m (f:G→Q→Bool) (n:Nat) (t:j9 Q):List (List G)→Nat→Bool
 | [],_=>true
 | r :: rs,off=>Nat.beq r.length n && ((chkCel f (tQ t off) r 0) && (one f r (tQ t off) && a6m f n t rs (off+1)))
where chkCel (f:G→Q→Bool) (q:Q):List G→Nat→Bool
 | [],_=>true
 | g :: gs,i=>f g (celQ q i) && chkCel f q gs (i+1)
def d93:Nat→G→Q→Bool
 | 0,_,_=>false
 | f+1,g,q=>match g,q with
  | .b x,.bool y=>x == y
  | .i k n,.int k' n'=>decide (k=k') && decide (n=n')
  | .s x,.str l c=>Nat.beq l x.length && Nat.beq c (p9 x)
  | .l xs,.slice t n off len=>Nat.beq len xs.length && a6m (d93 f) n t xs off
  | _,_=>false
theorem c2w {f:G→Q→Bool} (h:∀ g q,f g q=true→RG g q) {q:Q}:∀ {gs:List G} {i:Nat},a6m.chkCel f q gs i=true→A8 gs q i
 | [],_,_=>.nil _ _
 | g :: gs,i,e=>by
  rw [a6m.chkCel,Bool.and_eq_true] at e
  exact .k (h _ _ e.1) (c2w h e.2)
theorem a5q {f:G→Q→Bool} (h:∀ g q,f g q=true→RG g q) {n:Nat} {t:j9 Q}:∀ {xs:List (List G)} {off:Nat},a6m f n t xs off=true→r7 n xs t off
 | [],_,_=>.nil _ _ _
 | r :: rs,off,e=>by
  rw [a6m,Bool.and_eq_true,Bool.and_eq_true,Bool.and_eq_true] at e
  obtain ⟨e1,e2,e3,e4⟩:=e
  refine .cons _ _ _ _ _ (Nat.eq_of_beq_eq_true e1) (c2w h e2) (fun g k=>?_) (a5q h e4)
  subst k
  exact h _ _ e3
theorem b98:∀ (f:Nat) (g:G) (q:Q),d93 f g q=true→RG g q
 | 0,_,_,e=>by cases e
 | f+1,g,q,e=>by
  unfold d93 at e
  split at e
  ·have:=eq_of_beq e;subst this;exact .b _
  ·rw [Bool.and_eq_true] at e
   have e1:=of_decide_eq_true e.1
   have e2:=of_decide_eq_true e.2
   subst e1 e2;exact .i _ _
  ·rw [Bool.and_eq_true] at e
   exact .s _ _ _ (Nat.eq_of_beq_eq_true e.1) (Nat.eq_of_beq_eq_true e.2)
  ·rw [Bool.and_eq_true] at e
   exact .l _ _ _ _ _ (Nat.eq_of_beq_eq_true e.1) (a5q (b98 f) e.2)
  ·cases e
end
end Go.Abs
namespace Go.Proofs.YtffaodopiifbkaaGreatDoor
open Go.Abs LQ
set_option maxRecDepth 100000
set_option maxHeartbeats 4000000
noncomputable section
def W5:List i6:=[n5 1 97,n5 1 98,n5 3 7303014,n5 8 7308604895909930095,n5 1 49,n5 3 7961720,n5 1 46,n5 4 858731053,n5 1 35]
def a11 (n:Int):Sy :=
 if n % 13 < 9 then (D1,W5.getD (n % 13).toNat []) else
 if n % 13=9 then (u1,n5 3 7104878) else
 if n % 13=10 then (u1,n5 1 116) else
 if n % 13=11 then (u1,n5 3 7496035) else (u1,n5 5 435745158513)
def s1 (s:i6):List G:=[.s s]
def e48 (g:Int→GV):Sp where
 ι:=Int
 A n:=[.c (.i .i64 n)]
 B _:=[]
 R n:=.ret (g n)
 B' _:=[]
 inj i j vs bs h k _ _:=by
  obtain ⟨_,_,h1,k1,h,k⟩:=h.two k
  rw [(G.i.inj (h1.c_inj k1)).2];exact ⟨rfl,rfl⟩
def atR (r:Raw):O :=
 if r.k % 8=0∨r.k % 8=1 then .num (r.n % 2001 - 1000) 1 else
 if r.k % 8=2 then a3s (qn (r.n % 41 - 20) (1+r.s.length)) else
 if r.k % 8=3 then .sy (a11 r.n) else .tx r.s
mutual
def B6:Raw→O
 | .mk k n s l=>if k % 8 < 5 then atR (.mk k n s l) else
  if k % 8=5 then .co ((D8 l).getD 0 (.num (-1000) 1)) ((D8 l).getD 1 (.num (-1000) 1)) else E7 (D8 l)
def D8:List Raw→List O
 | []=>[]
 | x :: xs=>B6 x :: D8 xs
end
def ok (o:O):Prop:=o.size≤3000∧o.fm=true
theorem d55 (n:Int) (h:-1000000000 < n∧n < 1000000000):ok (.num n 1):=by
 refine ⟨by show 1≤3000;decide,decide_eq_true ⟨?_,?_,?_⟩⟩
 ·rw [P8,r8,A7]
  show (j4 (qn n 1).1,i7 (qn n 1).2)=_
  rw [c8i]
 ·unfold E6
  rw [r8]
  have:=a29 (n:=n.natAbs) (k:=9) oM
  omega
 ·unfold E6
  rw [A7,Int.natAbs_natCast]
  have:=a29 (n:=1) (k:=1) dE
  omega
theorem d7c:r9 u1=true:=by
 unfold r9
 rw [T8 (i:=0) dE dE,T8 (i:=1) dE dE,T8 (i:=2) dE dE,T8 (i:=3) dE dE,a9q dE]
 decide
theorem d08 {s:i6} (h:1≤s.length∧s.length≤40):ok (.sy (u1,s)):=by
 refine ⟨by show 1≤3000;decide,?_⟩
 show named _=true
 unfold named
 rw [d7c,decide_eq_true h];rfl
theorem f3u:ok x8:=d08 dE
def szL:List O→Nat
 | []=>1
 | a :: l=>1+a.size+szL l
theorem d8j:∀ os:List O,(E7 os).size=szL os
 | []=>rfl
 | a :: l=>by show 1+a.size+(E7 l).size=_;rw [d8j l];rfl
theorem d75:∀ os:List O,(E7 os).fm=true↔∀ x ∈ os,x.fm=true
 | []=>⟨fun _ x h=>absurd h (by simp),fun _=>f3u.2⟩
 | a :: l=>by
  have e:(E7 (a :: l)).fm=(a.fm && (E7 l).fm):=rfl
  rw [e,Bool.and_eq_true,d75 l]
  simp
theorem f8z (x y:Int):qn (qn x y).1 ((qn x y).2:Nat)=qn x y:=by
 by_cases hy:y=0
 ·have e:qn x y=(0,1):=by unfold qn;rw [if_pos hy]
  rw [e]
  exact c8i 0
 have e:qn x y=((if (x < 0)=(y < 0) then 1 else -1) * ((x.natAbs / Nat.gcd x.natAbs y.natAbs:Nat):Int),y.natAbs / Nat.gcd x.natAbs y.natAbs):=by unfold qn;rw [if_neg hy]
 have hg:0 < Nat.gcd x.natAbs y.natAbs:=Nat.gcd_pos_of_pos_right _ oM
 have h1:Nat.gcd (x.natAbs / Nat.gcd x.natAbs y.natAbs) (y.natAbs / Nat.gcd x.natAbs y.natAbs)=1:=by
  rw [Nat.gcd_div (Nat.gcd_dvd_left _ _) (Nat.gcd_dvd_right _ _),Nat.div_self hg]
 have hd:0 < y.natAbs / Nat.gcd x.natAbs y.natAbs:=Nat.div_pos (Nat.le_of_dvd oM (Nat.gcd_dvd_right _ _)) hg
 rw [e]
 simp only
 generalize x.natAbs / Nat.gcd x.natAbs y.natAbs=a at *
 generalize y.natAbs / Nat.gcd x.natAbs y.natAbs=b at *
 have hs:∃ n:Int,(if (x < 0)=(y < 0) then (1:Int) else -1) * (a:Int)=n∧n.natAbs=a:=by
  by_cases hc:(x < 0)=(y < 0)
  ·exact ⟨a,by rw [if_pos hc];omega,oM⟩
  ·exact ⟨-(a:Int),by rw [if_neg hc];omega,oM⟩
 obtain ⟨n,e1,e2⟩:=hs
 rw [e1]
 unfold qn
 rw [if_neg oM,Int.natAbs_natCast,e2,h1,Nat.div_one,Nat.div_one]
 refine Prod.ext ?_ rfl
 show (if (n < 0)=((b:Int) < 0) then (1:Int) else -1) * (a:Int)=n
 by_cases hn:n < 0
 ·rw [if_neg (fun e=>absurd (e.mp hn) oM)];omega
 ·rw [if_pos (propext ⟨fun k=>absurd k hn,fun k=>absurd k oM⟩)];omega
theorem f8e {x y:Int} (hx:x.natAbs < 1000000000) (hy:y.natAbs < 1000000000):(a3s (qn x y)).fm=true:=by
 have hq:=f8z x y
 have b1:(qn x y).1.natAbs < 1000000000∧(qn x y).2 < 1000000000:=by
  unfold qn
  split
  ·exact ⟨dE,dE⟩
  ·have d1:=Nat.div_le_self x.natAbs (Nat.gcd x.natAbs y.natAbs)
   have d2:=Nat.div_le_self y.natAbs (Nat.gcd x.natAbs y.natAbs)
   refine ⟨?_,Nat.lt_of_le_of_lt d2 hy⟩
   simp only
   generalize x.natAbs / Nat.gcd x.natAbs y.natAbs=a at *
   split
   ·omega
   ·omega
 generalize qn x y=q at *
 obtain ⟨n,d⟩:=q
 have b2:n.natAbs < 1000000000:=b1.1
 have b3:d < 1000000000:=b1.2
 refine decide_eq_true ⟨?_,?_,?_⟩
 ·rw [P8,r8,A7,hq]
 ·unfold E6
  rw [r8]
  have:=a29 (n:=n.natAbs) (k:=9) b2
  show max 1 (j8 n.natAbs).length≤100
  omega
 ·unfold E6
  rw [A7,Int.natAbs_natCast]
  have:=a29 (n:=d) (k:=9) b3
  show max 1 (j8 d).length≤100
  omega
theorem c70:r9 D1=true:=by
 unfold r9
 rw [T8 (i:=0) dE dE,T8 (i:=1) dE dE,T8 (i:=2) dE dE,T8 (i:=3) dE dE,a9q dE]
 decide
theorem c9c:∀ k,k < 9→1≤(W5.getD k []).length∧(W5.getD k []).length≤40:=dE
theorem e8m (n:Int):named (a11 n)=true:=by
 have h1:0≤n % 13:=Int.emod_nonneg _ dE
 unfold a11
 split
 ·unfold named
  have:=c9c (n % 13).toNat oM
  rw [c70,decide_eq_true this];rfl
 ·repeat' split
  all_goals exact (d08 dE).2
theorem f3j {r:Raw} (h:r.s.length≤12):(atR r).fm=true:=by
 unfold atR
 have h1:0≤r.n % 2001:=Int.emod_nonneg _ dE
 have h2:r.n % 2001 < 2001:=Int.emod_lt_of_pos _ dE
 have h3:0≤r.n % 41:=Int.emod_nonneg _ dE
 have h4:r.n % 41 < 41:=Int.emod_lt_of_pos _ dE
 split
 ·exact (d55 _ ⟨oM,oM⟩).2
 ·split
  ·exact f8e oM oM
  ·split
   ·exact e8m _
   ·exact decide_eq_true (by show r.s.length≤200;omega)
theorem e02 (r:Raw):(atR r).size=1:=by
 unfold atR
 repeat' split
 all_goals rfl
mutual
theorem a96:∀ r:Raw,(B6 r).size+1≤4 * r.nodes
 | .mk k n s l=>by
  have h:=c8d l
  have hn:(Raw.mk k n s l).nodes=1+Raw.nodesL l:=rfl
  rw [B6]
  split
  ·rw [e02];omega
  ·split
   ·have h2:=d8g l
    show 1+((D8 l).getD 0 (.num (-1000) 1)).size+((D8 l).getD 1 (.num (-1000) 1)).size+1≤_
    omega
   ·rw [d8j];omega
theorem c8d:∀ l:List Raw,szL (D8 l)≤1+4 * Raw.nodesL l
 | []=>by show 1≤_;omega
 | x :: xs=>by
  have h1:=a96 x
  have h2:=c8d xs
  show 1+(B6 x).size+szL (D8 xs)≤1+4 * (x.nodes+Raw.nodesL xs)
  omega
theorem d8g:∀ l:List Raw,((D8 l).getD 0 (.num (-1000) 1)).size+((D8 l).getD 1 (.num (-1000) 1)).size≤2+4 * Raw.nodesL l
 | []=>by show 1+1≤_;omega
 | [x]=>by
  have h1:=a96 x
  show (B6 x).size+1≤2+4 * (x.nodes+0)
  omega
 | x :: y :: l=>by
  have h1:=a96 x
  have h2:=a96 y
  show (B6 x).size+(B6 y).size≤2+4 * (x.nodes+(y.nodes+Raw.nodesL l))
  omega
end
mutual
theorem d10:∀ {r:Raw},r.okR→(B6 r).fm=true
 | .mk k n s l,h=>by
  have hl:=c73 (l:=l) h.2.2
  rw [B6]
  split
  ·exact f3j (r:=.mk k n s l) h.1
  ·split
   ·have hz:(O.num (-1000) 1).fm=true:=(d55 (-1000) dE).2
    have hg:∀ i,((D8 l).getD i (.num (-1000) 1)).fm=true:=fun i=>by
     by_cases hi:i < (D8 l).length
     ·rw [show (D8 l).getD i (.num (-1000) 1)=(D8 l)[i] by simp [List.getD,List.getElem?_eq_getElem hi]]
      exact hl _ (List.getElem_mem hi)
     ·rw [show (D8 l).getD i (.num (-1000) 1)=.num (-1000) 1 by simp [List.getD,List.getElem?_eq_none (by omega:(D8 l).length≤i)]]
      exact hz
    show (_ && _)=true
    rw [hg,hg];rfl
   ·exact (d75 _).2 hl
theorem c73:∀ {l:List Raw},Raw.okRL l→∀ x ∈ D8 l,x.fm=true
 | [],_,x,h=>by cases h
 | y :: l,h,x,hx=>by
  cases hx with
  | head=>exact d10 h.1
  | tail _ hx=>exact c73 h.2 x hx
end
end
end Go.Proofs.YtffaodopiifbkaaGreatDoor
namespace Go.Proofs.YtffaodopiifbkaaGreatDoor
open Go.Abs LQ Go.RowKit Go.Lib Go.Sort
set_option maxRecDepth 100000
set_option maxHeartbeats 4000000
noncomputable section
end
end Go.Proofs.YtffaodopiifbkaaGreatDoor
namespace Go.Proofs.YtffaodopiifbkaaGreatDoor
open Go.Abs LQ
noncomputable section
open Classical
def X8 (L:List Pk) (cur:i6):O→Nat
 | .co a d=>X8 L cur a+X8 L cur d
 | o=>(F7 L cur o).length
def lv:O→Nat
 | .co a d=>lv a+lv d
 | _=>1
theorem d7z (o:O):0 < lv o:=by induction o <;> simp [lv] <;> omega
theorem d1t (o:O):o.size+1=2 * lv o:=by induction o <;> simp [lv,O.size] <;> omega
section
variable {L:List Pk} {cur:i6}
theorem a7f:∀ o:O,(pT L cur o).1.length+4≤X8 L cur o+5 * lv o∧(pT L cur o).2.1.length+1≤X8 L cur o+5 * lv o
 | .co a d=>by
  have h1:=(a7f a).1
  have h2:=(a7f d).2
  have h3:=b2k (L:=L) (cur:=cur) a d
  have e:(pT L cur (.co a d)).2.1.length=1+((pT L cur a).1.length+(pT L cur d).2.1.length):=by simp only [pT,List.length_cons,List.length_append];omega
  simp only [X8,lv]
  rw [e] at h3 ⊢
  omega
 | .num n d=>by
  have e:(pT L cur (.num n d)).2.1=32 :: 46 :: 32 :: (F7 L cur (.num n d) ++ [41]):=by simp [pT,x8]
  rw [e]
  refine ⟨?_,?_⟩
  ·show (F7 L cur (.num n d)).length+4≤(F7 L cur (.num n d)).length+5 * 1;omega
  ·show _≤(F7 L cur (.num n d)).length+5 * 1;simp
 | .tx n=>by
  have e:(pT L cur (.tx n)).2.1=32 :: 46 :: 32 :: (F7 L cur (.tx n) ++ [41]):=by simp [pT,x8]
  rw [e]
  refine ⟨?_,?_⟩
  ·show (F7 L cur (.tx n)).length+4≤(F7 L cur (.tx n)).length+5 * 1;omega
  ·show _≤(F7 L cur (.tx n)).length+5 * 1;simp
 | .no=>by
  have e:(pT L cur .no).2.1=32 :: 46 :: 32 :: (F7 L cur .no ++ [41]):=by simp [pT,x8]
  rw [e]
  refine ⟨?_,?_⟩
  ·show (F7 L cur .no).length+4≤(F7 L cur .no).length+5 * 1;omega
  ·show _≤(F7 L cur .no).length+5 * 1;simp
 | .sy n=>by
  refine ⟨?_,?_⟩
  ·show (F7 L cur (.sy n)).length+4≤(F7 L cur (.sy n)).length+5 * 1;omega
  ·show _≤(F7 L cur (.sy n)).length+5 * 1
   simp only [pT]
   split <;> simp
end
theorem d60 {m:Nat} (h:m < 10000):(i7 m).length≤4:=by
 have h1:=b1p m
 by_cases h0:m=0
 ·subst h0;rw [A4] at h1;simp at h1;omega
 ·have h2:=a6j m h0
  have h3:10 ^ ((j8 m).length - 1) < 10 ^ 4:=oM
  have:=(Nat.pow_lt_pow_iff_right (by decide:1 < 10)).1 h3
  omega
theorem c8a {L:List Pk} {cur:i6} {n:Int} {d:Nat} (h:n.natAbs < 10000) (h2:d < 10000):(F7 L cur (.num n d)).length≤26:=by
 have h1:=b61 n d
 have l3:(j4 n).length≤1+(i7 n.natAbs).length:=by
  rw [I8,List.length_append]
  have:(LQ.sgn n).length≤1:=by unfold LQ.sgn;split <;> simp
  omega
 have:=d60 h
 have:=d60 h2
 show (X2 n d).length≤_
 omega
theorem e28 (x y:Int) (hx:x.natAbs < 10000) (hy:y.natAbs < 10000):(qn x y).1.natAbs < 10000∧(qn x y).2 < 10000:=by
 unfold qn
 split
 ·exact ⟨dE,dE⟩
 ·have d1:=Nat.div_le_self x.natAbs (Nat.gcd x.natAbs y.natAbs)
  have d2:=Nat.div_le_self y.natAbs (Nat.gcd x.natAbs y.natAbs)
  refine ⟨?_,Nat.lt_of_le_of_lt d2 hy⟩
  simp only
  generalize x.natAbs / Nat.gcd x.natAbs y.natAbs=a at *
  split
  ·omega
  ·omega
theorem d3m:∀ k,k < 9→(W5.getD k []).length≤8:=dE
theorem e0f (L:List Pk) (cur:i6) (n:Int):(F7 L cur (.sy (a11 n))).length≤26:=by
 have h:=a19 L cur (a11 n)
 have h1:0≤n % 13:=Int.emod_nonneg _ dE
 have:(a11 n).1.length≤4∧(a11 n).2.length≤8:=by
  unfold a11
  split
  ·have:=d3m (n % 13).toNat oM
   exact ⟨by show 4≤4;omega,this⟩
  ·repeat' split
   all_goals exact ⟨dE,dE⟩
 show (G2 L cur (a11 n)).1.length≤26
 omega
theorem f1z (L:List Pk) (cur:i6) {r:Raw} (h:r.s.length≤12):X8 L cur (atR r)≤26 * lv (atR r):=by
 have h1:0≤r.n % 2001:=Int.emod_nonneg _ dE
 have h2:r.n % 2001 < 2001:=Int.emod_lt_of_pos _ dE
 have h3:0≤r.n % 41:=Int.emod_nonneg _ dE
 have h4:r.n % 41 < 41:=Int.emod_lt_of_pos _ dE
 unfold atR
 split
 ·exact c8a (L:=L) (cur:=cur) oM oM
 ·split
  ·have:=e28 (r.n % 41 - 20) (1+r.s.length) oM oM
   exact c8a (L:=L) (cur:=cur) this.1 this.2
  ·split
   ·exact e0f L cur r.n
   ·have:=b4d 34 r.s
    show (G9 34 r.s).length≤26
    omega
theorem f4h (L:List Pk) (cur:i6):X8 L cur x8≤26 * lv x8:=by
 have:=a19 L cur (u1,[110,105,108])
 show (G2 L cur (u1,[110,105,108])).1.length≤26
 have e:(u1,([110,105,108]:i6)).1.length+2 * (u1,([110,105,108]:i6)).2.length+4=14:=rfl
 omega
theorem d0p (L:List Pk) (cur:i6):∀ {l:List O},(∀ x ∈ l,X8 L cur x≤26 * lv x)→X8 L cur (E7 l)≤26 * lv (E7 l)
 | [],_=>f4h L cur
 | x :: l,h=>by
  have h1:=h x (by simp)
  have h2:=d0p L cur (l:=l) fun y hy=>h y (by simp [hy])
  show X8 L cur x+X8 L cur (E7 l)≤26 * (lv x+lv (E7 l))
  omega
mutual
theorem d2y (L:List Pk) (cur:i6):∀ {r:Raw},r.okR→X8 L cur (B6 r)≤26 * lv (B6 r)
 | .mk k n s l,h=>by
  have hl:=c7m L cur (l:=l) h.2.2
  rw [B6]
  split
  ·exact f1z L cur (r:=.mk k n s l) h.1
  ·split
   ·have hz:X8 L cur (O.num (-1000) 1)≤26 * lv (O.num (-1000) 1):=c8a (L:=L) (cur:=cur) dE dE
    have hg:∀ i,X8 L cur ((D8 l).getD i (.num (-1000) 1))≤26 * lv ((D8 l).getD i (.num (-1000) 1)):=fun i=>by
     by_cases hi:i < (D8 l).length
     ·rw [show (D8 l).getD i (.num (-1000) 1)=(D8 l)[i] by simp [List.getD,List.getElem?_eq_getElem hi]]
      exact hl _ (List.getElem_mem hi)
     ·rw [show (D8 l).getD i (.num (-1000) 1)=.num (-1000) 1 by simp [List.getD,List.getElem?_eq_none (by omega:(D8 l).length≤i)]]
      exact hz
    have h0:=hg 0
    have h1:=hg 1
    show X8 L cur _+X8 L cur _≤26 * (lv _+lv _)
    omega
   ·exact d0p L cur hl
theorem c7m (L:List Pk) (cur:i6):∀ {l:List Raw},Raw.okRL l→∀ x ∈ D8 l,X8 L cur x≤26 * lv x
 | [],_,x,h=>by cases h
 | y :: l,h,x,hx=>by
  cases hx with
  | head=>exact d2y L cur h.1
  | tail _ hx=>exact c7m L cur h.2 x hx
end
theorem d2k {b:Nat}:∀ {l:List O},(∀ x ∈ l,(dO x).1≤b)→(dO (E7 l)).1≤1+b∧(dO (E7 l)).2≤b
 | [],_=>⟨Nat.zero_le _,Nat.zero_le _⟩
 | x :: l,h=>by
  have h1:=h x (by simp)
  have h2:=(d2k (l:=l) fun y hy=>h y (by simp [hy])).2
  show 1+max (dO x).1 (dO (E7 l)).2≤_∧max (dO x).1 (dO (E7 l)).2≤_
  omega
theorem f2z (r:Raw):(dO (atR r)).1=0:=by
 unfold atR
 repeat' split
 all_goals rfl
mutual
theorem d0y:∀ r:Raw,(dO (B6 r)).1≤r.nodes
 | .mk k n s l=>by
  have hl:=c67 l
  have hn:(Raw.mk k n s l).nodes=1+Raw.nodesL l:=rfl
  rw [B6,hn]
  split
  ·rw [f2z];omega
  ·split
   ·have hg:∀ i,(dO ((D8 l).getD i (.num (-1000) 1))).1≤Raw.nodesL l:=fun i=>by
     by_cases hi:i < (D8 l).length
     ·rw [show (D8 l).getD i (.num (-1000) 1)=(D8 l)[i] by simp [List.getD,List.getElem?_eq_getElem hi]]
      exact hl _ (List.getElem_mem hi)
     ·rw [show (D8 l).getD i (.num (-1000) 1)=.num (-1000) 1 by simp [List.getD,List.getElem?_eq_none (by omega:(D8 l).length≤i)]]
      exact Nat.zero_le _
    have h0:=hg 0
    have h1:=hg 1
    have h2:=e5h ((D8 l).getD 1 (.num (-1000) 1))
    show 1+max _ _≤_
    omega
   ·exact (d2k hl).1
theorem c67:∀ l:List Raw,∀ x ∈ D8 l,(dO x).1≤Raw.nodesL l
 | [],x,h=>by cases h
 | y :: l,x,hx=>by
  have e:Raw.nodesL (y :: l)=y.nodes+Raw.nodesL l:=rfl
  rw [e]
  cases hx with
  | head=>have:=d0y y;omega
  | tail _ hx=>have:=c67 l x hx;omega
end
end
end Go.Proofs.YtffaodopiifbkaaGreatDoor
