/- Jxa -/
import Derived.Test.YtffaodopiifbkaaGreatDoorCL2
import Derived.Test.YtffaodopiifbkaaGreatDoorCJ7
set_option linter.all false
namespace Go.Proofs.YtffaodopiifbkaaGreatDoor
open Go.Abs LQ
noncomputable section
open Classical
def WT (T:List u5) (i:Nat):Nat:=((T.drop i).map cT).sum
theorem b7o {T:List u5} {i:Nat} (h:i < T.length):WT T i=cT (T.getD i t0)+WT T (i+1):=by
 unfold WT
 rw [List.drop_eq_getElem_cons h,List.map_cons,List.sum_cons]
 simp [List.getD,List.getElem?_eq_getElem h]
theorem e1l {l:List Sy} {n:i6} {s:Sy} (h:W9 l n=some s):s ∈ l∧s.2=n:=by
 induction l with
 | nil=>cases h
 | cons x l ih =>
  rw [W9] at h
  split at h
  ·rename_i e;injection h with h;subst h;exact ⟨by simp,e⟩
  ·have:=ih h;exact ⟨by simp [this.1],this.2⟩
theorem d0d {L:List Pk} {c n:i6} (h:(x7 L c n).2=0):(x7 L c n).1.2=n:=by
 unfold x7 at h ⊢
 split at h
 ·cases h
 ·rename_i p hp
  split at h
  ·cases h
  ·rename_i hl
   rw [if_neg hl]
   split
   ·rename_i s hs;exact (e1l hs).2
   ·rfl
theorem e2w:r9 u1=true:=by
 unfold r9
 rw [T8 (i:=0) dE dE,T8 (i:=1) dE dE,T8 (i:=2) dE dE,T8 (i:=3) dE dE,a9q dE]
 decide
theorem b1d {s:i6} (h:1≤s.length∧s.length≤40):named (u1,s)=true:=by
 unfold named
 rw [e2w,decide_eq_true h];rfl
section
variable {L:List Pk} {cur:i6} {T:List u5}
theorem e8i (hq:(pT L cur z8).1.length≤18) (o:O):(pT L cur o).2.1.length≤(pT L cur o).1.length+20:=by
 cases o with
 | co a d =>
  simp only [pT]
  split
  ·rename_i ha
   split
   ·rename_i t ht
    obtain ⟨x,hx⟩:∃ x,d=.co x x8∧t=(pT L cur x).1:=by
     cases d with
     | co x y =>
      simp only [pT] at ht
      split at ht
      ·rename_i hz;injection ht with ht;exact ⟨x,by rw [hz],ht.symm⟩
      ·cases ht
     | _=>cases ht
    obtain ⟨rfl,rfl⟩:=hx
    subst ha
    have e:(pT L cur x8).2.1=[41]:=by simp [pT,x8]
    have hn:(pT L cur (O.co x x8)).2.1.length=1+((pT L cur x).1.length+1):=by
     simp only [pT,List.length_cons,List.length_append,e,List.length_nil];omega
    simp only [List.length_cons,List.length_append,hn]
    omega
   ·simp
  ·simp
 | _ =>
  simp only [pT]
  split <;> simp
theorem b4f (hT:∀ t ∈ T,OkT t) {i:Nat} (h:(T.getD i t0).kind ≠ 0):i < T.length∧OkT (T.getD i t0):=by
 by_cases hi:i < T.length
 ·refine ⟨hi,?_⟩
  have:T.getD i t0=T[i]:=by simp [List.getD,List.getElem?_eq_getElem hi]
  rw [this];exact hT _ (List.getElem_mem hi)
 ·exfalso;apply h
  have:T.getD i t0=t0:=by simp [List.getD,List.getElem?_eq_none (by omega:T.length≤i)]
  rw [this];rfl
theorem d7s (hp:e0e L cur) (hT:∀ t ∈ T,OkT t):∀ n:Nat,
  (∀ d i o j,J2 L cur T n d i=.ok (o,j)→(i < j∧j≤T.length)∧okA L o∧(pT L cur o).1.length+1+WT T j≤WT T i∧(dO o).1+i≤j) ∧
  (∀ d i acc o j,N9 L cur T n d i acc=.ok (o,j)→∃ r,o=Q1 acc r∧(i < j∧j≤T.length)∧okA L r∧(pT L cur r).2.1.length+WT T j≤WT T i∧(dO r).2+i+1≤j):=by
 have hnil:okA L x8:=⟨(b1d dE),hp.nilH⟩
 have hquo:okA L z8:=⟨(b1d dE),hp.quoteH⟩
 have hq18:(pT L cur z8).1.length≤18:=by
  have:=a19 L cur (u1,[113,117,111,116,101])
  exact this
 have hn18:(pT L cur x8).1.length≤14:=by
  have:=a19 L cur (u1,[110,105,108])
  exact this
 intro n
 induction n with
 | zero=>exact ⟨fun d i o j h=>(by rw [J2] at h;cases h),fun d i acc o j h=>(by rw [N9] at h;cases h)⟩
 | succ n ih =>
  obtain ⟨ih1,ih2⟩:=ih
  constructor
  ·intro d i o j h
   rw [J2] at h
   simp only [] at h
   split at h
   ·cases h
   rename_i k0
   obtain ⟨hi,hok⟩:=b4f hT k0
   have hW:=b7o hi
   split at h
   ·cases h
   split at h
   ·rename_i k5
    injection h with h;injection h with h1 h2;subst h1 h2
    obtain ⟨m,e,t1,t2,t3,t4,t5,t6⟩:=hok.1 k5
    have eo:b20 (T.getD i t0)=.num m e:=by
     unfold b20;rw [t1,t2,r8,A7];rfl
    rw [eo]
    refine ⟨oM,⟨t3,t4,t5,t6⟩,?_,by simp [dO]⟩
    have:=b61 m e
    rw [hW]
    show (X2 m e).length+1+_≤_
    unfold cT
    rw [t1,t2];omega
   split at h
   ·rename_i k7
    injection h with h;injection h with h1 h2;subst h1 h2
    refine ⟨oM,hok.2.1 k7,?_,by simp [dO]⟩
    have:=b4d 34 (T.getD i t0).text
    rw [hW]
    show (G9 34 (T.getD i t0).text).length+1+_≤_
    unfold cT;omega
   split at h
   ·rename_i k6
    generalize hcd:(if (T.getD i t0).pkg=[] then cur else (T.getD i t0).pkg)=c at h
    split at h
    ·rename_i hz
     injection h with h;injection h with h1 h2;subst h1 h2
     have hcv:c=cur∨r9 c=true:=by
      rw [← hcd]
      split
      ·exact .inl rfl
      ·rename_i hne;exact .inr ((hok.2.2 k6).resolve_left hne)
     obtain ⟨q1,q2,q3⟩:=hp.home _ _ _ hcv (Prod.ext rfl hz:x7 L c (T.getD i t0).text=((x7 L c (T.getD i t0).text).1,0))
     have hn2:(x7 L c (T.getD i t0).text).1.2=(T.getD i t0).text:=d0d hz
     refine ⟨oM,⟨q2,q1⟩,?_,by simp [dO]⟩
     have:=a19 L cur (x7 L c (T.getD i t0).text).1
     rw [hn2] at this
     have hc4:=hp.cur4
     have hcl:c.length≤(T.getD i t0).pkg.length+4:=by rw [← hcd];split <;> omega
     rw [hW]
     show (G2 L cur _).1.length+1+_≤_
     unfold cT;omega
    ·cases h
   split at h
   ·cases h
   split at h
   ·split at h
    ·cases h
    ·rename_i x j' hx
     injection h with h;injection h with h1 h2;subst h1 h2
     obtain ⟨f1,f2,f3,f4⟩:=ih1 _ _ _ _ hx
     have e:(pT L cur (E7 [z8,x])).1=39 :: (pT L cur x).1:=by
      show (pT L cur (.co z8 (.co x x8))).1=_
      simp [pT]
     refine ⟨oM,⟨hquo,f2,hnil⟩,?_,?_⟩
     ·rw [e,hW,List.length_cons];unfold cT;omega
     ·show (dO (.co z8 (.co x x8))).1+i≤_
      simp [dO,z8,x8];omega
   ·obtain ⟨r,e,f1,f2,f3,f4⟩:=ih2 _ _ _ _ _ h
    have e:o=r:=e
    subst e
    cases o with
    | co a d =>
     have:=b2k (L:=L) (cur:=cur) a d
     refine ⟨oM,f2,by rw [hW];unfold cT;omega,?_⟩
     have:(dO (O.co a d)).1=1+(dO (O.co a d)).2:=rfl
     omega
    | no=>exact f2.elim
    | num m q =>
     refine ⟨oM,f2,?_,by simp [dO];omega⟩
     have e1:(pT L cur (.num m q)).2.1=32 :: 46 :: 32 :: (F7 L cur (.num m q) ++ [41]):=by simp [pT,x8]
     have e2:(pT L cur (.num m q)).1=F7 L cur (.num m q):=rfl
     rw [e1] at f3;rw [e2,hW];simp at f3;unfold cT;omega
    | tx m =>
     refine ⟨oM,f2,?_,by simp [dO];omega⟩
     have e1:(pT L cur (.tx m)).2.1=32 :: 46 :: 32 :: (F7 L cur (.tx m) ++ [41]):=by simp [pT,x8]
     have e2:(pT L cur (.tx m)).1=F7 L cur (.tx m):=rfl
     rw [e1] at f3;rw [e2,hW];simp at f3;unfold cT;omega
    | sy m =>
     refine ⟨oM,f2,?_,by simp [dO];omega⟩
     by_cases hz:O.sy m=x8
     ·rw [hz] at f3 ⊢
      have e1:(pT L cur x8).2.1=[41]:=by simp [pT,x8]
      rw [e1] at f3
      rw [hW]
      simp at f3
      unfold cT
      omega
     ·have e1:(pT L cur (.sy m)).2.1=32 :: 46 :: 32 :: (F7 L cur (.sy m) ++ [41]):=by simp only [pT];rw [if_neg hz]
      have e2:(pT L cur (.sy m)).1=F7 L cur (.sy m):=rfl
      rw [e1] at f3;rw [e2,hW];simp at f3;unfold cT;omega
  ·intro d i acc o j h
   rw [N9] at h
   simp only [] at h
   split at h
   ·rename_i k2
    have k0:(T.getD i t0).kind ≠ 0:=by rw [k2];decide
    obtain ⟨hi,hok⟩:=b4f hT k0
    injection h with h;injection h with h1 h2;subst h1 h2
    refine ⟨x8,rfl,oM,hnil,?_,by simp [dO,x8]⟩
    have e1:(pT L cur x8).2.1=[41]:=by simp [pT,x8]
    rw [e1,b7o hi];unfold cT;simp
   split at h
   ·rename_i k3
    have k0:(T.getD i t0).kind ≠ 0:=by rw [k3.1];decide
    obtain ⟨hi,hok⟩:=b4f hT k0
    split at h
    ·cases h
    ·rename_i x j' hx
     obtain ⟨f1,f2,f3,f4⟩:=ih1 _ _ _ _ hx
     split at h
     ·rename_i k2
      have k0':(T.getD j' t0).kind ≠ 0:=by rw [k2];decide
      obtain ⟨hj,_⟩:=b4f hT k0'
      injection h with h;injection h with h1 h2;subst h1 h2
      refine ⟨x,rfl,oM,f2,?_,by have:=e5h x;omega⟩
      have:=e8i hq18 x
      have hj2:=b7o hj
      rw [b7o hi]
      unfold cT at *;omega
     ·split at h <;> cases h
   ·split at h
    ·cases h
    ·rename_i x j' hx
     obtain ⟨f1,f2,f3,f4⟩:=ih1 _ _ _ _ hx
     obtain ⟨r,e,g1,g2,g3,g4⟩:=ih2 _ _ _ _ _ h
     refine ⟨.co x r,by rw [e,c2m],oM,⟨f2,g2⟩,?_,?_⟩
     ·simp only [pT,List.length_cons,List.length_append];omega
     ·have:(dO (O.co x r)).2=max (dO x).1 (dO r).2:=rfl
      omega
end
theorem c2f {L:List Pk} {cur:i6} {T:List u5}:∀ (m i:Nat) (acc l:List (O × Nat)),O9 L cur T m i acc=.ok l→(∀ x ∈ acc,x.1.size≤3000∧∃ i j,J2 L cur T (2 * T.length+2) 0 i=.ok (x.1,j))→∀ x ∈ l,x.1.size≤3000∧∃ i j,J2 L cur T (2 * T.length+2) 0 i=.ok (x.1,j)
 | 0,i,acc,l,h,ha=>by rw [O9] at h;cases h
 | m+1,i,acc,l,h,ha=>by
  rw [O9] at h
  split at h
  ·injection h with h;subst h;exact ha
  split at h
  ·cases h
  split at h
  ·cases h
  ·rename_i x j hx
   split at h
   ·cases h
   ·refine c2f m j _ l h fun y hy=>?_
    rcases List.mem_append.1 hy with hy | hy
    ·exact ha y hy
    ·rw [List.mem_singleton.1 hy];exact ⟨by simp only [];omega,i,j,hx⟩
theorem f0a {L:List Pk} {cur s:i6} {o:O} (hp:e0e L cur) (hs:s.length≤100) (h:a84 L cur s=.ok o):okA L o∧(C1 L cur o).length≤3000∧o.size≤3000∧(dO o).1≤201:=by
 unfold a84 at h
 split at h
 ·cases h
 ·cases h
 ·rename_i x k hr
  injection h with h
  subst h
  unfold H6 at hr
  split at hr
  ·cases hr
  ·rename_i T ht
   unfold C5 at ht
   rw [if_neg oM] at ht
   obtain ⟨T',e1,e2,e3,e4⟩:=a2s _ (Nat.le_refl _) (Nat.zero_le _) ht
   rw [List.nil_append] at e1
   subst e1
   obtain ⟨z1,i,j,z2⟩:=c2f _ _ _ _ hr (fun _ h=>by cases h) (x,k) (by simp)
   obtain ⟨f1,f2,f3,f4⟩:=(d7s hp e2 _).1 _ _ _ _ z2
   have z1:x.size≤3000:=z1
   have f3:(pT L cur x).1.length+1+WT T j≤WT T i:=f3
   have f4:(dO x).1+i≤j:=f4
   have hW:WT T i≤(T.map cT).sum:=by
    unfold WT
    have:((T.take i ++ T.drop i).map cT).sum=((T.take i).map cT).sum+((T.drop i).map cT).sum:=by rw [List.map_append,List.sum_append]
    rw [List.take_append_drop] at this
    omega
   refine ⟨f2,?_,z1,?_⟩
   ·show (pT L cur x).1.length≤_
    omega
   ·omega
 ·cases h
end
end Go.Proofs.YtffaodopiifbkaaGreatDoor
namespace Go.Proofs.YtffaodopiifbkaaGreatDoor
open Go.Abs LQ
set_option maxRecDepth 100000
set_option maxHeartbeats 8000000
noncomputable section
def b63 (s:i6) (c:Int) (i:Nat):Nat :=
 if i < s.length then
  if bt s i=c then i+1
  else if bt s i ≠ 92 then b63 s c (i+1)
  else if i+1 < s.length then
   if bt s (i+1) ≠ c∧bt s (i+1) ≠ 92 then i
   else b63 s c (i+2)
  else i
 else i
termination_by s.length - i
theorem e7m {s:i6} {c:Int}:∀ {i:Nat} {acc l:List Int} {j:Nat},E3 s c i acc=.ok (l,j)→b63 s c i=j:=by
 intro i
 generalize hn:s.length - i=n
 induction n using Nat.strongRecOn generalizing i with
 | _ n ih =>
  intro acc l j h
  rw [E3] at h
  rw [b63]
  split at h
  ·rename_i h1
   rw [if_pos h1]
   split at h
   ·rename_i h2
    rw [if_pos h2]
    injection h with h
    injection h with _ h
   ·rename_i h2
    rw [if_neg h2]
    split at h
    ·rename_i h3
     rw [if_pos h3]
     exact ih _ oM rfl h
    ·rename_i h3
     rw [if_neg h3]
     split at h
     ·rename_i h4
      rw [if_pos h4]
      split at h
      ·cases h
      ·rename_i h5
       rw [if_neg h5]
       exact ih _ oM rfl h
     ·cases h
  ·cases h
def b32 (t:u5) (bars:Bool):Int × Int:=if s7 t.text t.pkg bars=0 then (0,0) else (s7 t.text t.pkg bars,t.pos)
abbrev T5:=u5 × Nat × Int × Int
def W8 (s:i6) (c:Int) (i:Nat):i6 × Nat × Int × Int:=match E3 s c i [] with
 | .ok (l,_)=>(F2 l,b63 s c i,0,0)
 | .error (e,p)=>([],b63 s c i,e,p)
def d34 (s:i6) (i:Nat) (pkg:i6) (k:Nat):T5 :=
 if k+2 < s.length then
  if bt s (k+2)=124 then (⟨6,i,pkg,(W8 s 124 (k+2+1)).1,[]⟩,(W8 s 124 (k+2+1)).2.1,if (W8 s 124 (k+2+1)).2.2.1=0 then b32 ⟨6,i,pkg,(W8 s 124 (k+2+1)).1,[]⟩ true else (W8 s 124 (k+2+1)).2.2)
  else if y8 (bt s (k+2))=true then (⟨6,i,pkg,(s.take (m6 s (k+2))).drop (k+2),[]⟩,m6 s (k+2),b32 ⟨6,i,pkg,(s.take (m6 s (k+2))).drop (k+2),[]⟩ false)
  else (⟨6,i,pkg,[],[]⟩,k+2,12,((k+2:Nat):Int))
 else (⟨6,i,pkg,[],[]⟩,k+2,11,s.length)
def d3a (i:Nat) (w:i6) (k:Nat):T5 :=
 if w=[46] then (⟨3,i,[],[],[]⟩,k,0,0)
 else if (p8 w).2.2=true then
  if plain (p8 w).2.1=[48] then (⟨0,i,[],[],[]⟩,k,12,i)
  else (⟨5,i,[],(t7 (plain (p8 w).1) (plain (p8 w).2.1)).1,(t7 (plain (p8 w).1) (plain (p8 w).2.1)).2⟩,k,
   if 100 < E6 (t7 (plain (p8 w).1) (plain (p8 w).2.1)).1∨100 < E6 (t7 (plain (p8 w).1) (plain (p8 w).2.1)).2 then (2,(i:Int)) else (0,0))
 else (⟨6,i,[],w,[]⟩,k,b32 ⟨6,i,[],w,[]⟩ false)
def f3e (s:i6) (i:Nat):T5 :=
 if bt s i=40 then (⟨1,i,[],[],[]⟩,i+1,0,0)
 else if bt s i=41 then (⟨2,i,[],[],[]⟩,i+1,0,0)
 else if bt s i=39 then (⟨4,i,[],[],[]⟩,i+1,0,0)
 else if bt s i=34 then (⟨7,i,[],(W8 s 34 (i+1)).1,[]⟩,(W8 s 34 (i+1)).2.1,if (W8 s 34 (i+1)).2.2.1=0∧200 < (W8 s 34 (i+1)).1.length then (2,(i:Int)) else (W8 s 34 (i+1)).2.2)
 else if bt s i=124 then (⟨6,i,[],(W8 s 124 (i+1)).1,[]⟩,(W8 s 124 (i+1)).2.1,if (W8 s 124 (i+1)).2.2.1=0 then b32 ⟨6,i,[],(W8 s 124 (i+1)).1,[]⟩ true else (W8 s 124 (i+1)).2.2)
 else if y8 (bt s i)=true then
  if has s (m6 s i) 58 58=true then d34 s i ((s.take (m6 s i)).drop i) (m6 s i)
  else d3a i ((s.take (m6 s i)).drop i) (m6 s i)
 else (⟨0,i,[],[],[]⟩,i,12,i)
theorem b6q {s:i6} {c:Int} {i:Nat} {acc:List Int} {e:Int} {p:Nat} (h:E3 s c i acc=.error (e,p)):e ≠ 0:=by
 fun_induction E3 s c i acc with
 | case1=>cases h
 | case2 i acc h1 h2 h3 ih=>exact ih h
 | case3=>injection h with h;injection h with h1 h2;omega
 | case4 i acc h1 h2 h3 h4 h5 ih=>exact ih h
 | case5=>injection h with h;injection h with h1 h2;omega
 | case6=>injection h with h;injection h with h1 h2;omega
def exT (r:T5):Except (Int × Nat) (u5 × Nat):=if r.2.2.1=0 then .ok (r.1,r.2.1) else .error (r.2.2.1,r.2.2.2.toNat)
theorem b1i (t:u5) (b:Bool) (k:Nat):exT (t,k,b32 t b)=if s7 t.text t.pkg b=0 then .ok (t,k) else .error (s7 t.text t.pkg b,t.pos):=by
 unfold exT b32
 by_cases h:s7 t.text t.pkg b=0
 ·rw [if_pos h,if_pos h];rfl
 ·rw [if_neg h,if_neg h];simp only [];rw [if_neg h,Int.toNat_natCast]
theorem c0w {s:i6} {c:Int} {i j:Nat} {l:List Int} (h:E3 s c i []=.ok (l,j)):W8 s c i=(F2 l,j,0,0):=by
 unfold W8;rw [h];simp only [];rw [e7m h]
theorem b5t {s:i6} {c:Int} {i p:Nat} {e:Int} (h:E3 s c i []=.error (e,p)):W8 s c i=([],b63 s c i,e,(p:Int)):=by
 unfold W8;rw [h]
theorem b4g {t:u5} {k:Nat} {p:Int}:exT (t,k,0,p)=.ok (t,k):=by unfold exT;rw [if_pos rfl]
theorem a2p {t:u5} {k:Nat} {e:Int} {p:Nat} (h:e ≠ 0):exT (t,k,e,(p:Int))=.error (e,p):=by unfold exT;rw [if_neg h];rw [Int.toNat_natCast]
theorem e6n (s:i6) (i:Nat) (pkg:i6) (k:Nat):H1 s i pkg k=exT (d34 s i pkg k):=by
 unfold H1 d34
 by_cases h1:k+2 < s.length
 ·rw [if_pos h1,if_pos h1]
  by_cases h2:bt s (k+2)=124
  ·rw [if_pos h2,if_pos h2]
   cases he:E3 s 124 (k+2+1) [] with
   | error e =>
    obtain ⟨e,p⟩:=e
    have h0:=b6q he
    rw [b5t he]
    simp only []
    rw [if_neg h0,a2p h0]
   | ok r =>
    obtain ⟨l,j⟩:=r
    rw [c0w he]
    simp only [if_true]
    rw [b1i];rfl
  ·rw [if_neg h2,if_neg h2]
   by_cases h3:y8 (bt s (k+2))=true
   ·rw [if_pos h3,if_pos h3,b1i];rfl
   ·rw [if_neg h3,if_neg h3,a2p dE]
 ·rw [if_neg h1,if_neg h1,a2p dE]
theorem e82 (i:Nat) (w:i6) (k:Nat):D4 i w k=exT (d3a i w k):=by
 unfold D4 d3a
 by_cases h1:w=[46]
 ·rw [if_pos h1,if_pos h1,b4g];rfl
 ·rw [if_neg h1,if_neg h1]
  by_cases h2:(p8 w).2.2=true
  ·rw [if_pos h2,if_pos h2]
   by_cases h3:plain (p8 w).2.1=[48]
   ·rw [if_pos h3,if_pos (show plain (p8 w).2.1=A9 from h3),a2p dE]
   ·rw [if_neg h3,if_neg (show ¬plain (p8 w).2.1=A9 from h3)]
    simp only []
    generalize t7 (plain (p8 w).1) (plain (p8 w).2.1)=r
    by_cases h4:100 < E6 r.1∨100 < E6 r.2
    ·rw [if_pos h4,if_pos h4,a2p dE]
    ·rw [if_neg h4,if_neg h4,b4g];rfl
  ·rw [if_neg h2,if_neg h2,b1i];rfl
theorem f5r (s:i6) (i:Nat):A0 s i=exT (f3e s i):=by
 unfold A0 f3e
 by_cases h1:bt s i=40
 ·rw [if_pos h1,if_pos h1,b4g];rfl
 rw [if_neg h1,if_neg h1]
 by_cases h2:bt s i=41
 ·rw [if_pos h2,if_pos h2,b4g];rfl
 rw [if_neg h2,if_neg h2]
 by_cases h3:bt s i=39
 ·rw [if_pos h3,if_pos h3,b4g];rfl
 rw [if_neg h3,if_neg h3]
 by_cases h4:bt s i=34
 ·rw [if_pos h4,if_pos h4]
  cases he:E3 s 34 (i+1) [] with
  | error e =>
   obtain ⟨e,p⟩:=e
   have h0:=b6q he
   rw [b5t he]
   simp only []
   rw [if_neg (fun h=>h0 h.1),a2p h0]
  | ok r =>
   obtain ⟨l,j⟩:=r
   rw [c0w he]
   simp only [true_and]
   have hl:(F2 l).length=l.length:=by simp [F2]
   rw [hl]
   by_cases h5:200 < l.length
   ·rw [if_pos h5,if_pos h5,a2p dE]
   ·rw [if_neg h5,if_neg h5,b4g];rfl
 rw [if_neg h4,if_neg h4]
 by_cases h5:bt s i=124
 ·rw [if_pos h5,if_pos h5]
  cases he:E3 s 124 (i+1) [] with
  | error e =>
   obtain ⟨e,p⟩:=e
   have h0:=b6q he
   rw [b5t he]
   simp only []
   rw [if_neg h0,a2p h0]
  | ok r =>
   obtain ⟨l,j⟩:=r
   rw [c0w he]
   simp only [if_true]
   rw [b1i];rfl
 rw [if_neg h5,if_neg h5]
 by_cases h6:y8 (bt s i)=true
 ·rw [if_pos h6,if_pos h6]
  by_cases h7:has s (m6 s i) 58 58=true
  ·rw [if_pos h7,if_pos h7,e6n]
  ·rw [if_neg h7,if_neg h7,e82]
 ·rw [if_neg h6,if_neg h6,a2p dE]
set_option maxHeartbeats 16000000
theorem d18 {L:List Pk} {cur:i6} {T:List u5} (hT:b0o T):∀ n,(∀ d i e p,2 * (T.length - i) < n→i < T.length→F4 L cur T d i=.error (e,p)→e ≠ 0)∧(∀ d i acc e p,2 * (T.length - i)+1 < n→i < T.length→O8 L cur T d i acc=.error (e,p)→e ≠ 0)
 | 0=>⟨fun _ _ _ _ h=>absurd h (Nat.not_lt_zero _),fun _ _ _ _ _ h=>absurd h (Nat.not_lt_zero _)⟩
 | n+1=>by
  obtain ⟨ih1,ih2⟩:=d18 hT n
  have hlast:∀ {k},k < T.length→(T.getD k t0).kind ≠ 0→k+1 < T.length:=fun {k} hk h=>by
   rcases Nat.lt_or_ge (k+1) T.length with h3 | h3
   ·exact h3
   ·exact absurd (hT.last k oM) h
  constructor
  ·intro d i e p hn hi h
   rw [b95 hi] at h
   have hl:=hlast hi
   generalize T.getD i t0=t at *
   generalize x7 L (if t.pkg=[] then cur else t.pkg) t.text=r at h
   split at h
   ·injection h with h;injection h with h _;omega
   split at h
   ·injection h with h;injection h with h _;omega
   split at h
   ·cases h
   split at h
   ·cases h
   split at h
   ·split at h
    ·cases h
    ·injection h with h;injection h with h _;rw [← h];assumption
   have hi1:=hl ‹_›
   split at h
   ·injection h with h;injection h with h _;omega
   split at h
   ·split at h
    ·rename_i hx
     injection h with h
     rw [h] at hx
     exact ih1 _ _ _ _ oM hi1 hx
    ·cases h
   ·exact ih2 _ _ _ _ _ oM hi1 h
  ·intro d i acc e p hn hi h
   rw [c8j hi] at h
   have hl:=hlast hi
   generalize T.getD i t0=t at *
   split at h
   ·cases h
   split at h
   ·rename_i h3
    have hi1:=hl oM
    split at h
    ·rename_i hx
     injection h with h
     rw [h] at hx
     exact ih1 _ _ _ _ oM hi1 hx
    ·split at h
     ·cases h
     split at h
     ·injection h with h;injection h with h _;omega
     ·injection h with h;injection h with h _;omega
   ·split at h
    ·rename_i hx
     injection h with h
     rw [h] at hx
     exact ih1 _ _ _ _ oM hi hx
    ·rename_i x j hx
     have hj:=a9z hT hx
     exact ih2 _ _ _ _ _ oM hj.2 h
theorem c52 {s:i6}:∀ (m:Nat) {i:Nat} {acc:List u5} {e:Int} {p:Nat},s.length - i≤m→i≤s.length→o9 s i acc=.error (e,p)→e ≠ 0:=by
 have one:∀ {j:Nat} {e:Int} {p:Nat},A0 s j=.error (e,p)→e ≠ 0:=fun {j e p} h=>by
  rw [f5r] at h
  unfold exT at h
  split at h
  ·cases h
  ·injection h with h;injection h with h _;rw [← h];assumption
 intro m
 induction m with
 | zero =>
  intro i acc e p hm hi h
  rw [S6 hi] at h
  split at h
  ·injection h with h;injection h with h _;omega
  ·rename_i j hs
   have hj:=Y0 hi hs
   rw [if_neg oM] at h
   cases h
 | succ m ih =>
  intro i acc e p hm hi h
  rw [S6 hi] at h
  split at h
  ·injection h with h;injection h with h _;omega
  ·rename_i j hs
   have hj:=Y0 hi hs
   split at h
   ·split at h
    ·rename_i ht
     injection h with h
     rw [h] at ht
     exact one ht
    ·rename_i hlt _ t k ht
     have h1:=a0g hlt ht
     exact ih oM h1.2 h
   ·cases h
theorem d4l {s:i6} {e:Int} {p:Nat} (h:C5 s=.error (e,p)):e ≠ 0:=by
 unfold C5 at h
 split at h
 ·injection h with h;injection h with h _;omega
 ·exact c52 _ (Nat.le_refl _) (Nat.zero_le _) h
theorem c8k {L:List Pk} {cur:i6} {T:List u5} (hT:b0o T):∀ (m i:Nat) (acc:List (O × Nat)) {e:Int} {p:Nat},i < T.length→T.length+1≤m+i→O9 L cur T m i acc=.error (e,p)→e ≠ 0
 | 0,i,acc,e,p,hi,hm,h=>oM
 | m+1,i,acc,e,p,hi,hm,h=>by
  rw [O9] at h
  rw [show J2 L cur T (2 * T.length+2) 0 i=F4 L cur T 0 i from rfl] at h
  split at h
  ·cases h
  split at h
  ·injection h with h;injection h with h _;omega
  split at h
  ·rename_i hx
   injection h with h
   rw [h] at hx
   exact (d18 hT _).1 0 i e p (Nat.lt_succ_self _) hi hx
  ·rename_i x j hx
   have hj:=a9z hT hx
   split at h
   ·injection h with h;injection h with h _;omega
   ·exact c8k hT m j _ hj.2 oM h
theorem d8k {L:List Pk} {cur s:i6} {e:Int} {p:Nat} (h:H6 L cur s=.error (e,p)):e ≠ 0:=by
 unfold H6 at h
 split at h
 ·rename_i hx
  injection h with h
  rw [h] at hx
  exact d4l hx
 ·rename_i T hx
  have hT:=c1s hx
  exact c8k hT _ _ _ hT.pos oM h
set_option maxHeartbeats 8000000
theorem f9e {n:Int} {d:Nat} (h0:0 < d) (h:Nat.gcd n.natAbs d=1):qn n d=(n,d):=by
 unfold qn
 rw [if_neg oM,Int.natAbs_natCast,h,Nat.div_one,Nat.div_one]
 refine Prod.ext ?_ rfl
 show (if (n < 0)=((d:Int) < 0) then (1:Int) else -1) * (n.natAbs:Int)=n
 by_cases hn:n < 0
 ·rw [if_neg (fun e=>absurd (e.mp hn) oM)];omega
 ·rw [if_pos (propext ⟨fun k=>absurd k hn,fun k=>absurd k oM⟩)];omega
theorem c82 {L:List Pk}:∀ {o:O},okA L o→o.fm=true
 | .num n d,h=>by
  obtain ⟨h1,h2,h3,h4⟩:=h
  simp only [O.fm,decide_eq_true_iff]
  rw [a1j,Y2,P8,r8,A7,f9e h1 h2]
  exact ⟨rfl,h3,h4⟩
 | .tx t,h=>by
  have h:t.length≤200:=h
  simp only [O.fm];exact decide_eq_true h
 | .sy s,h=>h.1
 | .co a d,h=>by
  show (a.fm && d.fm)=true
  rw [c82 h.1,c82 h.2];rfl
 | .no,h=>h.elim
theorem b6s {L:List Pk}:∀ {o:O},okA L o→C7 L o=true
 | .num _ _,_=>rfl
 | .tx _,_=>rfl
 | .sy _,h=>h.2
 | .co a d,h=>by
  show (C7 L a && C7 L d)=true
  rw [b6s h.1,b6s h.2];rfl
 | .no,h=>h.elim
theorem d8v (L:List Pk) (cur s:i6):(∃ o,a84 L cur s=.ok o∧b16 s.length (H6 L cur s)=.ret (.t [.a o.g,a6u 0 0]))∨∃ e p:Int,e ≠ 0∧b16 s.length (H6 L cur s)=.ret (.t [.a O.no.g,a6u e p]):=by
 cases h:H6 L cur s with
 | error ep =>
  obtain ⟨e,p⟩:=ep
  exact .inr ⟨e,p,d8k h,rfl⟩
 | ok l =>
  match l,h with
  | [],h=>exact .inr ⟨11,s.length,dE,rfl⟩
  | [(o,k)],h=>exact .inl ⟨o,by unfold a84;rw [h],rfl⟩
  | _ :: (o,p) :: _,h=>exact .inr ⟨12,p,dE,rfl⟩
theorem d8x (c:i6):C8 D2 c=if u1=c then some (u1,[]) else if D1=c then some (D1,c5t) else none:=rfl
theorem e8x {l:List Sy} {n:i6} {s:Sy} (h:W9 l n=some s):s ∈ l∧s.2=n:=by
 induction l with
 | nil=>cases h
 | cons x l ih =>
  rw [W9] at h
  split at h
  ·rename_i e;injection h with h;subst h;exact ⟨by simp,e⟩
  ·have:=ih h;exact ⟨by simp [this.1],this.2⟩
theorem d16 {L:List Pk} {s:Sy} (h:x7 L s.1 s.2=(s,0)):H7 L s=true:=by
 unfold H7 Z7
 exact decide_eq_true (by rw [h];exact ⟨rfl,rfl⟩)
theorem f6a:e0e D2 D1 where
 cur4:=dE
 nilH:=kR
 quoteH:=kR
 home c n s _ h:=by
  have h0:=h
  unfold x7 at h
  rw [d8x] at h
  by_cases h1:u1=c
  ·rw [if_pos h1] at h
   subst h1
   simp only [] at h
   split at h
   ·cases h
   ·rename_i hn
    injection h with h _
    subst h
    have hl:1≤n.length∧n.length≤40:=oM
    exact ⟨d16 h0,b1d hl,by simp⟩
  ·rw [if_neg h1] at h
   by_cases h2:D1=c
   ·rw [if_pos h2] at h
    subst h2
    simp only [] at h
    split at h
    ·cases h
    ·rename_i hn
     have hl:1≤n.length∧n.length≤40:=oM
     cases hi:W9 c5t n with
     | some x =>
      rw [hi] at h
      injection h with h _
      subst h
      have hm:=(e8x hi).1
      rcases List.mem_cons.1 hm with rfl | hm
      ·exact ⟨kR,kR,dE⟩
      rcases List.mem_cons.1 hm with rfl | hm
      ·exact ⟨kR,kR,dE⟩
      cases List.mem_singleton.1 hm
      exact ⟨kR,kR,dE⟩
     | none =>
      rw [hi] at h
      injection h with h _
      subst h
      refine ⟨d16 h0,?_,by simp⟩
      unfold named
      rw [c70,decide_eq_true hl];rfl
   ·rw [if_neg h2] at h;cases h
theorem c2p:C8 D2 D1 ≠ none:=by rw [d8x,if_neg dE,if_pos rfl];simp
theorem c98:l5 15 (b8e fun _=>.c (.b true)):=n6 (fun fn h=>f5p h) [(30,_),(33,_),(19,_),(38,_)] (.cons b30 (.cons a5r (.cons d43 (.cons c50 .nil)))) fun U fn hfn (s:i6) vs bs hv hb=>by
 have hfi:=hfn 30 _ rfl
 have hpk:=hfn 33 _ rfl
 have hon:=hfn 19 _ rfl
 have hpr:=hfn 38 _ rfl
 have hv:l8 [.c (.s s)] vs:=hv
 have hb:j5 [] bs:=hb
 show j6 U _ fun v bs'=>l9 (.ret (.c (.b true))) v∧j5 [] bs'
 unfold r15
 (refine Zz ?_;intros)
 refine j3 hfi () (r:=.c (.b true)) rfl .nil .nil fun _ _ _ _=>?_
 (refine Zz ?_;with_reducible repeat' first|intro _|apply aI)
 ·exact k9 ⟨.ret _ _ (.kn _),.nil⟩
 ·have hl:s.length≤100:=oM
  refine j3 hpk () (r:=.sl 2 (D2.map pg)) rfl .nil .nil fun _ _ _ _=>?_
  (refine Zz ?_;intros)
  rcases d8v D2 D1 s with ⟨o,h1,h2⟩ | ⟨e,p,he,h2⟩
  ·obtain ⟨ha,t1,t3,t4⟩:=f0a f6a hl h1
   have hov:okV o:=⟨c82 ha,t3⟩
   have hp:G7 D2 D1 o=(C1 D2 D1 o,0):=by
    unfold G7
    rw [if_neg]
    rintro (h | h)
    ·exact c2p h
    ·rw [b6s ha] at h;cases h
   have h3:=c61 (c87 c2p ha oM t3 t4)
   generalize C1 D2 D1 o=T at hp t1 h3
   refine j3 hon ⟨(D2,D1,s),X5,by show s.length < 8000;omega⟩ (r:=.t [.a o.g,.a [.i .i64 0,.i .i64 0]]) h2 (.k (.sl _ _ _ _ _ (by simp) aS) (.k rvU (.k (.s _ _ _ rfl rfl) .nil))) .nil fun _ _ _ _=>?_
   (refine Zz ?_;intros)
   refine L0 aS (O.g_len _) fun q1 hq1=>?_
   (refine Zz ?_;intros)
   refine j3 hpk () (r:=.sl 2 (D2.map pg)) rfl .nil .nil fun _ _ _ _=>?_
   (refine Zz ?_;intros)
   refine j3 hpr ⟨(D2,D1,o),X5,hov⟩ (r:=.t [.c (.s T),.c (.i .i64 0)]) (by show s8.ret (prG _ _ _)=_;unfold prG;rw [hp]) (.k (.sl _ _ _ _ _ (by simp) aS) (.k rvU (.k (oV aS) .nil))) .nil fun _ _ _ _=>?_
   (refine Zz ?_;intros)
   refine j3 hpk () (r:=.sl 2 (D2.map pg)) rfl .nil .nil fun _ _ _ _=>?_
   (refine Zz ?_;intros)
   refine j3 hon ⟨(D2,D1,T),X5,by show T.length < 8000;omega⟩ (r:=.t [.a o.g,.a [.i .i64 0,.i .i64 0]]) h3 (.k (.sl _ _ _ _ _ (by simp) aS) (.k rvU (.k (.s _ _ _ rfl rfl) .nil))) .nil fun _ _ _ _=>?_
   (refine Zz ?_;intros)
   refine L0 aS (O.g_len _) fun q2 hq2=>?_
   (refine Zz ?_;intros)
   refine j3 hpk () (r:=.sl 2 (D2.map pg)) rfl .nil .nil fun _ _ _ _=>?_
   (refine Zz ?_;intros)
   refine j3 hpr ⟨(D2,D1,o),X5,hov⟩ (r:=.t [.c (.s T),.c (.i .i64 0)]) (by show s8.ret (prG _ _ _)=_;unfold prG;rw [hp]) (.k (.sl _ _ _ _ _ (by simp) aS) (.k rvU (.k (oV aS) .nil))) .nil fun _ _ _ _=>?_
   (refine Zz ?_;intros)
   refine L7 fun e=>?_
   subst e
   exact ⟨.ret _ _ (V9 (by rw [cuS];exact (decide_eq_true rfl).symm)),.nil⟩
  ·refine j3 hon ⟨(D2,D1,s),X5,by show s.length < 8000;omega⟩ (r:=.t [.a O.no.g,.a [.i .i64 e,.i .i64 p]]) h2 (.k (.sl _ _ _ _ _ (by simp) aS) (.k rvU (.k (.s _ _ _ rfl rfl) .nil))) .nil fun _ _ _ _=>?_
   (refine Zz ?_;with_reducible repeat' first|intro _|apply aI)
   ·exact absurd ‹e=0› he
   ·exact k9 ⟨.ret _ _ (.kn _),.nil⟩
end
end Go.Proofs.YtffaodopiifbkaaGreatDoor
