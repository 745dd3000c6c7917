/- Packages and the reading of objects from C5: what they compute. No program in sight. -/
import Derived.Test.YtffaodopiifbkaaGreatDoorCR5e
import Derived.Test.YtffaodopiifbkaaGreatDoorCN
set_option linter.all false
namespace Go.Proofs.YtffaodopiifbkaaGreatDoor
open Go.Abs LQ
abbrev Pk:=i6 × List Sy
def pg (p:Pk):List G:=[.s p.1,.l (p.2.map sg)]
theorem b2i (p:Pk):(pg p).length=2:=rfl
def C8:List Pk→i6→Option Pk
 | [],_=>none
 | p :: l,n=>if p.1=n then some p else C8 l n
def W9:List Sy→i6→Option Sy
 | [],_=>none
 | s :: l,n=>if s.2=n then some s else W9 l n
def x7 (L:List Pk) (cur nm:i6):Sy × Int :=
 match C8 L cur with
 | none=>(([],[]),13)
 | some p=>if nm.length < 1∨40 < nm.length then (([],[]),3) else
  match W9 p.2 nm with
  | some s=>(s,0)
  | none=>((cur,nm),0)
def Z7 (L:List Pk) (cur:i6) (s:Sy):Bool:=decide ((x7 L cur s.2).2=0∧(x7 L cur s.2).1=s)
def H7 (L:List Pk) (s:Sy):Bool:=Z7 L s.1 s
def t0:u5:=⟨0,0,[],[],[]⟩
def z8:O:=.sy (u1,[113,117,111,116,101])
def Q1:List O→O→O
 | [],e=>e
 | x :: l,e=>.co x (Q1 l e)
def b20 (t:u5):O:=.num (j0 t.text) (j0 t.den).natAbs
mutual
/-- The object at a token, inside depth others, and the place behind it; or the error and its offset. -/
def J2 (L:List Pk) (cur:i6) (T:List u5):Nat→Nat→Nat→Except (Int × Nat) (O × Nat)
 | 0,_,_=>.error (0,0)
 | n+1,d,i =>
  let t:=T.getD i t0
  if t.kind=0 then .error (11,t.pos)
  else if t.kind=2∨t.kind=3 then .error (12,t.pos)
  else if t.kind=5 then .ok (b20 t,i+1)
  else if t.kind=7 then .ok (.tx t.text,i+1)
  else if t.kind=6 then
   let r:=x7 L (if t.pkg=[] then cur else t.pkg) t.text
   if r.2=0 then .ok (.sy r.1,i+1) else .error (r.2,t.pos)
  else if 200 < d then .error (2,t.pos)
  else if t.kind=4 then
   match J2 L cur T n (d+1) (i+1) with
   | .error e=>.error e
   | .ok (x,j)=>.ok (E7 [z8,x],j)
  else N9 L cur T n (d+1) (i+1) []
/-- The rest of a list. -/
def N9 (L:List Pk) (cur:i6) (T:List u5):Nat→Nat→Nat→List O→Except (Int × Nat) (O × Nat)
 | 0,_,_,_=>.error (0,0)
 | n+1,d,i,acc =>
  let t:=T.getD i t0
  if t.kind=2 then .ok (Q1 acc x8,i+1)
  else if t.kind=3∧acc ≠ [] then
   match J2 L cur T n d (i+1) with
   | .error e=>.error e
   | .ok (x,j) =>
    let u:=T.getD j t0
    if u.kind=2 then .ok (Q1 acc x,j+1)
    else if u.kind=0 then .error (11,u.pos)
    else .error (12,u.pos)
  else
   match J2 L cur T n d i with
   | .error e=>.error e
   | .ok (x,j)=>N9 L cur T n d j (acc ++ [x])
end
def O9 (L:List Pk) (cur:i6) (T:List u5):Nat→Nat→List (O × Nat)→Except (Int × Nat) (List (O × Nat))
 | 0,_,_=>.error (0,0)
 | m+1,i,acc =>
  let t:=T.getD i t0
  if t.kind=0 then .ok acc
  else if 100≤acc.length∧t.kind ≠ 2∧t.kind ≠ 3 then .error (2,t.pos)
  else
   match J2 L cur T (2 * T.length+2) 0 i with
   | .error e=>.error e
   | .ok (x,j)=>if 3000 < x.size then .error (2,t.pos) else O9 L cur T m j (acc ++ [(x,t.pos)])
def H6 (L:List Pk) (cur s:i6):Except (Int × Nat) (List (O × Nat)) :=
 match C5 s with
 | .error e=>.error e
 | .ok T=>O9 L cur T (T.length+1) 0 []
def a84 (L:List Pk) (cur s:i6):Except (Int × Nat) O :=
 match H6 L cur s with
 | .error e=>.error e
 | .ok []=>.error (11,s.length)
 | .ok [(x,_)]=>.ok x
 | .ok (_ :: (_,k) :: _)=>.error (12,k)
def K8 (name:i6) (q:Bool):i6:=if S9 name=false∨(q=false∧(name=[46]∨(p8 name).2.2=true)) then G9 124 name else name
def G2 (L:List Pk) (cur:i6) (s:Sy):i6 × Int :=
 if named s=false then ([],1)
 else if C8 L cur=none∨H7 L s=false then ([],13)
 else if Z7 L cur s=true then (K8 s.2 false,0)
 else (s.1 ++ 58 :: 58 :: K8 s.2 true,0)
def F7 (L:List Pk) (cur:i6):O→i6
 | .num n d=>X2 n d
 | .tx t=>G9 34 t
 | .sy s=>(G2 L cur s).1
 | _=>[]
noncomputable section
open Classical
def pT (L:List Pk) (cur:i6):O→i6 × i6 × Option i6
 | .co a d=>((if a=z8 then match (pT L cur d).2.2 with
   | some t=>39 :: t
   | none=>40 :: ((pT L cur a).1 ++ (pT L cur d).2.1)
   else 40 :: ((pT L cur a).1 ++ (pT L cur d).2.1)),32 :: ((pT L cur a).1 ++ (pT L cur d).2.1),if d=x8 then some (pT L cur a).1 else none)
 | o=>(F7 L cur o,(if o=x8 then [41] else 32 :: 46 :: 32 :: (F7 L cur o ++ [41])),none)
def C1 (L:List Pk) (cur:i6) (o:O):i6:=(pT L cur o).1
def C7 (L:List Pk):O→Bool
 | .sy s=>H7 L s
 | .co a d=>C7 L a && C7 L d
 | _=>true
structure NT where
 kind:Int
 pkg:i6
 text:i6
 den:i6
def nt (t:u5):NT:=⟨t.kind,t.pkg,t.text,t.den⟩
def b7a:NT:=⟨1,[],[],[]⟩
def a1l:NT:=⟨2,[],[],[]⟩
def c84:NT:=⟨3,[],[],[]⟩
def f3f:NT:=⟨4,[],[],[]⟩
def S8 (L:List Pk) (cur:i6):O→NT
 | .num n d=>⟨5,[],j4 n,i7 d⟩
 | .tx t=>⟨7,[],t,[]⟩
 | .sy s=>if Z7 L cur s=true then ⟨6,[],s.2,[]⟩ else ⟨6,s.1,s.2,[]⟩
 | _=>⟨0,[],[],[]⟩
def pN (L:List Pk) (cur:i6):O→List NT × List NT × Option (List NT)
 | .co a d=>((if a=z8 then match (pN L cur d).2.2 with
   | some t=>f3f :: t
   | none=>b7a :: ((pN L cur a).1 ++ (pN L cur d).2.1)
   else b7a :: ((pN L cur a).1 ++ (pN L cur d).2.1)),(pN L cur a).1 ++ (pN L cur d).2.1,if d=x8 then some (pN L cur a).1 else none)
 | o=>([S8 L cur o],(if o=x8 then [a1l] else [c84,S8 L cur o,a1l]),none)
def okA (L:List Pk):O→Prop
 | .num n d=>0 < d∧Nat.gcd n.natAbs d=1∧(i7 n.natAbs).length≤100∧(i7 d).length≤100
 | .tx t=>t.length≤200
 | .sy s=>named s=true∧H7 L s=true
 | .co a d=>okA L a∧okA L d
 | .no=>False
theorem c7o {p:i6} (h:r9 p=true):a1b p∧p ≠ []:=by
 have hb:H2 p 0=true∧1≤p.length:=by simp [r9] at h;exact ⟨h.2,h.1.1⟩
 refine ⟨?_,fun e=>by rw [e] at hb;simp at hb⟩
 have key:∀ n k,p.length - k=n→H2 p k=true→∀ j,k≤j→j < p.length→a2h (bt p j)=true:=by
  intro n
  induction n with
  | zero=>intro k hk _ j h1 h2;omega
  | succ n ih =>
   intro k hk hp j h1 h2
   rw [H2,if_pos oM] at hp
   split at hp
   ·rename_i hc
    by_cases hj:j=k
    ·subst hj;exact hc
    ·exact ih (k+1) oM hp j oM h2
   ·cases hp
 intro j hj
 have:=key _ 0 rfl hb.1 j (Nat.zero_le _) hj
 simp [a2h] at this
 simp [y8];omega
theorem a1y {s:Sy} (h:named s=true):r9 s.1=true∧s.2.length≤40∧0 < s.2.length:=by
 simp [named] at h;exact ⟨h.1,h.2.2,h.2.1⟩
def X9 (w:i6) (N:List NT):Prop:=∀ s i r,At s i w r→Del r→∃ T:List u5,T.map nt=N∧∀ acc,o9 s i acc=o9 s (i+w.length) (acc ++ T)
theorem a9g {w:i6} {n:NT} (h:∀ s i r,At s i w r→Del r→∃ t:u5,nt t=n∧∀ acc,o9 s i acc=o9 s (i+w.length) (acc ++ [t])):X9 w [n]:=fun s i r ha hr=>by
 obtain ⟨t,h1,h2⟩:=h s i r ha hr
 exact ⟨[t],by simp [h1],h2⟩
theorem c8x {w:i6} (h0:0 < w.length) (hl:w.length≤40):X9 (K8 w false) [⟨6,[],w,[]⟩]:=a9g fun s i r ha hr=>by
 unfold K8 at ha ⊢
 split at ha
 ·rename_i hc;rw [if_pos hc];exact ⟨_,rfl,fun acc=>e20 ha hl h0⟩
 ·rename_i hc
  rw [if_neg hc]
  have h1:S9 w=true:=by cases hs:S9 w with | true=>rfl | false=>exact absurd (.inl hs) hc
  have h2:w ≠ [46]:=fun e=>hc (.inr ⟨rfl,.inl e⟩)
  have h3:(p8 w).2.2=false:=by cases hs:(p8 w).2.2 with | false=>rfl | true=>exact absurd (.inr ⟨rfl,.inr hs⟩) hc
  exact ⟨_,rfl,fun acc=>d8w ha h1 hr h2 h3 hl⟩
theorem c83 {p w:i6} (hp:r9 p=true) (h0:0 < w.length) (hl:w.length≤40):X9 (p ++ 58 :: 58 :: K8 w true) [⟨6,p,w,[]⟩]:=a9g fun s i r ha hr=>by
 obtain ⟨g1,g2⟩:=c7o hp
 unfold K8 at ha ⊢
 split at ha
 ·rename_i hc;rw [if_pos hc];exact ⟨_,rfl,fun acc=>d7j ha g1 g2 hp hl h0⟩
 ·rename_i hc
  rw [if_neg hc]
  have h1:S9 w=true:=by cases hs:S9 w with | true=>rfl | false=>exact absurd (.inl hs) hc
  exact ⟨_,rfl,fun acc=>d6j ha g1 g2 hp h1 hr hl⟩
theorem d9x {L:List Pk} {cur:i6} (hc:C8 L cur ≠ none):∀ {o:O},okA L o→(∀ a d,o ≠ .co a d)→X9 (F7 L cur o) [S8 L cur o]
 | .num n d,h,_=>a9g fun s i r ha hr=>⟨_,rfl,fun acc=>e2t ha hr h.1 h.2.1 h.2.2.1 h.2.2.2⟩
 | .tx t,h,_=>a9g fun s i r ha hr=>⟨_,rfl,fun acc=>e4b ha h⟩
 | .sy s,h,_=>by
  obtain ⟨h1,h2,h3⟩:=a1y h.1
  have e:G2 L cur s=if Z7 L cur s=true then (K8 s.2 false,0) else (s.1 ++ 58 :: 58 :: K8 s.2 true,0):=by
   unfold G2
   rw [if_neg (by rw [h.1];simp),if_neg]
   rintro (k | k)
   ·exact hc k
   ·rw [h.2] at k;cases k
  simp only [F7,S8,e]
  by_cases hv:Z7 L cur s=true
  ·rw [if_pos hv,if_pos hv];exact c8x h3 h2
  ·rw [if_neg hv,if_neg hv];exact c83 h1 h3 h2
 | .co a d,_,h=>absurd rfl (h a d)
 | .no,h,_=>h.elim
theorem b3v {u v:i6} {M N:List NT} (hu:∀ s i r,At s i u (v ++ r)→Del r→∃ T:List u5,T.map nt=M∧∀ acc,o9 s i acc=o9 s (i+u.length) (acc ++ T)) (hv:X9 v N):X9 (u ++ v) (M ++ N):=fun s i r ha hr=>by
 obtain ⟨h1,h2⟩:=ha.app
 obtain ⟨T,q1,q2⟩:=hu s i r h1 hr
 obtain ⟨T',q3,q4⟩:=hv s _ r h2 hr
 refine ⟨T ++ T',by rw [List.map_append,q1,q3],fun acc=>?_⟩
 rw [q2,q4,List.append_assoc,List.length_append,Nat.add_assoc]
theorem c72 {c:UInt8} {v:i6} {n:NT} {N:List NT} (h:∀ s i r,At s i [c] r→∃ t:u5,nt t=n∧∀ acc,o9 s i acc=o9 s (i+1) (acc ++ [t])) (hv:X9 v N):X9 (c :: v) (n :: N) :=
 b3v (u:=[c]) (M:=[n]) (fun s i r ha _=>by obtain ⟨t,h1,h2⟩:=h s i _ ha;exact ⟨[t],by simp [h1],h2⟩) hv
theorem b18 {v:i6} {N:List NT} (hv:X9 v N):X9 (32 :: v) N :=
 b3v (u:=[32]) (M:=[]) (fun s i r ha _=>⟨[],rfl,fun acc=>by rw [d5c ha,List.append_nil];rfl⟩) hv
theorem c62 {u v:i6} {M N:List NT} (hu:X9 u M) (hv:X9 v N) (hd:v ≠ []∧Del v):X9 (u ++ v) (M ++ N):=b3v (fun s i r ha _=>hu s i _ ha (by
 obtain ⟨h0,h1⟩:=hd
 cases v with
 | nil=>exact absurd rfl h0
 | cons c v=>rcases h1 with h | h | h | h
             ·cases h
             ·exact .inr (.inl h)
             ·exact .inr (.inr (.inl h))
             ·exact .inr (.inr (.inr h)))) hv
theorem c1k:X9 [41] [a1l]:=a9g fun s i r ha _=>⟨_,rfl,fun acc=>d5u ha⟩
theorem d00 {L:List Pk} {cur:i6} (hc:C8 L cur ≠ none):∀ o:O,okA L o→X9 (pT L cur o).1 (pN L cur o).1∧(X9 (pT L cur o).2.1 (pN L cur o).2.1∧(pT L cur o).2.1 ≠ []∧Del (pT L cur o).2.1) ∧
  ((pT L cur o).2.2=none∧(pN L cur o).2.2=none∨∃ w N,(pT L cur o).2.2=some w∧(pN L cur o).2.2=some N∧X9 w N):=by
 have atom:∀ o:O,okA L o→(∀ a d,o ≠ .co a d)→pT L cur o=(F7 L cur o,(if o=x8 then [41] else 32 :: 46 :: 32 :: (F7 L cur o ++ [41])),none)→pN L cur o=([S8 L cur o],(if o=x8 then [a1l] else [c84,S8 L cur o,a1l]),none) →
   X9 (pT L cur o).1 (pN L cur o).1∧(X9 (pT L cur o).2.1 (pN L cur o).2.1∧(pT L cur o).2.1 ≠ []∧Del (pT L cur o).2.1) ∧
   ((pT L cur o).2.2=none∧(pN L cur o).2.2=none∨∃ w N,(pT L cur o).2.2=some w∧(pN L cur o).2.2=some N∧X9 w N):=by
  intro o h hn e1 e2
  rw [e1,e2]
  have hl:=d9x hc h hn
  refine ⟨hl,?_,.inl ⟨rfl,rfl⟩⟩
  by_cases hz:o=x8
  ·simp only [hz,if_true];exact ⟨c1k,by simp,.inr (.inr (.inl rfl))⟩
  ·simp only [hz,if_false]
   refine ⟨b18 ?_,by simp,.inr (.inl rfl)⟩
   have h1:X9 (32 :: (F7 L cur o ++ [41])) [S8 L cur o,a1l]:=b18 (c62 hl c1k ⟨by simp,.inr (.inr (.inl rfl))⟩)
   exact b3v (u:=[46]) (M:=[c84]) (fun s i r ha _=>⟨[⟨3,i,[],[],[]⟩],rfl,fun acc=>e2j ha⟩) h1
 intro o
 induction o with
 | num n d=>intro h;exact atom _ h (by simp) rfl rfl
 | sy s=>intro h;exact atom _ h (by simp) rfl rfl
 | tx t=>intro h;exact atom _ h (by simp) rfl rfl
 | no=>intro h;exact h.elim
 | co a d iha ihd =>
  intro h
  obtain ⟨a1,_,_⟩:=iha h.1
  obtain ⟨_,⟨d1,d2,d3⟩,d4⟩:=ihd h.2
  have hb:=c62 a1 d1 ⟨d2,d3⟩
  have hopen:X9 (40 :: ((pT L cur a).1 ++ (pT L cur d).2.1)) (b7a :: ((pN L cur a).1 ++ (pN L cur d).2.1)):=c72 (fun s i r ha=>⟨_,rfl,fun acc=>d7g ha⟩) hb
  simp only [pT,pN]
  refine ⟨?_,⟨b18 hb,by simp,.inr (.inl rfl)⟩,?_⟩
  ·by_cases hq:a=z8
   ·simp only [hq,if_true] at hopen ⊢
    rcases d4 with ⟨q1,q2⟩ | ⟨w,N,q1,q2,q3⟩
    ·rw [q1,q2];exact hopen
    ·rw [q1,q2];exact c72 (fun s i r ha=>⟨_,rfl,fun acc=>d5p ha⟩) q3
   ·simp only [hq,if_false];exact hopen
  ·by_cases hz:d=x8
   ·rw [if_pos hz,if_pos hz];exact .inr ⟨_,_,rfl,rfl,a1⟩
   ·rw [if_neg hz,if_neg hz];exact .inl ⟨rfl,rfl⟩
end
end Go.Proofs.YtffaodopiifbkaaGreatDoor
namespace Go.Proofs.YtffaodopiifbkaaGreatDoor
open Go.Abs LQ
noncomputable section
open Classical
def dO:O→Nat × Nat
 | .co a d=>(1+max (dO a).1 (dO d).2,max (dO a).1 (dO d).2)
 | _=>(0,0)
theorem a3g {T:List u5} {i:Nat} {n:NT} {N:List NT} (h:(T.drop i).map nt=n :: N):nt (T.getD i t0)=n∧(T.drop (i+1)).map nt=N∧i < T.length:=by
 cases hd:T.drop i with
 | nil=>rw [hd] at h;cases h
 | cons t l =>
  have hi:i < T.length:=by
   rcases Nat.lt_or_ge i T.length with h1 | h1
   ·exact h1
   ·rw [List.drop_eq_nil_of_le h1] at hd;cases hd
  rw [List.drop_eq_getElem_cons hi] at hd h
  injection hd with h1 h2
  simp only [List.map_cons,List.cons.injEq] at h
  exact ⟨by simp only [List.getD,List.getElem?_eq_getElem hi,Option.getD_some];exact h.1,h.2,hi⟩
theorem a2a {t:u5} {n:NT} (h:nt t=n):t.kind=n.kind∧t.pkg=n.pkg∧t.text=n.text∧t.den=n.den:=by subst h;exact ⟨rfl,rfl,rfl,rfl⟩
theorem f7s {T:List u5} {M N:List NT}:∀ {i:Nat},(T.drop i).map nt=M ++ N→(T.drop (i+M.length)).map nt=N:=by
 induction M with
 | nil=>intro i h;exact h
 | cons m M ih =>
  intro i h
  have:=ih (a3g h).2.1
  rw [List.length_cons,show i+(M.length+1)=i+1+M.length by omega];exact this
theorem c2m (l:List O) (a d:O):Q1 (l ++ [a]) d=Q1 l (.co a d):=by
 induction l with
 | nil=>rfl
 | cons x l ih=>simp [Q1,ih]
theorem c1q {L:List Pk} {cur:i6} {o:O} (h:okA L o) (hn:∀ a d,o ≠ .co a d):(S8 L cur o).kind=5∨(S8 L cur o).kind=6∨(S8 L cur o).kind=7:=by
 cases o with
 | num=>exact .inl rfl
 | tx=>exact .inr (.inr rfl)
 | sy s=>simp only [S8];split <;> exact .inr (.inl rfl)
 | co a d=>exact absurd rfl (hn a d)
 | no=>exact h.elim
theorem b9j {L:List Pk} {cur:i6} {s:Sy} (h:Z7 L cur s=true):x7 L cur s.2=(s,0):=by
 have:(x7 L cur s.2).2=0∧(x7 L cur s.2).1=s:=by simpa [Z7] using h
 exact Prod.ext this.2 this.1
theorem b96 {L:List Pk} {cur:i6} {o:O} (hn:∀ a d,o ≠ .co a d):pN L cur o=([S8 L cur o],(if o=x8 then [a1l] else [c84,S8 L cur o,a1l]),none):=by
 cases o <;> first | rfl | exact absurd rfl (hn _ _)
theorem b7t {L:List Pk} {cur:i6} {T:List u5} {o:O} (h:okA L o) (hn:∀ a d,o ≠ .co a d) {i n d:Nat} {B:List NT} (hT:(T.drop i).map nt=S8 L cur o :: B):J2 L cur T (n+1) d i=.ok (o,i+1):=by
 obtain ⟨h1,h2,h3⟩:=a3g hT
 obtain ⟨k1,k2,k3,k4⟩:=a2a h1
 rw [J2]
 simp only []
 cases o with
 | num m e =>
  simp only [S8] at k1 k3 k4
  rw [k1,if_neg dE,if_neg dE,if_pos rfl]
  unfold b20
  rw [k3,k4,r8,A7];rfl
 | tx t =>
  simp only [S8] at k1 k3
  rw [k1,if_neg dE,if_neg dE,if_neg dE,if_pos rfl,k3]
 | sy s =>
  simp only [S8] at k1 k2 k3
  by_cases hv:Z7 L cur s=true
  ·simp only [hv,if_true] at k1 k2 k3
   rw [k1,if_neg dE,if_neg dE,if_neg dE,if_neg dE,if_pos rfl,k2,if_pos rfl,k3,b9j hv]
   rfl
  ·simp only [hv] at k1 k2 k3
   have hp:=(c7o (a1y h.1).1).2
   rw [k1]
   simp only [Bool.false_eq_true,if_false] at k2 k3 ⊢
   rw [if_neg dE,if_neg dE,if_neg dE,if_neg dE,if_pos trivial,k2,if_neg hp,k3,b9j h.2]
   rfl
 | co a d=>exact absurd rfl (hn a d)
 | no=>exact h.elim
theorem e6z {L:List Pk} {cur:i6} {o:O} {N:List NT} (h:(pN L cur o).2.2=some N):∃ a,o=.co a x8∧N=(pN L cur a).1:=by
 cases o with
 | co a d =>
  simp only [pN] at h
  split at h
  ·rename_i hz;subst hz;injection h with h;exact ⟨a,rfl,h.symm⟩
  ·cases h
 | _=>cases h
theorem d6h {L:List Pk} {cur:i6} {T:List u5}:∀ o:O,okA L o →
  (∀ i n d B,(T.drop i).map nt=(pN L cur o).1 ++ B→2 * T.length+2≤n+2 * i→d+(dO o).1≤201→J2 L cur T n d i=.ok (o,i+(pN L cur o).1.length)) ∧
  (∀ i n d B acc,(T.drop i).map nt=(pN L cur o).2.1 ++ B→acc ≠ []→2 * T.length+3≤n+2 * i→d+(dO o).2≤201→N9 L cur T n d i acc=.ok (Q1 acc o,i+(pN L cur o).2.1.length)):=by
 have fuel:∀ {T:List u5} {i n k:Nat},i < T.length→2 * T.length+2+k≤n+2 * i→∃ m,n=m+1:=fun h1 h2=>⟨_,(Nat.succ_pred oM).symm⟩
 have atom:∀ o:O,okA L o→(∀ a d,o ≠ .co a d) →
  (∀ i n d B,(T.drop i).map nt=(pN L cur o).1 ++ B→2 * T.length+2≤n+2 * i→d+(dO o).1≤201→J2 L cur T n d i=.ok (o,i+(pN L cur o).1.length)) ∧
  (∀ i n d B acc,(T.drop i).map nt=(pN L cur o).2.1 ++ B→acc ≠ []→2 * T.length+3≤n+2 * i→d+(dO o).2≤201→N9 L cur T n d i acc=.ok (Q1 acc o,i+(pN L cur o).2.1.length)):=by
  intro o h hn
  rw [b96 hn]
  constructor
  ·intro i n d B hT hf _
   obtain ⟨m,rfl⟩:=fuel (k:=0) (a3g hT).2.2 hf
   exact b7t h hn hT
  ·intro i n d B acc hT ha hf _
   by_cases hz:o=x8
   ·subst hz
    simp only [if_true] at hT ⊢
    obtain ⟨q1,q2,q3⟩:=a3g hT
    obtain ⟨m,rfl⟩:=fuel (k:=1) q3 hf
    obtain ⟨k1,_⟩:=a2a q1
    rw [N9]
    simp only []
    rw [k1,if_pos (show a1l.kind=2 from rfl)]
    rfl
   ·simp only [hz,if_false] at hT ⊢
    obtain ⟨q1,q2,q3⟩:=a3g hT
    obtain ⟨q4,q5,q6⟩:=a3g q2
    obtain ⟨q7,q8,q9⟩:=a3g q5
    obtain ⟨m,rfl⟩:=fuel (k:=1) q3 hf
    obtain ⟨m',rfl⟩:∃ m',m=m'+1:=⟨_,(Nat.succ_pred oM).symm⟩
    obtain ⟨k1,_⟩:=a2a q1
    obtain ⟨k7,_⟩:=a2a q7
    rw [N9]
    simp only []
    rw [k1,if_neg dE,if_pos (show c84.kind=3∧acc ≠ [] from ⟨rfl,ha⟩),b7t h hn q2]
    simp only []
    rw [k7,if_pos (show a1l.kind=2 from rfl)]
    rfl
 intro o
 induction hs:o.size using Nat.strongRecOn generalizing o with
 | _ sz IH =>
 intro h
 cases o with
 | num n d=>exact atom _ h (by simp)
 | sy s=>exact atom _ h (by simp)
 | tx t=>exact atom _ h (by simp)
 | no=>exact h.elim
 | co a d =>
  have hsz:1+a.size+d.size=sz:=hs
  obtain ⟨a1,_⟩:=IH a.size oM a rfl h.1
  obtain ⟨_,d2⟩:=IH d.size oM d rfl h.2
  have tail:∀ i n e B acc,(T.drop i).map nt=((pN L cur a).1 ++ (pN L cur d).2.1) ++ B→2 * T.length+3≤n+2 * i→e+max (dO a).1 (dO d).2≤201→N9 L cur T n e i acc=.ok (Q1 acc (.co a d),i+((pN L cur a).1 ++ (pN L cur d).2.1).length):=by
   intro i n e B acc hT hf hd
   rw [List.append_assoc] at hT
   have hk:∃ m N,(pN L cur a).1=m :: N∧m.kind ≠ 2∧m.kind ≠ 3:=by
    cases a with
    | co x y =>
     simp only [pN]
     split
     ·split
      ·exact ⟨_,_,rfl,dE,dE⟩
      ·exact ⟨_,_,rfl,dE,dE⟩
     ·exact ⟨_,_,rfl,dE,dE⟩
    | no=>exact h.1.elim
    | _ =>
     rw [b96 (by simp)]
     refine ⟨_,_,rfl,?_,?_⟩ <;> (have:=c1q (cur:=cur) h.1 (by simp);omega)
   obtain ⟨m0,N0,e0,k2,k3⟩:=hk
   have hT0:=hT
   rw [e0,List.cons_append] at hT0
   obtain ⟨q1,q2,q3⟩:=a3g hT0
   obtain ⟨k1,_⟩:=a2a q1
   obtain ⟨m,rfl⟩:=fuel (k:=1) q3 hf
   rw [N9]
   simp only []
   rw [k1,if_neg k2,if_neg (fun k=>k3 k.1),a1 i m e _ hT oM oM]
   simp only []
   have hne:1≤(pN L cur a).1.length:=by rw [e0];simp
   rw [d2 _ m e B (acc ++ [a]) (f7s hT) (by simp) oM oM,c2m,List.length_append,Nat.add_assoc]
  refine ⟨?_,fun i n e B acc hT _ hf hd=>by
   have hT':(T.drop i).map nt=((pN L cur a).1 ++ (pN L cur d).2.1) ++ B:=hT
   exact tail i n e B acc hT' hf hd⟩
  intro i n e B hT hf hd
  have hd':e+(1+max (dO a).1 (dO d).2)≤201:=hd
  have plain:(T.drop i).map nt=(b7a :: ((pN L cur a).1 ++ (pN L cur d).2.1)) ++ B→J2 L cur T n e i=.ok (.co a d,i+(b7a :: ((pN L cur a).1 ++ (pN L cur d).2.1)).length):=by
   intro hT
   obtain ⟨q1,q2,q3⟩:=a3g hT
   obtain ⟨k1,_⟩:=a2a q1
   obtain ⟨m,rfl⟩:=fuel (k:=0) q3 hf
   rw [J2]
   simp only []
   have k1:(T.getD i t0).kind=1:=k1
   rw [k1,if_neg dE,if_neg dE,if_neg dE,if_neg dE,if_neg dE,if_neg oM,if_neg dE,tail (i+1) m (e+1) B [] q2 oM oM]
   simp only [Q1,List.length_cons]
   congr 2;omega
  simp only [pN] at hT ⊢
  split at hT
  ·rename_i hq
   split at hT
   ·rename_i t ht
    rw [if_pos hq]
    obtain ⟨x,hx,rfl⟩:=e6z ht
    subst hx hq
    obtain ⟨q1,q2,q3⟩:=a3g hT
    obtain ⟨k1,_⟩:=a2a q1
    have k1:(T.getD i t0).kind=4:=k1
    obtain ⟨m,rfl⟩:=fuel (k:=0) q3 hf
    have hdx:(dO (O.co x x8)).2=(dO x).1:=by simp [dO,x8]
    rw [J2]
    simp only []
    rw [k1,if_neg dE,if_neg dE,if_neg dE,if_neg dE,if_neg dE,if_neg oM,if_pos rfl]
    have hxs:(O.co x x8).size=1+x.size+1:=rfl
    obtain ⟨x1,_⟩:=IH x.size oM x rfl h.2.1
    rw [hdx] at hd'
    rw [x1 (i+1) m (e+1) B q2 oM oM]
    simp only [E7,List.length_cons]
    congr 2;omega
   ·rename_i ht
    rw [if_pos hq]
    exact plain hT
  ·rename_i hq
   rw [if_neg hq]
   exact plain hT
end
end Go.Proofs.YtffaodopiifbkaaGreatDoor
namespace Go.Proofs.YtffaodopiifbkaaGreatDoor
open Go.Abs LQ
noncomputable section
theorem e0g {s:i6} {acc:List u5}:o9 s s.length acc=.ok (acc ++ [⟨0,s.length,[],[],[]⟩]):=by
 rw [S6 (Nat.le_refl _),c8o oM]
 simp only []
 rw [if_neg oM]
 rfl
def eT (w:i6):u5:=⟨0,w.length,[],[],[]⟩
theorem b23 {w:i6} {N:List NT} (h:X9 w N) (hl:w.length≤6000):∃ T:List u5,T.map nt=N∧C5 w=.ok (T ++ [eT w]):=by
 obtain ⟨T,h1,h2⟩:=h w 0 [] (by unfold At;simp) (.inl rfl)
 refine ⟨T,h1,?_⟩
 unfold C5
 rw [if_neg oM,h2,Nat.zero_add,e0g,List.nil_append];rfl
theorem f3w {L:List Pk} {cur:i6} (o:O) (h:okA L o):∃ m N,(pN L cur o).1=m :: N∧m.kind ≠ 0∧m.kind ≠ 2∧m.kind ≠ 3:=by
 cases o with
 | co x y =>
  simp only [pN]
  split
  ·split
   ·exact ⟨_,_,rfl,dE,dE,dE⟩
   ·exact ⟨_,_,rfl,dE,dE,dE⟩
  ·exact ⟨_,_,rfl,dE,dE,dE⟩
 | no=>exact h.elim
 | _ =>
  rw [b96 (by simp)]
  refine ⟨_,_,rfl,?_,?_,?_⟩ <;> (have:=c1q (cur:=cur) h (by simp);omega)
theorem d7r {L:List Pk} {cur:i6} {o:O} {w:i6} (h:okA L o) (hx:X9 w (pN L cur o).1) (hl:w.length≤6000) (hs:o.size≤3000) (hd:(dO o).1≤201):a84 L cur w=.ok o:=by
 obtain ⟨T,h1,h2⟩:=b23 hx hl
 obtain ⟨m0,N0,e0,z0,z2,z3⟩:=f3w (cur:=cur) o h
 have hlen:(pN L cur o).1.length=T.length:=by rw [← h1];simp
 have hT:((T ++ [eT w]).drop 0).map nt=(pN L cur o).1 ++ [(⟨0,[],[],[]⟩:NT)]:=by simp [h1,nt,eT]
 have hp:=(d6h (cur:=cur) (T:=T ++ [eT w]) o h).1 0 (2 * (T ++ [eT w]).length+2) 0 _ hT oM oM
 have hT0:=hT
 rw [e0,List.cons_append] at hT0
 obtain ⟨k1,_⟩:=a2a (a3g hT0).1
 have hr:H6 L cur w=.ok [(o,((T ++ [eT w]).getD 0 t0).pos)]:=by
  unfold H6
  rw [h2]
  simp only []
  rw [show (T ++ [eT w]).length+1=(T.length+1)+1 by simp,O9]
  rw [k1,if_neg z0,if_neg (by simp),hp]
  simp only []
  rw [if_neg oM,O9]
  have:(T ++ [eT w]).getD (0+(pN L cur o).1.length) t0=eT w:=by
   rw [hlen];simp [List.getD]
  rw [this,if_pos (show (eT w).kind=0 from rfl)]
  rfl
 unfold a84
 rw [hr]
theorem c87 {L:List Pk} {cur:i6} {o:O} (hc:C8 L cur ≠ none) (h:okA L o) (hl:(C1 L cur o).length≤6000) (hs:o.size≤3000) (hd:(dO o).1≤201):a84 L cur (C1 L cur o)=.ok o :=
 d7r h (d00 hc o h).1 hl hs hd
open Classical
def E4:O→Option (List O)
 | .co a d=>(E4 d).map (a :: ·)
 | .sy s=>if s=(u1,[110,105,108]) then some [] else none
 | _=>none
def M7 (o:O):Option O:=match E4 o with
 | some [q,x]=>if q=z8 then some x else none
 | _=>none
inductive e3k:List i6→List NT→Prop
 | nil:e3k [] []
 | cons {l:i6} {N:List NT} {ls:List i6} {M:List NT}:X9 l N→e3k ls M→e3k (l :: ls) (N ++ M)
theorem c14 {o:O} (h:E4 o=some []):o=x8:=by
 cases o with
 | sy s=>simp only [E4] at h;split at h;· rename_i e;subst e;rfl
         ·cases h
 | co a d=>simp only [E4] at h;cases hd:E4 d with
  | none=>rw [hd] at h;cases h
  | some l=>rw [hd] at h;cases h
 | _=>cases h
theorem a3c {o a:O} {l:List O} (h:E4 o=some (a :: l)):∃ d,o=.co a d∧E4 d=some l:=by
 cases o with
 | co x d=>simp only [E4] at h;cases hd:E4 d with
  | none=>rw [hd] at h;cases h
  | some m=>rw [hd] at h;simp only [Option.map_some,Option.some.injEq,List.cons.injEq] at h;obtain ⟨rfl,rfl⟩:=h;exact ⟨d,rfl,hd⟩
 | sy s=>simp only [E4] at h;split at h <;> cases h
 | _=>cases h
end
end Go.Proofs.YtffaodopiifbkaaGreatDoor
namespace Go.Proofs.YtffaodopiifbkaaGreatDoor
open Go.Abs LQ
noncomputable section
open Classical
def cT (t:u5):Nat:=2 * t.text.length+t.pkg.length+t.den.length+20
def OkT (t:u5):Prop:=(t.kind=5→∃ (n:Int) (d:Nat),t.text=j4 n∧t.den=i7 d∧0 < d∧Nat.gcd n.natAbs d=1∧(i7 n.natAbs).length≤100∧(i7 d).length≤100)∧(t.kind=7→t.text.length≤200)∧(t.kind=6→t.pkg=[]∨r9 t.pkg=true)
theorem a4q {k:Int} {p:Nat} (h5:k ≠ 5) (h7:k ≠ 7):OkT ⟨k,p,w9,w9,w9⟩:=⟨fun h=>absurd h h5,fun h=>absurd h h7,fun _=>.inl rfl⟩
theorem b7g {p a b:i6} {i:Nat} (h:p=[]∨r9 p=true):OkT ⟨6,i,p,a,b⟩:=⟨fun h=>absurd h (show ¬(6:Int)=5 by decide),fun h=>absurd h (show ¬(6:Int)=7 by decide),fun _=>h⟩
theorem f2i {p a b:i6} {i:Nat} (h:a.length≤200):OkT ⟨7,i,p,a,b⟩:=⟨fun h=>absurd h (show ¬(7:Int)=5 by decide),fun _=>h,fun h=>absurd h (show ¬(7:Int)=6 by decide)⟩
theorem e9p {p:i6} {i:Nat} {n:Int} {d:Nat} (h:0 < d∧Nat.gcd n.natAbs d=1∧(i7 n.natAbs).length≤100∧(i7 d).length≤100):OkT ⟨5,i,p,j4 n,i7 d⟩:=⟨fun _=>⟨n,d,rfl,rfl,h⟩,fun h=>absurd h (show ¬(5:Int)=7 by decide),fun h=>absurd h (show ¬(5:Int)=6 by decide)⟩
theorem sh1:i7 1=P2:=by unfold i7;rw [if_neg dE,F6 dE,show 1 / 10=0 from rfl,A4];rfl
theorem sh0:j4 0=A9:=by unfold j4 i7;rfl
theorem d1h (s:i6) (e:Nat):∀ (k:Nat) (acc:List Nat),(y9 s e k acc).length=acc.length+(k - e)
 | 0,acc=>by simp [y9]
 | k+1,acc=>by
  rw [y9]
  split
  ·rw [d1h s e k];simp;omega
  ·omega
theorem d1o (s:i6):(j8 (j0 s).natAbs).length≤s.length:=by
 have h:=congrArg Prod.snd (b4o s)
 simp only [] at h
 rw [← h]
 unfold a1e
 split
 ·simp only [d1h,List.length_nil];omega
 ·simp
theorem c3b {m n:Nat} (h:m≤n):(j8 m).length≤(j8 n).length:=by
 by_cases h0:m=0
 ·subst h0;rw [A4];simp
 ·have h1:=a6j m h0
  have h2:=a28 (j8 n) (E0 n)
  rw [D3] at h2
  have h3:10 ^ ((j8 m).length - 1) < 10 ^ (j8 n).length:=oM
  have:=(Nat.pow_lt_pow_iff_right (by decide:1 < 10)).1 h3
  omega
theorem b1p (m:Nat):(i7 m).length≤max 1 (j8 m).length:=by
 by_cases h:m=0
 ·subst h;show 1≤_;omega
 ·rw [R7 m h];omega
theorem a8h (s:i6):(plain s).length≤max 1 s.length:=by
 unfold plain
 have h1:=W1 s
 have h2:=b0n s (j7 s) h1.1
 simp only []
 split
 ·show 1≤_;omega
 ·split
  ·simp only [List.length_append,List.length_drop,List.length_take,List.length_cons,List.length_nil];omega
  ·simp only [List.length_drop,List.length_take];omega
theorem c9k (w:i6):(p8 w).1.length≤w.length∧(p8 w).2.1.length≤max 1 w.length:=by
 unfold p8
 simp only []
 repeat' split
 all_goals (simp only [w9,P2,List.length_nil,List.length_cons,List.length_drop,List.length_take];omega)
theorem b24 (a b:i6):∃ (n:Int) (d:Nat),t7 a b=(j4 n,i7 d)∧0 < d∧Nat.gcd n.natAbs d=1∧(i7 n.natAbs).length≤max 1 a.length∧(i7 d).length≤max 1 b.length:=by
 unfold t7
 by_cases h0:j0 b=0
 ·rw [if_pos h0]
  exact ⟨0,1,by rw [sh0,sh1],dE,dE,by show 1≤_;omega,by rw [sh1];show 1≤_;omega⟩
 ·rw [if_neg h0]
  simp only []
  have hd:0 < (j0 b).natAbs:=oM
  have hg:0 < Nat.gcd (j0 a).natAbs (j0 b).natAbs:=Nat.gcd_pos_of_pos_right _ hd
  refine ⟨_,_,rfl,Nat.div_pos (Nat.le_of_dvd hd (Nat.gcd_dvd_right _ _)) hg,?_,?_,?_⟩
  ·have e:∀ x:Nat,(((if (j0 a < 0)=(j0 b < 0) then (1:Int) else -1) * ((x:Nat):Int))).natAbs=x:=by
    intro x;split <;> omega
   rw [e]
   rw [Nat.gcd_div (Nat.gcd_dvd_left _ _) (Nat.gcd_dvd_right _ _),Nat.div_self hg]
  ·have e:∀ x:Nat,(((if (j0 a < 0)=(j0 b < 0) then (1:Int) else -1) * ((x:Nat):Int))).natAbs=x:=by
    intro x;split <;> omega
   rw [e]
   have h1:=b1p ((j0 a).natAbs / Nat.gcd (j0 a).natAbs (j0 b).natAbs)
   have h2:=c3b (Nat.div_le_self (j0 a).natAbs (Nat.gcd (j0 a).natAbs (j0 b).natAbs))
   have h3:=d1o a
   omega
  ·have h1:=b1p ((j0 b).natAbs / Nat.gcd (j0 a).natAbs (j0 b).natAbs)
   have h2:=c3b (Nat.div_le_self (j0 b).natAbs (Nat.gcd (j0 a).natAbs (j0 b).natAbs))
   have h3:=d1o b
   omega
theorem a64 {s:i6} {c:Int} {i:Nat} {acc l:List Int} {j:Nat} (h:E3 s c i acc=.ok (l,j)):l.length+i+1≤acc.length+j:=by
 fun_induction E3 s c i acc with
 | case1 i acc h1 h2=>injection h with h;injection h with h3 h4;subst h3;omega
 | case2 i acc h1 h2 h3 ih=>have:=ih h;simp at this;omega
 | case3=>cases h
 | case4 i acc h1 h2 h3 h4 h5 ih=>have:=ih h;simp at this;omega
 | case5=>cases h
 | case6=>cases h
theorem a18 (l:List Int):(F2 l).length=l.length:=by simp [F2]
theorem b1s {t p:i6} {b:Bool} (h:s7 t p b=0):p=[]∨r9 p=true:=by
 unfold s7 at h
 split at h
 ·cases h
 ·split at h
  ·cases h
  ·rename_i hc
   by_cases hp:p=[]
   ·exact .inl hp
   ·right
    cases hv:r9 p with
    | true=>rfl
    | false=>exact absurd (.inr ⟨fun e=>hp (List.length_eq_zero_iff.1 e),hv⟩) hc
theorem c3q {i k:Nat} {w:i6} {t:u5} {k':Nat} (h:D4 i w k=.ok (t,k')) (h0:0 < w.length):OkT t∧cT t≤26 * w.length∧k'=k:=by
 unfold D4 at h
 have hn:=c9k w
 split at h
 ·injection h with h;injection h with h1 h2;subst h1 h2
  exact ⟨a4q dE dE,by simp [cT,w9];omega,rfl⟩
 ·split at h
  ·split at h
   ·cases h
   ·simp only [] at h
    split at h
    ·cases h
    ·rename_i hdg
     injection h with h;injection h with h1 h2;subst h1 h2
     have p1:=a8h (p8 w).1
     have p2:=a8h (p8 w).2.1
     obtain ⟨n,d,e,hd,hg,l1,l2⟩:=b24 (plain (p8 w).1) (plain (p8 w).2.1)
     rw [e] at hdg ⊢
     rw [a1j,Y2] at hdg
     refine ⟨e9p ⟨hd,hg,oM,oM⟩,?_,rfl⟩
     have l3:(j4 n).length≤1+(i7 n.natAbs).length:=by
      rw [I8,List.length_append]
      have:(LQ.sgn n).length≤1:=by unfold LQ.sgn;split <;> simp
      omega
     simp only [cT,w9,List.length_nil]
     omega
  ·split at h
   ·rename_i he
    injection h with h;injection h with h1 h2;subst h1 h2
    exact ⟨b7g (.inl rfl),by simp [cT,w9];omega,rfl⟩
   ·cases h
theorem c3s {s p:i6} {i k k':Nat} {t:u5} (h:H1 s i p k=.ok (t,k')) (hp:p.length+i≤k):OkT t∧cT t≤26 * (k' - i):=by
 unfold H1 at h
 split at h
 ·rename_i hl
  split at h
  ·split at h
   ·cases h
   ·rename_i l j he
    split at h
    ·rename_i hz
     injection h with h;injection h with h1 h2;subst h1 h2
     have:=a64 he
     simp only [List.length_nil] at this
     refine ⟨b7g (b1s hz),?_⟩
     simp only [cT,w9,List.length_nil,a18]
     omega
    ·cases h
  ·split at h
   ·rename_i hc
    simp only [] at h
    split at h
    ·rename_i hz
     injection h with h;injection h with h1 h2;subst h1 h2
     have hw:=G3 s (k+2) oM
     refine ⟨b7g (b1s hz),?_⟩
     simp only [cT,w9,List.length_nil,List.length_drop,List.length_take]
     omega
    ·cases h
   ·cases h
 ·cases h
theorem c6w {s:i6} {i k:Nat} {t:u5} (hi:i < s.length) (h:A0 s i=.ok (t,k)):OkT t∧cT t≤26 * (k - i):=by
 unfold A0 at h
 split at h
 ·injection h with h;injection h with h1 h2;subst h1 h2;exact ⟨a4q dE dE,by simp [cT,w9]⟩
 split at h
 ·injection h with h;injection h with h1 h2;subst h1 h2;exact ⟨a4q dE dE,by simp [cT,w9]⟩
 split at h
 ·injection h with h;injection h with h1 h2;subst h1 h2;exact ⟨a4q dE dE,by simp [cT,w9]⟩
 split at h
 ·split at h
  ·cases h
  ·rename_i l j he
   split at h
   ·cases h
   ·injection h with h;injection h with h1 h2;subst h1 h2
    have:=a64 he
    simp only [List.length_nil] at this
    exact ⟨f2i (by simp only [a18];omega),by simp only [cT,w9,List.length_nil,a18];omega⟩
 split at h
 ·split at h
  ·cases h
  ·rename_i l j he
   split at h
   ·injection h with h;injection h with h1 h2;subst h1 h2
    have:=a64 he
    simp only [List.length_nil] at this
    exact ⟨b7g (.inl rfl),by simp only [cT,w9,List.length_nil,a18];omega⟩
   ·cases h
 split at h
 ·rename_i hc
  have hw:=G3 s i oM
  have hw2:i < m6 s i:=by rw [m6,if_pos hi,if_pos hc];have:=G3 s (i+1) oM;omega
  have hl:((s.take (m6 s i)).drop i).length=m6 s i - i:=by simp;omega
  split at h
  ·exact c3s h (by rw [hl];omega)
  ·obtain ⟨h1,h2,h3⟩:=c3q h (by rw [hl];omega)
   subst h3
   rw [hl] at h2
   exact ⟨h1,h2⟩
 ·cases h
theorem a2s {s:i6}:∀ (m:Nat) {i:Nat} {acc T:List u5},s.length - i≤m→i≤s.length→o9 s i acc=.ok T→∃ T',T=acc ++ T'∧(∀ t ∈ T',OkT t)∧(T'.map cT).sum≤26 * (s.length - i)+20∧T'.length≤s.length - i+1
 | m,i,acc,T,hm,hi,h=>by
  rw [S6 hi] at h
  split at h
  ·cases h
  ·rename_i j hs
   have hj:=Y0 hi hs
   split at h
   ·rename_i hlt
    split at h
    ·cases h
    ·rename_i t k ht
     have h1:=a0g hlt ht
     have h2:=c6w hlt ht
     cases m with
     | zero=>omega
     | succ m =>
      obtain ⟨T',e1,e2,e3,e4⟩:=a2s m oM h1.2 h
      refine ⟨t :: T',by rw [e1];simp,?_,?_,?_⟩
      ·intro x hx
       rcases List.mem_cons.1 hx with rfl | hx
       ·exact h2.1
       ·exact e2 x hx
      ·simp only [List.map_cons,List.sum_cons];omega
      ·simp only [List.length_cons];omega
   ·injection h with h
    refine ⟨[⟨0,s.length,w9,w9,w9⟩],h.symm,?_,by simp [cT,w9],by simp⟩
    intro t ht
    rw [List.mem_singleton.1 ht];exact a4q dE dE
theorem e8r (c:UInt8) (l:i6):(K5 c l).length≤2 * l.length:=by
 induction l with
 | nil=>simp [K5]
 | cons b l ih =>
  have e:K5 c (b :: l)=(if b=c∨b=92 then [92,b] else [b]) ++ K5 c l:=by simp [K5]
  rw [e,List.length_append]
  split <;> simp <;> omega
theorem b4d (c:UInt8) (l:i6):(G9 c l).length≤2 * l.length+2:=by rw [a7c];have:=e8r c l;omega
theorem b6n (w:i6) (q:Bool):(K8 w q).length≤2 * w.length+2:=by
 unfold K8;split
 ·exact b4d _ _
 ·omega
theorem a19 (L:List Pk) (cur:i6) (s:Sy):(G2 L cur s).1.length≤s.1.length+2 * s.2.length+4:=by
 have h1:=b6n s.2 false
 have h2:=b6n s.2 true
 unfold G2
 repeat' split
 all_goals simp
 all_goals omega
theorem b61 (n:Int) (d:Nat):(X2 n d).length≤(j4 n).length+(i7 d).length+1:=by
 unfold X2
 split
 ·omega
 ·rw [List.length_append,List.length_cons];omega
structure e0e (L:List Pk) (cur:i6):Prop where
 home:∀ c n s,(c=cur∨r9 c=true)→x7 L c n=(s,0)→H7 L s=true∧named s=true∧s.1.length≤c.length+4
 cur4:cur.length≤4
 nilH:H7 L (u1,[110,105,108])=true
 quoteH:H7 L (u1,[113,117,111,116,101])=true
section
variable {L:List Pk} {cur:i6} {T:List u5}
theorem b2k (a d:O):(pT L cur (.co a d)).1.length≤(pT L cur (.co a d)).2.1.length:=by
 simp only [pT]
 split
 ·split
  ·rename_i t ht
   obtain ⟨x,hx⟩:∃ x,d=.co x x8∧t=(pT L cur x).1:=by
    cases d with
    | co x y =>
     simp only [pT] at ht
     split at ht
     ·rename_i hz;injection ht with ht;exact ⟨x,by rw [hz],ht.symm⟩
     ·cases ht
    | _=>cases ht
   obtain ⟨rfl,rfl⟩:=hx
   simp only [pT,List.length_cons,List.length_append]
   omega
  ·simp
 ·simp
theorem e5h (o:O):(dO o).2≤(dO o).1:=by cases o <;> simp [dO]
end
end
end Go.Proofs.YtffaodopiifbkaaGreatDoor
namespace Go.Proofs.YtffaodopiifbkaaGreatDoor
open Go.Abs LQ
noncomputable section
open Classical
structure b0o (T:List u5):Prop where
 len:T.length < 8000
 ok:∀ t ∈ T,OkT t
 last:∀ i,i+1=T.length→(T.getD i t0).kind=0
 pos:0 < T.length
 kinds:∀ t ∈ T,0≤t.kind∧t.kind≤7
theorem c6t {s:i6} {i k:Nat} {t:u5} (h:A0 s i=.ok (t,k)):1≤t.kind∧t.kind≤7:=by
 have fin:∀ {x:u5} {y:Nat},1≤x.kind∧x.kind≤7→(Except.ok (x,y):Except (Int × Nat) (u5 × Nat))=.ok (t,k)→1≤t.kind∧t.kind≤7:=by
  intro x y hx h;injection h with h;injection h with h1 h2;rw [← h1];exact hx
 unfold A0 at h
 repeat' split at h
 all_goals try (cases h;done)
 all_goals try exact fin (show (1:Int)≤6∧(6:Int)≤7 by decide) h
 all_goals try exact fin (show (1:Int)≤7∧(7:Int)≤7 by decide) h
 all_goals try exact fin (show (1:Int)≤1∧(1:Int)≤7 by decide) h
 all_goals try exact fin (show (1:Int)≤2∧(2:Int)≤7 by decide) h
 all_goals try exact fin (show (1:Int)≤4∧(4:Int)≤7 by decide) h
 ·unfold H1 at h
  simp only [] at h
  repeat' split at h
  all_goals try (cases h;done)
  all_goals exact fin (show (1:Int)≤6∧(6:Int)≤7 by decide) h
 ·unfold D4 at h
  simp only [] at h
  repeat' split at h
  all_goals try (cases h;done)
  all_goals first | exact fin (show (1:Int)≤3∧(3:Int)≤7 by decide) h | exact fin (show (1:Int)≤5∧(5:Int)≤7 by decide) h | exact fin (show (1:Int)≤6∧(6:Int)≤7 by decide) h
section
variable {L:List Pk} {cur:i6} {T:List u5}
theorem c1j {i:Nat} (h:(T.getD i t0).kind ≠ 0):i < T.length:=by
 by_cases hi:i < T.length
 ·exact hi
 ·exfalso;apply h
  have:T.getD i t0=t0:=by simp [List.getD,List.getElem?_eq_none (by omega:T.length≤i)]
  rw [this];rfl
theorem c6r:∀ n:Nat,(∀ d i o j,J2 L cur T n d i=.ok (o,j)→i < j∧(T.getD (j - 1) t0).kind ≠ 0)∧(∀ d i acc o j,N9 L cur T n d i acc=.ok (o,j)→i < j∧(T.getD (j - 1) t0).kind ≠ 0):=by
 intro n
 induction n with
 | zero=>exact ⟨fun d i o j h=>(by rw [J2] at h;cases h),fun d i acc o j h=>(by rw [N9] at h;cases h)⟩
 | succ n ih =>
  obtain ⟨ih1,ih2⟩:=ih
  constructor
  ·intro d i o j h
   rw [J2] at h
   simp only [] at h
   split at h
   ·cases h
   rename_i k0
   split at h
   ·cases h
   split at h
   ·injection h with h;injection h with h1 h2;subst h2;exact ⟨oM,k0⟩
   split at h
   ·injection h with h;injection h with h1 h2;subst h2;exact ⟨oM,k0⟩
   split at h
   ·generalize (if (T.getD i t0).pkg=[] then cur else (T.getD i t0).pkg)=c at h
    split at h
    ·injection h with h;injection h with h1 h2;subst h2;exact ⟨oM,k0⟩
    ·cases h
   split at h
   ·cases h
   split at h
   ·split at h
    ·cases h
    ·rename_i x j' hx
     injection h with h;injection h with h1 h2;subst h2
     have:=ih1 _ _ _ _ hx
     exact ⟨oM,this.2⟩
   ·have:=ih2 _ _ _ _ _ h
    exact ⟨oM,this.2⟩
  ·intro d i acc o j h
   rw [N9] at h
   simp only [] at h
   split at h
   ·rename_i k2
    injection h with h;injection h with h1 h2;subst h2
    exact ⟨oM,by show (T.getD i t0).kind ≠ 0;rw [k2];decide⟩
   split at h
   ·split at h
    ·cases h
    ·rename_i x j' hx
     split at h
     ·rename_i k2
      injection h with h;injection h with h1 h2;subst h2
      have:=ih1 _ _ _ _ hx
      exact ⟨oM,by show (T.getD j' t0).kind ≠ 0;rw [k2];decide⟩
     ·split at h <;> cases h
   ·split at h
    ·cases h
    ·rename_i x j' hx
     have h1:=ih1 _ _ _ _ hx
     have:=ih2 _ _ _ _ _ h
     exact ⟨oM,this.2⟩
theorem b3d:∀ n:Nat,(∀ m d i,n≤m→i≤T.length→2 * T.length+2≤n+2 * i→J2 L cur T m d i=J2 L cur T n d i)∧(∀ m d i acc,n≤m→i≤T.length→2 * T.length+3≤n+2 * i→N9 L cur T m d i acc=N9 L cur T n d i acc):=by
 have end0:∀ {n d i},T.length≤i→J2 L cur T (n+1) d i=.error (11,0):=by
  intro n d i h
  have e:T.getD i t0=t0:=by simp [List.getD,List.getElem?_eq_none h]
  rw [J2];simp only [];rw [e,if_pos (show t0.kind=0 from rfl)];rfl
 intro n
 induction n with
 | zero=>exact ⟨fun m d i _ h1 h2=>by omega,fun m d i acc _ h1 h2=>by omega⟩
 | succ n ih =>
  obtain ⟨ih1,ih2⟩:=ih
  constructor
  ·intro m d i hm hl hf
   obtain ⟨m,rfl⟩:∃ k,m=k+1:=⟨m - 1,oM⟩
   by_cases hi:i < T.length
   ·rw [J2,J2]
    simp only []
    rw [ih1 m (d+1) (i+1) oM oM oM,ih2 m (d+1) (i+1) [] oM oM oM]
   ·rw [end0 oM,end0 oM]
  ·intro m d i acc hm hl hf
   obtain ⟨m,rfl⟩:∃ k,m=k+1:=⟨m - 1,oM⟩
   rw [N9,N9]
   simp only []
   by_cases hi:i < T.length
   ·rw [ih1 m d (i+1) oM oM oM,ih1 m d i oM oM oM]
    cases ho:J2 L cur T n d i with
    | error e=>rfl
    | ok p =>
     obtain ⟨x,j⟩:=p
     have hj:=(c6r n).1 _ _ _ _ ho
     have hj2:=c1j hj.2
     simp only []
     rw [ih2 m d j _ oM oM oM]
   ·have e:T.getD i t0=t0:=by simp [List.getD,List.getElem?_eq_none (by omega:T.length≤i)]
    rw [e]
    obtain ⟨n,rfl⟩:∃ k,n=k+1:=⟨n - 1,oM⟩
    obtain ⟨m,rfl⟩:∃ k,m=k+1:=⟨m - 1,oM⟩
    have e2:¬(t0.kind=3∧acc ≠ []):=fun h=>absurd h.1 dE
    rw [if_neg e2,if_neg e2,end0 (n:=m) oM,end0 (n:=n) oM]
def F4 (L:List Pk) (cur:i6) (T:List u5) (d i:Nat):Except (Int × Nat) (O × Nat):=J2 L cur T (2 * T.length+2) d i
def O8 (L:List Pk) (cur:i6) (T:List u5) (d i:Nat) (acc:List O):Except (Int × Nat) (O × Nat):=N9 L cur T (2 * T.length+3) d i acc
theorem b95 {d i:Nat} (hi:i < T.length):F4 L cur T d i =
  if (T.getD i t0).kind=0 then .error (11,(T.getD i t0).pos)
  else if (T.getD i t0).kind=2∨(T.getD i t0).kind=3 then .error (12,(T.getD i t0).pos)
  else if (T.getD i t0).kind=5 then .ok (b20 (T.getD i t0),i+1)
  else if (T.getD i t0).kind=7 then .ok (.tx (T.getD i t0).text,i+1)
  else if (T.getD i t0).kind=6 then
   (if (x7 L (if (T.getD i t0).pkg=[] then cur else (T.getD i t0).pkg) (T.getD i t0).text).2=0 then .ok (.sy (x7 L (if (T.getD i t0).pkg=[] then cur else (T.getD i t0).pkg) (T.getD i t0).text).1,i+1) else .error ((x7 L (if (T.getD i t0).pkg=[] then cur else (T.getD i t0).pkg) (T.getD i t0).text).2,(T.getD i t0).pos))
  else if 200 < d then .error (2,(T.getD i t0).pos)
  else if (T.getD i t0).kind=4 then
   match F4 L cur T (d+1) (i+1) with
   | .error e=>.error e
   | .ok (x,j)=>.ok (E7 [z8,x],j)
  else O8 L cur T (d+1) (i+1) []:=by
 have h1:F4 L cur T (d+1) (i+1)=J2 L cur T (2 * T.length+1) (d+1) (i+1):=(b3d _).1 _ _ _ oM oM oM
 have h2:O8 L cur T (d+1) (i+1) []=N9 L cur T (2 * T.length+1) (d+1) (i+1) []:=(b3d _).2 _ _ _ _ oM oM oM
 rw [h1,h2]
 exact J2.eq_2 L cur T d i _
theorem c8j {d i:Nat} {acc:List O} (hi:i < T.length):O8 L cur T d i acc =
  if (T.getD i t0).kind=2 then .ok (Q1 acc x8,i+1)
  else if (T.getD i t0).kind=3∧acc ≠ [] then
   match F4 L cur T d (i+1) with
   | .error e=>.error e
   | .ok (x,j) =>
    if (T.getD j t0).kind=2 then .ok (Q1 acc x,j+1)
    else if (T.getD j t0).kind=0 then .error (11,(T.getD j t0).pos)
    else .error (12,(T.getD j t0).pos)
  else
   match F4 L cur T d i with
   | .error e=>.error e
   | .ok (x,j)=>O8 L cur T d j (acc ++ [x]):=by
 have h1:J2 L cur T (2 * T.length+2) d (i+1)=F4 L cur T d (i+1):=rfl
 have h3:J2 L cur T (2 * T.length+2) d i=F4 L cur T d i:=rfl
 unfold O8
 rw [N9]
 simp only []
 rw [h1,h3]
 cases ho:F4 L cur T d i with
 | error e=>rfl
 | ok p =>
  obtain ⟨x,j⟩:=p
  have hj:=(c6r _).1 _ _ _ _ ho
  have hj2:=c1j hj.2
  simp only []
  rw [(b3d (2 * T.length+2)).2 (2 * T.length+3) d j _ oM oM oM]
  first | done | rfl
theorem a9z (hT:b0o T) {d i j:Nat} {o:O} (h:F4 L cur T d i=.ok (o,j)):i < j∧j < T.length:=by
 have h1:=(c6r _).1 _ _ _ _ h
 have h2:=c1j h1.2
 refine ⟨h1.1,?_⟩
 rcases Nat.lt_or_ge j T.length with h3 | h3
 ·exact h3
 ·exact absurd (hT.last (j - 1) oM) h1.2
end
theorem c1s {s:i6} {T:List u5} (h:C5 s=.ok T):b0o T:=by
 unfold C5 at h
 split at h
 ·cases h
 ·have key:∀ (m:Nat) {i:Nat} {acc T:List u5},s.length - i≤m→i≤s.length→o9 s i acc=.ok T→∃ T',T=acc ++ T' ++ [⟨0,s.length,w9,w9,w9⟩]∧∀ t ∈ T',0≤t.kind∧t.kind≤7:=by
   intro m
   induction m with
   | zero =>
    intro i acc T hm hi h
    rw [S6 hi] at h
    split at h
    ·cases h
    ·rename_i j hs
     have hj:=Y0 hi hs
     rw [if_neg oM] at h
     injection h with h
     exact ⟨[],by rw [← h];simp,by simp⟩
   | succ m ih =>
    intro i acc T hm hi h
    rw [S6 hi] at h
    split at h
    ·cases h
    ·rename_i j hs
     have hj:=Y0 hi hs
     split at h
     ·rename_i hlt
      split at h
      ·cases h
      ·rename_i t k ht
       have h1:=a0g hlt ht
       have h2:=c6t ht
       obtain ⟨T',e,hk⟩:=ih oM h1.2 h
       refine ⟨t :: T',by rw [e];simp,fun x hx=>?_⟩
       rcases List.mem_cons.1 hx with rfl | hx
       ·omega
       ·exact hk x hx
     ·injection h with h
      exact ⟨[],by rw [← h];simp,by simp⟩
  obtain ⟨T1,e1,e2,e3,e4⟩:=a2s _ (Nat.le_refl _) (Nat.zero_le _) h
  obtain ⟨T',e,hk⟩:=key _ (Nat.le_refl _) (Nat.zero_le _) h
  rw [List.nil_append] at e1 e
  subst e1
  refine ⟨oM,e2,fun i hi=>?_,by rw [e];simp,fun x hx=>?_⟩
  ·rw [e] at hi ⊢
   have:i=T'.length:=by simp at hi;omega
   subst this
   simp [List.getD]
  ·rw [e] at hx
   rcases List.mem_append.1 hx with hx | hx
   ·exact hk x hx
   ·rw [List.mem_singleton.1 hx];show (0:Int)≤0∧(0:Int)≤7;decide
end
end Go.Proofs.YtffaodopiifbkaaGreatDoor
