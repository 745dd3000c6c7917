/- Packages and the reading of objects from C7: what they compute. No program in sight. -/
import Derived.Test.YtdldcfllnohkeaaGreatDoorCR5e
import Derived.Test.YtdldcfllnohkeaaGreatDoorCN
set_option linter.all false
namespace Go.Proofs.YtdldcfllnohkeaaGreatDoor
open Go.Abs LQ
abbrev Pk:=i6 × List Sy
def pg (p:Pk):List G:=[.s p.1,.l (p.2.map sg)]
theorem b21 (p:Pk):(pg p).length=2:=rfl
def D2:List Pk→i6→Option Pk
 | [],_=>none
 | p :: l,n=>if p.1=n then some p else D2 l n
def a2w:List Sy→i6→Option Sy
 | [],_=>none
 | s :: l,n=>if s.2=n then some s else a2w l n
def B8 (L:List Pk) (cur nm:i6):Sy × Int :=
 match D2 L cur with
 | none=>(([],[]),13)
 | some p=>if nm.length < 1∨40 < nm.length then (([],[]),3) else
  match a2w p.2 nm with
  | some s=>(s,0)
  | none=>((cur,nm),0)
def a0y (L:List Pk) (cur:i6) (s:Sy):Bool:=decide ((B8 L cur s.2).2=0∧(B8 L cur s.2).1=s)
def O5 (L:List Pk) (s:Sy):Bool:=a0y L s.1 s
def t0:x5:=⟨0,0,[],[],[]⟩
def B0:O:=.sy (x7,[113,117,111,116,101])
def T4:List O→O→O
 | [],e=>e
 | x :: l,e=>.co x (T4 l e)
def c1i (t:x5):O:=.num (j0 t.text) (j0 t.den).natAbs
mutual
/-- The object at a token, inside depth others, and the place behind it; or the error and its offset. -/
def O1 (L:List Pk) (cur:i6) (T:List x5):Nat→Nat→Nat→Except (Int × Nat) (O × Nat)
 | 0,_,_=>.error (0,0)
 | n+1,d,i =>
  let t:=T.getD i t0
  if t.kind=0 then .error (11,t.pos)
  else if t.kind=2∨t.kind=3 then .error (12,t.pos)
  else if t.kind=5 then .ok (c1i t,i+1)
  else if t.kind=7 then .ok (.tx t.text,i+1)
  else if t.kind=6 then
   let r:=B8 L (if t.pkg=[] then cur else t.pkg) t.text
   if r.2=0 then .ok (.sy r.1,i+1) else .error (r.2,t.pos)
  else if 200 < d then .error (2,t.pos)
  else if t.kind=4 then
   match O1 L cur T n (d+1) (i+1) with
   | .error e=>.error e
   | .ok (x,j)=>.ok (F1 [B0,x],j)
  else T5 L cur T n (d+1) (i+1) []
/-- The rest of a list. -/
def T5 (L:List Pk) (cur:i6) (T:List x5):Nat→Nat→Nat→List O→Except (Int × Nat) (O × Nat)
 | 0,_,_,_=>.error (0,0)
 | n+1,d,i,acc =>
  let t:=T.getD i t0
  if t.kind=2 then .ok (T4 acc B3,i+1)
  else if t.kind=3∧acc ≠ [] then
   match O1 L cur T n d (i+1) with
   | .error e=>.error e
   | .ok (x,j) =>
    let u:=T.getD j t0
    if u.kind=2 then .ok (T4 acc x,j+1)
    else if u.kind=0 then .error (11,u.pos)
    else .error (12,u.pos)
  else
   match O1 L cur T n d i with
   | .error e=>.error e
   | .ok (x,j)=>T5 L cur T n d j (acc ++ [x])
end
def a17 (L:List Pk) (cur:i6) (T:List x5):Nat→Nat→List (O × Nat)→Except (Int × Nat) (List (O × Nat))
 | 0,_,_=>.error (0,0)
 | m+1,i,acc =>
  let t:=T.getD i t0
  if t.kind=0 then .ok acc
  else if 100≤acc.length∧t.kind ≠ 2∧t.kind ≠ 3 then .error (2,t.pos)
  else
   match O1 L cur T (2 * T.length+2) 0 i with
   | .error e=>.error e
   | .ok (x,j)=>if 3000 < x.size then .error (2,t.pos) else a17 L cur T m j (acc ++ [(x,t.pos)])
def M4 (L:List Pk) (cur s:i6):Except (Int × Nat) (List (O × Nat)) :=
 match C7 s with
 | .error e=>.error e
 | .ok T=>a17 L cur T (T.length+1) 0 []
def c7g (L:List Pk) (cur s:i6):Except (Int × Nat) O :=
 match M4 L cur s with
 | .error e=>.error e
 | .ok []=>.error (11,s.length)
 | .ok [(x,_)]=>.ok x
 | .ok (_ :: (_,k) :: _)=>.error (12,k)
def L2 (name:i6) (q:Bool):i6:=if U7 name=false∨(q=false∧(name=[46]∨(x9 name).2.2=true)) then H4 124 name else name
def O7 (L:List Pk) (cur:i6) (s:Sy):i6 × Int :=
 if named s=false then ([],1)
 else if D2 L cur=none∨O5 L s=false then ([],13)
 else if a0y L cur s=true then (L2 s.2 false,0)
 else (s.1 ++ 58 :: 58 :: L2 s.2 true,0)
def J1 (L:List Pk) (cur:i6):O→i6
 | .num n d=>a0f n d
 | .tx t=>H4 34 t
 | .sy s=>(O7 L cur s).1
 | _=>[]
noncomputable section
open Classical
def pT (L:List Pk) (cur:i6):O→i6 × i6 × Option i6
 | .co a d=>((if a=B0 then match (pT L cur d).2.2 with
   | some t=>39 :: t
   | none=>40 :: ((pT L cur a).1 ++ (pT L cur d).2.1)
   else 40 :: ((pT L cur a).1 ++ (pT L cur d).2.1)),32 :: ((pT L cur a).1 ++ (pT L cur d).2.1),if d=B3 then some (pT L cur a).1 else none)
 | o=>(J1 L cur o,(if o=B3 then [41] else 32 :: 46 :: 32 :: (J1 L cur o ++ [41])),none)
def A4 (L:List Pk) (cur:i6) (o:O):i6:=(pT L cur o).1
def C9 (L:List Pk):O→Bool
 | .sy s=>O5 L s
 | .co a d=>C9 L a && C9 L d
 | _=>true
structure NT where
 kind:Int
 pkg:i6
 text:i6
 den:i6
def nt (t:x5):NT:=⟨t.kind,t.pkg,t.text,t.den⟩
def a8f:NT:=⟨1,[],[],[]⟩
def Y6:NT:=⟨2,[],[],[]⟩
def c61:NT:=⟨3,[],[],[]⟩
def f1j:NT:=⟨4,[],[],[]⟩
def T9 (L:List Pk) (cur:i6):O→NT
 | .num n d=>⟨5,[],j3 n,i7 d⟩
 | .tx t=>⟨7,[],t,[]⟩
 | .sy s=>if a0y L cur s=true then ⟨6,[],s.2,[]⟩ else ⟨6,s.1,s.2,[]⟩
 | _=>⟨0,[],[],[]⟩
def pN (L:List Pk) (cur:i6):O→List NT × List NT × Option (List NT)
 | .co a d=>((if a=B0 then match (pN L cur d).2.2 with
   | some t=>f1j :: t
   | none=>a8f :: ((pN L cur a).1 ++ (pN L cur d).2.1)
   else a8f :: ((pN L cur a).1 ++ (pN L cur d).2.1)),(pN L cur a).1 ++ (pN L cur d).2.1,if d=B3 then some (pN L cur a).1 else none)
 | o=>([T9 L cur o],(if o=B3 then [Y6] else [c61,T9 L cur o,Y6]),none)
def okA (L:List Pk):O→Prop
 | .num n d=>0 < d∧Nat.gcd n.natAbs d=1∧(i7 n.natAbs).length≤100∧(i7 d).length≤100
 | .tx t=>t.length≤200
 | .sy s=>named s=true∧O5 L s=true
 | .co a d=>okA L a∧okA L d
 | .no=>False
theorem c7p {p:i6} (h:t6 p=true):a1f p∧p ≠ []:=by
 have hb:H1 p 0=true∧1≤p.length:=by simp [t6] at h;exact ⟨h.2,h.1.1⟩
 refine ⟨?_,fun e=>by rw [e] at hb;simp at hb⟩
 have key:∀ n k,p.length - k=n→H1 p k=true→∀ j,k≤j→j < p.length→a2j (bt p j)=true:=by
  intro n
  induction n with
  | zero=>intro k hk _ j h1 h2;omega
  | succ n ih =>
   intro k hk hp j h1 h2
   rw [H1,if_pos oM] at hp
   split at hp
   ·rename_i hc
    by_cases hj:j=k
    ·subst hj;exact hc
    ·exact ih (k+1) oM hp j oM h2
   ·cases hp
 intro j hj
 have:=key _ 0 rfl hb.1 j (Nat.zero_le _) hj
 simp [a2j] at this
 simp [A5];omega
theorem a12 {s:Sy} (h:named s=true):t6 s.1=true∧s.2.length≤40∧0 < s.2.length:=by
 simp [named] at h;exact ⟨h.1,h.2.2,h.2.1⟩
def T6 (w:i6) (N:List NT):Prop:=∀ s i r,At s i w r→Del r→∃ T:List x5,T.map nt=N∧∀ acc,p8 s i acc=p8 s (i+w.length) (acc ++ T)
theorem a9w {w:i6} {n:NT} (h:∀ s i r,At s i w r→Del r→∃ t:x5,nt t=n∧∀ acc,p8 s i acc=p8 s (i+w.length) (acc ++ [t])):T6 w [n]:=fun s i r ha hr=>by
 obtain ⟨t,h1,h2⟩:=h s i r ha hr
 exact ⟨[t],by simp [h1],h2⟩
theorem c6n {w:i6} (h0:0 < w.length) (hl:w.length≤40):T6 (L2 w false) [⟨6,[],w,[]⟩]:=a9w fun s i r ha hr=>by
 unfold L2 at ha ⊢
 split at ha
 ·rename_i hc;rw [if_pos hc];exact ⟨_,rfl,fun acc=>e3p ha hl h0⟩
 ·rename_i hc
  rw [if_neg hc]
  have h1:U7 w=true:=by cases hs:U7 w with | true=>rfl | false=>exact absurd (.inl hs) hc
  have h2:w ≠ [46]:=fun e=>hc (.inr ⟨rfl,.inl e⟩)
  have h3:(x9 w).2.2=false:=by cases hs:(x9 w).2.2 with | false=>rfl | true=>exact absurd (.inr ⟨rfl,.inr hs⟩) hc
  exact ⟨_,rfl,fun acc=>d80 ha h1 hr h2 h3 hl⟩
theorem c6o {p w:i6} (hp:t6 p=true) (h0:0 < w.length) (hl:w.length≤40):T6 (p ++ 58 :: 58 :: L2 w true) [⟨6,p,w,[]⟩]:=a9w fun s i r ha hr=>by
 obtain ⟨g1,g2⟩:=c7p hp
 unfold L2 at ha ⊢
 split at ha
 ·rename_i hc;rw [if_pos hc];exact ⟨_,rfl,fun acc=>d82 ha g1 g2 hp hl h0⟩
 ·rename_i hc
  rw [if_neg hc]
  have h1:U7 w=true:=by cases hs:U7 w with | true=>rfl | false=>exact absurd (.inl hs) hc
  exact ⟨_,rfl,fun acc=>d83 ha g1 g2 hp h1 hr hl⟩
theorem e0l {L:List Pk} {cur:i6} (hc:D2 L cur ≠ none):∀ {o:O},okA L o→(∀ a d,o ≠ .co a d)→T6 (J1 L cur o) [T9 L cur o]
 | .num n d,h,_=>a9w fun s i r ha hr=>⟨_,rfl,fun acc=>e3s ha hr h.1 h.2.1 h.2.2.1 h.2.2.2⟩
 | .tx t,h,_=>a9w fun s i r ha hr=>⟨_,rfl,fun acc=>e3t ha h⟩
 | .sy s,h,_=>by
  obtain ⟨h1,h2,h3⟩:=a12 h.1
  have e:O7 L cur s=if a0y L cur s=true then (L2 s.2 false,0) else (s.1 ++ 58 :: 58 :: L2 s.2 true,0):=by
   unfold O7
   rw [if_neg (by rw [h.1];simp),if_neg]
   rintro (k | k)
   ·exact hc k
   ·rw [h.2] at k;cases k
  simp only [J1,T9,e]
  by_cases hv:a0y L cur s=true
  ·rw [if_pos hv,if_pos hv];exact c6n h3 h2
  ·rw [if_neg hv,if_neg hv];exact c6o h1 h3 h2
 | .co a d,_,h=>absurd rfl (h a d)
 | .no,h,_=>h.elim
theorem a9v {u v:i6} {M N:List NT} (hu:∀ s i r,At s i u (v ++ r)→Del r→∃ T:List x5,T.map nt=M∧∀ acc,p8 s i acc=p8 s (i+u.length) (acc ++ T)) (hv:T6 v N):T6 (u ++ v) (M ++ N):=fun s i r ha hr=>by
 obtain ⟨h1,h2⟩:=ha.app
 obtain ⟨T,q1,q2⟩:=hu s i r h1 hr
 obtain ⟨T',q3,q4⟩:=hv s _ r h2 hr
 refine ⟨T ++ T',by rw [List.map_append,q1,q3],fun acc=>?_⟩
 rw [q2,q4,List.append_assoc,List.length_append,Nat.add_assoc]
theorem b6a {c:UInt8} {v:i6} {n:NT} {N:List NT} (h:∀ s i r,At s i [c] r→∃ t:x5,nt t=n∧∀ acc,p8 s i acc=p8 s (i+1) (acc ++ [t])) (hv:T6 v N):T6 (c :: v) (n :: N) :=
 a9v (u:=[c]) (M:=[n]) (fun s i r ha _=>by obtain ⟨t,h1,h2⟩:=h s i _ ha;exact ⟨[t],by simp [h1],h2⟩) hv
theorem a8d {v:i6} {N:List NT} (hv:T6 v N):T6 (32 :: v) N :=
 a9v (u:=[32]) (M:=[]) (fun s i r ha _=>⟨[],rfl,fun acc=>by rw [d5h ha,List.append_nil];rfl⟩) hv
theorem b0t {u v:i6} {M N:List NT} (hu:T6 u M) (hv:T6 v N) (hd:v ≠ []∧Del v):T6 (u ++ v) (M ++ N):=a9v (fun s i r ha _=>hu s i _ ha (by
 obtain ⟨h0,h1⟩:=hd
 cases v with
 | nil=>exact absurd rfl h0
 | cons c v=>rcases h1 with h | h | h | h
             ·cases h
             ·exact .inr (.inl h)
             ·exact .inr (.inr (.inl h))
             ·exact .inr (.inr (.inr h)))) hv
theorem b2v:T6 [41] [Y6]:=a9w fun s i r ha _=>⟨_,rfl,fun acc=>d5f ha⟩
theorem d1n {L:List Pk} {cur:i6} (hc:D2 L cur ≠ none):∀ o:O,okA L o→T6 (pT L cur o).1 (pN L cur o).1∧(T6 (pT L cur o).2.1 (pN L cur o).2.1∧(pT L cur o).2.1 ≠ []∧Del (pT L cur o).2.1) ∧
  ((pT L cur o).2.2=none∧(pN L cur o).2.2=none∨∃ w N,(pT L cur o).2.2=some w∧(pN L cur o).2.2=some N∧T6 w N):=by
 have atom:∀ o:O,okA L o→(∀ a d,o ≠ .co a d)→pT L cur o=(J1 L cur o,(if o=B3 then [41] else 32 :: 46 :: 32 :: (J1 L cur o ++ [41])),none)→pN L cur o=([T9 L cur o],(if o=B3 then [Y6] else [c61,T9 L cur o,Y6]),none) →
   T6 (pT L cur o).1 (pN L cur o).1∧(T6 (pT L cur o).2.1 (pN L cur o).2.1∧(pT L cur o).2.1 ≠ []∧Del (pT L cur o).2.1) ∧
   ((pT L cur o).2.2=none∧(pN L cur o).2.2=none∨∃ w N,(pT L cur o).2.2=some w∧(pN L cur o).2.2=some N∧T6 w N):=by
  intro o h hn e1 e2
  rw [e1,e2]
  have hl:=e0l hc h hn
  refine ⟨hl,?_,.inl ⟨rfl,rfl⟩⟩
  by_cases hz:o=B3
  ·simp only [hz,if_true];exact ⟨b2v,by simp,.inr (.inr (.inl rfl))⟩
  ·simp only [hz,if_false]
   refine ⟨a8d ?_,by simp,.inr (.inl rfl)⟩
   have h1:T6 (32 :: (J1 L cur o ++ [41])) [T9 L cur o,Y6]:=a8d (b0t hl b2v ⟨by simp,.inr (.inr (.inl rfl))⟩)
   exact a9v (u:=[46]) (M:=[c61]) (fun s i r ha _=>⟨[⟨3,i,[],[],[]⟩],rfl,fun acc=>e3q ha⟩) h1
 intro o
 induction o with
 | num n d=>intro h;exact atom _ h (by simp) rfl rfl
 | sy s=>intro h;exact atom _ h (by simp) rfl rfl
 | tx t=>intro h;exact atom _ h (by simp) rfl rfl
 | no=>intro h;exact h.elim
 | co a d iha ihd =>
  intro h
  obtain ⟨a1,_,_⟩:=iha h.1
  obtain ⟨_,⟨d1,d2,d3⟩,d4⟩:=ihd h.2
  have hb:=b0t a1 d1 ⟨d2,d3⟩
  have hopen:T6 (40 :: ((pT L cur a).1 ++ (pT L cur d).2.1)) (a8f :: ((pN L cur a).1 ++ (pN L cur d).2.1)):=b6a (fun s i r ha=>⟨_,rfl,fun acc=>c3n ha⟩) hb
  simp only [pT,pN]
  refine ⟨?_,⟨a8d hb,by simp,.inr (.inl rfl)⟩,?_⟩
  ·by_cases hq:a=B0
   ·simp only [hq,if_true] at hopen ⊢
    rcases d4 with ⟨q1,q2⟩ | ⟨w,N,q1,q2,q3⟩
    ·rw [q1,q2];exact hopen
    ·rw [q1,q2];exact b6a (fun s i r ha=>⟨_,rfl,fun acc=>d5g ha⟩) q3
   ·simp only [hq,if_false];exact hopen
  ·by_cases hz:d=B3
   ·rw [if_pos hz,if_pos hz];exact .inr ⟨_,_,rfl,rfl,a1⟩
   ·rw [if_neg hz,if_neg hz];exact .inl ⟨rfl,rfl⟩
end
end Go.Proofs.YtdldcfllnohkeaaGreatDoor
namespace Go.Proofs.YtdldcfllnohkeaaGreatDoor
open Go.Abs LQ
noncomputable section
open Classical
def dO:O→Nat × Nat
 | .co a d=>(1+max (dO a).1 (dO d).2,max (dO a).1 (dO d).2)
 | _=>(0,0)
theorem a2y {T:List x5} {i:Nat} {n:NT} {N:List NT} (h:(T.drop i).map nt=n :: N):nt (T.getD i t0)=n∧(T.drop (i+1)).map nt=N∧i < T.length:=by
 cases hd:T.drop i with
 | nil=>rw [hd] at h;cases h
 | cons t l =>
  have hi:i < T.length:=by
   rcases Nat.lt_or_ge i T.length with h1 | h1
   ·exact h1
   ·rw [List.drop_eq_nil_of_le h1] at hd;cases hd
  rw [List.drop_eq_getElem_cons hi] at hd h
  injection hd with h1 h2
  simp only [List.map_cons,List.cons.injEq] at h
  exact ⟨by simp only [List.getD,List.getElem?_eq_getElem hi,Option.getD_some];exact h.1,h.2,hi⟩
theorem a2i {t:x5} {n:NT} (h:nt t=n):t.kind=n.kind∧t.pkg=n.pkg∧t.text=n.text∧t.den=n.den:=by subst h;exact ⟨rfl,rfl,rfl,rfl⟩
theorem f1n {T:List x5} {M N:List NT}:∀ {i:Nat},(T.drop i).map nt=M ++ N→(T.drop (i+M.length)).map nt=N:=by
 induction M with
 | nil=>intro i h;exact h
 | cons m M ih =>
  intro i h
  have:=ih (a2y h).2.1
  rw [List.length_cons,show i+(M.length+1)=i+1+M.length by omega];exact this
theorem d66 (l:List O) (a d:O):T4 (l ++ [a]) d=T4 l (.co a d):=by
 induction l with
 | nil=>rfl
 | cons x l ih=>simp [T4,ih]
theorem c1s {L:List Pk} {cur:i6} {o:O} (h:okA L o) (hn:∀ a d,o ≠ .co a d):(T9 L cur o).kind=5∨(T9 L cur o).kind=6∨(T9 L cur o).kind=7:=by
 cases o with
 | num=>exact .inl rfl
 | tx=>exact .inr (.inr rfl)
 | sy s=>simp only [T9];split <;> exact .inr (.inl rfl)
 | co a d=>exact absurd rfl (hn a d)
 | no=>exact h.elim
theorem b9r {L:List Pk} {cur:i6} {s:Sy} (h:a0y L cur s=true):B8 L cur s.2=(s,0):=by
 have:(B8 L cur s.2).2=0∧(B8 L cur s.2).1=s:=by simpa [a0y] using h
 exact Prod.ext this.2 this.1
theorem c00 {L:List Pk} {cur:i6} {o:O} (hn:∀ a d,o ≠ .co a d):pN L cur o=([T9 L cur o],(if o=B3 then [Y6] else [c61,T9 L cur o,Y6]),none):=by
 cases o <;> first | rfl | exact absurd rfl (hn _ _)
theorem b8l {L:List Pk} {cur:i6} {T:List x5} {o:O} (h:okA L o) (hn:∀ a d,o ≠ .co a d) {i n d:Nat} {B:List NT} (hT:(T.drop i).map nt=T9 L cur o :: B):O1 L cur T (n+1) d i=.ok (o,i+1):=by
 obtain ⟨h1,h2,h3⟩:=a2y hT
 obtain ⟨k1,k2,k3,k4⟩:=a2i h1
 rw [O1]
 simp only []
 cases o with
 | num m e =>
  simp only [T9] at k1 k3 k4
  rw [k1,if_neg dE,if_neg dE,if_pos rfl]
  unfold c1i
  rw [k3,k4,s7,B4];rfl
 | tx t =>
  simp only [T9] at k1 k3
  rw [k1,if_neg dE,if_neg dE,if_neg dE,if_pos rfl,k3]
 | sy s =>
  simp only [T9] at k1 k2 k3
  by_cases hv:a0y L cur s=true
  ·simp only [hv,if_true] at k1 k2 k3
   rw [k1,if_neg dE,if_neg dE,if_neg dE,if_neg dE,if_pos rfl,k2,if_pos rfl,k3,b9r hv]
   rfl
  ·simp only [hv] at k1 k2 k3
   have hp:=(c7p (a12 h.1).1).2
   rw [k1]
   simp only [Bool.false_eq_true,if_false] at k2 k3 ⊢
   rw [if_neg dE,if_neg dE,if_neg dE,if_neg dE,if_pos trivial,k2,if_neg hp,k3,b9r h.2]
   rfl
 | co a d=>exact absurd rfl (hn a d)
 | no=>exact h.elim
theorem d0k {L:List Pk} {cur:i6} {o:O} {N:List NT} (h:(pN L cur o).2.2=some N):∃ a,o=.co a B3∧N=(pN L cur a).1:=by
 cases o with
 | co a d =>
  simp only [pN] at h
  split at h
  ·rename_i hz;subst hz;injection h with h;exact ⟨a,rfl,h.symm⟩
  ·cases h
 | _=>cases h
theorem d7w {L:List Pk} {cur:i6} {T:List x5}:∀ o:O,okA L o →
  (∀ i n d B,(T.drop i).map nt=(pN L cur o).1 ++ B→2 * T.length+2≤n+2 * i→d+(dO o).1≤201→O1 L cur T n d i=.ok (o,i+(pN L cur o).1.length)) ∧
  (∀ i n d B acc,(T.drop i).map nt=(pN L cur o).2.1 ++ B→acc ≠ []→2 * T.length+3≤n+2 * i→d+(dO o).2≤201→T5 L cur T n d i acc=.ok (T4 acc o,i+(pN L cur o).2.1.length)):=by
 have fuel:∀ {T:List x5} {i n k:Nat},i < T.length→2 * T.length+2+k≤n+2 * i→∃ m,n=m+1:=fun h1 h2=>⟨_,(Nat.succ_pred oM).symm⟩
 have atom:∀ o:O,okA L o→(∀ a d,o ≠ .co a d) →
  (∀ i n d B,(T.drop i).map nt=(pN L cur o).1 ++ B→2 * T.length+2≤n+2 * i→d+(dO o).1≤201→O1 L cur T n d i=.ok (o,i+(pN L cur o).1.length)) ∧
  (∀ i n d B acc,(T.drop i).map nt=(pN L cur o).2.1 ++ B→acc ≠ []→2 * T.length+3≤n+2 * i→d+(dO o).2≤201→T5 L cur T n d i acc=.ok (T4 acc o,i+(pN L cur o).2.1.length)):=by
  intro o h hn
  rw [c00 hn]
  constructor
  ·intro i n d B hT hf _
   obtain ⟨m,rfl⟩:=fuel (k:=0) (a2y hT).2.2 hf
   exact b8l h hn hT
  ·intro i n d B acc hT ha hf _
   by_cases hz:o=B3
   ·subst hz
    simp only [if_true] at hT ⊢
    obtain ⟨q1,q2,q3⟩:=a2y hT
    obtain ⟨m,rfl⟩:=fuel (k:=1) q3 hf
    obtain ⟨k1,_⟩:=a2i q1
    rw [T5]
    simp only []
    rw [k1,if_pos (show Y6.kind=2 from rfl)]
    rfl
   ·simp only [hz,if_false] at hT ⊢
    obtain ⟨q1,q2,q3⟩:=a2y hT
    obtain ⟨q4,q5,q6⟩:=a2y q2
    obtain ⟨q7,q8,q9⟩:=a2y q5
    obtain ⟨m,rfl⟩:=fuel (k:=1) q3 hf
    obtain ⟨m',rfl⟩:∃ m',m=m'+1:=⟨_,(Nat.succ_pred oM).symm⟩
    obtain ⟨k1,_⟩:=a2i q1
    obtain ⟨k7,_⟩:=a2i q7
    rw [T5]
    simp only []
    rw [k1,if_neg dE,if_pos (show c61.kind=3∧acc ≠ [] from ⟨rfl,ha⟩),b8l h hn q2]
    simp only []
    rw [k7,if_pos (show Y6.kind=2 from rfl)]
    rfl
 intro o
 induction hs:o.size using Nat.strongRecOn generalizing o with
 | _ sz IH =>
 intro h
 cases o with
 | num n d=>exact atom _ h (by simp)
 | sy s=>exact atom _ h (by simp)
 | tx t=>exact atom _ h (by simp)
 | no=>exact h.elim
 | co a d =>
  have hsz:1+a.size+d.size=sz:=hs
  obtain ⟨a1,_⟩:=IH a.size oM a rfl h.1
  obtain ⟨_,d2⟩:=IH d.size oM d rfl h.2
  have tail:∀ i n e B acc,(T.drop i).map nt=((pN L cur a).1 ++ (pN L cur d).2.1) ++ B→2 * T.length+3≤n+2 * i→e+max (dO a).1 (dO d).2≤201→T5 L cur T n e i acc=.ok (T4 acc (.co a d),i+((pN L cur a).1 ++ (pN L cur d).2.1).length):=by
   intro i n e B acc hT hf hd
   rw [List.append_assoc] at hT
   have hk:∃ m N,(pN L cur a).1=m :: N∧m.kind ≠ 2∧m.kind ≠ 3:=by
    cases a with
    | co x y =>
     simp only [pN]
     split
     ·split
      ·exact ⟨_,_,rfl,dE,dE⟩
      ·exact ⟨_,_,rfl,dE,dE⟩
     ·exact ⟨_,_,rfl,dE,dE⟩
    | no=>exact h.1.elim
    | _ =>
     rw [c00 (by simp)]
     refine ⟨_,_,rfl,?_,?_⟩ <;> (have:=c1s (cur:=cur) h.1 (by simp);omega)
   obtain ⟨m0,N0,e0,k2,k3⟩:=hk
   have hT0:=hT
   rw [e0,List.cons_append] at hT0
   obtain ⟨q1,q2,q3⟩:=a2y hT0
   obtain ⟨k1,_⟩:=a2i q1
   obtain ⟨m,rfl⟩:=fuel (k:=1) q3 hf
   rw [T5]
   simp only []
   rw [k1,if_neg k2,if_neg (fun k=>k3 k.1),a1 i m e _ hT oM oM]
   simp only []
   have hne:1≤(pN L cur a).1.length:=by rw [e0];simp
   rw [d2 _ m e B (acc ++ [a]) (f1n hT) (by simp) oM oM,d66,List.length_append,Nat.add_assoc]
  refine ⟨?_,fun i n e B acc hT _ hf hd=>by
   have hT':(T.drop i).map nt=((pN L cur a).1 ++ (pN L cur d).2.1) ++ B:=hT
   exact tail i n e B acc hT' hf hd⟩
  intro i n e B hT hf hd
  have hd':e+(1+max (dO a).1 (dO d).2)≤201:=hd
  have plain:(T.drop i).map nt=(a8f :: ((pN L cur a).1 ++ (pN L cur d).2.1)) ++ B→O1 L cur T n e i=.ok (.co a d,i+(a8f :: ((pN L cur a).1 ++ (pN L cur d).2.1)).length):=by
   intro hT
   obtain ⟨q1,q2,q3⟩:=a2y hT
   obtain ⟨k1,_⟩:=a2i q1
   obtain ⟨m,rfl⟩:=fuel (k:=0) q3 hf
   rw [O1]
   simp only []
   have k1:(T.getD i t0).kind=1:=k1
   rw [k1,if_neg dE,if_neg dE,if_neg dE,if_neg dE,if_neg dE,if_neg oM,if_neg dE,tail (i+1) m (e+1) B [] q2 oM oM]
   simp only [T4,List.length_cons]
   congr 2;omega
  simp only [pN] at hT ⊢
  split at hT
  ·rename_i hq
   split at hT
   ·rename_i t ht
    rw [if_pos hq]
    obtain ⟨x,hx,rfl⟩:=d0k ht
    subst hx hq
    obtain ⟨q1,q2,q3⟩:=a2y hT
    obtain ⟨k1,_⟩:=a2i q1
    have k1:(T.getD i t0).kind=4:=k1
    obtain ⟨m,rfl⟩:=fuel (k:=0) q3 hf
    have hdx:(dO (O.co x B3)).2=(dO x).1:=by simp [dO,B3]
    rw [O1]
    simp only []
    rw [k1,if_neg dE,if_neg dE,if_neg dE,if_neg dE,if_neg dE,if_neg oM,if_pos rfl]
    have hxs:(O.co x B3).size=1+x.size+1:=rfl
    obtain ⟨x1,_⟩:=IH x.size oM x rfl h.2.1
    rw [hdx] at hd'
    rw [x1 (i+1) m (e+1) B q2 oM oM]
    simp only [F1,List.length_cons]
    congr 2;omega
   ·rename_i ht
    rw [if_pos hq]
    exact plain hT
  ·rename_i hq
   rw [if_neg hq]
   exact plain hT
theorem e3r {s:i6} {acc:List x5}:p8 s s.length acc=.ok (acc ++ [⟨0,s.length,[],[],[]⟩]):=by
 rw [a08 (Nat.le_refl _),c8f oM]
 simp only []
 rw [if_neg oM]
 rfl
def eT (w:i6):x5:=⟨0,w.length,[],[],[]⟩
theorem a5a {w:i6} {N:List NT} (h:T6 w N) (hl:w.length≤6000):∃ T:List x5,T.map nt=N∧C7 w=.ok (T ++ [eT w]):=by
 obtain ⟨T,h1,h2⟩:=h w 0 [] (by unfold At;simp) (.inl rfl)
 refine ⟨T,h1,?_⟩
 unfold C7
 rw [if_neg oM,h2,Nat.zero_add,e3r,List.nil_append];rfl
theorem f1z {L:List Pk} {cur:i6} (o:O) (h:okA L o):∃ m N,(pN L cur o).1=m :: N∧m.kind ≠ 0∧m.kind ≠ 2∧m.kind ≠ 3:=by
 cases o with
 | co x y =>
  simp only [pN]
  split
  ·split
   ·exact ⟨_,_,rfl,dE,dE,dE⟩
   ·exact ⟨_,_,rfl,dE,dE,dE⟩
  ·exact ⟨_,_,rfl,dE,dE,dE⟩
 | no=>exact h.elim
 | _ =>
  rw [c00 (by simp)]
  refine ⟨_,_,rfl,?_,?_,?_⟩ <;> (have:=c1s (cur:=cur) h (by simp);omega)
theorem f1t {L:List Pk} {cur:i6} {o:O} {w:i6} (h:okA L o) (hx:T6 w (pN L cur o).1) (hl:w.length≤6000) (hs:o.size≤3000) (hd:(dO o).1≤201):c7g L cur w=.ok o:=by
 obtain ⟨T,h1,h2⟩:=a5a hx hl
 obtain ⟨m0,N0,e0,z0,z2,z3⟩:=f1z (cur:=cur) o h
 have hlen:(pN L cur o).1.length=T.length:=by rw [← h1];simp
 have hT:((T ++ [eT w]).drop 0).map nt=(pN L cur o).1 ++ [(⟨0,[],[],[]⟩:NT)]:=by simp [h1,nt,eT]
 have hp:=(d7w (cur:=cur) (T:=T ++ [eT w]) o h).1 0 (2 * (T ++ [eT w]).length+2) 0 _ hT oM oM
 have hT0:=hT
 rw [e0,List.cons_append] at hT0
 obtain ⟨k1,_⟩:=a2i (a2y hT0).1
 have hr:M4 L cur w=.ok [(o,((T ++ [eT w]).getD 0 t0).pos)]:=by
  unfold M4
  rw [h2]
  simp only []
  rw [show (T ++ [eT w]).length+1=(T.length+1)+1 by simp,a17]
  rw [k1,if_neg z0,if_neg (by simp),hp]
  simp only []
  rw [if_neg oM,a17]
  have:(T ++ [eT w]).getD (0+(pN L cur o).1.length) t0=eT w:=by
   rw [hlen];simp [List.getD]
  rw [this,if_pos (show (eT w).kind=0 from rfl)]
  rfl
 unfold c7g
 rw [hr]
open Classical
def w9:O→Option (List O)
 | .co a d=>(w9 d).map (a :: ·)
 | .sy s=>if s=(x7,[110,105,108]) then some [] else none
 | _=>none
def D7 (o:O):Option O:=match w9 o with
 | some [q,x]=>if q=B0 then some x else none
 | _=>none
def Q0:List i6→List i6
 | []=>[]
 | [l]=>[l ++ [41]]
 | l :: r=>l :: Q0 r
def J8:List i6→List i6
 | []=>[]
 | l :: r=>(40 :: l) :: r.map (32 :: ·)
def D6 (L:List Pk) (cur:i6):Nat→O→Int→List i6
 | 0,_,_=>[]
 | n+1,o,w=>match w9 o with
  | some l=>if ((A4 L cur o).length:Int)≤w∨l.length < 2∨D7 o ≠ none then [A4 L cur o] else Q0 (J8 (l.flatMap fun x=>D6 L cur n x (w - 1)))
  | none=>[A4 L cur o]
inductive P0:List i6→List NT→Prop
 | nil:P0 [] []
 | cons {l:i6} {N:List NT} {ls:List i6} {M:List NT}:T6 l N→P0 ls M→P0 (l :: ls) (N ++ M)
theorem P0.app {a b:List i6} {M N:List NT} (h:P0 a M) (k:P0 b N):P0 (a ++ b) (M ++ N):=by
 induction h with
 | nil=>exact k
 | cons h1 _ ih=>rw [List.append_assoc];exact .cons h1 ih
theorem P0.blank {a:List i6} {M:List NT} (h:P0 a M):P0 (a.map (32 :: ·)) M:=by
 induction h with
 | nil=>exact .nil
 | cons h1 _ ih=>exact .cons (a8d h1) ih
theorem P0.open {a:List i6} {M:List NT} (h:P0 a M) (h0:a ≠ []):P0 (J8 a) (a8f :: M):=by
 cases h with
 | nil=>exact absurd rfl h0
 | cons h1 h2=>exact .cons (N:=a8f :: _) (b6a (fun s i r ha=>⟨_,rfl,fun acc=>c3n ha⟩) h1) h2.blank
theorem P0.close:∀ {a:List i6} {M:List NT},P0 a M→a ≠ []→P0 (Q0 a) (M ++ [Y6])
 | _,_,.nil,h0=>absurd rfl h0
 | _,_,.cons (ls:=[]) h1 .nil,_=>by
  rw [List.append_nil]
  have:=P0.cons (b0t h1 b2v ⟨by simp,.inr (.inr (.inl rfl))⟩) .nil
  rw [List.append_nil] at this;exact this
 | _,_,.cons (ls:=l :: ls) h1 h2,_=>by
  rw [List.append_assoc]
  exact .cons h1 (P0.close h2 (by simp))
theorem e0m {v:i6} {N:List NT} (hv:T6 v N):T6 (10 :: v) N :=
 a9v (u:=[10]) (M:=[]) (fun s i r ha _=>⟨[],rfl,fun acc=>by rw [d8z ha,List.append_nil];rfl⟩) hv
theorem e61:T6 [] []:=fun s i r _ _=>⟨[],rfl,fun acc=>by simp⟩
def C3 (l:List i6):i6:=l.flatMap (· ++ [10])
theorem P0.glue {a:List i6} {M:List NT} (h:P0 a M):T6 (C3 a) M:=by
 induction h with
 | nil=>exact e61
 | @cons l N ls M h1 _ ih =>
  have e:C3 (l :: ls)=l ++ 10 :: C3 ls:=by simp [C3]
  rw [e]
  exact b0t h1 (e0m ih) ⟨by simp,.inr (.inr (.inr rfl))⟩
theorem b6k {a:List i6} (h:a ≠ []):J8 a ≠ []:=by cases a with | nil=>exact absurd rfl h | cons l r=>simp [J8]
theorem d52:∀ {a:List i6},a ≠ []→Q0 a ≠ []
 | [],h=>absurd rfl h
 | [l],_=>by simp [Q0]
 | l :: m :: r,_=>by simp [Q0]
theorem b2s {o:O} (h:w9 o=some []):o=B3:=by
 cases o with
 | sy s=>simp only [w9] at h;split at h;· rename_i e;subst e;rfl
         ·cases h
 | co a d=>simp only [w9] at h;cases hd:w9 d with
  | none=>rw [hd] at h;cases h
  | some l=>rw [hd] at h;cases h
 | _=>cases h
theorem J7 {o a:O} {l:List O} (h:w9 o=some (a :: l)):∃ d,o=.co a d∧w9 d=some l:=by
 cases o with
 | co x d=>simp only [w9] at h;cases hd:w9 d with
  | none=>rw [hd] at h;cases h
  | some m=>rw [hd] at h;simp only [Option.map_some,Option.some.injEq,List.cons.injEq] at h;obtain ⟨rfl,rfl⟩:=h;exact ⟨d,rfl,hd⟩
 | sy s=>simp only [w9] at h;split at h <;> cases h
 | _=>cases h
theorem c7o {L:List Pk} {cur:i6}:∀ {l:List O} {o:O},w9 o=some l→(pN L cur o).2.1=(l.flatMap fun x=>(pN L cur x).1) ++ [Y6]
 | [],o,h=>by rw [b2s h];simp [pN,B3]
 | a :: l,o,h=>by
  obtain ⟨d,rfl,hd⟩:=J7 h
  simp only [pN,c7o hd,List.flatMap_cons,List.append_assoc]
theorem c2s {L:List Pk}:∀ {l:List O} {o:O},w9 o=some l→okA L o→∀ x ∈ l,okA L x
 | [],_,_,_,_,hx=>by cases hx
 | a :: l,o,h,hk,x,hx=>by
  obtain ⟨d,rfl,hd⟩:=J7 h
  rcases List.mem_cons.1 hx with rfl | hx
  ·exact hk.1
  ·exact c2s hd hk.2 x hx
theorem M6:∀ {l:List O} {o:O},w9 o=some l→∀ x ∈ l,x.size < o.size
 | [],_,_,_,hx=>by cases hx
 | a :: l,o,h,x,hx=>by
  obtain ⟨d,rfl,hd⟩:=J7 h
  simp only [O.size]
  rcases List.mem_cons.1 hx with rfl | hx
  ·have:=O.size_pos d;omega
  ·have:=M6 hd x hx;omega
theorem b6c {L:List Pk} {cur:i6}:∀ {n:Nat} {o:O} {w:Int},o.size≤n→D6 L cur n o w ≠ []
 | 0,o,_,h=>by have:=O.size_pos o;omega
 | n+1,o,w,h=>by
  rw [D6]
  split
  ·rename_i l hl
   split
   ·simp
   ·rename_i hc
    refine d52 (b6k ?_)
    cases l with
    | nil=>exact absurd (.inr (.inl (by simp))) hc
    | cons a l =>
     have:=M6 hl a (by simp)
     have:=b6c (L:=L) (cur:=cur) (o:=a) (w:=w - 1) (n:=n) oM
     simp only [List.flatMap_cons]
     intro e
     exact this (List.append_eq_nil_iff.1 e).1
  ·simp
theorem P0.one {l:i6} {N:List NT} (h:T6 l N):P0 [l] N:=by
 have:=P0.cons h .nil
 rw [List.append_nil] at this;exact this
theorem e29 {L:List Pk} {cur:i6} {a d:O} {l:List O} (h:w9 d=some l) (hs:D7 (.co a d)=none) (ha:a=B0):(pN L cur d).2.2=none:=by
 cases hd:(pN L cur d).2.2 with
 | none=>rfl
 | some N =>
  obtain ⟨x,rfl,_⟩:=d0k hd
  exfalso
  have:w9 (.co a (.co x B3))=some [a,x]:=by simp [w9,B3]
  unfold D7 at hs
  rw [this] at hs
  simp only [ha,if_true] at hs
  cases hs
theorem c2l {L:List Pk} {cur:i6} (hc:D2 L cur ≠ none):∀ {n:Nat} {o:O} {w:Int},o.size≤n→okA L o→P0 (D6 L cur n o w) (pN L cur o).1
 | 0,o,_,h,_=>by have:=O.size_pos o;omega
 | n+1,o,w,h,hk=>by
  have hone:P0 [A4 L cur o] (pN L cur o).1:=.one (d1n hc o hk).1
  rw [D6]
  split
  ·rename_i l hl
   split
   ·exact hone
   ·rename_i hcn
    have hs:D7 o=none:=by
     cases hs:D7 o with
     | none=>rfl
     | some x=>exact absurd (.inr (.inr (by rw [hs];simp))) hcn
    cases l with
    | nil=>exact absurd (.inr (.inl (by simp))) hcn
    | cons a l =>
     obtain ⟨d,rfl,hd⟩:=J7 hl
     have hall:∀ (m:List O),(∀ x ∈ m,x ∈ a :: l)→P0 (m.flatMap fun x=>D6 L cur n x (w - 1)) (m.flatMap fun x=>(pN L cur x).1):=by
      intro m
      induction m with
      | nil=>intro _;exact .nil
      | cons x m ih =>
       intro hm
       have hx:=hm x (by simp)
       have:=M6 hl x hx
       simp only [List.flatMap_cons]
       exact (c2l hc oM (c2s hl hk x hx)).app (ih fun y hy=>hm y (by simp [hy]))
     have hne:((a :: l).flatMap fun x=>D6 L cur n x (w - 1)) ≠ []:=by
      have:=M6 hl a (by simp)
      have:=b6c (L:=L) (cur:=cur) (o:=a) (w:=w - 1) (n:=n) oM
      simp only [List.flatMap_cons]
      intro e
      exact this (List.append_eq_nil_iff.1 e).1
     have h9:=((hall (a :: l) fun _ hx=>hx).open hne).close (b6k hne)
     have e:(pN L cur (.co a d)).1=a8f :: ((pN L cur a).1 ++ (pN L cur d).2.1):=by
      simp only [pN]
      by_cases ha:a=B0
      ·rw [if_pos ha,e29 hd hs ha]
      ·rw [if_neg ha]
     rw [e,c7o hd,← List.append_assoc]
     exact h9
  ·exact hone
theorem d33 {L:List Pk} {cur:i6} {o:O} {w:Int} (hc:D2 L cur ≠ none) (h:okA L o) (hl:(A4 L cur o).length≤6000) (hg:(C3 (D6 L cur o.size o w)).length≤6000) (hs:o.size≤3000) (hd:(dO o).1≤201) :
  c7g L cur (C3 (D6 L cur o.size o w))=.ok o∧∃ T T',C7 (A4 L cur o)=.ok T∧C7 (C3 (D6 L cur o.size o w))=.ok T'∧T.length=T'.length:=by
 have h1:=(c2l hc (w:=w) (Nat.le_refl _) h).glue
 obtain ⟨T,t1,t2⟩:=a5a (d1n hc o h).1 hl
 obtain ⟨T',t3,t4⟩:=a5a h1 hg
 refine ⟨f1t h h1 hg hs hd,_,_,t2,t4,?_⟩
 have:T.length=T'.length:=by rw [← List.length_map (f:=nt),t1,← t3,List.length_map]
 simp [this]
open Classical
def cT (t:x5):Nat:=2 * t.text.length+t.pkg.length+t.den.length+20
def OkT (t:x5):Prop:=(t.kind=5→∃ (n:Int) (d:Nat),t.text=j3 n∧t.den=i7 d∧0 < d∧Nat.gcd n.natAbs d=1∧(i7 n.natAbs).length≤100∧(i7 d).length≤100)∧(t.kind=7→t.text.length≤200)∧(t.kind=6→t.pkg=[]∨t6 t.pkg=true)
theorem a42 {k:Int} {p:Nat} (h5:k ≠ 5) (h7:k ≠ 7):OkT ⟨k,p,u7,u7,u7⟩:=⟨fun h=>absurd h h5,fun h=>absurd h h7,fun _=>.inl rfl⟩
theorem b8f {p a b:i6} {i:Nat} (h:p=[]∨t6 p=true):OkT ⟨6,i,p,a,b⟩:=⟨fun h=>absurd h (show ¬(6:Int)=5 by decide),fun h=>absurd h (show ¬(6:Int)=7 by decide),fun _=>h⟩
theorem f1q {p a b:i6} {i:Nat} (h:a.length≤200):OkT ⟨7,i,p,a,b⟩:=⟨fun h=>absurd h (show ¬(7:Int)=5 by decide),fun _=>h,fun h=>absurd h (show ¬(7:Int)=6 by decide)⟩
theorem e7f {p:i6} {i:Nat} {n:Int} {d:Nat} (h:0 < d∧Nat.gcd n.natAbs d=1∧(i7 n.natAbs).length≤100∧(i7 d).length≤100):OkT ⟨5,i,p,j3 n,i7 d⟩:=⟨fun _=>⟨n,d,rfl,rfl,h⟩,fun h=>absurd h (show ¬(5:Int)=7 by decide),fun h=>absurd h (show ¬(5:Int)=6 by decide)⟩
theorem sh1:i7 1=Q3:=by unfold i7;rw [if_neg dE,F4 dE,show 1 / 10=0 from rfl,y9];rfl
theorem sh0:j3 0=B5:=by unfold j3 i7;rfl
theorem d0x (s:i6) (e:Nat):∀ (k:Nat) (acc:List Nat),(y7 s e k acc).length=acc.length+(k - e)
 | 0,acc=>by simp [y7]
 | k+1,acc=>by
  rw [y7]
  split
  ·rw [d0x s e k];simp;omega
  ·omega
theorem d0v (s:i6):(j7 (j0 s).natAbs).length≤s.length:=by
 have h:=congrArg Prod.snd (b34 s)
 simp only [] at h
 rw [← h]
 unfold a1g
 split
 ·simp only [d0x,List.length_nil];omega
 ·simp
theorem c14 {m n:Nat} (h:m≤n):(j7 m).length≤(j7 n).length:=by
 by_cases h0:m=0
 ·subst h0;rw [y9];simp
 ·have h1:=a6m m h0
  have h2:=a3j (j7 n) (E5 n)
  rw [D8] at h2
  have h3:10 ^ ((j7 m).length - 1) < 10 ^ (j7 n).length:=oM
  have:=(Nat.pow_lt_pow_iff_right (by decide:1 < 10)).1 h3
  omega
theorem b1c (m:Nat):(i7 m).length≤max 1 (j7 m).length:=by
 by_cases h:m=0
 ·subst h;show 1≤_;omega
 ·rw [S5 m h];omega
theorem a8i (s:i6):(plain s).length≤max 1 s.length:=by
 unfold plain
 have h1:=Y1 s
 have h2:=b1n s (j6 s) h1.1
 simp only []
 split
 ·show 1≤_;omega
 ·split
  ·simp only [List.length_append,List.length_drop,List.length_take,List.length_cons,List.length_nil];omega
  ·simp only [List.length_drop,List.length_take];omega
theorem c9w (w:i6):(x9 w).1.length≤w.length∧(x9 w).2.1.length≤max 1 w.length:=by
 unfold x9
 simp only []
 repeat' split
 all_goals (simp only [u7,Q3,List.length_nil,List.length_cons,List.length_drop,List.length_take];omega)
theorem b24 (a b:i6):∃ (n:Int) (d:Nat),u4 a b=(j3 n,i7 d)∧0 < d∧Nat.gcd n.natAbs d=1∧(i7 n.natAbs).length≤max 1 a.length∧(i7 d).length≤max 1 b.length:=by
 unfold u4
 by_cases h0:j0 b=0
 ·rw [if_pos h0]
  exact ⟨0,1,by rw [sh0,sh1],dE,dE,by show 1≤_;omega,by rw [sh1];show 1≤_;omega⟩
 ·rw [if_neg h0]
  simp only []
  have hd:0 < (j0 b).natAbs:=oM
  have hg:0 < Nat.gcd (j0 a).natAbs (j0 b).natAbs:=Nat.gcd_pos_of_pos_right _ hd
  refine ⟨_,_,rfl,Nat.div_pos (Nat.le_of_dvd hd (Nat.gcd_dvd_right _ _)) hg,?_,?_,?_⟩
  ·have e:∀ x:Nat,(((if (j0 a < 0)=(j0 b < 0) then (1:Int) else -1) * ((x:Nat):Int))).natAbs=x:=by
    intro x;split <;> omega
   rw [e]
   rw [Nat.gcd_div (Nat.gcd_dvd_left _ _) (Nat.gcd_dvd_right _ _),Nat.div_self hg]
  ·have e:∀ x:Nat,(((if (j0 a < 0)=(j0 b < 0) then (1:Int) else -1) * ((x:Nat):Int))).natAbs=x:=by
    intro x;split <;> omega
   rw [e]
   have h1:=b1c ((j0 a).natAbs / Nat.gcd (j0 a).natAbs (j0 b).natAbs)
   have h2:=c14 (Nat.div_le_self (j0 a).natAbs (Nat.gcd (j0 a).natAbs (j0 b).natAbs))
   have h3:=d0v a
   omega
  ·have h1:=b1c ((j0 b).natAbs / Nat.gcd (j0 a).natAbs (j0 b).natAbs)
   have h2:=c14 (Nat.div_le_self (j0 b).natAbs (Nat.gcd (j0 a).natAbs (j0 b).natAbs))
   have h3:=d0v b
   omega
theorem a69 {s:i6} {c:Int} {i:Nat} {acc l:List Int} {j:Nat} (h:J5 s c i acc=.ok (l,j)):l.length+i+1≤acc.length+j:=by
 fun_induction J5 s c i acc with
 | case1 i acc h1 h2=>injection h with h;injection h with h3 h4;subst h3;omega
 | case2 i acc h1 h2 h3 ih=>have:=ih h;simp at this;omega
 | case3=>cases h
 | case4 i acc h1 h2 h3 h4 h5 ih=>have:=ih h;simp at this;omega
 | case5=>cases h
 | case6=>cases h
theorem a13 (l:List Int):(G3 l).length=l.length:=by simp [G3]
theorem b1q {t p:i6} {b:Bool} (h:u1 t p b=0):p=[]∨t6 p=true:=by
 unfold u1 at h
 split at h
 ·cases h
 ·split at h
  ·cases h
  ·rename_i hc
   by_cases hp:p=[]
   ·exact .inl hp
   ·right
    cases hv:t6 p with
    | true=>rfl
    | false=>exact absurd (.inr ⟨fun e=>hp (List.length_eq_zero_iff.1 e),hv⟩) hc
theorem c38 {i k:Nat} {w:i6} {t:x5} {k':Nat} (h:F6 i w k=.ok (t,k')) (h0:0 < w.length):OkT t∧cT t≤26 * w.length∧k'=k:=by
 unfold F6 at h
 have hn:=c9w w
 split at h
 ·injection h with h;injection h with h1 h2;subst h1 h2
  exact ⟨a42 dE dE,by simp [cT,u7];omega,rfl⟩
 ·split at h
  ·split at h
   ·cases h
   ·simp only [] at h
    split at h
    ·cases h
    ·rename_i hdg
     injection h with h;injection h with h1 h2;subst h1 h2
     have p1:=a8i (x9 w).1
     have p2:=a8i (x9 w).2.1
     obtain ⟨n,d,e,hd,hg,l1,l2⟩:=b24 (plain (x9 w).1) (plain (x9 w).2.1)
     rw [e] at hdg ⊢
     rw [a4e,a1j] at hdg
     refine ⟨e7f ⟨hd,hg,oM,oM⟩,?_,rfl⟩
     have l3:(j3 n).length≤1+(i7 n.natAbs).length:=by
      rw [I8,List.length_append]
      have:(LQ.sgn n).length≤1:=by unfold LQ.sgn;split <;> simp
      omega
     simp only [cT,u7,List.length_nil]
     omega
  ·split at h
   ·rename_i he
    injection h with h;injection h with h1 h2;subst h1 h2
    exact ⟨b8f (.inl rfl),by simp [cT,u7];omega,rfl⟩
   ·cases h
theorem c32 {s p:i6} {i k k':Nat} {t:x5} (h:L0 s i p k=.ok (t,k')) (hp:p.length+i≤k):OkT t∧cT t≤26 * (k' - i):=by
 unfold L0 at h
 split at h
 ·rename_i hl
  split at h
  ·split at h
   ·cases h
   ·rename_i l j he
    split at h
    ·rename_i hz
     injection h with h;injection h with h1 h2;subst h1 h2
     have:=a69 he
     simp only [List.length_nil] at this
     refine ⟨b8f (b1q hz),?_⟩
     simp only [cT,u7,List.length_nil,a13]
     omega
    ·cases h
  ·split at h
   ·rename_i hc
    simp only [] at h
    split at h
    ·rename_i hz
     injection h with h;injection h with h1 h2;subst h1 h2
     have hw:=I9 s (k+2) oM
     refine ⟨b8f (b1q hz),?_⟩
     simp only [cT,u7,List.length_nil,List.length_drop,List.length_take]
     omega
    ·cases h
   ·cases h
 ·cases h
theorem c8s {s:i6} {i k:Nat} {t:x5} (hi:i < s.length) (h:B7 s i=.ok (t,k)):OkT t∧cT t≤26 * (k - i):=by
 unfold B7 at h
 split at h
 ·injection h with h;injection h with h1 h2;subst h1 h2;exact ⟨a42 dE dE,by simp [cT,u7]⟩
 split at h
 ·injection h with h;injection h with h1 h2;subst h1 h2;exact ⟨a42 dE dE,by simp [cT,u7]⟩
 split at h
 ·injection h with h;injection h with h1 h2;subst h1 h2;exact ⟨a42 dE dE,by simp [cT,u7]⟩
 split at h
 ·split at h
  ·cases h
  ·rename_i l j he
   split at h
   ·cases h
   ·injection h with h;injection h with h1 h2;subst h1 h2
    have:=a69 he
    simp only [List.length_nil] at this
    exact ⟨f1q (by simp only [a13];omega),by simp only [cT,u7,List.length_nil,a13];omega⟩
 split at h
 ·split at h
  ·cases h
  ·rename_i l j he
   split at h
   ·injection h with h;injection h with h1 h2;subst h1 h2
    have:=a69 he
    simp only [List.length_nil] at this
    exact ⟨b8f (.inl rfl),by simp only [cT,u7,List.length_nil,a13];omega⟩
   ·cases h
 split at h
 ·rename_i hc
  have hw:=I9 s i oM
  have hw2:i < n5 s i:=by rw [n5,if_pos hi,if_pos hc];have:=I9 s (i+1) oM;omega
  have hl:((s.take (n5 s i)).drop i).length=n5 s i - i:=by simp;omega
  split at h
  ·exact c32 h (by rw [hl];omega)
  ·obtain ⟨h1,h2,h3⟩:=c38 h (by rw [hl];omega)
   subst h3
   rw [hl] at h2
   exact ⟨h1,h2⟩
 ·cases h
theorem a3d {s:i6}:∀ (m:Nat) {i:Nat} {acc T:List x5},s.length - i≤m→i≤s.length→p8 s i acc=.ok T→∃ T',T=acc ++ T'∧(∀ t ∈ T',OkT t)∧(T'.map cT).sum≤26 * (s.length - i)+20∧T'.length≤s.length - i+1
 | m,i,acc,T,hm,hi,h=>by
  rw [a08 hi] at h
  split at h
  ·cases h
  ·rename_i j hs
   have hj:=a38 hi hs
   split at h
   ·rename_i hlt
    split at h
    ·cases h
    ·rename_i t k ht
     have h1:=a49 hlt ht
     have h2:=c8s hlt ht
     cases m with
     | zero=>omega
     | succ m =>
      obtain ⟨T',e1,e2,e3,e4⟩:=a3d m oM h1.2 h
      refine ⟨t :: T',by rw [e1];simp,?_,?_,?_⟩
      ·intro x hx
       rcases List.mem_cons.1 hx with rfl | hx
       ·exact h2.1
       ·exact e2 x hx
      ·simp only [List.map_cons,List.sum_cons];omega
      ·simp only [List.length_cons];omega
   ·injection h with h
    refine ⟨[⟨0,s.length,u7,u7,u7⟩],h.symm,?_,by simp [cT,u7],by simp⟩
    intro t ht
    rw [List.mem_singleton.1 ht];exact a42 dE dE
theorem e59 (c:UInt8) (l:i6):(K7 c l).length≤2 * l.length:=by
 induction l with
 | nil=>simp [K7]
 | cons b l ih =>
  have e:K7 c (b :: l)=(if b=c∨b=92 then [92,b] else [b]) ++ K7 c l:=by simp [K7]
  rw [e,List.length_append]
  split <;> simp <;> omega
theorem b97 (c:UInt8) (l:i6):(H4 c l).length≤2 * l.length+2:=by rw [a7a];have:=e59 c l;omega
theorem b63 (w:i6) (q:Bool):(L2 w q).length≤2 * w.length+2:=by
 unfold L2;split
 ·exact b97 _ _
 ·omega
theorem b6d (L:List Pk) (cur:i6) (s:Sy):(O7 L cur s).1.length≤s.1.length+2 * s.2.length+4:=by
 have h1:=b63 s.2 false
 have h2:=b63 s.2 true
 unfold O7
 repeat' split
 all_goals simp
 all_goals omega
theorem c64 (n:Int) (d:Nat):(a0f n d).length≤(j3 n).length+(i7 d).length+1:=by
 unfold a0f
 split
 ·omega
 ·rw [List.length_append,List.length_cons];omega
structure g3w (L:List Pk) (cur:i6):Prop where
 home:∀ c n s,(c=cur∨t6 c=true)→B8 L c n=(s,0)→O5 L s=true∧named s=true∧s.1.length≤c.length+4
 cur4:cur.length≤4
 nilH:O5 L (x7,[110,105,108])=true
 quoteH:O5 L (x7,[113,117,111,116,101])=true
section
variable {L:List Pk} {cur:i6} {T:List x5}
theorem c8o (a d:O):(pT L cur (.co a d)).1.length≤(pT L cur (.co a d)).2.1.length:=by
 simp only [pT]
 split
 ·split
  ·rename_i t ht
   obtain ⟨x,hx⟩:∃ x,d=.co x B3∧t=(pT L cur x).1:=by
    cases d with
    | co x y =>
     simp only [pT] at ht
     split at ht
     ·rename_i hz;injection ht with ht;exact ⟨x,by rw [hz],ht.symm⟩
     ·cases ht
    | _=>cases ht
   obtain ⟨rfl,rfl⟩:=hx
   simp only [pT,List.length_cons,List.length_append]
   omega
  ·simp
 ·simp
theorem f8q (o:O):(dO o).2≤(dO o).1:=by cases o <;> simp [dO]
end
open Classical
structure b5q (T:List x5):Prop where
 len:T.length < 8000
 ok:∀ t ∈ T,OkT t
 last:∀ i,i+1=T.length→(T.getD i t0).kind=0
 pos:0 < T.length
 kinds:∀ t ∈ T,0≤t.kind∧t.kind≤7
theorem c8t {s:i6} {i k:Nat} {t:x5} (h:B7 s i=.ok (t,k)):1≤t.kind∧t.kind≤7:=by
 have fin:∀ {x:x5} {y:Nat},1≤x.kind∧x.kind≤7→(Except.ok (x,y):Except (Int × Nat) (x5 × Nat))=.ok (t,k)→1≤t.kind∧t.kind≤7:=by
  intro x y hx h;injection h with h;injection h with h1 h2;rw [← h1];exact hx
 unfold B7 at h
 repeat' split at h
 all_goals try (cases h;done)
 all_goals try exact fin (show (1:Int)≤6∧(6:Int)≤7 by decide) h
 all_goals try exact fin (show (1:Int)≤7∧(7:Int)≤7 by decide) h
 all_goals try exact fin (show (1:Int)≤1∧(1:Int)≤7 by decide) h
 all_goals try exact fin (show (1:Int)≤2∧(2:Int)≤7 by decide) h
 all_goals try exact fin (show (1:Int)≤4∧(4:Int)≤7 by decide) h
 ·unfold L0 at h
  simp only [] at h
  repeat' split at h
  all_goals try (cases h;done)
  all_goals exact fin (show (1:Int)≤6∧(6:Int)≤7 by decide) h
 ·unfold F6 at h
  simp only [] at h
  repeat' split at h
  all_goals try (cases h;done)
  all_goals first | exact fin (show (1:Int)≤3∧(3:Int)≤7 by decide) h | exact fin (show (1:Int)≤5∧(5:Int)≤7 by decide) h | exact fin (show (1:Int)≤6∧(6:Int)≤7 by decide) h
section
variable {L:List Pk} {cur:i6} {T:List x5}
theorem c0f {i:Nat} (h:(T.getD i t0).kind ≠ 0):i < T.length:=by
 by_cases hi:i < T.length
 ·exact hi
 ·exfalso;apply h
  have:T.getD i t0=t0:=by simp [List.getD,List.getElem?_eq_none (by omega:T.length≤i)]
  rw [this];rfl
theorem c7d:∀ n:Nat,(∀ d i o j,O1 L cur T n d i=.ok (o,j)→i < j∧(T.getD (j - 1) t0).kind ≠ 0)∧(∀ d i acc o j,T5 L cur T n d i acc=.ok (o,j)→i < j∧(T.getD (j - 1) t0).kind ≠ 0):=by
 intro n
 induction n with
 | zero=>exact ⟨fun d i o j h=>(by rw [O1] at h;cases h),fun d i acc o j h=>(by rw [T5] at h;cases h)⟩
 | succ n ih =>
  obtain ⟨ih1,ih2⟩:=ih
  constructor
  ·intro d i o j h
   rw [O1] at h
   simp only [] at h
   split at h
   ·cases h
   rename_i k0
   split at h
   ·cases h
   split at h
   ·injection h with h;injection h with h1 h2;subst h2;exact ⟨oM,k0⟩
   split at h
   ·injection h with h;injection h with h1 h2;subst h2;exact ⟨oM,k0⟩
   split at h
   ·generalize (if (T.getD i t0).pkg=[] then cur else (T.getD i t0).pkg)=c at h
    split at h
    ·injection h with h;injection h with h1 h2;subst h2;exact ⟨oM,k0⟩
    ·cases h
   split at h
   ·cases h
   split at h
   ·split at h
    ·cases h
    ·rename_i x j' hx
     injection h with h;injection h with h1 h2;subst h2
     have:=ih1 _ _ _ _ hx
     exact ⟨oM,this.2⟩
   ·have:=ih2 _ _ _ _ _ h
    exact ⟨oM,this.2⟩
  ·intro d i acc o j h
   rw [T5] at h
   simp only [] at h
   split at h
   ·rename_i k2
    injection h with h;injection h with h1 h2;subst h2
    exact ⟨oM,by show (T.getD i t0).kind ≠ 0;rw [k2];decide⟩
   split at h
   ·split at h
    ·cases h
    ·rename_i x j' hx
     split at h
     ·rename_i k2
      injection h with h;injection h with h1 h2;subst h2
      have:=ih1 _ _ _ _ hx
      exact ⟨oM,by show (T.getD j' t0).kind ≠ 0;rw [k2];decide⟩
     ·split at h <;> cases h
   ·split at h
    ·cases h
    ·rename_i x j' hx
     have h1:=ih1 _ _ _ _ hx
     have:=ih2 _ _ _ _ _ h
     exact ⟨oM,this.2⟩
theorem b2m:∀ n:Nat,(∀ m d i,n≤m→i≤T.length→2 * T.length+2≤n+2 * i→O1 L cur T m d i=O1 L cur T n d i)∧(∀ m d i acc,n≤m→i≤T.length→2 * T.length+3≤n+2 * i→T5 L cur T m d i acc=T5 L cur T n d i acc):=by
 have end0:∀ {n d i},T.length≤i→O1 L cur T (n+1) d i=.error (11,0):=by
  intro n d i h
  have e:T.getD i t0=t0:=by simp [List.getD,List.getElem?_eq_none h]
  rw [O1];simp only [];rw [e,if_pos (show t0.kind=0 from rfl)];rfl
 intro n
 induction n with
 | zero=>exact ⟨fun m d i _ h1 h2=>by omega,fun m d i acc _ h1 h2=>by omega⟩
 | succ n ih =>
  obtain ⟨ih1,ih2⟩:=ih
  constructor
  ·intro m d i hm hl hf
   obtain ⟨m,rfl⟩:∃ k,m=k+1:=⟨m - 1,oM⟩
   by_cases hi:i < T.length
   ·rw [O1,O1]
    simp only []
    rw [ih1 m (d+1) (i+1) oM oM oM,ih2 m (d+1) (i+1) [] oM oM oM]
   ·rw [end0 oM,end0 oM]
  ·intro m d i acc hm hl hf
   obtain ⟨m,rfl⟩:∃ k,m=k+1:=⟨m - 1,oM⟩
   rw [T5,T5]
   simp only []
   by_cases hi:i < T.length
   ·rw [ih1 m d (i+1) oM oM oM,ih1 m d i oM oM oM]
    cases ho:O1 L cur T n d i with
    | error e=>rfl
    | ok p =>
     obtain ⟨x,j⟩:=p
     have hj:=(c7d n).1 _ _ _ _ ho
     have hj2:=c0f hj.2
     simp only []
     rw [ih2 m d j _ oM oM oM]
   ·have e:T.getD i t0=t0:=by simp [List.getD,List.getElem?_eq_none (by omega:T.length≤i)]
    rw [e]
    obtain ⟨n,rfl⟩:∃ k,n=k+1:=⟨n - 1,oM⟩
    obtain ⟨m,rfl⟩:∃ k,m=k+1:=⟨m - 1,oM⟩
    have e2:¬(t0.kind=3∧acc ≠ []):=fun h=>absurd h.1 dE
    rw [if_neg e2,if_neg e2,end0 (n:=m) oM,end0 (n:=n) oM]
def F9 (L:List Pk) (cur:i6) (T:List x5) (d i:Nat):Except (Int × Nat) (O × Nat):=O1 L cur T (2 * T.length+2) d i
def Q6 (L:List Pk) (cur:i6) (T:List x5) (d i:Nat) (acc:List O):Except (Int × Nat) (O × Nat):=T5 L cur T (2 * T.length+3) d i acc
theorem d1x {d i:Nat} (hi:i < T.length):F9 L cur T d i =
  if (T.getD i t0).kind=0 then .error (11,(T.getD i t0).pos)
  else if (T.getD i t0).kind=2∨(T.getD i t0).kind=3 then .error (12,(T.getD i t0).pos)
  else if (T.getD i t0).kind=5 then .ok (c1i (T.getD i t0),i+1)
  else if (T.getD i t0).kind=7 then .ok (.tx (T.getD i t0).text,i+1)
  else if (T.getD i t0).kind=6 then
   (if (B8 L (if (T.getD i t0).pkg=[] then cur else (T.getD i t0).pkg) (T.getD i t0).text).2=0 then .ok (.sy (B8 L (if (T.getD i t0).pkg=[] then cur else (T.getD i t0).pkg) (T.getD i t0).text).1,i+1) else .error ((B8 L (if (T.getD i t0).pkg=[] then cur else (T.getD i t0).pkg) (T.getD i t0).text).2,(T.getD i t0).pos))
  else if 200 < d then .error (2,(T.getD i t0).pos)
  else if (T.getD i t0).kind=4 then
   match F9 L cur T (d+1) (i+1) with
   | .error e=>.error e
   | .ok (x,j)=>.ok (F1 [B0,x],j)
  else Q6 L cur T (d+1) (i+1) []:=by
 have h1:F9 L cur T (d+1) (i+1)=O1 L cur T (2 * T.length+1) (d+1) (i+1):=(b2m _).1 _ _ _ oM oM oM
 have h2:Q6 L cur T (d+1) (i+1) []=T5 L cur T (2 * T.length+1) (d+1) (i+1) []:=(b2m _).2 _ _ _ _ oM oM oM
 rw [h1,h2]
 exact O1.eq_2 L cur T d i _
theorem e0p {d i:Nat} {acc:List O} (hi:i < T.length):Q6 L cur T d i acc =
  if (T.getD i t0).kind=2 then .ok (T4 acc B3,i+1)
  else if (T.getD i t0).kind=3∧acc ≠ [] then
   match F9 L cur T d (i+1) with
   | .error e=>.error e
   | .ok (x,j) =>
    if (T.getD j t0).kind=2 then .ok (T4 acc x,j+1)
    else if (T.getD j t0).kind=0 then .error (11,(T.getD j t0).pos)
    else .error (12,(T.getD j t0).pos)
  else
   match F9 L cur T d i with
   | .error e=>.error e
   | .ok (x,j)=>Q6 L cur T d j (acc ++ [x]):=by
 have h1:O1 L cur T (2 * T.length+2) d (i+1)=F9 L cur T d (i+1):=rfl
 have h3:O1 L cur T (2 * T.length+2) d i=F9 L cur T d i:=rfl
 unfold Q6
 rw [T5]
 simp only []
 rw [h1,h3]
 cases ho:F9 L cur T d i with
 | error e=>rfl
 | ok p =>
  obtain ⟨x,j⟩:=p
  have hj:=(c7d _).1 _ _ _ _ ho
  have hj2:=c0f hj.2
  simp only []
  rw [(b2m (2 * T.length+2)).2 (2 * T.length+3) d j _ oM oM oM]
  first | done | rfl
theorem c0v (hT:b5q T) {d i j:Nat} {o:O} (h:F9 L cur T d i=.ok (o,j)):i < j∧j < T.length:=by
 have h1:=(c7d _).1 _ _ _ _ h
 have h2:=c0f h1.2
 refine ⟨h1.1,?_⟩
 rcases Nat.lt_or_ge j T.length with h3 | h3
 ·exact h3
 ·exact absurd (hT.last (j - 1) oM) h1.2
end
theorem d81 {s:i6} {T:List x5} (h:C7 s=.ok T):b5q T:=by
 unfold C7 at h
 split at h
 ·cases h
 ·have key:∀ (m:Nat) {i:Nat} {acc T:List x5},s.length - i≤m→i≤s.length→p8 s i acc=.ok T→∃ T',T=acc ++ T' ++ [⟨0,s.length,u7,u7,u7⟩]∧∀ t ∈ T',0≤t.kind∧t.kind≤7:=by
   intro m
   induction m with
   | zero =>
    intro i acc T hm hi h
    rw [a08 hi] at h
    split at h
    ·cases h
    ·rename_i j hs
     have hj:=a38 hi hs
     rw [if_neg oM] at h
     injection h with h
     exact ⟨[],by rw [← h];simp,by simp⟩
   | succ m ih =>
    intro i acc T hm hi h
    rw [a08 hi] at h
    split at h
    ·cases h
    ·rename_i j hs
     have hj:=a38 hi hs
     split at h
     ·rename_i hlt
      split at h
      ·cases h
      ·rename_i t k ht
       have h1:=a49 hlt ht
       have h2:=c8t ht
       obtain ⟨T',e,hk⟩:=ih oM h1.2 h
       refine ⟨t :: T',by rw [e];simp,fun x hx=>?_⟩
       rcases List.mem_cons.1 hx with rfl | hx
       ·omega
       ·exact hk x hx
     ·injection h with h
      exact ⟨[],by rw [← h];simp,by simp⟩
  obtain ⟨T1,e1,e2,e3,e4⟩:=a3d _ (Nat.le_refl _) (Nat.zero_le _) h
  obtain ⟨T',e,hk⟩:=key _ (Nat.le_refl _) (Nat.zero_le _) h
  rw [List.nil_append] at e1 e
  subst e1
  refine ⟨oM,e2,fun i hi=>?_,by rw [e];simp,fun x hx=>?_⟩
  ·rw [e] at hi ⊢
   have:i=T'.length:=by simp at hi;omega
   subst this
   simp [List.getD]
  ·rw [e] at hx
   rcases List.mem_append.1 hx with hx | hx
   ·exact hk x hx
   ·rw [List.mem_singleton.1 hx];show (0:Int)≤0∧(0:Int)≤7;decide
end
end Go.Proofs.YtdldcfllnohkeaaGreatDoor
