/- A tree as a value that lies in memory, and as what is known of it. -/
import Derived.ChangeArms
import GoSem.ClaimJoined
import Derived.Test.YtffaodopiifbkaaGreatDoorCJ0
set_option linter.all false
namespace Go.Proofs.YtffaodopiifbkaaGreatDoor
open Go.Abs LQ
set_option maxRecDepth 100000
set_option maxHeartbeats 4000000
noncomputable section
def a87 (f:Nat→Q):Nat→Nat→Nat→j9 Q
 | 0,_,_=>.nil
 | d+1,a,b=>.node (f a) (a87 f d (a+b) (2 * b)) (a87 f d (a+2 * b) (2 * b))
theorem a86 (f:Nat→Q):∀ (d a b i:Nat),i+2≤2 ^ d→(a87 f d a b).get i=some (f (a+b * i))
 | 0,_,_,i,h=>by simp at h
 | d+1,a,b,0,h=>by rw [a87,j9.get_zero,Nat.mul_zero,Nat.add_zero]
 | d+1,a,b,j+1,h=>by
  rw [Nat.pow_succ] at h
  have hj:j / 2+2≤2 ^ d:=oM
  rw [a87,j9.get_succ]
  rcases Nat.mod_two_eq_zero_or_one j with h0 | h0
  ·obtain ⟨m,rfl⟩:∃ m,j=2 * m:=⟨j / 2,oM⟩
   rw [h0]
   show (a87 f d (a+b) (2 * b)).get (2 * m / 2)=_
   rw [a86 f d _ _ _ hj,show 2 * m / 2=m by omega]
   congr 2
   rw [Nat.mul_add,Nat.mul_one,← Nat.mul_assoc,Nat.mul_comm b 2]
   omega
  ·obtain ⟨m,rfl⟩:∃ m,j=2 * m+1:=⟨j / 2,oM⟩
   rw [h0]
   show (a87 f d (a+2 * b) (2 * b)).get ((2 * m+1) / 2)=_
   rw [a86 f d _ _ _ hj,show (2 * m+1) / 2=m by omega]
   congr 2
   rw [show 2 * m+1+1=2 * m+2 by omega,Nat.mul_add,← Nat.mul_assoc,Nat.mul_comm b 2]
   omega
def b8j (rows:List (List Q)):j9 Q:=a87 (fun i=>.agg (rows.getD i []) 0) 48 0 1
theorem c2h {rows:List (List Q)} {i:Nat} (h:i < 140737488355328):(b8j rows).get i=some (.agg (rows.getD i []) 0):=by
 unfold b8j
 rw [a86 _ 48 0 1 i oM,Nat.zero_add,Nat.one_mul]
theorem f6o {rows:List (List Q)} {i:Nat} (h:i < 140737488355328):tQ (b8j rows) i=.agg (rows.getD i []) 0:=by
 unfold tQ
 rw [c2h h]
mutual
/-- A tree's cells. -/
def qc:Raw→List Q
 | .mk k n s l=>[.int .i64 k,.int .i64 n,.str s.length (m8 s),.slice (b8j (qs l)) 4 0 l.length]
def qs:List Raw→List (List Q)
 | []=>[]
 | x :: xs=>qc x :: qs xs
end
theorem d9u:∀ l:List Raw,qs l=l.map qc
 | []=>rfl
 | x :: xs=>by rw [qs,d9u xs];rfl
theorem e4x (r:Raw):(qc r).length=4:=by cases r;rfl
mutual
/-- No list is longer than memory. -/
def d8b:Raw→Prop
 | .mk _ _ _ l=>l.length < 140737488355328∧c1g l
def c1g:List Raw→Prop
 | []=>True
 | x :: xs=>d8b x∧c1g xs
end
theorem d3s:∀ {l:List Raw},c1g l↔∀ x ∈ l,d8b x
 | []=>⟨fun _ x h=>absurd h (by simp),fun _=>trivial⟩
 | y :: l=>by
  show d8b y∧c1g l↔_
  rw [d3s]
  simp
def dc (r:Raw):List D:=(qc r).map fun q=>den q 0
theorem c3w {cs:List Q}:∀ {n i:Nat},i+n=cs.length→s9 (den (.agg cs 0)) i n=(cs.drop i).map fun q=>den q 0
 | 0,i,h=>by rw [List.drop_of_length_le oM];rfl
 | n+1,i,h=>by
  have hi:i < cs.length:=oM
  rw [s9,c3w oM,List.drop_eq_getElem_cons hi,List.map_cons]
  congr 1
  simp only [den]
  rw [Nat.zero_add,b8g,List.getElem?_eq_getElem hi]
  rfl
theorem f1k (r:Raw):s9 (den (.agg (qc r) 0)) 0 4=dc r:=by
 rw [c3w (by rw [e4x])]
 rfl
theorem f3n {l:List Raw} {k m:Nat} (h:k+(m+1)=l.length) (hl:l.length < 140737488355328):rows (x3 (b8j (qs l))) 4 k (m+1)=dc (l[k]'oM) ++ rows (x3 (b8j (qs l))) 4 (k+1) m:=by
 have hk:k < l.length:=oM
 rw [rows,V0,c2h oM,d9u,show (l.map qc).getD k []=qc l[k] by simp [List.getD,List.getElem?_eq_getElem hk]]
 show s9 (den (.agg (qc l[k]) 0)) 0 4 ++ _=_
 rw [f1k]
variable {H:Type} {enc:TypeId × Value→H} {w:World} {sp:Nat→Bool} {held:Bool}
def b7m (w:World):o8:=fun b _=>b < w.heap.size
def okW (t:TypeId) (d:DataW H):Prop:=(d.weights Tryz.prog t).all (·≤reachBytes)=true
theorem f5j:Tryz.prog.cellsOf 62=4:=kR
theorem f5w:Tryz.prog.bytesOf 62=56:=kR
theorem d8d:Tryz.prog.cellsOf 3=1:=kR
theorem f59:Tryz.prog.cellsOf 9=1:=kR
theorem f6j:Tryz.prog.cellsOf 60=1:=kR
theorem e2v {a:Addr} {v:Value} (h:w.cell? a=some v):a.block < w.heap.size:=by
 unfold World.cell? at h
 cases e:w.heap[a.block]? with
 | none=>rw [e] at h;cases h
 | some o=>exact (Array.getElem?_eq_some_iff.1 e).1
theorem d3r {a:Addr} {v:Value} (h:w.cell? a=some v):a.spot=none:=by
 unfold World.cell? at h
 split at h
 ·split at h
  ·cases h
  ·rename_i hs
   cases e:a.spot with
   | none=>rfl
   | some x=>rw [e] at hs;exact absurd rfl hs
 ·cases h
theorem d42 {b o n:Nat}:(⟨b,o,none⟩:Addr).add n=⟨b,o+n,none⟩:=by
 unfold Addr.add
 split
 ·rename_i h;rw [h];rfl
 ·rfl
def a0c (w:World) (b:Nat):Nat→Nat→List Value
 | _,0=>[]
 | o,n+1=>(w.cell? ⟨b,o,none⟩).getD .nilIface :: a0c w b (o+1) n
variable {H:Type} {enc:TypeId × Value→H} {w:World} {sp:Nat→Bool} {held:Bool}
theorem d8c:Tryz.prog.bytesOf 3=8:=kR
theorem d57 {a:Addr} {cs:List Value} (h:w.cells? 0 a 1=some cs):∃ c0,cs=[c0]∧w.cell? a=some c0:=by
 unfold World.cells? at h
 rw [if_pos (Nat.zero_le _),show List.range 1=[0] from rfl] at h
 simp only [List.mapM_cons,List.mapM_nil,Option.bind_eq_bind,Option.bind_eq_some_iff,Option.pure_def,Option.some.injEq] at h
 obtain ⟨c0,h0,l0,rfl,rfl⟩:=h
 exact ⟨c0,rfl,h0⟩
theorem c8m {P:Nat→Int→Prop} {n:Nat} (h:∀ i,i < n→∃ r,P i r):∃ l:List Int,∃ hl:l.length=n,∀ i (hi:i < n),P i (l[i]'oM):=by
 induction n with
 | zero=>exact ⟨[],rfl,fun i hi=>absurd hi (Nat.not_lt_zero _)⟩
 | succ n ih =>
  obtain ⟨l,hl,k⟩:=ih fun i hi=>h i oM
  obtain ⟨r,hr⟩:=h n oM
  refine ⟨l ++ [r],by simp [hl],fun i hi=>?_⟩
  by_cases hin:i < n
  ·rw [List.getElem_append_left oM];exact k i hin
  ·have:i=n:=oM
   subst this
   rw [List.getElem_append_right oM]
   simpa [hl] using hr
theorem e3s {n:Nat} {cs:List Value} {x:DataW H × List MemPlace} (h:DataW.trod enc Tryz.prog w 0 sp held (n+1) 22 cs=some x) (hw:okW 22 x.1) :
  ∃ v,∃ l:List Int,cs=[v]∧l.length < 140737488355328∧Rd (b7m w) B5 w v (.slice l.length (l.map fun n=>D.int .i64 n) .no):=by
 rcases DataW.trod_slice Tryz.underlying22 h with ⟨rfl,hx⟩ | ⟨a,len,cap,elems,rest,n',e1,rfl,hx,_,hlc,hcap,hel,hget,_,_⟩
 ·exact ⟨_,[],rfl,dE,.slice none 0 0 [] [] .no (.inl rfl) .nil trivial (Nat.le_refl _) (fun _=>rfl)⟩
 ·rw [hx] at hw
  unfold okW at hw
  simp only [DataW.weights,Tryz.underlying22,d8c,List.all_cons,List.all_append,Bool.and_eq_true,decide_eq_true_eq,List.length_map] at hw
  obtain ⟨hw1,_⟩:=hw
  have hlen:len < 140737488355328:=by
   have:reachBytes=140737488351232:=rfl
   omega
  have key:∀ i,i < len→∃ r:Int,w.cell? (a.add i)=some (.int .i64 r):=fun i hi=>by
   have hg:=hget i hi
   rw [List.getElem?_eq_getElem oM,d8d,Option.bind_eq_some_iff] at hg
   obtain ⟨cs,h1,h2⟩:=hg
   obtain ⟨c0,rfl,h3⟩:=d57 h1
   obtain ⟨k,e0,_,_⟩:=DataW.trod_int Tryz.underlying3 h2
   injection e0 with e0
   subst e0
   rw [Nat.mul_one] at h3
   exact ⟨k,h3⟩
  obtain ⟨l,hl,hP⟩:=c8m key
  by_cases h0:len=0
  ·have:l=[]:=List.eq_nil_of_length_eq_zero oM
   subst this
   subst h0
   exact ⟨_,[],rfl,dE,.slice (some a) 0 cap [] [] .no (.inl rfl) .nil trivial hlc (fun h=>by cases h)⟩
  ·have ha:a=⟨a.block,a.off,none⟩:=by
    have h2:=hP 0 oM
    have hs:=d3r h2
    have e:a.add 0=a:=if_pos rfl
    rw [e] at hs
    cases a
    simp only at hs
    rw [hs]
   generalize a.block=b at ha
   generalize a.off=o at ha
   subst ha
   refine ⟨_,l,rfl,oM,?_⟩
   have hr:u7 (b7m w) B5 w (l.map fun n=>Value.int .i64 n) (l.map fun n=>D.int .i64 n):=by
    clear hP hl
    induction l with
    | nil=>exact .nil
    | cons n l ih=>exact .k (.int _ _) ih
   rw [hl]
   refine .slice (some ⟨b,o,none⟩) len cap _ _ .no (.inr ⟨b,o,rfl,fun i v hi=>?_⟩) hr trivial hlc (fun h=>by cases h)
   rw [List.getElem?_map] at hi
   cases hg:l[i]? with
   | none=>rw [hg] at hi;cases hi
   | some m =>
    rw [hg] at hi
    injection hi with hi
    subst hi
    have hil:i < l.length:=(List.getElem?_eq_some_iff.1 hg).1
    have hc:=hP i oM
    rw [List.getElem?_eq_getElem hil] at hg
    injection hg with hg
    rw [hg,d42] at hc
    exact ⟨e2v hc,hc⟩
def b1j (l:List Int):j9 Q:=a87 (fun i=>.int .i64 (l.getD i 0)) 48 0 1
theorem e0s {l:List Int} {i:Nat} (h:i < 140737488355328):tQ (b1j l) i=.int .i64 (l.getD i 0):=by
 unfold tQ b1j
 rw [a86 _ 48 0 1 i oM,Nat.zero_add,Nat.one_mul]
theorem d8e {l:List Int} (h:l.length < 140737488355328):p5 1 (l.map Q5) (b1j l) 0:=.of fun j r e=>by
 rw [List.getElem?_map] at e
 cases hj:l[j]? with
 | none=>rw [hj] at e;cases e
 | some x =>
  rw [hj] at e
  injection e with e
  subst e
  have hlt:j < l.length:=(List.getElem?_eq_some_iff.1 hj).1
  rw [Nat.zero_add,e0s oM]
  rw [show l.getD j 0=x by simp [List.getD,hj]]
  exact ⟨rfl,.k (.i _ _) (.nil _ _),fun g h=>by injection h with h _;subst h;exact .i _ _⟩
theorem c3o:∀ l:List Int,Z5 (l.map Q5)=l.map fun n=>D.int .i64 n
 | []=>by simp [Z5]
 | n :: l=>by rw [List.map_cons,b3z,c3o l];simp [Q5,dG]
theorem d4o {v:Value} {d:DataW H} {p:List MemPlace} (hv:Value.okWide Tryz.prog w .any 0 22 v∨True) (hc:v.cells.toList=[v]) (h:DataW.Trod enc Tryz.prog w 0 (fun _=>true) true 22 v d p) (hw:okW 22 d) :
  ∃ l:List Int,RV (.sl 1 (l.map Q5)) (.slice (b1j l) 1 0 l.length .no)∧Rd (b7m w) B5 w v (toD (.slice (b1j l) 1 0 l.length .no)):=by
 obtain ⟨fuel,h⟩:=h
 rw [hc] at h
 cases fuel with
 | zero=>simp [DataW.trod] at h
 | succ n =>
  obtain ⟨v',l,e,hl,hr⟩:=e3s (n:=n) h hw
  injection e with e
  subst e
  have hrv:RV (.sl 1 (l.map Q5)) (.slice (b1j l) 1 0 l.length .no):=.sl _ _ _ _ _ (by simp) (d8e hl)
  refine ⟨l,hrv,?_⟩
  rw [hrv.toD]
  simp only [dV,c3o,List.length_map]
  exact hr
end
end Go.Proofs.YtffaodopiifbkaaGreatDoor
