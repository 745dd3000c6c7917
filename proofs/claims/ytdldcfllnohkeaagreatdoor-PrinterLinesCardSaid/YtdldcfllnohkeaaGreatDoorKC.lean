/- A tree as a value that lies in memory, and as what is known of it. -/
import Derived.ChangeArms
import GoSem.ClaimJoined
import Derived.Test.YtdldcfllnohkeaaGreatDoorKJ0
set_option linter.all false
namespace Go.Proofs.YtdldcfllnohkeaaGreatDoor
open Go.Abs LQ
set_option maxRecDepth 100000
set_option maxHeartbeats 4000000
noncomputable section
def a5v (f:Nat→Q):Nat→Nat→Nat→i7 Q
 | 0,_,_=>.nil
 | d+1,a,b=>.node (f a) (a5v f d (a+b) (2 * b)) (a5v f d (a+2 * b) (2 * b))
theorem a5w (f:Nat→Q):∀ (d a b i:Nat),i+2≤2 ^ d→(a5v f d a b).get i=some (f (a+b * i))
 | 0,_,_,i,h=>by simp at h
 | d+1,a,b,0,h=>by rw [a5v,i7.get_zero,Nat.mul_zero,Nat.add_zero]
 | d+1,a,b,j+1,h=>by
  rw [Nat.pow_succ] at h
  have hj:j / 2+2≤2 ^ d:=oM
  rw [a5v,i7.get_succ]
  rcases Nat.mod_two_eq_zero_or_one j with h0 | h0
  ·obtain ⟨m,rfl⟩:∃ m,j=2 * m:=⟨j / 2,oM⟩
   rw [h0]
   show (a5v f d (a+b) (2 * b)).get (2 * m / 2)=_
   rw [a5w f d _ _ _ hj,show 2 * m / 2=m by omega]
   congr 2
   rw [Nat.mul_add,Nat.mul_one,← Nat.mul_assoc,Nat.mul_comm b 2]
   omega
  ·obtain ⟨m,rfl⟩:∃ m,j=2 * m+1:=⟨j / 2,oM⟩
   rw [h0]
   show (a5v f d (a+2 * b) (2 * b)).get ((2 * m+1) / 2)=_
   rw [a5w f d _ _ _ hj,show (2 * m+1) / 2=m by omega]
   congr 2
   rw [show 2 * m+1+1=2 * m+2 by omega,Nat.mul_add,← Nat.mul_assoc,Nat.mul_comm b 2]
   omega
def a5x (rows:List (List Q)):i7 Q:=a5v (fun i=>.agg (rows.getD i []) 0) 48 0 1
theorem c5o {rows:List (List Q)} {i:Nat} (h:i < 140737488355328):(a5x rows).get i=some (.agg (rows.getD i []) 0):=by
 unfold a5x
 rw [a5w _ 48 0 1 i oM,Nat.zero_add,Nat.one_mul]
theorem e6a {rows:List (List Q)} {i:Nat} (h:i < 140737488355328):tQ (a5x rows) i=.agg (rows.getD i []) 0:=by
 unfold tQ
 rw [c5o h]
mutual
/-- A tree's cells. -/
def qc:Raw→List Q
 | .mk k n s l=>[.int .i64 k,.int .i64 n,.str s.length (j9 s),.slice (a5x (qs l)) 4 0 l.length]
def qs:List Raw→List (List Q)
 | []=>[]
 | x :: xs=>qc x :: qs xs
end
theorem d1j:∀ l:List Raw,qs l=l.map qc
 | []=>rfl
 | x :: xs=>by rw [qs,d1j xs];rfl
theorem e8h (r:Raw):(qc r).length=4:=by cases r;rfl
mutual
/-- No list is longer than memory. -/
def b16:Raw→Prop
 | .mk _ _ _ l=>l.length < 140737488355328∧a94 l
def a94:List Raw→Prop
 | []=>True
 | x :: xs=>b16 x∧a94 xs
end
theorem c0x:∀ {l:List Raw},a94 l↔∀ x ∈ l,b16 x
 | []=>⟨fun _ x h=>absurd h (by simp),fun _=>trivial⟩
 | y :: l=>by
  show b16 y∧a94 l↔_
  rw [c0x]
  simp
theorem d45 {l:List Raw} (h:l.length < 140737488355328) (hx:∀ x ∈ l,a3m x.g (qc x)):m7 4 (l.map Raw.g) (a5x (qs l)) 0:=.of fun j r e=>by
 rw [List.getElem?_map] at e
 cases hj:l[j]? with
 | none=>rw [hj] at e;cases e
 | some x =>
  rw [hj] at e
  injection e with e
  subst e
  have hlt:j < l.length:=(List.getElem?_eq_some_iff.1 hj).1
  have hx2:=hx x (List.mem_of_getElem? hj)
  refine ⟨x.g_len,?_⟩
  rw [Nat.zero_add,e6a oM,d1j]
  rw [show (l.map qc).getD j []=qc x by simp [List.getD,hj]]
  exact a5r (by rw [Raw.g_len];decide) hx2.cel
mutual
theorem e1j:∀ {r:Raw},b16 r→a3m r.g (qc r)
 | .mk k n s l,h=>by
  have hr:=d45 h.1 (d1k h.2)
  rw [← Raw.gs_eq] at hr
  exact .cons _ _ _ _ (.i _ _) (.cons _ _ _ _ (.i _ _) (.cons _ _ _ _ (.s _ _ _ rfl rfl) (.cons _ _ _ _ (.l _ _ _ _ _ (by rw [Raw.gs_eq,List.length_map]) hr) .nil)))
theorem d1k:∀ {l:List Raw},a94 l→∀ x ∈ l,a3m x.g (qc x)
 | [],_,x,h=>absurd h (by simp)
 | y :: l,h,x,hx=>by
  cases hx with
  | head=>exact e1j h.1
  | tail _ hx=>exact d1k h.2 x hx
end
def dc (r:Raw):List D:=(qc r).map fun q=>den q 0
theorem c2k {cs:List Q}:∀ {n i:Nat},i+n=cs.length→n7 (den (.agg cs 0)) i n=(cs.drop i).map fun q=>den q 0
 | 0,i,h=>by rw [List.drop_of_length_le oM];rfl
 | n+1,i,h=>by
  have hi:i < cs.length:=oM
  rw [n7,c2k oM,List.drop_eq_getElem_cons hi,List.map_cons]
  congr 1
  simp only [den]
  rw [Nat.zero_add,b7n,List.getElem?_eq_getElem hi]
  rfl
theorem e01 (r:Raw):n7 (den (.agg (qc r) 0)) 0 4=dc r:=by
 rw [c2k (by rw [e8h])]
 rfl
theorem d42 {l:List Raw} {k m:Nat} (h:k+(m+1)=l.length) (hl:l.length < 140737488355328):rows (u2 (a5x (qs l))) 4 k (m+1)=dc (l[k]'oM) ++ rows (u2 (a5x (qs l))) 4 (k+1) m:=by
 have hk:k < l.length:=oM
 rw [rows,V4,c5o oM,d1j,show (l.map qc).getD k []=qc l[k] by simp [List.getD,List.getElem?_eq_getElem hk]]
 show n7 (den (.agg (qc l[k]) 0)) 0 4 ++ _=_
 rw [e01]
variable {H:Type} {enc:TypeId × Value→H} {w:World} {sp:Nat→Bool} {held:Bool}
def a0q (w:World):j8:=fun b _=>b < w.heap.size
def okW (t:TypeId) (d:DataW H):Prop:=(d.weights Tryz.prog t).all (·≤reachBytes)=true
theorem c2e:Tryz.prog.cellsOf 37=4:=kR
theorem d6o:Tryz.prog.bytesOf 37=56:=kR
theorem b30:Tryz.prog.cellsOf 3=1:=kR
theorem b31:Tryz.prog.cellsOf 9=1:=kR
theorem e2t:Tryz.prog.cellsOf 35=1:=kR
theorem b5o {a:Addr} {cs:List Value} (h:w.cells? 0 a 4=some cs):∃ c0 c1 c2 c3,cs=[c0,c1,c2,c3]∧w.cell? a=some c0∧w.cell? (a.add 1)=some c1∧w.cell? (a.add 2)=some c2∧w.cell? (a.add 3)=some c3:=by
 unfold World.cells? at h
 rw [if_pos (Nat.zero_le _),show List.range 4=[0,1,2,3] from rfl] at h
 simp only [List.mapM_cons,List.mapM_nil,Option.bind_eq_bind,Option.bind_eq_some_iff,Option.pure_def,Option.some.injEq] at h
 obtain ⟨c0,h0,l0,⟨c1,h1,l1,⟨c2,h2,l2,⟨c3,h3,l3,rfl,rfl⟩,rfl⟩,rfl⟩,rfl⟩:=h
 exact ⟨c0,c1,c2,c3,rfl,h0,h1,h2,h3⟩
theorem c7g {a:Addr} {v:Value} (h:w.cell? a=some v):a.block < w.heap.size:=by
 unfold World.cell? at h
 cases e:w.heap[a.block]? with
 | none=>rw [e] at h;cases h
 | some o=>exact (Array.getElem?_eq_some_iff.1 e).1
theorem b89 {a:Addr} {v:Value} (h:w.cell? a=some v):a.spot=none:=by
 unfold World.cell? at h
 split at h
 ·split at h
  ·cases h
  ·rename_i hs
   cases e:a.spot with
   | none=>rfl
   | some x=>rw [e] at hs;exact absurd rfl hs
 ·cases h
theorem b3y {b o n:Nat}:(⟨b,o,none⟩:Addr).add n=⟨b,o+n,none⟩:=by
 unfold Addr.add
 split
 ·rename_i h;rw [h];rfl
 ·rfl
def K0 (w:World) (b:Nat):Nat→Nat→List Value
 | _,0=>[]
 | o,n+1=>(w.cell? ⟨b,o,none⟩).getD .nilIface :: K0 w b (o+1) n
theorem b48 {b:Nat}:∀ {n o i:Nat} {v:Value},(K0 w b o n)[i]?=some v→i < n∧v=(w.cell? ⟨b,o+i,none⟩).getD .nilIface
 | 0,o,i,v,h=>by simp [K0] at h
 | n+1,o,0,v,h=>by
  simp only [K0,List.getElem?_cons_zero,Option.some.injEq] at h
  exact ⟨oM,h.symm⟩
 | n+1,o,i+1,v,h=>by
  simp only [K0,List.getElem?_cons_succ] at h
  have:=b48 h
  exact ⟨oM,by rw [this.2];congr 3;omega⟩
theorem a8m {t:TypeId}:∀ {l:List (DataW H)},(DataW.weightsAll Tryz.prog t l).all (·≤reachBytes)=true→∀ d ∈ l,okW t d
 | [],_,d,hd=>absurd hd (by simp)
 | x :: l,h,d,hd=>by
  rw [DataW.weightsAll,List.all_append,Bool.and_eq_true] at h
  cases hd with
  | head=>exact h.1
  | tail _ hd=>exact a8m h.2 d hd
theorem c6e {P:Nat→Raw→Prop} {n:Nat} (h:∀ i,i < n→∃ r,P i r):∃ l:List Raw,∃ hl:l.length=n,∀ i (hi:i < n),P i (l[i]'oM):=by
 induction n with
 | zero=>exact ⟨[],rfl,fun i hi=>absurd hi (Nat.not_lt_zero _)⟩
 | succ n ih =>
  obtain ⟨l,hl,k⟩:=ih fun i hi=>h i oM
  obtain ⟨r,hr⟩:=h n oM
  refine ⟨l ++ [r],by simp [hl],fun i hi=>?_⟩
  by_cases hin:i < n
  ·rw [List.getElem_append_left oM];exact k i hin
  ·have:i=n:=oM
   subst this
   rw [List.getElem_append_right oM]
   simpa [hl] using hr
theorem e17 {n:Nat} (IH:∀ cs x,DataW.trod enc Tryz.prog w 0 sp held n 37 cs=some x→okW 37 x.1→∃ r,b16 r∧p9 (a0q w) m5 w cs (dc r)) {cs:List Value} {x:DataW H × List MemPlace}
  (h:DataW.trod enc Tryz.prog w 0 sp held (n+1) 35 cs=some x) (hw:okW 35 x.1) :
  ∃ v l,cs=[v]∧l.length < 140737488355328∧a94 l∧Rd (a0q w) m5 w v (.slice l.length (rows (u2 (a5x (qs l))) 4 0 l.length) .no):=by
 rcases DataW.trod_slice Tryz.underlying35 h with ⟨rfl,hx⟩ | ⟨a,len,cap,elems,rest,n',e1,rfl,hx,_,hlc,hcap,hel,hget,_,_⟩
 ·exact ⟨_,[],rfl,dE,trivial,.slice none 0 0 [] [] .no (.inl rfl) .nil trivial (Nat.le_refl _) (fun _=>rfl)⟩
 ·have e1:n'=n:=oM
  subst e1
  rw [hx] at hw
  unfold okW at hw
  simp only [DataW.weights,Tryz.underlying35,d6o,List.all_cons,List.all_append,Bool.and_eq_true,decide_eq_true_eq,List.length_map] at hw
  obtain ⟨hw1,hw2,_⟩:=hw
  have hlen:len < 140737488355328:=by
   have:reachBytes=140737488351232:=rfl
   omega
  have key:∀ i,i < len→∃ r,b16 r∧∃ cs,w.cells? 0 (a.add (i * 4)) 4=some cs∧p9 (a0q w) m5 w cs (dc r):=fun i hi=>by
   have hg:=hget i hi
   rw [List.getElem?_eq_getElem oM,c2e,Option.bind_eq_some_iff] at hg
   obtain ⟨cs,h1,h2⟩:=hg
   obtain ⟨r,h3,h4⟩:=IH cs _ h2 (a8m hw2 _ (List.mem_map_of_mem (List.getElem_mem _)))
   exact ⟨r,h3,cs,h1,h4⟩
  obtain ⟨l,hl,hP⟩:=c6e key
  have hwl:a94 l:=c0x.2 fun x hx=>by
   obtain ⟨i,hi,rfl⟩:=List.getElem_of_mem hx
   exact (hP i oM).1
  by_cases h0:len=0
  ·have:l=[]:=List.eq_nil_of_length_eq_zero oM
   subst this
   subst h0
   exact ⟨_,[],rfl,dE,trivial,.slice (some a) 0 cap [] [] .no (.inl rfl) .nil trivial hlc (fun h=>by cases h)⟩
  ·have ha:a=⟨a.block,a.off,none⟩:=by
    obtain ⟨_,cs,h1,_⟩:=hP 0 oM
    obtain ⟨c0,_,_,_,_,h2,_⟩:=b5o h1
    have hs:=b89 h2
    rw [Nat.zero_mul] at hs
    have e:a.add 0=a:=if_pos rfl
    rw [e] at hs
    cases a
    simp only at hs
    rw [hs]
   generalize a.block=b at ha
   generalize a.off=o at ha
   subst ha
   have hblk:∀ i,i < len→∃ c0 c1 c2 c3,w.cell? ⟨b,o+4 * i,none⟩=some c0∧w.cell? ⟨b,o+4 * i+1,none⟩=some c1∧w.cell? ⟨b,o+4 * i+2,none⟩=some c2∧w.cell? ⟨b,o+4 * i+3,none⟩=some c3∧∀ hi:i < l.length,p9 (a0q w) m5 w [c0,c1,c2,c3] (dc l[i]):=fun i hi=>by
    obtain ⟨_,cs,h1,h2⟩:=hP i hi
    obtain ⟨c0,c1,c2,c3,rfl,k0,k1,k2,k3⟩:=b5o h1
    rw [b3y,Nat.mul_comm] at k0 k1 k2 k3
    rw [b3y] at k1 k2 k3
    exact ⟨c0,c1,c2,c3,k0,k1,k2,k3,fun _=>h2⟩
   have hrds:∀ m k,k+m=len→p9 (a0q w) m5 w (K0 w b (o+4 * k) (4 * m)) (rows (u2 (a5x (qs l))) 4 k m):=by
    intro m
    induction m with
    | zero=>intro k _;exact .nil
    | succ m ih =>
     intro k hk
     obtain ⟨c0,c1,c2,c3,k0,k1,k2,k3,kr⟩:=hblk k oM
     have h2:=ih (k+1) oM
     rw [d42 oM oM]
     have e:K0 w b (o+4 * k) (4 * (m+1))=[c0,c1,c2,c3] ++ K0 w b (o+4 * (k+1)) (4 * m):=by
      rw [show 4 * (m+1)=4 * m+1+1+1+1 by omega]
      simp only [K0]
      rw [k0,k1,show o+4 * k+1+1=o+4 * k+2 by omega,k2,show o+4 * k+2+1=o+4 * k+3 by omega,k3,show o+4 * k+3+1=o+4 * (k+1) by omega]
      rfl
     rw [e]
     exact (kr oM).append h2
   refine ⟨_,l,rfl,oM,hwl,?_⟩
   have h3:=hrds len 0 oM
   rw [hl]
   refine .slice (some ⟨b,o,none⟩) len cap _ _ .no (.inr ⟨b,o,rfl,fun i v hi=>?_⟩) h3 trivial hlc (fun h=>by cases h)
   obtain ⟨hi4,hv⟩:=b48 hi
   rw [Nat.mul_zero,Nat.add_zero] at hv
   obtain ⟨c0,c1,c2,c3,k0,k1,k2,k3,_⟩:=hblk (i / 4) oM
   have hc:w.cell? ⟨b,o+i,none⟩=some v:=by
    have:i % 4=0∨i % 4=1∨i % 4=2∨i % 4=3:=oM
    rcases this with e | e | e | e
    ·rw [show o+i=o+4 * (i / 4) by omega] at hv ⊢;rw [k0] at hv ⊢;rw [hv];rfl
    ·rw [show o+i=o+4 * (i / 4)+1 by omega] at hv ⊢;rw [k1] at hv ⊢;rw [hv];rfl
    ·rw [show o+i=o+4 * (i / 4)+2 by omega] at hv ⊢;rw [k2] at hv ⊢;rw [hv];rfl
    ·rw [show o+i=o+4 * (i / 4)+3 by omega] at hv ⊢;rw [k3] at hv ⊢;rw [hv];rfl
   exact ⟨c7g hc,hc⟩
theorem d4z:∀ (n:Nat) (cs:List Value) (x:DataW H × List MemPlace),DataW.trod enc Tryz.prog w 0 sp held n 37 cs=some x→okW 37 x.1→∃ r,b16 r∧p9 (a0q w) m5 w cs (dc r):=by
 intro n
 induction n using Nat.strongRecOn with
 | _ n ih =>
 intro cs x h hw
 obtain ⟨xs,m,rfl,hx,hlen,hxl,hf⟩:=DataW.trod_struct Tryz.underlying37 h
 rw [c2e] at hlen
 obtain ⟨c0,c1,c2,c3,rfl⟩:∃ c0 c1 c2 c3,cs=[c0,c1,c2,c3]:=by
  match cs,hlen with
  | [c0,c1,c2,c3],_=>exact ⟨c0,c1,c2,c3,rfl⟩
 obtain ⟨x0,x1,x2,x3,rfl⟩:∃ x0 x1 x2 x3,xs=[x0,x1,x2,x3]:=by
  match xs,hxl with
  | [x0,x1,x2,x3],_=>exact ⟨x0,x1,x2,x3,rfl⟩
 have f0:DataW.trod enc Tryz.prog w 0 sp held m 3 (([c0,c1,c2,c3].drop 0).take (Tryz.prog.cellsOf 3))=some x0:=hf 0 _ rfl
 rw [b30] at f0
 change DataW.trod enc Tryz.prog w 0 sp held m 3 [c0]=some x0 at f0
 have f1:DataW.trod enc Tryz.prog w 0 sp held m 3 (([c0,c1,c2,c3].drop 1).take (Tryz.prog.cellsOf 3))=some x1:=hf 1 _ rfl
 rw [b30] at f1
 change DataW.trod enc Tryz.prog w 0 sp held m 3 [c1]=some x1 at f1
 have f2:DataW.trod enc Tryz.prog w 0 sp held m 9 (([c0,c1,c2,c3].drop 2).take (Tryz.prog.cellsOf 9))=some x2:=hf 2 _ rfl
 rw [b31] at f2
 change DataW.trod enc Tryz.prog w 0 sp held m 9 [c2]=some x2 at f2
 have f3:DataW.trod enc Tryz.prog w 0 sp held m 35 (([c0,c1,c2,c3].drop 3).take (Tryz.prog.cellsOf 35))=some x3:=hf 3 _ rfl
 rw [e2t] at f3
 change DataW.trod enc Tryz.prog w 0 sp held m 35 [c3]=some x3 at f3
 obtain ⟨k,e0,_,_⟩:=DataW.trod_int Tryz.underlying3 f0
 obtain ⟨nn,e1,_,_⟩:=DataW.trod_int Tryz.underlying3 f1
 obtain ⟨s,e2,_,_⟩:=DataW.trod_string Tryz.underlying9 f2
 injection e0 with e0
 injection e1 with e1
 injection e2 with e2
 subst e0 e1 e2
 rw [hx] at hw
 unfold okW at hw
 simp only [DataW.weights,Tryz.underlying37,List.map_cons,List.map_nil,DataW.weightsEach,List.all_append,Bool.and_eq_true] at hw
 obtain ⟨_,_,_,hw3,_⟩:=hw
 cases m with
 | zero=>simp [DataW.trod] at f3
 | succ m =>
  obtain ⟨v,l,e3,hl,hwl,hr⟩:=e17 (n:=m) (fun cs x h1 h2=>ih m oM cs x h1 h2) f3 hw3
  injection e3 with e3
  subst e3
  refine ⟨.mk k nn s.data.toList l,⟨hl,hwl⟩,?_⟩
  refine .k (.int _ _) (.k (.int _ _) (.k (.str _ _ ?_) (.k ?_ .nil)))
  ·exact (y7 _).symm
  ·exact hr
variable {H:Type} {enc:TypeId × Value→H} {w:World} {sp:Nat→Bool} {held:Bool}
theorem d6n:Tryz.prog.bytesOf 3=8:=kR
theorem d73 {a:Addr} {cs:List Value} (h:w.cells? 0 a 1=some cs):∃ c0,cs=[c0]∧w.cell? a=some c0:=by
 unfold World.cells? at h
 rw [if_pos (Nat.zero_le _),show List.range 1=[0] from rfl] at h
 simp only [List.mapM_cons,List.mapM_nil,Option.bind_eq_bind,Option.bind_eq_some_iff,Option.pure_def,Option.some.injEq] at h
 obtain ⟨c0,h0,l0,rfl,rfl⟩:=h
 exact ⟨c0,rfl,h0⟩
theorem d0k {P:Nat→Int→Prop} {n:Nat} (h:∀ i,i < n→∃ r,P i r):∃ l:List Int,∃ hl:l.length=n,∀ i (hi:i < n),P i (l[i]'oM):=by
 induction n with
 | zero=>exact ⟨[],rfl,fun i hi=>absurd hi (Nat.not_lt_zero _)⟩
 | succ n ih =>
  obtain ⟨l,hl,k⟩:=ih fun i hi=>h i oM
  obtain ⟨r,hr⟩:=h n oM
  refine ⟨l ++ [r],by simp [hl],fun i hi=>?_⟩
  by_cases hin:i < n
  ·rw [List.getElem_append_left oM];exact k i hin
  ·have:i=n:=oM
   subst this
   rw [List.getElem_append_right oM]
   simpa [hl] using hr
theorem e27 {n:Nat} {cs:List Value} {x:DataW H × List MemPlace} (h:DataW.trod enc Tryz.prog w 0 sp held (n+1) 79 cs=some x) (hw:okW 79 x.1) :
  ∃ v,∃ l:List Int,cs=[v]∧l.length < 140737488355328∧Rd (a0q w) m5 w v (.slice l.length (l.map fun n=>D.int .i64 n) .no):=by
 rcases DataW.trod_slice Tryz.underlying79 h with ⟨rfl,hx⟩ | ⟨a,len,cap,elems,rest,n',e1,rfl,hx,_,hlc,hcap,hel,hget,_,_⟩
 ·exact ⟨_,[],rfl,dE,.slice none 0 0 [] [] .no (.inl rfl) .nil trivial (Nat.le_refl _) (fun _=>rfl)⟩
 ·rw [hx] at hw
  unfold okW at hw
  simp only [DataW.weights,Tryz.underlying79,d6n,List.all_cons,List.all_append,Bool.and_eq_true,decide_eq_true_eq,List.length_map] at hw
  obtain ⟨hw1,_⟩:=hw
  have hlen:len < 140737488355328:=by
   have:reachBytes=140737488351232:=rfl
   omega
  have key:∀ i,i < len→∃ r:Int,w.cell? (a.add i)=some (.int .i64 r):=fun i hi=>by
   have hg:=hget i hi
   rw [List.getElem?_eq_getElem oM,b30,Option.bind_eq_some_iff] at hg
   obtain ⟨cs,h1,h2⟩:=hg
   obtain ⟨c0,rfl,h3⟩:=d73 h1
   obtain ⟨k,e0,_,_⟩:=DataW.trod_int Tryz.underlying3 h2
   injection e0 with e0
   subst e0
   rw [Nat.mul_one] at h3
   exact ⟨k,h3⟩
  obtain ⟨l,hl,hP⟩:=d0k key
  by_cases h0:len=0
  ·have:l=[]:=List.eq_nil_of_length_eq_zero oM
   subst this
   subst h0
   exact ⟨_,[],rfl,dE,.slice (some a) 0 cap [] [] .no (.inl rfl) .nil trivial hlc (fun h=>by cases h)⟩
  ·have ha:a=⟨a.block,a.off,none⟩:=by
    have h2:=hP 0 oM
    have hs:=b89 h2
    have e:a.add 0=a:=if_pos rfl
    rw [e] at hs
    cases a
    simp only at hs
    rw [hs]
   generalize a.block=b at ha
   generalize a.off=o at ha
   subst ha
   refine ⟨_,l,rfl,oM,?_⟩
   have hr:p9 (a0q w) m5 w (l.map fun n=>Value.int .i64 n) (l.map fun n=>D.int .i64 n):=by
    clear hP hl
    induction l with
    | nil=>exact .nil
    | cons n l ih=>exact .k (.int _ _) ih
   rw [hl]
   refine .slice (some ⟨b,o,none⟩) len cap _ _ .no (.inr ⟨b,o,rfl,fun i v hi=>?_⟩) hr trivial hlc (fun h=>by cases h)
   rw [List.getElem?_map] at hi
   cases hg:l[i]? with
   | none=>rw [hg] at hi;cases hi
   | some m =>
    rw [hg] at hi
    injection hi with hi
    subst hi
    have hil:i < l.length:=(List.getElem?_eq_some_iff.1 hg).1
    have hc:=hP i oM
    rw [List.getElem?_eq_getElem hil] at hg
    injection hg with hg
    rw [hg,b3y] at hc
    exact ⟨c7g hc,hc⟩
def b13 (l:List Int):i7 Q:=a5v (fun i=>.int .i64 (l.getD i 0)) 48 0 1
theorem e59 {l:List Int} {i:Nat} (h:i < 140737488355328):tQ (b13 l) i=.int .i64 (l.getD i 0):=by
 unfold tQ b13
 rw [a5w _ 48 0 1 i oM,Nat.zero_add,Nat.one_mul]
theorem e0j {l:List Int} (h:l.length < 140737488355328):m7 1 (l.map b2k) (b13 l) 0:=.of fun j r e=>by
 rw [List.getElem?_map] at e
 cases hj:l[j]? with
 | none=>rw [hj] at e;cases e
 | some x =>
  rw [hj] at e
  injection e with e
  subst e
  have hlt:j < l.length:=(List.getElem?_eq_some_iff.1 hj).1
  rw [Nat.zero_add,e59 oM]
  rw [show l.getD j 0=x by simp [List.getD,hj]]
  exact ⟨rfl,.k (.i _ _) (.nil _ _),fun g h=>by injection h with h _;subst h;exact .i _ _⟩
theorem c2i:∀ l:List Int,Z6 (l.map b2k)=l.map fun n=>D.int .i64 n
 | []=>by simp [Z6]
 | n :: l=>by rw [List.map_cons,a5b,c2i l];simp [b2k,dG]
theorem d6i {v:Value} {d:DataW H} {p:List MemPlace} (hv:Value.okWide Tryz.prog w .any 0 79 v∨True) (hc:v.cells.toList=[v]) (h:DataW.Trod enc Tryz.prog w 0 (fun _=>true) true 79 v d p) (hw:okW 79 d) :
  ∃ l:List Int,RV (.sl 1 (l.map b2k)) (.slice (b13 l) 1 0 l.length .no)∧Rd (a0q w) m5 w v (toD (.slice (b13 l) 1 0 l.length .no)):=by
 obtain ⟨fuel,h⟩:=h
 rw [hc] at h
 cases fuel with
 | zero=>simp [DataW.trod] at h
 | succ n =>
  obtain ⟨v',l,e,hl,hr⟩:=e27 (n:=n) h hw
  injection e with e
  subst e
  have hrv:RV (.sl 1 (l.map b2k)) (.slice (b13 l) 1 0 l.length .no):=.sl _ _ _ _ _ (by simp) (e0j hl)
  refine ⟨l,hrv,?_⟩
  rw [hrv.toD]
  simp only [dV,c2i,List.length_map]
  exact hr
end
end Go.Proofs.YtdldcfllnohkeaaGreatDoor
