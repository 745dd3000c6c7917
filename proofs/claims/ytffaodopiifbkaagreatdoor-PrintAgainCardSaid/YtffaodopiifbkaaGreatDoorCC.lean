/- A tree as a value that lies in memory, and as what is known of it. -/
import Derived.ChangeArms
import GoSem.ClaimJoined
import Derived.Test.YtffaodopiifbkaaGreatDoorCJ0
set_option linter.all false
namespace Go.Proofs.YtffaodopiifbkaaGreatDoor
open Go.Abs LQ
set_option maxRecDepth 100000
set_option maxHeartbeats 4000000
noncomputable section
def b2b (f:Nat→Q):Nat→Nat→Nat→j9 Q
 | 0,_,_=>.nil
 | d+1,a,b=>.node (f a) (b2b f d (a+b) (2 * b)) (b2b f d (a+2 * b) (2 * b))
theorem b6u (f:Nat→Q):∀ (d a b i:Nat),i+2≤2 ^ d→(b2b f d a b).get i=some (f (a+b * i))
 | 0,_,_,i,h=>by simp at h
 | d+1,a,b,0,h=>by rw [b2b,j9.get_zero,Nat.mul_zero,Nat.add_zero]
 | d+1,a,b,j+1,h=>by
  rw [Nat.pow_succ] at h
  have hj:j / 2+2≤2 ^ d:=oM
  rw [b2b,j9.get_succ]
  rcases Nat.mod_two_eq_zero_or_one j with h0 | h0
  ·obtain ⟨m,rfl⟩:∃ m,j=2 * m:=⟨j / 2,oM⟩
   rw [h0]
   show (b2b f d (a+b) (2 * b)).get (2 * m / 2)=_
   rw [b6u f d _ _ _ hj,show 2 * m / 2=m by omega]
   congr 2
   rw [Nat.mul_add,Nat.mul_one,← Nat.mul_assoc,Nat.mul_comm b 2]
   omega
  ·obtain ⟨m,rfl⟩:∃ m,j=2 * m+1:=⟨j / 2,oM⟩
   rw [h0]
   show (b2b f d (a+2 * b) (2 * b)).get ((2 * m+1) / 2)=_
   rw [b6u f d _ _ _ hj,show (2 * m+1) / 2=m by omega]
   congr 2
   rw [show 2 * m+1+1=2 * m+2 by omega,Nat.mul_add,← Nat.mul_assoc,Nat.mul_comm b 2]
   omega
def b00 (rows:List (List Q)):j9 Q:=b2b (fun i=>.agg (rows.getD i []) 0) 48 0 1
theorem c8g {rows:List (List Q)} {i:Nat} (h:i < 140737488355328):(b00 rows).get i=some (.agg (rows.getD i []) 0):=by
 unfold b00
 rw [b6u _ 48 0 1 i oM,Nat.zero_add,Nat.one_mul]
theorem e8f {rows:List (List Q)} {i:Nat} (h:i < 140737488355328):tQ (b00 rows) i=.agg (rows.getD i []) 0:=by
 unfold tQ
 rw [c8g h]
mutual
/-- A tree's cells. -/
def qc:Raw→List Q
 | .mk k n s l=>[.int .i64 k,.int .i64 n,.str s.length (p9 s),.slice (b00 (qs l)) 4 0 l.length]
def qs:List Raw→List (List Q)
 | []=>[]
 | x :: xs=>qc x :: qs xs
end
theorem d4f:∀ l:List Raw,qs l=l.map qc
 | []=>rfl
 | x :: xs=>by rw [qs,d4f xs];rfl
mutual
/-- No list is longer than memory. -/
def b2t:Raw→Prop
 | .mk _ _ _ l=>l.length < 140737488355328∧b1e l
def b1e:List Raw→Prop
 | []=>True
 | x :: xs=>b2t x∧b1e xs
end
theorem f3z {l:List Raw} (h:l.length < 140737488355328) (hx:∀ x ∈ l,a5c x.g (qc x)):r7 4 (l.map Raw.g) (b00 (qs l)) 0:=.of fun j r e=>by
 rw [List.getElem?_map] at e
 cases hj:l[j]? with
 | none=>rw [hj] at e;cases e
 | some x =>
  rw [hj] at e
  injection e with e
  subst e
  have hlt:j < l.length:=(List.getElem?_eq_some_iff.1 hj).1
  have hx2:=hx x (List.mem_of_getElem? hj)
  refine ⟨x.g_len,?_⟩
  rw [Nat.zero_add,e8f oM,d4f]
  rw [show (l.map qc).getD j []=qc x by simp [List.getD,hj]]
  exact a1a (by rw [Raw.g_len];decide) hx2.cel
variable {H:Type} {enc:TypeId × Value→H} {w:World} {sp:Nat→Bool} {held:Bool}
def b0d (w:World):m9:=fun b _=>b < w.heap.size
variable {H:Type} {enc:TypeId × Value→H} {w:World} {sp:Nat→Bool} {held:Bool}
end
end Go.Proofs.YtffaodopiifbkaaGreatDoor
