/- reader.One: the deferred catch; its walk. -/
import Derived.Test.YtgipbdffgfbedaaGreatDoorCJ13
import Derived.Test.YtgipbdffgfbedaaGreatDoorCJ15
set_option linter.all false
namespace Go.Proofs.YtgipbdffgfbedaaGreatDoor
open Go.Abs
set_option maxRecDepth 100000
set_option maxHeartbeats 400000
structure a0v (b:Nat) (w w':World):Prop where
 os:w'.os=w.os
 tape:w'.tape=w.tape
 output:w'.output=w.output
 size:w'.heap.size=w.heap.size
 rest:∀ k,k ≠ b→w'.heap[k]?=w.heap[k]?
theorem a0v.set (b i:Nat) (v:Value) (w:World):a0v b w (w.setCell ⟨b,i,none⟩ v) :=
 ⟨rfl,rfl,rfl,by simp [World.setCell],fun k hk=>by simp only [World.setCell,Array.getElem?_modify];simp [Ne.symm hk]⟩
theorem a0v.trans {b:Nat} {w w' w'':World} (h:a0v b w w') (k:a0v b w' w''):a0v b w w'' :=
 ⟨k.os.trans h.os,k.tape.trans h.tape,k.output.trans h.output,k.size.trans h.size,fun j hj=>(k.rest j hj).trans (h.rest j hj)⟩
theorem T5 {b i:Nat} {v:Value} {w:World} {cs:Array Value} {T:TypeId} (hb:w.heap[b]?=some (.cells cs T (0,0))):(w.setCell ⟨b,i,none⟩ v).heap[b]?=some (.cells (cs.setIfInBounds i v) T (0,0)):=by
 simp only [World.setCell,Array.getElem?_modify]
 simp [hb]
def d5m (w:World) (b:Nat) (c0 c1 c2 c3 c4 c5 c6:Value):World:=((((((w.setCell ⟨b,0,none⟩ c0).setCell ⟨b,1,none⟩ c1).setCell ⟨b,2,none⟩ c2).setCell ⟨b,3,none⟩ c3).setCell ⟨b,4,none⟩ c4).setCell ⟨b,5,none⟩ c5).setCell ⟨b,6,none⟩ c6
theorem d13 (w:World) (b:Nat) (c0 c1 c2 c3 c4 c5 c6:Value):a0v b w (d5m w b c0 c1 c2 c3 c4 c5 c6) :=
 (((((((a0v.set b 0 c0 w).trans (a0v.set b 1 c1 _)).trans (a0v.set b 2 c2 _)).trans (a0v.set b 3 c3 _)).trans (a0v.set b 4 c4 _)).trans (a0v.set b 5 c5 _)).trans (a0v.set b 6 c6 _))
end Go.Proofs.YtgipbdffgfbedaaGreatDoor
namespace LQ
open Go
theorem b1x:∀ n:Nat,Lib.decDigits n=f7 n:=by
 intro n
 induction n using Nat.strongRecOn with
 | _ n ih =>
  unfold Lib.decDigits
  by_cases h:n < 10
  ·simp only [h,dite_true,if_true]
   by_cases h0:n=0
   ·subst h0;rfl
   ·unfold f7
    rw [if_neg h0,E1 h0,show n / 10=0 by omega,u7,Nat.mod_eq_of_lt h]
    rfl
  ·simp only [h,dite_false,if_false]
   rw [ih (n / 10) oM]
   have h1:¬n / 10=0:=oM
   have h0:¬n=0:=oM
   unfold f7
   rw [if_neg h1,if_neg h0,E1 h0,List.reverse_cons,List.map_append]
   rfl
theorem itoa_showNat (n:Nat):Lib.itoa (n:Int)=f7 n:=by
 unfold Lib.itoa
 rw [if_neg oM,b1x,show ((n:Int)).toNat=n by omega]
theorem c70 {n k:Nat} (h:n < 10 ^ k):(i6 n).length≤k:=by
 induction k generalizing n with
 | zero=>rw [show n=0 by simpa using h,u7];simp
 | succ k ih =>
  by_cases h0:n=0
  ·rw [h0,u7];simp
  ·rw [E1 h0,List.length_cons]
   have:=ih (n:=n / 10) (by rw [Nat.pow_succ] at h;omega)
   omega
theorem b36 {m:Nat} (hm:m ≠ 0):∀ (k d:Nat),d < 10 ^ k→i6 (d+10 ^ k * m)=i6 d ++ (List.replicate (k - (i6 d).length) 0 ++ i6 m)
 | 0,d,h=>by
  have:d=0:=by simpa using h
  subst this
  simp [u7]
 | k+1,d,h=>by
  have h':d / 10 < 10 ^ k:=by rw [Nat.pow_succ] at h;omega
  have e1:d+10 ^ (k+1) * m=d+10 * (10 ^ k * m):=by rw [Nat.pow_succ,Nat.mul_comm (10 ^ k) 10,Nat.mul_assoc]
  have hp:0 < 10 ^ k * m:=Nat.mul_pos (Nat.pow_pos dE) (Nat.pos_of_ne_zero hm)
  rw [e1,E1 oM,show (d+10 * (10 ^ k * m)) % 10=d % 10 by omega,show (d+10 * (10 ^ k * m)) / 10=d / 10+10 ^ k * m by omega,b36 hm k (d / 10) h']
  by_cases h0:d=0
  ·subst h0;simp [u7,List.replicate_succ]
  ·rw [E1 h0,List.length_cons,List.cons_append,show k+1 - ((i6 (d / 10)).length+1)=k - (i6 (d / 10)).length by omega]
theorem showNat_len9 {n:Nat} (h:n < 1000000000):(f7 n).length≤9:=by
 by_cases h0:n=0
 ·subst h0;decide
 ·unfold f7;rw [if_neg h0];simpa using c70 (k:=9) h
theorem b9p {m d:Nat} (hm:m ≠ 0) (hd:d < 1000000000):f7 (d+B9 * m)=f7 m ++ (List.replicate (9 - (f7 d).length) 48 ++ f7 d):=by
 have hB:B9=10 ^ 9:=rfl
 have hp:0 < B9 * m:=Nat.mul_pos dE (Nat.pos_of_ne_zero hm)
 have e:f7 (d+B9 * m)=(i6 (d+10 ^ 9 * m)).reverse.map (fun d=>UInt8.ofNat (48+d)):=by unfold f7;rw [if_neg oM,hB]
 rw [e,b36 hm 9 d hd]
 have e2:f7 m=(i6 m).reverse.map (fun d=>UInt8.ofNat (48+d)):=by unfold f7;rw [if_neg hm]
 rw [e2]
 simp only [List.reverse_append,List.map_append,List.reverse_replicate,List.map_replicate]
 by_cases h0:d=0
 ·subst h0;rw [u7];simp;decide
 ·have e3:f7 d=(i6 d).reverse.map (fun d=>UInt8.ofNat (48+d)):=by unfold f7;rw [if_neg h0]
  rw [e3];simp
end LQ
