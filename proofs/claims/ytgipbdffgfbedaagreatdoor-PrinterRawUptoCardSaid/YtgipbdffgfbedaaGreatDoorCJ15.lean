/- The scanner's strings and bars: their walk. -/
import Derived.Test.YtgipbdffgfbedaaGreatDoorCJ14
import Derived.WalkKit
import Derived.BigCall
import Derived.BigQuiet
import Derived.WalkSmall
import Derived.Test.YtgipbdffgfbedaaGreatDoorCJ2
set_option linter.all false
namespace Go.Proofs.YtgipbdffgfbedaaGreatDoor
open Go.RowKit Go.Shelf Go.Abs LQ
set_option maxRecDepth 100000
theorem S6 (bx:Nat) (S:ByteArray) (j:Int) (w:World) (h0:w.cell? ⟨bx,0,none⟩=some (.string S)) (h1:w.cell? ⟨bx,1,none⟩=some (.int .i64 j)) :
  Calls Tryz.prog 115 #[.pointer (some ⟨bx,0,none⟩)] w fun e w'=>e=.returned (.bool (decide (j < S.size)))∧∃ n,w'=w.drewN n:=by
 go_enter Tryz.func115,Tryz.ntmps115
 go_wp2
 go_quiet (fail)
 go_wp2
 go_ret
 exact ⟨rfl,_,rfl⟩
theorem a90 (er p:Int) (w:World) :
  Calls Tryz.prog 101 #[.int .i64 er,.int .i64 p] w fun e w'=>e=.panicked [{ v:=.iface 117 (.agg #[.int .i64 er,.int .i64 p]),recovered:=false }]∧w'=w:=by
 go_enter Tryz.func101,Tryz.ntmps101
 go_wp2
 exact ⟨rfl,rfl,rfl⟩
structure N9 (w0:World) (bx:Nat) (T:TypeId) (S:ByteArray) (j:Int) (acc:List UInt8) (w:World):Prop where
 os:w.os=w0.os
 tape:w.tape=w0.tape
 output:w.output=w0.output
 size:w0.heap.size≤w.heap.size
 old:∀ k,k < w0.heap.size→k ≠ bx→w.heap[k]?=w0.heap[k]?
 box:w.heap[bx]?=some (.cells #[.string S,.int .i64 j] T (0,0))
 isb:IsB w0.heap.size acc w
 lt:bx < w0.heap.size
section
variable {w0 w w':World} {bx:Nat} {T:TypeId} {S:ByteArray} {j:Int} {acc acc':List UInt8}
theorem N9.start (h:w0.heap[bx]?=some (.cells #[.string S,.int .i64 j] T (0,0))):N9 w0 bx T S j [] (w0.alloc (.cells #[.pointer none,.slice none 0 0] 61)):=by
 have hlt:bx < w0.heap.size:=(Array.getElem?_eq_some_iff.1 h).1
 have hk:∀ k,k < w0.heap.size→(w0.alloc (.cells #[.pointer none,.slice none 0 0] 61)).heap[k]?=w0.heap[k]?:=fun k hk=>by
  show (w0.heap.push _)[k]?=_
  rw [Array.getElem?_push];simp [Nat.ne_of_lt hk]
 exact ⟨rfl,rfl,rfl,by show _≤(w0.heap.push _).size;simp,fun k h1 _=>hk k h1,(hk bx hlt).trans h,d3q w0,hlt⟩
theorem N9.drewN (h:N9 w0 bx T S j acc w) (n:Nat):N9 w0 bx T S j acc (w.drewN n) :=
 ⟨h.os,h.tape,h.output,h.size,h.old,h.box,b4k h.isb fun _ _ _=>rfl,h.lt⟩
theorem N9.c0 (h:N9 w0 bx T S j acc w):w.cell? ⟨bx,0,none⟩=some (.string S):=by simp [World.cell?,h.box]
theorem N9.c1 (h:N9 w0 bx T S j acc w):w.cell? ⟨bx,1,none⟩=some (.int .i64 j):=by simp [World.cell?,h.box]
theorem N9.z1 (h:N9 w0 bx T S j acc w):w.frozen? ⟨bx,1,none⟩=false:=by simp [World.frozen?,h.box]
theorem N9.put (h:N9 w0 bx T S j acc w) (i:Int):N9 w0 bx T S i acc (w.setCell ⟨bx,1,none⟩ (.int .i64 i)):=by
 have hne:∀ k,k ≠ bx→(w.setCell ⟨bx,1,none⟩ (.int .i64 i)).heap[k]?=w.heap[k]?:=fun k hk=>by
  unfold World.setCell
  simp [Array.getElem?_modify,Ne.symm hk]
 refine ⟨h.os,h.tape,h.output,?_,fun k h1 h2=>(hne k h2).trans (h.old k h1 h2),?_,b4k h.isb fun k h1 _=>hne k (by have:=h.lt;omega),h.lt⟩
 ·unfold World.setCell;simp [h.size]
 ·unfold World.setCell
  simp [Array.getElem?_modify,h.box]
theorem N9.write (h:N9 w0 bx T S j acc w) (i:IsB w0.heap.size acc' w') (k:Below w0.heap.size w w'):N9 w0 bx T S j acc' w' :=
 ⟨k.os.trans h.os,k.tape.trans h.tape,k.output.trans h.output,Nat.le_trans h.size k.size,fun b h1 h2=>(k.block b h1).trans (h.old b h1 h2),(k.block _ h.lt).trans h.box,i,h.lt⟩
end
def e1s (bx:Nat) (T:TypeId) (s:f6):Except (Int × Nat) (List Int × Nat)→Ending→World→Prop
 | .ok (l,j),e,w=>e=.returned (.string ⟨(E2 l).toArray⟩)∧w.heap[bx]?=some (.cells #[.string ⟨s.toArray⟩,.int .i64 j] T (0,0))
 | .error (er,p),e,_=>e=.panicked [{ v:=.iface 117 (.agg #[.int .i64 er,.int .i64 p]),recovered:=false }]
structure c7i (w0:World) (bx:Nat) (w:World):Prop where
 os:w.os=w0.os
 tape:w.tape=w0.tape
 output:w.output=w0.output
 size:w0.heap.size≤w.heap.size
 old:∀ k,k < w0.heap.size→k ≠ bx→w.heap[k]?=w0.heap[k]?
theorem N9.keep {w0 w:World} {bx:Nat} {T:TypeId} {S:ByteArray} {j:Int} {acc:List UInt8} (h:N9 w0 bx T S j acc w):c7i w0 bx w:=⟨h.os,h.tape,h.output,h.size,h.old⟩
theorem N9.low {w0 w w':World} {bx:Nat} {T:TypeId} {S:ByteArray} {j:Int} {acc:List UInt8} (h:N9 w0 bx T S j acc w) (k:Below w0.heap.size w w'):c7i w0 bx w'∧w'.heap[bx]?=some (.cells #[.string S,.int .i64 j] T (0,0)) :=
 ⟨⟨k.os.trans h.os,k.tape.trans h.tape,k.output.trans h.output,Nat.le_trans h.size k.size,fun b h1 h2=>(k.block b h1).trans (h.old b h1 h2)⟩,(k.block _ h.lt).trans h.box⟩
theorem c98 (s:f6) (j:Nat) (hj:j < s.length):bt s j=(((⟨s.toArray⟩:ByteArray)[j]'(by simpa [ByteArray.size] using hj)).toNat:Int):=by
 unfold bt
 simp only [List.getD,List.getElem?_eq_getElem hj,Option.getD_some]
 rfl
theorem a99 (l:f6) (b:UInt8):a23 (l ++ [b])=a23 l ++ [(b.toNat:Int)]:=by simp [a23]
set_option maxHeartbeats 4000000 in
theorem d3u (bx:Nat) (T:TypeId) (s:f6) (i c:Nat) (w:World) (hb:w.heap[bx]?=some (.cells #[.string ⟨s.toArray⟩,.int .i64 i] T (0,0))) (hi:i < s.length) (hs:s.length < 1920000) (hc:c=34∨c=124) :
  Calls Tryz.prog 116 #[.pointer (some ⟨bx,0,none⟩),.int .u8 (c:Int)] w fun e w'=>c7i w bx w'∧e1s bx T s (H1 s c (i+1) []) e w':=by
 have I0:=N9.start hb
 have a0:=I0.c0
 have a1:=I0.c1
 have a2:=I0.z1
 go_enter Tryz.func116,Tryz.ntmps116
 go_wp2
 go_loopw [] (fun wr=>∃ (j:Nat) (acc:List UInt8),i < j∧j≤s.length∧acc.length≤j∧N9 w bx T ⟨s.toArray⟩ j acc wr∧H1 s c j (a23 acc)=H1 s c (i+1) []) (fun wr=>match wr.cell? ⟨bx,1,none⟩ with | some (.int _ j)=>s.length - j.toNat | _=>0)
 case atStart=>exact ⟨i+1,[],oM,oM,by simp,by have:=I0.put ((i:Int)+1);exact_mod_cast this,rfl⟩
 case round =>
  obtain ⟨j,acc,hij,hjs,hal,I,he⟩:=hrel
  have b0:=I.c0
  have b1:=I.c1
  have b2:=I.z1
  have hSz:((⟨s.toArray⟩:ByteArray).size:Int)=s.length:=by simp [ByteArray.size]
  by_cases hj:j < s.length
  ·have hjd:(decide ((j:Int) < ((⟨s.toArray⟩:ByteArray).size:Int)))=true:=by rw [hSz];simp;omega
   have hjS:(j:Int) < ((⟨s.toArray⟩:ByteArray).size:Int):=by rw [hSz];omega
   have hx:=c98 s j hj
   by_cases h1:bt s j=c
   ·have g1:((((⟨s.toArray⟩:ByteArray)[j]'(by simpa [ByteArray.size] using hj)).toNat:Int) == (c:Int))=true:=by rw [← hx,h1];simp
    go_wp2_with (first
     | (go_at_call 115;refine (S6 bx _ _ _ b0 b1).mono ?_;rintro e w1 ⟨rfl,n,rfl⟩;rw [hjd]))
    go_quiet (fail)
    go_wp2_with (first
     | (go_at_call 33;refine (a6s w.heap.size acc _ (((I.drewN _).put _).isb) ((I.drewN _).put (j+1)).size).mono ?_;rintro e w3 ⟨rfl,hb3⟩))
    go_ret
    have I3:=((I.drewN (n+nq)).put (j+1)).low hb3
    refine ⟨I3.1,?_⟩
    rw [← he,H1,if_pos hj,if_pos h1]
    exact ⟨by rw [b0d];rfl,by have:=I3.2;exact_mod_cast this⟩
   ·have g1:((((⟨s.toArray⟩:ByteArray)[j]'(by simpa [ByteArray.size] using hj)).toNat:Int) == (c:Int))=false:=by rw [← hx];simpa using h1
    by_cases h2:bt s j=92
    ·have g2:((((⟨s.toArray⟩:ByteArray)[j]'(by simpa [ByteArray.size] using hj)).toNat:Int) == (92:Int))=true:=by rw [← hx,h2];rfl
     by_cases hj2:j+1 < s.length
     ·have hjL2:decide ((j:Int)+1 < (s.length:Int))=true:=by simp;omega
      have hjS2:(j:Int)+1 < ((⟨s.toArray⟩:ByteArray).size:Int):=by rw [hSz];omega
      have hjP:(j:Int)+1 < (s.length:Int):=oM
      have hj0:0≤(j:Int)+1:=oM
      have hy:=c98 s (j+1) hj2
      have hjd2:(decide ((j:Int)+1 < ((⟨s.toArray⟩:ByteArray).size:Int)))=true:=by rw [hSz];simp;omega
      go_wp2_with (first
       | (go_at_call 115;refine (S6 bx _ _ _ b0 b1).mono ?_;rintro e w1 ⟨rfl,n,rfl⟩;rw [hjd]))
      go_quiet (fail)
      go_wp2
      by_cases h3:bt s (j+1)=c
      ·have g3:((((⟨s.toArray⟩:ByteArray)[j+1]'(by simpa [ByteArray.size] using hj2)).toNat:Int) == (c:Int))=true:=by rw [← hy,h3];simp
       have g3n:((((⟨s.toArray⟩:ByteArray)[j+1]'(by simpa [ByteArray.size] using hj2)).toNat:Int) != (c:Int))=false:=by rw [← hy,h3];simp
       go_big_quiet (fail)
       have I1:=fun m=>(I.drewN m).put (j+1)
       have c0:=fun m n2=>((I1 m).drewN n2).c0
       have c1:=fun m n2=>((I1 m).drewN n2).c1
       go_wp2_with (first
        | (go_at_call 115;refine (S6 bx _ _ _ (I1 _).c0 (I1 _).c1).mono ?_;rintro e w1 ⟨rfl,n2,rfl⟩;rw [hjd2]))
       go_quiet (fail)
       have I4:=fun m n2=>(I1 m).drewN n2
       go_wp2_with (first
        | (go_at_call 128;refine (c0m _ _ _ _ (I4 _ _).isb oM (I4 _ _).size).mono ?_;rintro e w2 ⟨rfl,hi2,hb2⟩;have I2:=(I4 _ _).write hi2 hb2;have d0:=I2.c0;have d1:=I2.c1;have d2:=I2.z1))
       go_roundw
       case rel =>
        have I3:=I2.put (j+1+1)
        refine ⟨j+2,_,oM,oM,?_,by exact_mod_cast I3,?_⟩
        ·simp;omega
        ·rw [← he]
         conv=>rhs;rw [H1,if_pos hj,if_neg h1,if_neg (by rw [h2];simp),if_pos hj2,if_neg (by intro h;exact h.1 h3)]
         rw [a99,← hy]
       case measure =>
        have I3:=I2.put (j+1+1)
        have e1:=I3.c1
        simp only [e1,b1]
        omega
      ·have g3n:((((⟨s.toArray⟩:ByteArray)[j+1]'(by simpa [ByteArray.size] using hj2)).toNat:Int) != (c:Int))=true:=by rw [← hy];simpa using h3
       by_cases h4:bt s (j+1)=92
       ·have g4:((((⟨s.toArray⟩:ByteArray)[j+1]'(by simpa [ByteArray.size] using hj2)).toNat:Int) != (92:Int))=false:=by rw [← hy,h4];rfl
        go_big_quiet (fail)
        have I1:=fun m=>(I.drewN m).put (j+1)
        have c0:=fun m n2=>((I1 m).drewN n2).c0
        have c1:=fun m n2=>((I1 m).drewN n2).c1
        go_wp2_with (first
         | (go_at_call 115;refine (S6 bx _ _ _ (I1 _).c0 (I1 _).c1).mono ?_;rintro e w1 ⟨rfl,n2,rfl⟩;rw [hjd2]))
        go_quiet (fail)
        have I4:=fun m n2=>(I1 m).drewN n2
        go_wp2_with (first
         | (go_at_call 128;refine (c0m _ _ _ _ (I4 _ _).isb oM (I4 _ _).size).mono ?_;rintro e w2 ⟨rfl,hi2,hb2⟩;have I2:=(I4 _ _).write hi2 hb2;have d0:=I2.c0;have d1:=I2.c1;have d2:=I2.z1))
        go_roundw
        case rel =>
         have I3:=I2.put (j+1+1)
         refine ⟨j+2,_,oM,oM,?_,by exact_mod_cast I3,?_⟩
         ·simp;omega
         ·rw [← he]
          conv=>rhs;rw [H1,if_pos hj,if_neg h1,if_neg (by rw [h2];simp),if_pos hj2,if_neg (by intro h;exact h.2 h4)]
          rw [a99,← hy]
        case measure =>
         have I3:=I2.put (j+1+1)
         have e1:=I3.c1
         simp only [e1,b1]
         omega
       ·have g4:((((⟨s.toArray⟩:ByteArray)[j+1]'(by simpa [ByteArray.size] using hj2)).toNat:Int) != (92:Int))=true:=by rw [← hy];simpa using h4
        go_big_quiet (fail)
        go_wp2_with (first
         | (go_at_call 101;refine (a90 _ _ _).mono ?_;rintro e w2 ⟨rfl,rfl⟩))
        refine ⟨rfl,(I.drewN _).keep,?_⟩
        rw [← he,H1,if_pos hj,if_neg h1,if_neg (by rw [h2];simp),if_pos hj2,if_pos ⟨h3,h4⟩]
        rfl
     ·have hjL2:decide ((j:Int)+1 < (s.length:Int))=false:=by simp;omega
      have hjS2:¬(j:Int)+1 < ((⟨s.toArray⟩:ByteArray).size:Int):=by rw [hSz];omega
      have hjd2:(decide ((j:Int)+1 < ((⟨s.toArray⟩:ByteArray).size:Int)))=false:=by simp [hjS2]
      go_wp2_with (first
       | (go_at_call 115;refine (S6 bx _ _ _ b0 b1).mono ?_;rintro e w1 ⟨rfl,n,rfl⟩;rw [hjd]))
      go_quiet (fail)
      go_wp2
      go_big_quiet (fail)
      have I1:=fun m=>(I.drewN m).put (j+1)
      have c0:=fun m n2=>((I1 m).drewN n2).c0
      have c1:=fun m n2=>((I1 m).drewN n2).c1
      go_wp2_with (first
       | (go_at_call 115;refine (S6 bx _ _ _ (I1 _).c0 (I1 _).c1).mono ?_;rintro e w1 ⟨rfl,n2,rfl⟩;rw [hjd2])
       | (go_at_call 101;refine (a90 _ _ _).mono ?_;rintro e w2 ⟨rfl,rfl⟩))
      refine ⟨rfl,((I1 _).drewN _).keep,?_⟩
      rw [← he,H1,if_pos hj,if_neg h1,if_neg (by rw [h2];simp),if_neg hj2]
      rfl
    ·have g2:((((⟨s.toArray⟩:ByteArray)[j]'(by simpa [ByteArray.size] using hj)).toNat:Int) == (92:Int))=false:=by rw [← hx];simpa using h2
     go_wp2_with (first
      | (go_at_call 115;refine (S6 bx _ _ _ b0 b1).mono ?_;rintro e w1 ⟨rfl,n,rfl⟩;rw [hjd]))
     go_quiet (fail)
     have I1:=I.drewN (n+nq)
     go_wp2_with (first
      | (go_at_call 128;refine (c0m _ _ _ _ I1.isb oM I1.size).mono ?_;rintro e w2 ⟨rfl,hi2,hb2⟩;have I2:=I1.write hi2 hb2;have d0:=I2.c0;have d1:=I2.c1;have d2:=I2.z1))
     go_roundw
     case rel =>
      have I3:=I2.put (j+1)
      refine ⟨j+1,_,oM,oM,?_,by exact_mod_cast I3,?_⟩
      ·simp;omega
      ·rw [← he]
       conv=>rhs;rw [H1,if_pos hj,if_neg h1,if_pos h2]
       rw [a99,← hx]
     case measure =>
      have I3:=I2.put (j+1)
      have e1:=I3.c1
      simp only [e1,b1]
      omega
  ·have hjL:decide ((j:Int) < ((⟨s.toArray⟩:ByteArray).size:Int))=false:=by rw [hSz];simp;omega
   go_wp2_with (first
    | (go_at_call 115;refine (S6 bx _ _ _ b0 b1).mono ?_;rintro e w1 ⟨rfl,n,rfl⟩;rw [hjL])
    | (go_at_call 101;refine (a90 _ _ _).mono ?_;rintro e w2 ⟨rfl,rfl⟩))
   refine ⟨rfl,(I.drewN _).keep,?_⟩
   rw [← he,H1,if_neg hj]
   simp [e1s,ByteArray.size]
end Go.Proofs.YtgipbdffgfbedaaGreatDoor
