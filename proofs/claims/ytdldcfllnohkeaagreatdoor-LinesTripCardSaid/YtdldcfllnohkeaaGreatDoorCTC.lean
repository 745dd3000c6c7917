/- The scanner's strings and bars: their walk. -/
import Derived.BigQuiet
import Derived.WalkSmall
import Derived.Test.YtdldcfllnohkeaaGreatDoorCTB
import Derived.Scope
set_option linter.all false
namespace Go.Proofs.YtdldcfllnohkeaaGreatDoor
open Go.RowKit Go.Shelf Go.Abs LQ
set_option maxRecDepth 100000
theorem X3 (bx:Nat) (S:ByteArray) (j:Int) (w:World) (h0:w.cell? ⟨bx,0,none⟩=some (.string S)) (h1:w.cell? ⟨bx,1,none⟩=some (.int .i64 j)) :
  Calls Tryz.prog 108 #[.pointer (some ⟨bx,0,none⟩)] w fun e w'=>e=.returned (.bool (decide (j < S.size)))∧∃ n,w'=w.drewN n:=by
 go_enter Tryz.func108,Tryz.ntmps108
 go_wp2
 go_quiet (fail)
 go_wp2
 go_ret
 exact ⟨rfl,_,rfl⟩
theorem a4x (er p:Int) (w:World) :
  Calls Tryz.prog 45 #[.int .i64 er,.int .i64 p] w fun e w'=>e=.panicked [{ v:=.iface 107 (.agg #[.int .i64 er,.int .i64 p]),recovered:=false }]∧w'=w:=by
 go_enter Tryz.func45,Tryz.ntmps45
 go_wp2
 exact ⟨rfl,rfl,rfl⟩
structure R7 (w0:World) (bx:Nat) (T:TypeId) (S:ByteArray) (j:Int) (acc:List UInt8) (w:World):Prop where
 os:w.os=w0.os
 tape:w.tape=w0.tape
 output:w.output=w0.output
 size:w0.heap.size≤w.heap.size
 old:∀ k,k < w0.heap.size→k ≠ bx→w.heap[k]?=w0.heap[k]?
 box:w.heap[bx]?=some (.cells #[.string S,.int .i64 j] T (0,0))
 isb:IsB w0.heap.size acc w
 lt:bx < w0.heap.size
section
variable {w0 w w':World} {bx:Nat} {T:TypeId} {S:ByteArray} {j:Int} {acc acc':List UInt8}
theorem R7.start (h:w0.heap[bx]?=some (.cells #[.string S,.int .i64 j] T (0,0))):R7 w0 bx T S j [] (w0.alloc (.cells #[.pointer none,.slice none 0 0] 94)):=by
 have hlt:bx < w0.heap.size:=(Array.getElem?_eq_some_iff.1 h).1
 have hk:∀ k,k < w0.heap.size→(w0.alloc (.cells #[.pointer none,.slice none 0 0] 94)).heap[k]?=w0.heap[k]?:=fun k hk=>by
  show (w0.heap.push _)[k]?=_
  rw [Array.getElem?_push];simp [Nat.ne_of_lt hk]
 exact ⟨rfl,rfl,rfl,by show _≤(w0.heap.push _).size;simp,fun k h1 _=>hk k h1,(hk bx hlt).trans h,d9o w0,hlt⟩
theorem R7.drewN (h:R7 w0 bx T S j acc w) (n:Nat):R7 w0 bx T S j acc (w.drewN n) :=
 ⟨h.os,h.tape,h.output,h.size,h.old,h.box,b7z h.isb fun _ _ _=>rfl,h.lt⟩
theorem R7.c0 (h:R7 w0 bx T S j acc w):w.cell? ⟨bx,0,none⟩=some (.string S):=by simp [World.cell?,h.box]
theorem R7.c1 (h:R7 w0 bx T S j acc w):w.cell? ⟨bx,1,none⟩=some (.int .i64 j):=by simp [World.cell?,h.box]
theorem R7.z1 (h:R7 w0 bx T S j acc w):w.frozen? ⟨bx,1,none⟩=false:=by simp [World.frozen?,h.box]
theorem R7.put (h:R7 w0 bx T S j acc w) (i:Int):R7 w0 bx T S i acc (w.setCell ⟨bx,1,none⟩ (.int .i64 i)):=by
 have hne:∀ k,k ≠ bx→(w.setCell ⟨bx,1,none⟩ (.int .i64 i)).heap[k]?=w.heap[k]?:=fun k hk=>by
  unfold World.setCell
  simp [Array.getElem?_modify,Ne.symm hk]
 refine ⟨h.os,h.tape,h.output,?_,fun k h1 h2=>(hne k h2).trans (h.old k h1 h2),?_,b7z h.isb fun k h1 _=>hne k (by have:=h.lt;omega),h.lt⟩
 ·unfold World.setCell;simp [h.size]
 ·unfold World.setCell
  simp [Array.getElem?_modify,h.box]
theorem R7.write (h:R7 w0 bx T S j acc w) (i:IsB w0.heap.size acc' w') (k:Below w0.heap.size w w'):R7 w0 bx T S j acc' w' :=
 ⟨k.os.trans h.os,k.tape.trans h.tape,k.output.trans h.output,Nat.le_trans h.size k.size,fun b h1 h2=>(k.block b h1).trans (h.old b h1 h2),(k.block _ h.lt).trans h.box,i,h.lt⟩
end
def e97 (bx:Nat) (T:TypeId) (s:i6):Except (Int × Nat) (List Int × Nat)→Ending→World→Prop
 | .ok (l,j),e,w=>e=.returned (.string ⟨(G3 l).toArray⟩)∧w.heap[bx]?=some (.cells #[.string ⟨s.toArray⟩,.int .i64 j] T (0,0))
 | .error (er,p),e,_=>e=.panicked [{ v:=.iface 107 (.agg #[.int .i64 er,.int .i64 p]),recovered:=false }]
structure d2w (w0:World) (bx:Nat) (w:World):Prop where
 os:w.os=w0.os
 tape:w.tape=w0.tape
 output:w.output=w0.output
 size:w0.heap.size≤w.heap.size
 old:∀ k,k < w0.heap.size→k ≠ bx→w.heap[k]?=w0.heap[k]?
theorem R7.keep {w0 w:World} {bx:Nat} {T:TypeId} {S:ByteArray} {j:Int} {acc:List UInt8} (h:R7 w0 bx T S j acc w):d2w w0 bx w:=⟨h.os,h.tape,h.output,h.size,h.old⟩
theorem R7.low {w0 w w':World} {bx:Nat} {T:TypeId} {S:ByteArray} {j:Int} {acc:List UInt8} (h:R7 w0 bx T S j acc w) (k:Below w0.heap.size w w'):d2w w0 bx w'∧w'.heap[bx]?=some (.cells #[.string S,.int .i64 j] T (0,0)) :=
 ⟨⟨k.os.trans h.os,k.tape.trans h.tape,k.output.trans h.output,Nat.le_trans h.size k.size,fun b h1 h2=>(k.block b h1).trans (h.old b h1 h2)⟩,(k.block _ h.lt).trans h.box⟩
theorem d5v (s:i6) (j:Nat) (hj:j < s.length):bt s j=(((⟨s.toArray⟩:ByteArray)[j]'(by simpa [ByteArray.size] using hj)).toNat:Int):=by
 unfold bt
 simp only [List.getD,List.getElem?_eq_getElem hj,Option.getD_some]
 rfl
theorem b2r (l:i6) (b:UInt8):a1z (l ++ [b])=a1z l ++ [(b.toNat:Int)]:=by simp [a1z]
set_option maxHeartbeats 4000000 in
theorem d9u (bx:Nat) (T:TypeId) (s:i6) (i c:Nat) (w:World) (hb:w.heap[bx]?=some (.cells #[.string ⟨s.toArray⟩,.int .i64 i] T (0,0))) (hi:i < s.length) (hs:s.length < 8000) (hc:c=34∨c=124) :
  Calls Tryz.prog 109 #[.pointer (some ⟨bx,0,none⟩),.int .u8 (c:Int)] w fun e w'=>d2w w bx w'∧e97 bx T s (J5 s c (i+1) []) e w':=by
 have I0:=R7.start hb
 have a0:=I0.c0
 have a1:=I0.c1
 have a2:=I0.z1
 go_enter Tryz.func109,Tryz.ntmps109
 go_wp2
 go_loopw [] (fun wr=>∃ (j:Nat) (acc:List UInt8),i < j∧j≤s.length∧acc.length≤j∧R7 w bx T ⟨s.toArray⟩ j acc wr∧J5 s c j (a1z acc)=J5 s c (i+1) []) (fun wr=>match wr.cell? ⟨bx,1,none⟩ with | some (.int _ j)=>s.length - j.toNat | _=>0)
 case atStart=>exact ⟨i+1,[],oM,oM,by simp,by have:=I0.put ((i:Int)+1);exact_mod_cast this,rfl⟩
 case round =>
  obtain ⟨j,acc,hij,hjs,hal,I,he⟩:=hrel
  have b0:=I.c0
  have b1:=I.c1
  have b2:=I.z1
  have hSz:((⟨s.toArray⟩:ByteArray).size:Int)=s.length:=by simp [ByteArray.size]
  by_cases hj:j < s.length
  ·have hjd:(decide ((j:Int) < ((⟨s.toArray⟩:ByteArray).size:Int)))=true:=by rw [hSz];simp;omega
   have hjS:(j:Int) < ((⟨s.toArray⟩:ByteArray).size:Int):=by rw [hSz];omega
   have hx:=d5v s j hj
   by_cases h1:bt s j=c
   ·have g1:((((⟨s.toArray⟩:ByteArray)[j]'(by simpa [ByteArray.size] using hj)).toNat:Int) == (c:Int))=true:=by rw [← hx,h1];simp
    go_wp2_with (first
     | (go_at_call 108;refine (X3 bx _ _ _ b0 b1).mono ?_;rintro e w1 ⟨rfl,n,rfl⟩;rw [hjd]))
    go_quiet (fail)
    go_wp2_with (first
     | (go_at_call 57;refine (a9n w.heap.size acc _ (((I.drewN _).put _).isb) ((I.drewN _).put (j+1)).size).mono ?_;rintro e w3 ⟨rfl,hb3⟩))
    go_ret
    have I3:=((I.drewN (n+nq)).put (j+1)).low hb3
    refine ⟨I3.1,?_⟩
    rw [← he,J5,if_pos hj,if_pos h1]
    exact ⟨by rw [a8g];rfl,by have:=I3.2;exact_mod_cast this⟩
   ·have g1:((((⟨s.toArray⟩:ByteArray)[j]'(by simpa [ByteArray.size] using hj)).toNat:Int) == (c:Int))=false:=by rw [← hx];simpa using h1
    by_cases h2:bt s j=92
    ·have g2:((((⟨s.toArray⟩:ByteArray)[j]'(by simpa [ByteArray.size] using hj)).toNat:Int) == (92:Int))=true:=by rw [← hx,h2];rfl
     by_cases hj2:j+1 < s.length
     ·have hjL2:decide ((j:Int)+1 < (s.length:Int))=true:=by simp;omega
      have hjS2:(j:Int)+1 < ((⟨s.toArray⟩:ByteArray).size:Int):=by rw [hSz];omega
      have hjP:(j:Int)+1 < (s.length:Int):=oM
      have hj0:0≤(j:Int)+1:=oM
      have hy:=d5v s (j+1) hj2
      have hjd2:(decide ((j:Int)+1 < ((⟨s.toArray⟩:ByteArray).size:Int)))=true:=by rw [hSz];simp;omega
      go_wp2_with (first
       | (go_at_call 108;refine (X3 bx _ _ _ b0 b1).mono ?_;rintro e w1 ⟨rfl,n,rfl⟩;rw [hjd]))
      go_quiet (fail)
      go_wp2
      by_cases h3:bt s (j+1)=c
      ·have g3:((((⟨s.toArray⟩:ByteArray)[j+1]'(by simpa [ByteArray.size] using hj2)).toNat:Int) == (c:Int))=true:=by rw [← hy,h3];simp
       have g3n:((((⟨s.toArray⟩:ByteArray)[j+1]'(by simpa [ByteArray.size] using hj2)).toNat:Int) != (c:Int))=false:=by rw [← hy,h3];simp
       go_big_quiet (fail)
       have I1:=fun m=>(I.drewN m).put (j+1)
       have c0:=fun m n2=>((I1 m).drewN n2).c0
       have c1:=fun m n2=>((I1 m).drewN n2).c1
       go_wp2_with (first
        | (go_at_call 108;refine (X3 bx _ _ _ (I1 _).c0 (I1 _).c1).mono ?_;rintro e w1 ⟨rfl,n2,rfl⟩;rw [hjd2]))
       go_quiet (fail)
       have I4:=fun m n2=>(I1 m).drewN n2
       go_wp2_with (first
        | (go_at_call 136;refine (c4y _ _ _ _ (I4 _ _).isb oM (I4 _ _).size).mono ?_;rintro e w2 ⟨rfl,hi2,hb2⟩;have I2:=(I4 _ _).write hi2 hb2;have d0:=I2.c0;have d1:=I2.c1;have d2:=I2.z1))
       go_roundw
       case rel =>
        have I3:=I2.put (j+1+1)
        refine ⟨j+2,_,oM,oM,?_,by exact_mod_cast I3,?_⟩
        ·simp;omega
        ·rw [← he]
         conv=>rhs;rw [J5,if_pos hj,if_neg h1,if_neg (by rw [h2];simp),if_pos hj2,if_neg (by intro h;exact h.1 h3)]
         rw [b2r,← hy]
       case measure =>
        have I3:=I2.put (j+1+1)
        have e1:=I3.c1
        simp only [e1,b1]
        omega
      ·have g3n:((((⟨s.toArray⟩:ByteArray)[j+1]'(by simpa [ByteArray.size] using hj2)).toNat:Int) != (c:Int))=true:=by rw [← hy];simpa using h3
       by_cases h4:bt s (j+1)=92
       ·have g4:((((⟨s.toArray⟩:ByteArray)[j+1]'(by simpa [ByteArray.size] using hj2)).toNat:Int) != (92:Int))=false:=by rw [← hy,h4];rfl
        go_big_quiet (fail)
        have I1:=fun m=>(I.drewN m).put (j+1)
        have c0:=fun m n2=>((I1 m).drewN n2).c0
        have c1:=fun m n2=>((I1 m).drewN n2).c1
        go_wp2_with (first
         | (go_at_call 108;refine (X3 bx _ _ _ (I1 _).c0 (I1 _).c1).mono ?_;rintro e w1 ⟨rfl,n2,rfl⟩;rw [hjd2]))
        go_quiet (fail)
        have I4:=fun m n2=>(I1 m).drewN n2
        go_wp2_with (first
         | (go_at_call 136;refine (c4y _ _ _ _ (I4 _ _).isb oM (I4 _ _).size).mono ?_;rintro e w2 ⟨rfl,hi2,hb2⟩;have I2:=(I4 _ _).write hi2 hb2;have d0:=I2.c0;have d1:=I2.c1;have d2:=I2.z1))
        go_roundw
        case rel =>
         have I3:=I2.put (j+1+1)
         refine ⟨j+2,_,oM,oM,?_,by exact_mod_cast I3,?_⟩
         ·simp;omega
         ·rw [← he]
          conv=>rhs;rw [J5,if_pos hj,if_neg h1,if_neg (by rw [h2];simp),if_pos hj2,if_neg (by intro h;exact h.2 h4)]
          rw [b2r,← hy]
        case measure =>
         have I3:=I2.put (j+1+1)
         have e1:=I3.c1
         simp only [e1,b1]
         omega
       ·have g4:((((⟨s.toArray⟩:ByteArray)[j+1]'(by simpa [ByteArray.size] using hj2)).toNat:Int) != (92:Int))=true:=by rw [← hy];simpa using h4
        go_big_quiet (fail)
        go_wp2_with (first
         | (go_at_call 45;refine (a4x _ _ _).mono ?_;rintro e w2 ⟨rfl,rfl⟩))
        refine ⟨rfl,(I.drewN _).keep,?_⟩
        rw [← he,J5,if_pos hj,if_neg h1,if_neg (by rw [h2];simp),if_pos hj2,if_pos ⟨h3,h4⟩]
        rfl
     ·have hjL2:decide ((j:Int)+1 < (s.length:Int))=false:=by simp;omega
      have hjS2:¬(j:Int)+1 < ((⟨s.toArray⟩:ByteArray).size:Int):=by rw [hSz];omega
      have hjd2:(decide ((j:Int)+1 < ((⟨s.toArray⟩:ByteArray).size:Int)))=false:=by simp [hjS2]
      go_wp2_with (first
       | (go_at_call 108;refine (X3 bx _ _ _ b0 b1).mono ?_;rintro e w1 ⟨rfl,n,rfl⟩;rw [hjd]))
      go_quiet (fail)
      go_wp2
      go_big_quiet (fail)
      have I1:=fun m=>(I.drewN m).put (j+1)
      have c0:=fun m n2=>((I1 m).drewN n2).c0
      have c1:=fun m n2=>((I1 m).drewN n2).c1
      go_wp2_with (first
       | (go_at_call 108;refine (X3 bx _ _ _ (I1 _).c0 (I1 _).c1).mono ?_;rintro e w1 ⟨rfl,n2,rfl⟩;rw [hjd2])
       | (go_at_call 45;refine (a4x _ _ _).mono ?_;rintro e w2 ⟨rfl,rfl⟩))
      refine ⟨rfl,((I1 _).drewN _).keep,?_⟩
      rw [← he,J5,if_pos hj,if_neg h1,if_neg (by rw [h2];simp),if_neg hj2]
      rfl
    ·have g2:((((⟨s.toArray⟩:ByteArray)[j]'(by simpa [ByteArray.size] using hj)).toNat:Int) == (92:Int))=false:=by rw [← hx];simpa using h2
     go_wp2_with (first
      | (go_at_call 108;refine (X3 bx _ _ _ b0 b1).mono ?_;rintro e w1 ⟨rfl,n,rfl⟩;rw [hjd]))
     go_quiet (fail)
     have I1:=I.drewN (n+nq)
     go_wp2_with (first
      | (go_at_call 136;refine (c4y _ _ _ _ I1.isb oM I1.size).mono ?_;rintro e w2 ⟨rfl,hi2,hb2⟩;have I2:=I1.write hi2 hb2;have d0:=I2.c0;have d1:=I2.c1;have d2:=I2.z1))
     go_roundw
     case rel =>
      have I3:=I2.put (j+1)
      refine ⟨j+1,_,oM,oM,?_,by exact_mod_cast I3,?_⟩
      ·simp;omega
      ·rw [← he]
       conv=>rhs;rw [J5,if_pos hj,if_neg h1,if_pos h2]
       rw [b2r,← hx]
     case measure =>
      have I3:=I2.put (j+1)
      have e1:=I3.c1
      simp only [e1,b1]
      omega
  ·have hjL:decide ((j:Int) < ((⟨s.toArray⟩:ByteArray).size:Int))=false:=by rw [hSz];simp;omega
   go_wp2_with (first
    | (go_at_call 108;refine (X3 bx _ _ _ b0 b1).mono ?_;rintro e w1 ⟨rfl,n,rfl⟩;rw [hjL])
    | (go_at_call 45;refine (a4x _ _ _).mono ?_;rintro e w2 ⟨rfl,rfl⟩))
   refine ⟨rfl,(I.drewN _).keep,?_⟩
   rw [← he,J5,if_neg hj]
   simp [e97,ByteArray.size]
end Go.Proofs.YtdldcfllnohkeaaGreatDoor
namespace Go.Proofs.YtdldcfllnohkeaaGreatDoor
open Go.Abs LQ Go.RowKit Go.Shelf
set_option maxRecDepth 100000
set_option maxHeartbeats 1000000
noncomputable section
theorem _root_.Go.Abs.RB.den {gs:List G} {b:Bx} (h:RB gs b):G2 b=gs.map dG:=by
 cases h with
 | opa q m h1 h2=>subst h1;simp only [G2];exact h2.den
 | cells cs h =>
  simp only [G2]
  rw [h.map_toD,List.map_map]
  exact List.map_congr_left fun g _=>by simp only [Function.comp,dV]
theorem _root_.Go.Abs.RBs.den {gs:List (List G)} {bs:List Bx} (h:RBs gs bs):bs.map G2=gs.map fun g=>g.map dG:=by
 induction h with
 | nil=>rfl
 | cons g gs b bs h1 _ ih=>rw [List.map_cons,List.map_cons,h1.den,ih]
theorem d6e (s:i6) (i c:Nat) (hi:i < s.length) (hs:s.length < 8000) (hc:c=34∨c=124) (r:W0) (hs':List D)
  (hr:match J5 s c (i+1) [] with
   | .ok (l,j)=>r=.ret (.str (G3 l))∧hs'=[.str s,.int .i64 j]
   | .error (e,p)=>r=.pan (.iface 107 (.agg [.int .i64 e,.int .i64 p]))) :
  CM Tryz.prog GG 109 [.ptr 0 0,.int .u8 c] [[.str s,.int .i64 i]] r [hs']:=by
 refine ⟨Tryz.call109,fun w S M vs hg hM hwi hh hvs=>?_⟩
 obtain ⟨b,k,cs,T,hM0,hb,hcs,hnS⟩:=hh.box 0 _ rfl
 cases hvs with
 | cons _ _ _ _ h1 hvs =>
 cases hvs with
 | cons _ _ _ _ h2 hvs =>
 cases hvs
 cases h2
 cases h1 with
 | ptr _ _ b' c' hM' =>
 rw [hM0] at hM'
 injection hM' with hM'
 injection hM' with e1 e2
 subst e1 e2
 obtain ⟨cs⟩:=cs
 cases hcs with
 | cons _ _ _ _ q1 hcs =>
 cases hcs with
 | cons _ _ _ _ q2 hcs =>
 cases hcs
 cases q2
 cases q1 with
 | str t _ ht =>
 have ht:t=⟨s.toArray⟩:=by subst ht;rfl
 subst ht
 refine (d9u b T s i c w hb hi hs hc).mono ?_
 rintro e w' ⟨hk,he⟩
 refine ⟨⟨hk.os,hk.tape,hk.output,hk.size,fun k' hlt hne=>hk.old k' hlt fun h=>hne 0 k (h ▸ hM0)⟩,S,⟨fun _ _ h=>h,fun _ _ h=>.inl h⟩,fun b' o h=>Nat.lt_of_lt_of_le (hwi b' o h) hk.size,?_⟩
 cases hx:J5 s c (i+1) [] with
 | error ep =>
  obtain ⟨er,p⟩:=ep
  rw [hx] at hr he
  subst hr
  exact ⟨_,he,.iface _ _ _ (.agg _ _ (.k (.int _ _) (.k (.int _ _) .nil)))⟩
 | ok lj =>
  obtain ⟨l,j⟩:=lj
  rw [hx] at hr he
  obtain ⟨rfl,rfl⟩:=hr
  obtain ⟨rfl,hb'⟩:=he
  refine ⟨⟨fun id x hid=>?_,fun id hid=>hh.out id hid,fun i' j' x y b' k' l' hi' hj' _ _ _ _=>?_⟩,_,rfl,.str _ _ rfl,P6 (fun _ _ _ h=>by cases h) (fun _ h=>by cases h)⟩
  ·match id,hid with
   | 0,hid =>
    simp at hid
    subst hid
    exact ⟨b,k,_,T,hM0,hb',.k (.str _ _ rfl) (.k (.int _ _) .nil),hnS⟩
   | id+1,hid=>simp at hid
  ·have e1:i'=0:=by
    have:=(List.getElem?_eq_some_iff.1 hi').1
    simp at this;exact this
   have e2:j'=0:=by
    have:=(List.getElem?_eq_some_iff.1 hj').1
    simp at this;exact this
   rw [e1,e2]
theorem f0v:k9 109 b9b:=fun p vs bs hv hb=>by
 obtain ⟨⟨⟨⟨s,i⟩,hsi⟩,c⟩,hc,hi,hs⟩:=p
 change c=34∨c=124 at hc
 change i < s.length at hi
 change s.length < 8000 at hs
 change l7 [.p 0 0,.c (.i .u8 c)] vs at hv
 change RBs [J4 s i] bs at hb
 show ∃ v bs',b5n 109 vs bs v bs'∧l8 (b2f (W2 s i c)) v∧RBs [J4 s (c5l i (W2 s i c))] bs'
 have hd:vs.map toD=[.ptr 0 0,.int .u8 c]:=by rw [hv.map_toD];simp [dV,dG]
 have hbd:bs.map G2=[[.str s,.int .i64 i]]:=by rw [hb.den];simp [J4,dG]
 obtain ⟨n,rfl⟩:∃ n:Nat,c=n:=⟨c.toNat,oM⟩
 have hn:n=34∨n=124:=oM
 unfold W2
 cases hx:J5 s n (i+1) [] with
 | ok lj =>
  obtain ⟨l,j⟩:=lj
  refine ⟨.ret (.str (G3 l).length (n7 (G3 l))),[.cells [.str s.length (n7 s),.int .i64 j]],fun _=>?_,.ret _ _ (.s _ _ _ rfl rfl),.k (scB rfl) .nil⟩
  rw [hd,hbd]
  refine d6e s i n hi hs hn _ _ ?_
  rw [hx]
  refine ⟨?_,?_⟩
  ·show W0.ret (.str (m8 _ _))=_
   rw [C2]
  ·show [D.str (m8 _ _),_]=_
   rw [C2];rfl
 | error ep =>
  obtain ⟨e,p⟩:=ep
  refine ⟨.pan (.iface 107 (.agg [.int .i64 e,.int .i64 p])),[.cells [.str s.length (n7 s),.int .i64 i]],fun _=>?_,.pan _ _ (.fl _ _ _ _ (.k (.i _ _) (.k (.i _ _) .nil))),.k (scB rfl) .nil⟩
  rw [hd,hbd]
  refine d6e s i n hi hs hn _ _ ?_
  rw [hx]
  rfl
end
end Go.Proofs.YtdldcfllnohkeaaGreatDoor
namespace Go.Proofs.YtdldcfllnohkeaaGreatDoor
open Go.RowKit Go.Shelf Go.Abs LQ
set_option maxRecDepth 100000
set_option maxHeartbeats 4000000
theorem d9e (r:Int) (h1:128≤r) (h2:r < 256) (w:World) :
  Calls Tryz.prog 182 #[.int .i32 r] w fun e w'=>e=.returned (.bool true)∧w'=w:=by
 have a1:decide (0≤r)=true:=by simp;omega
 have a2:decide (r < 55296)=true:=by simp;omega
 go_enter Tryz.func182,Tryz.ntmps182
 go_wp2
 go_ret
 exact ⟨rfl,rfl⟩
theorem c9e (r:Int) (h1:128≤r) (h2:r < 256):∃ x y:UInt8,Utf8.encode r=⟨#[x,y]⟩∧128≤y.toNat:=by
 have key:∀ n:Fin 128,Utf8.encode ((n.1+128:Nat):Int)=⟨#[UInt8.ofNat (192+(n.1+128) / 64),UInt8.ofNat (128+(n.1+128) % 64)]⟩:=dE
 have k2:∀ n:Fin 128,128≤(UInt8.ofNat (128+(n.1+128) % 64)).toNat:=dE
 obtain ⟨n,rfl⟩:∃ n:Nat,r=((n+128:Nat):Int):=⟨(r - 128).toNat,oM⟩
 exact ⟨_,_,key ⟨n,oM⟩,k2 ⟨n,oM⟩⟩
theorem e6e (y:UInt8) (hy:128≤y.toNat) (S:ByteArray) (hS:S.data.toList=[10,13]) (c:Int) (hc:c=(y.toNat:Int)) (w:World):Calls Tryz.prog 133 #[.string S,.int .u8 c] w fun e w'=>e=.returned (.int .i64 (-1))∧w'=w:=by
 refine (Any.strings_IndexByte Tryz.lays137 S c w).mono ?_
 rintro e w' ⟨rfl,rfl⟩
 refine ⟨?_,rfl⟩
 have key:∀ y:UInt8,128≤y.toNat→Lib.indexByte [10,13] y=-1:=by
  intro y hy
  have h1:¬(10:UInt8)=y:=by rintro rfl;simp at hy
  have h2:¬(13:UInt8)=y:=by rintro rfl;simp at hy
  simp [Lib.indexByte,h1,h2]
 subst hc
 have e1:((y.toNat:Int)).toNat.toUInt8=y:=by simp
 rw [hS,e1,key y hy]
theorem c0h (r:Int) (h1:128≤r) (h2:r < 256) (w:World) :
  Calls Tryz.prog 155 #[.string ⟨#[32,9,10,13]⟩,.int .i32 r] w fun e w'=>e=.returned (.int .i64 (-1))∧∃ n,w'=w.drewN n:=by
 have a1:decide (0≤r)=true:=by simp;omega
 have a2:decide (r < 128)=false:=by simp;omega
 have a3:(r == 65533)=false:=by simp;omega
 go_enter Tryz.func155,Tryz.ntmps155
 go_wp2_with (first
  | (go_at_call 182;refine (d9e r h1 h2 _).mono ?_;rintro e w1 ⟨rfl,rfl⟩))
 obtain ⟨x,y,hE,hy⟩:=c9e r h1 h2
 have hne:((9:Int) != (y.toNat:Int))=true:=by simp;omega
 have hne2:((((⟨#[32,9,10,13]⟩:ByteArray)[1]'dE).toNat:Int) != (((⟨#[x,y]⟩:ByteArray)[1]'(by show 1 < 2;decide)).toNat:Int))=true:=hne
 refine wp_scope_straight ?_
 go_wp2
 go_loop [9] (fun v=>v=.int .i64 1) (fun _=>0)
 case atStart=>rfl
 case round =>
  subst hrel
  go_wp2
  refine wp_scope_straight ?_
  go_wp2
  go_quiet (fail)
  go_wp2
  go_quiet (first | (go_at_call 133;refine (e6e y hy _ dE _ rfl _).mono ?_;rintro e w' ⟨rfl,rfl⟩;exact ⟨rfl,_,rfl⟩))
  go_wp2
  exact ⟨rfl,_,results_tmp rfl _ _ _,rfl,_,rfl⟩
theorem c3v (r:Int) (h1:128≤r) (h2:r < 256) (w:World) :
  Calls Tryz.prog 132 #[.string ⟨#[32,9,10,13]⟩,.int .i32 r] w fun e w'=>e=.returned (.bool false)∧∃ n,w'=w.drewN n:=by
 go_enter Tryz.func132,Tryz.ntmps132
 go_wp2_with (first
  | (go_at_call 155;refine (c0h r h1 h2 _).mono ?_;rintro e w1 ⟨rfl,n,rfl⟩))
 go_ret
 exact ⟨rfl,_,rfl⟩
noncomputable section
theorem kCR:k9 132 c8h:=fun ⟨(s,r),h0,h1⟩ vs bs hv hb=>by
 by_cases h:r < 128
 ·obtain ⟨v,bs',a,b,c⟩:=c2h ⟨(s,r),h0,h⟩ vs bs hv hb
  refine ⟨v,bs',a,?_,c⟩
  change l8 (.ret (.c (.b (decide (0≤Lib.indexByte s r.toNat.toUInt8))))) v at b
  show l8 (.ret (.c (.b (decide (r < 128∧0≤Lib.indexByte s r.toNat.toUInt8))))) v
  rw [show (decide (r < 128∧0≤Lib.indexByte s r.toNat.toUInt8))=decide (0≤Lib.indexByte s r.toNat.toUInt8) by simp [h]]
  exact b
 ·have h1:r < 128∨r < 256∧s=m8 4 218761504:=h1
  obtain ⟨h2,rfl⟩:=h1.resolve_left h
  change l7 [.c (.s (m8 4 218761504)),.c (.i .i32 r)] vs at hv
  cases hb
  have e1:decide (r < 128∧0≤Lib.indexByte (m8 4 218761504) r.toNat.toUInt8)=false:=by simp [h]
  refine ⟨.ret (.bool false),[],fun hok=>?_,?_,.nil⟩
  ·rw [c8p hv]
   refine L5 (d:=.bool false) Tryz.call132 fun w S M us hg hwi hr=>?_
   rw [c7y hr]
   have e2:(m8 4 218761504).toArray=#[32,9,10,13]:=dE
   rw [e2]
   refine (c3v r oM h2 w).mono ?_
   rintro e w' ⟨rfl,n,rfl⟩
   exact ⟨⟨rfl,rfl,rfl,Nat.le_refl _,fun _ _=>rfl⟩,_,S,rfl,⟨fun _ _ h=>h,fun _ _ h=>.inl h⟩,hwi,.bool _,P6 (fun _ _ _ h=>by cases h) (fun _ h=>by cases h)⟩
  ·show l8 (.ret (.c (.b (decide (r < 128∧0≤Lib.indexByte (m8 4 218761504) r.toNat.toUInt8))))) _
   rw [e1]
   exact .ret _ _ (.b _)
end
end Go.Proofs.YtdldcfllnohkeaaGreatDoor
namespace Go.Proofs.YtdldcfllnohkeaaGreatDoor
open Go.Abs
set_option maxRecDepth 100000
set_option maxHeartbeats 400000
abbrev d5o:Array Value:=#[.int .i64 0,.string ⟨#[]⟩,.string ⟨#[]⟩,.string ⟨#[]⟩,.string ⟨#[]⟩,.string ⟨#[]⟩,.slice none 0 0]
abbrev b0w:Obj:=.cells d5o 26
structure a1d (b:Nat) (w w':World):Prop where
 os:w'.os=w.os
 tape:w'.tape=w.tape
 output:w'.output=w.output
 size:w'.heap.size=w.heap.size
 rest:∀ k,k ≠ b→w'.heap[k]?=w.heap[k]?
theorem a1d.set (b i:Nat) (v:Value) (w:World):a1d b w (w.setCell ⟨b,i,none⟩ v) :=
 ⟨rfl,rfl,rfl,by simp [World.setCell],fun k hk=>by simp only [World.setCell,Array.getElem?_modify];simp [Ne.symm hk]⟩
theorem a1d.trans {b:Nat} {w w' w'':World} (h:a1d b w w') (k:a1d b w' w''):a1d b w w'' :=
 ⟨k.os.trans h.os,k.tape.trans h.tape,k.output.trans h.output,k.size.trans h.size,fun j hj=>(k.rest j hj).trans (h.rest j hj)⟩
def b3w (b1:Nat) (R:Ending→World→Prop) (er p:Int) (w2:World):Prop:=R (.returned (.tuple #[.agg d5o,.agg #[.int .i64 er,.int .i64 p]])) ((w2.alloc (.cells #[.int .i64 er,.int .i64 p] 107)).setRow b1 #[.int .i64 er,.int .i64 p])
inductive a9l (b0 b1:Nat) (S:ByteArray) (R:Ending→World→Prop) (w2:World):Ending→Prop
 | none (base base2:Option Addr) (cap cap2:Nat):b3w b1 R 11 S.size w2→a9l b0 b1 S R w2 (.returned (.tuple #[.slice base 0 cap,.slice base2 0 cap2]))
 | one (b o:Nat) (base2:Option Addr) (cap cap2:Nat) (c0 c1 c2 c3 c4 c5 c6:Value):b ≠ b0→(∀ (i:Nat) (v:Value),#[c0,c1,c2,c3,c4,c5,c6][i]?=some v→v.oneCell'=true)→(∀ (i:Nat) (v:Value),#[c0,c1,c2,c3,c4,c5,c6][i]?=some v→w2.cell? ⟨b,o+i,.none⟩=some v) →
  (∀ w3:World,a1d b0 w2 w3→R (.returned (.tuple #[.agg #[c0,c1,c2,c3,c4,c5,c6],.agg #[.int .i64 0,.int .i64 0]])) w3) →
  a9l b0 b1 S R w2 (.returned (.tuple #[.slice (some ⟨b,o,.none⟩) 1 cap,.slice base2 1 cap2]))
 | more (n b o:Nat) (base:Option Addr) (cap cap2:Nat) (p:Int):2≤n→w2.cell? ⟨b,o+1,.none⟩=some (.int .i64 p)→b3w b1 R 12 p w2→a9l b0 b1 S R w2 (.returned (.tuple #[.slice base n cap,.slice (some ⟨b,o,.none⟩) n cap2]))
 | fail (er p:Int):b3w b1 R er p w2→a9l b0 b1 S R w2 (.panicked [{ v:=.iface 107 (.agg #[.int .i64 er,.int .i64 p]),recovered:=false }])
theorem a4l {w:World} {b0 b1:Nat} {c0 c1 c2 c3 c4 c5 c6 x y:Value} {tmps:Array Value} (h6:tmps.getD 6 undef=.pointer (some ⟨b0,0,none⟩)) (h7:tmps.getD 7 undef=.pointer (some ⟨b1,0,none⟩))
  (ho:w.heap[b0]?=some (.cells #[c0,c1,c2,c3,c4,c5,c6] 26 (0,0))) (hb:w.heap[b1]?=some (.cells #[x,y] 45 (0,0))) :
  (results Tryz.f16 tmps).run Tryz.prog w=.ok (.tuple #[.agg #[c0,c1,c2,c3,c4,c5,c6],.agg #[x,y]]) w:=by
 have h0:w.cell? ⟨b1,0,none⟩=some x:=by simp [World.cell?,hb]
 have h1:w.cell? ⟨b1,1,none⟩=some y:=by simp [World.cell?,hb]
 have k0:w.cell? ⟨b0,0,none⟩=some c0:=by simp [World.cell?,ho]
 have k1:w.cell? ⟨b0,1,none⟩=some c1:=by simp [World.cell?,ho]
 have k2:w.cell? ⟨b0,2,none⟩=some c2:=by simp [World.cell?,ho]
 have k3:w.cell? ⟨b0,3,none⟩=some c3:=by simp [World.cell?,ho]
 have k4:w.cell? ⟨b0,4,none⟩=some c4:=by simp [World.cell?,ho]
 have k5:w.cell? ⟨b0,5,none⟩=some c5:=by simp [World.cell?,ho]
 have k6:w.cell? ⟨b0,6,none⟩=some c6:=by simp [World.cell?,ho]
 rw [Array.getD_eq_getD_getElem?] at h6 h7
 simp [results,Tryz.results16,go_sem,h6,h7,h0,h1,k0,k1,k2,k3,k4,k5,k6]
theorem e0s {a:Act} {w:World} {b o:Nat} {c0 c1 c2 c3 c4 c5 c6:Value} {d:Option Tmp} {t:Tmp} {ty:TypeId} {pos:String} {af:Array Edge} (hp:a.tmps.getD t undef=.pointer (some ⟨b,o,none⟩)) (hcs:∀ i v,#[c0,c1,c2,c3,c4,c5,c6][i]?=some v→w.cell? ⟨b,o+i,none⟩=some v) :
  (execOp a.eval { dst:=d,op:=.load 26 (.tmp t),type:=ty,pos:=pos,after:=af,guard:=none }).run Tryz.prog w=.ok (.value (.agg #[c0,c1,c2,c3,c4,c5,c6])) w:=by
 have k0:w.cell? ⟨b,o,none⟩=some c0:=hcs 0 c0 rfl
 have k1:=hcs 1 c1 rfl
 have k2:=hcs 2 c2 rfl
 have k3:=hcs 3 c3 rfl
 have k4:=hcs 4 c4 rfl
 have k5:=hcs 5 c5 rfl
 have k6:=hcs 6 c6 rfl
 simp [execOp,go_sem,Act.eval,hp,k0,k1,k2,k3,k4,k5,k6]
theorem D1 {b i:Nat} {v:Value} {w:World} {cs:Array Value} {T:TypeId} (hb:w.heap[b]?=some (.cells cs T (0,0))):(w.setCell ⟨b,i,none⟩ v).heap[b]?=some (.cells (cs.setIfInBounds i v) T (0,0)):=by
 simp only [World.setCell,Array.getElem?_modify]
 simp [hb]
theorem a0x {b i:Nat} {v:Value} {w:World} {cs:Array Value} {T:TypeId} (hb:w.heap[b]?=some (.cells cs T (0,0))) (hi:i < cs.size) (hv:v.oneCell'=true):(store ⟨b,i,none⟩ v).run Tryz.prog w=.ok () (w.setCell ⟨b,i,none⟩ v):=by
 have h0:w.cell? ⟨b,i,none⟩=some cs[i]:=by simp [World.cell?,hb,hi]
 have f:w.frozen? ⟨b,i,none⟩=false:=by simp [World.frozen?,hb]
 rw [run_store _ _ _ _ _ hv,h0]
 simp [f]
def a7k (w:World) (b:Nat) (c0 c1 c2 c3 c4 c5 c6:Value):World:=((((((w.setCell ⟨b,0,none⟩ c0).setCell ⟨b,1,none⟩ c1).setCell ⟨b,2,none⟩ c2).setCell ⟨b,3,none⟩ c3).setCell ⟨b,4,none⟩ c4).setCell ⟨b,5,none⟩ c5).setCell ⟨b,6,none⟩ c6
theorem b22 (w:World) (b:Nat) (c0 c1 c2 c3 c4 c5 c6:Value):a1d b w (a7k w b c0 c1 c2 c3 c4 c5 c6) :=
 (((((((a1d.set b 0 c0 w).trans (a1d.set b 1 c1 _)).trans (a1d.set b 2 c2 _)).trans (a1d.set b 3 c3 _)).trans (a1d.set b 4 c4 _)).trans (a1d.set b 5 c5 _)).trans (a1d.set b 6 c6 _))
theorem e7n {w:World} {b:Nat} (hb:w.heap[b]?=some b0w) (c0 c1 c2 c3 c4 c5 c6:Value):(a7k w b c0 c1 c2 c3 c4 c5 c6).heap[b]?=some (.cells #[c0,c1,c2,c3,c4,c5,c6] 26 (0,0)) :=
 D1 (D1 (D1 (D1 (D1 (D1 (D1 hb))))))
theorem d8p {a:Act} {w:World} {b:Nat} {c0 c1 c2 c3 c4 c5 c6:Value} {d:Option Tmp} {t u:Tmp} {ty:TypeId} {pos:String} {af:Array Edge} (hp:a.tmps.getD t undef=.pointer (some ⟨b,0,none⟩)) (hv:a.tmps.getD u undef=.agg #[c0,c1,c2,c3,c4,c5,c6]) (h1:∀ (i:Nat) (v:Value),#[c0,c1,c2,c3,c4,c5,c6][i]?=some v→v.oneCell'=true) (hb:w.heap[b]?=some b0w) :
  (execOp a.eval { dst:=d,op:=.store 26 (.tmp t) (.tmp u),type:=ty,pos:=pos,after:=af,guard:=none }).run Tryz.prog w=.ok .skip (a7k w b c0 c1 c2 c3 c4 c5 c6):=by
 unfold a7k
 have s0:=a0x (i:=0) (v:=c0) hb dE (h1 0 c0 rfl)
 have e1:=D1 (i:=0) (v:=c0) hb
 have s1:=a0x (i:=1) (v:=c1) e1 (by simp) (h1 1 c1 rfl)
 have e2:=D1 (i:=1) (v:=c1) e1
 have s2:=a0x (i:=2) (v:=c2) e2 (by simp) (h1 2 c2 rfl)
 have e3:=D1 (i:=2) (v:=c2) e2
 have s3:=a0x (i:=3) (v:=c3) e3 (by simp) (h1 3 c3 rfl)
 have e4:=D1 (i:=3) (v:=c3) e3
 have s4:=a0x (i:=4) (v:=c4) e4 (by simp) (h1 4 c4 rfl)
 have e5:=D1 (i:=4) (v:=c4) e4
 have s5:=a0x (i:=5) (v:=c5) e5 (by simp) (h1 5 c5 rfl)
 have e6:=D1 (i:=5) (v:=c5) e5
 have s6:=a0x (i:=6) (v:=c6) e6 (by simp) (h1 6 c6 rfl)
 clear e1 e2 e3 e4 e5 e6
 simp [execOp,go_sem,Act.eval,hp,hv,s0,s1,s2,s3,s4,s5,s6]
theorem f0t {a:Act} {w:World} {b o cap:Nat} {d:Option Tmp} {t:Tmp} {ty:TypeId} {pos:String} {af:Array Edge} (hp:a.tmps.getD t undef=.slice (some ⟨b,o,none⟩) 1 cap) :
  (execOp a.eval { dst:=d,op:=.indexAddr 24 (.tmp t) (.const (.int .i64 0)),type:=ty,pos:=pos,after:=af,guard:=none }).run Tryz.prog w=.ok (.value (.pointer (some ⟨b,o,none⟩))) w:=by
 simp [execOp,go_sem,Act.eval,hp]
structure Fr (b0 b1:Nat) (a:Act):Prop where
 defers:a.defers=[a4t b1]
 size:35 < a.tmps.size
 p6:a.tmps.getD 6 undef=.pointer (some ⟨b0,0,none⟩)
 p7:a.tmps.getD 7 undef=.pointer (some ⟨b1,0,none⟩)
theorem a23 {a:Act} {i j:Nat} {v:Value} (h:i ≠ j):(a.put (some i) v).tmps.getD j undef=a.tmps.getD j undef:=by
 simp [Act.put,Array.getElem?_setIfInBounds_ne h]
theorem a0u {a:Act} {i:Nat} {v:Value} (h:i < a.tmps.size):(a.put (some i) v).tmps.getD i undef=v:=by
 simp [Act.put,h]
theorem Fr.put {b0 b1:Nat} {a:Act} (h:Fr b0 b1 a) {i:Nat} {v:Value} (hi:8≤i):Fr b0 b1 (a.put (some i) v) :=
 ⟨h.defers,by have:=h.size;simpa [Act.put] using this,(a23 oM).trans h.p6,(a23 oM).trans h.p7⟩
theorem b1a {w:World} {b0 b1:Nat} {x:Array Value} (hb:w.heap[b0]?=some b0w) {o:Obj} (hne:b0 ≠ b1):((w.alloc o).setRow b1 x).heap[b0]?=some b0w:=by
 have hlt:b0 < w.heap.size:=(Array.getElem?_eq_some_iff.1 hb).1
 unfold World.setRow World.alloc
 simp only [Array.getElem?_modify,Array.getElem?_push]
 simp [Nat.ne_of_lt hlt,hb,Ne.symm hne]
theorem e02 {v0 v1:Value} {S:ByteArray} {w:World} {R:Ending→World→Prop}
  (hcall:∀ w1,w1=(w.alloc b0w).alloc J6→Calls Tryz.prog 44 #[v0,v1,.string S] w1 fun e w2=>w2.heap[w.heap.size]?=some b0w∧w2.heap[w.heap.size+1]?=some J6∧a9l w.heap.size (w.heap.size+1) S R w2 e) :
  Calls Tryz.prog 16 #[v0,v1,.string S] w R:=by
 go_enter_defers Tryz.func16,Tryz.ntmps16
 have hcall:=hcall _ rfl
 go_wp2_with (fail)
 refine hcall.mono ?_
 rintro e w2 ⟨hb0,hb1,hh⟩
 cases hh with
 | fail er p hR =>
  exact a8c hb1 fun w' e=>by
   subst e
   exact ⟨a4l rfl rfl (b1a hb0 oM) (a54 hb1),hR⟩
 | none base base2 cap cap2 hR =>
  go_wp2_with (go_at_call 45;refine (a4x _ _ _).mono ?_;rintro e w3 ⟨rfl,rfl⟩)
  exact a8c hb1 fun w' e=>by
   subst e
   exact ⟨a4l rfl rfl (b1a hb0 oM) (a54 hb1),hR⟩
 | more n b o base cap cap2 p h2 hc hR =>
  have q1:((n:Int) == 0)=false:=by simp;omega
  have q2:decide ((1:Int) < n)=true:=by simp;omega
  have q3:(1:Int) < n:=oM
  go_wp2_with (go_at_call 45;refine (a4x _ _ _).mono ?_;rintro e w3 ⟨rfl,rfl⟩)
  exact a8c hb1 fun w' e=>by
   subst e
   exact ⟨a4l rfl rfl (b1a hb0 oM) (a54 hb1),hR⟩
 | one b o base2 cap cap2 c0 c1 c2 c3 c4 c5 c6 hne h1 hcs hR =>
  go_wp2
  rename_i K hK
  refine wp_region_any rfl ?_
  change wpAny Tryz.prog .any _ _ 6 #[false,false,false,false,false,false] _ w2.drew
  have hb0:w2.drew.heap[w.heap.size]?=some b0w:=hb0
  have hb1:w2.drew.heap[w.heap.size+1]?=some J6:=hb1
  have hcs:∀ (i:Nat) (v:Value),#[c0,c1,c2,c3,c4,c5,c6][i]?=some v→w2.drew.cell? ⟨b,o+i,none⟩=some v:=hcs
  have hR:∀ w3:World,a1d w.heap.size w2.drew w3→R (.returned (.tuple #[.agg #[c0,c1,c2,c3,c4,c5,c6],.agg #[.int .i64 0,.int .i64 0]])) w3:=fun w3 h=>hR w3 ⟨h.os,h.tape,h.output,h.size,h.rest⟩
  generalize w2.drew=w3 at *
  have hne2:w.heap.size+1 ≠ w.heap.size:=oM
  generalize w.heap.size+1=b1 at *
  generalize w.heap.size=b0 at *
  generalize hops:(#[_,_,_,_,_,_]:Array Oper)=ops
  have hr00:Region.ready .any ops #[false,false,false,false,false,false]=[0,3]:=by subst hops;kernel_rfl
  have hr10:Region.ready .any ops #[true,false,false,false,false,false]=[1,3]:=by subst hops;kernel_rfl
  have hr20:Region.ready .any ops #[true,true,false,false,false,false]=[2,3]:=by subst hops;kernel_rfl
  have hr30:Region.ready .any ops #[true,true,true,false,false,false]=[3,4]:=by subst hops;kernel_rfl
  have hr40:Region.ready .any ops #[true,true,true,false,true,false]=[3]:=by subst hops;kernel_rfl
  have hr01:Region.ready .any ops #[false,false,false,true,false,false]=[0]:=by subst hops;kernel_rfl
  have hr11:Region.ready .any ops #[true,false,false,true,false,false]=[1]:=by subst hops;kernel_rfl
  have hr21:Region.ready .any ops #[true,true,false,true,false,false]=[2]:=by subst hops;kernel_rfl
  have hr31:Region.ready .any ops #[true,true,true,true,false,false]=[4]:=by subst hops;kernel_rfl
  have hr41:Region.ready .any ops #[true,true,true,true,true,false]=[5]:=by subst hops;kernel_rfl
  have hr5:Region.ready .any ops #[true,true,true,true,true,true]=[]:=by subst hops;kernel_rfl
  generalize hQ:Exit.then K (bodyPostD Tryz.prog Tryz.f16 R)=Q
  have m0:∀ {K':Act→World→Prop} {a:Act},K' (a.put (some 32) (a.tmps.getD 8 undef)) w3→wpOp Tryz.prog ops Q 0 K' a w3:=by
   subst hops;exact fun h=>a7i rfl rfl rfl h
  have m1:∀ {K':Act→World→Prop} {a:Act},a.tmps.getD 32 undef=.slice (some ⟨b,o,none⟩) 1 cap→K' (a.put (some 33) (.pointer (some ⟨b,o,none⟩))) w3→wpOp Tryz.prog ops Q 1 K' a w3:=by
   subst hops;exact fun h1 h=>a7i rfl rfl (f0t h1) h
  have m2:∀ {K':Act→World→Prop} {a:Act},a.tmps.getD 33 undef=.pointer (some ⟨b,o,none⟩)→K' (a.put (some 34) (.agg #[c0,c1,c2,c3,c4,c5,c6])) w3→wpOp Tryz.prog ops Q 2 K' a w3:=by
   subst hops;exact fun h1 h=>a7i rfl rfl (e0s h1 hcs) h
  have m3:∀ {K':Act→World→Prop} {a:Act} {w':World},w'.heap[b1]?=some J6→a.tmps.getD 7 undef=.pointer (some ⟨b1,0,none⟩)→K' (a.put (some 35) (.agg #[.int .i64 0,.int .i64 0])) w'→wpOp Tryz.prog ops Q 3 K' a w':=by
   subst hops;exact fun hb h1 h=>a7i rfl rfl (c6u h1 hb) h
  have m4:∀ {K':Act→World→Prop} {a:Act},a.tmps.getD 6 undef=.pointer (some ⟨b0,0,none⟩)→a.tmps.getD 34 undef=.agg #[c0,c1,c2,c3,c4,c5,c6]→K' a (a7k w3 b0 c0 c1 c2 c3 c4 c5 c6)→wpOp Tryz.prog ops Q 4 K' a w3:=by
   subst hops;exact fun h1 h2 h=>c0z rfl rfl (d8p h1 h2 ‹_› hb0) h
  have m5:∀ {K':Act→World→Prop} {a:Act} {w':World},w'.heap[b1]?=some J6→a.tmps.getD 7 undef=.pointer (some ⟨b1,0,none⟩)→a.tmps.getD 35 undef=.agg #[.int .i64 0,.int .i64 0]→K' a w'→wpOp Tryz.prog ops Q 5 K' a w':=by
   subst hops;exact fun hb h1 h2 h=>c0z rfl rfl ((c3f h1 h2 hb).trans (by rw [b9d _ _ _ _ _ hb])) h
  have hb1':(a7k w3 b0 c0 c1 c2 c3 c4 c5 c6).heap[b1]?=some J6:=((b22 w3 b0 c0 c1 c2 c3 c4 c5 c6).rest b1 hne2).trans hb1
  have hend:∀ a:Act,Fr b0 b1 a→Q .normal a (a7k w3 b0 c0 c1 c2 c3 c4 c5 c6):=by
   rintro ⟨tmps,ds⟩ h
   have hd:ds=[a4t b1]:=h.defers
   subst hd
   subst hQ
   refine hK _ _ (wp_ret ?_)
   exact c2j (a4l h.p6 h.p7 (e7n hb0 _ _ _ _ _ _ _) hb1') (hR _ (b22 _ _ _ _ _ _ _ _ _))
  clear hops hQ hK
  have sE:∀ a:Act,Fr b0 b1 a→a.tmps.getD 35 undef=Value.agg #[.int .i64 0,.int .i64 0]→wpAny Tryz.prog .any ops Q 1 #[true,true,true,true,true,false] a (a7k w3 b0 c0 c1 c2 c3 c4 c5 c6):=fun a h k5=>a0n hr41 (m5 hb1' h.p7 k5 (c46 hr5 (hend _ h)))
  have sT3:∀ a:Act,Fr b0 b1 a→a.tmps.getD 35 undef=Value.agg #[.int .i64 0,.int .i64 0]→a.tmps.getD 34 undef=Value.agg #[c0,c1,c2,c3,c4,c5,c6]→wpAny Tryz.prog .any ops Q 2 #[true,true,true,true,false,false] a w3:=fun a h k5 k4=>a0n hr31 (m4 h.p6 k4 (sE _ h k5))
  have sT2:∀ a:Act,Fr b0 b1 a→a.tmps.getD 35 undef=Value.agg #[.int .i64 0,.int .i64 0]→a.tmps.getD 33 undef=Value.pointer (some ⟨b,o,none⟩)→wpAny Tryz.prog .any ops Q 3 #[true,true,false,true,false,false] a w3:=fun a h k5 k3=>a0n hr21 (m2 k3 (sT3 _ (h.put dE) ((a23 dE).trans k5) (a0u (by have:=h.size;omega))))
  have sT1:∀ a:Act,Fr b0 b1 a→a.tmps.getD 35 undef=Value.agg #[.int .i64 0,.int .i64 0]→a.tmps.getD 32 undef=Value.slice (some ⟨b,o,none⟩) 1 cap→wpAny Tryz.prog .any ops Q 4 #[true,false,false,true,false,false] a w3:=fun a h k5 k2=>a0n hr11 (m1 k2 (sT2 _ (h.put dE) ((a23 dE).trans k5) (a0u (by have:=h.size;omega))))
  have sT0:∀ a:Act,Fr b0 b1 a→a.tmps.getD 35 undef=Value.agg #[.int .i64 0,.int .i64 0]→a.tmps.getD 8 undef=Value.slice (some ⟨b,o,none⟩) 1 cap→wpAny Tryz.prog .any ops Q 5 #[false,false,false,true,false,false] a w3:=fun a h k5 k8=>a0n hr01 (m0 (sT1 _ (h.put dE) ((a23 dE).trans k5) ((a0u (by have:=h.size;omega)).trans k8)))
  have sF4:∀ a:Act,Fr b0 b1 a→wpAny Tryz.prog .any ops Q 2 #[true,true,true,false,true,false] a (a7k w3 b0 c0 c1 c2 c3 c4 c5 c6):=fun a h=>a0n hr40 (m3 hb1' h.p7 (sE _ (h.put dE) (a0u (by have:=h.size;omega))))
  have sF3:∀ a:Act,Fr b0 b1 a→a.tmps.getD 34 undef=Value.agg #[c0,c1,c2,c3,c4,c5,c6]→wpAny Tryz.prog .any ops Q 3 #[true,true,true,false,false,false] a w3:=fun a h k4=>b5u hr30 (m3 hb1 h.p7 (sT3 _ (h.put dE) (a0u (by have:=h.size;omega)) ((a23 dE).trans k4))) (m4 h.p6 k4 (sF4 _ h))
  have sF2:∀ a:Act,Fr b0 b1 a→a.tmps.getD 33 undef=Value.pointer (some ⟨b,o,none⟩)→wpAny Tryz.prog .any ops Q 4 #[true,true,false,false,false,false] a w3:=fun a h k3=>b5u hr20 (m2 k3 (sF3 _ (h.put dE) (a0u (by have:=h.size;omega)))) (m3 hb1 h.p7 (sT2 _ (h.put dE) (a0u (by have:=h.size;omega)) ((a23 dE).trans k3)))
  have sF1:∀ a:Act,Fr b0 b1 a→a.tmps.getD 32 undef=Value.slice (some ⟨b,o,none⟩) 1 cap→wpAny Tryz.prog .any ops Q 5 #[true,false,false,false,false,false] a w3:=fun a h k2=>b5u hr10 (m1 k2 (sF2 _ (h.put dE) (a0u (by have:=h.size;omega)))) (m3 hb1 h.p7 (sT1 _ (h.put dE) (a0u (by have:=h.size;omega)) ((a23 dE).trans k2)))
  have sF0:∀ a:Act,Fr b0 b1 a→a.tmps.getD 8 undef=Value.slice (some ⟨b,o,none⟩) 1 cap→wpAny Tryz.prog .any ops Q 6 #[false,false,false,false,false,false] a w3:=fun a h k8=>b5u hr00 (m0 (sF1 _ (h.put dE) ((a0u (by have:=h.size;omega)).trans k8))) (m3 hb1 h.p7 (sT0 _ (h.put dE) (a0u (by have:=h.size;omega)) ((a23 dE).trans k8)))
  exact sF0 _ ⟨rfl,by simp,rfl,rfl⟩ rfl
end Go.Proofs.YtdldcfllnohkeaaGreatDoor
namespace Go.Proofs.YtdldcfllnohkeaaGreatDoor
open Go.Abs LQ
set_option maxRecDepth 100000
set_option maxHeartbeats 1000000
noncomputable section
def a8t:D:=.agg [.int .i64 0,.str [],.str [],.str [],.str [],.str [],.slice 0 [] .no]
theorem b65:dV (.a O.no.g)=a8t:=by simp only [dV,O.g,List.map_cons,List.map_nil,dG,V3,List.length_nil,a8t]
theorem e82 {S:l9} {w:World}:Rd S o8 w (.agg d5o) a8t:=.agg _ _ (.k (.int _ _) (.k (.str _ _ rfl) (.k (.str _ _ rfl) (.k (.str _ _ rfl) (.k (.str _ _ rfl) (.k (.str _ _ rfl) (.k d73 .nil)))))))
inductive b5r (n:Nat):W0→D→Prop
 | none (c c2:List D):b5r n (.ret (.tuple [.slice 0 c .no,.slice 0 c2 .no])) (.tuple [a8t,a5f 11 n])
 | one (cs c2:List D):cs.length=7→(∀ d ∈ cs,d.one=true)→b5r n (.ret (.tuple [.slice 1 cs .no,.slice 1 c2 .no])) (.tuple [.agg cs,a5f 0 0])
 | more (k:Nat) (c c2:List D) (d0:D) (p:Int):2≤k→b5r n (.ret (.tuple [.slice k c .no,.slice k (d0 :: .int .i64 p :: c2) .no])) (.tuple [a8t,a5f 12 p])
 | fail (er p:Int):b5r n (.pan (.iface 107 (.agg [.int .i64 er,.int .i64 p]))) (.tuple [a8t,a5f er p])
theorem f1s {d0 d1:D} {s:i6} {r:W0} {d:D} (hcm:CM Tryz.prog GG 44 [d0,d1,.str s] [] r []) (hd:b5r s.length r d):CM Tryz.prog GG 16 [d0,d1,.str s] [] (.ret d) []:=by
 refine ⟨Tryz.call16,fun w S M vs hgl hM hwi hh hvs=>?_⟩
 have hMn:M=o8:=funext fun id=>hh.out id (by simp)
 subst hMn
 have hvs0:=hvs
 cases hvs with
 | cons v0 _ _ _ _ hvs =>
 cases hvs with
 | cons v1 _ _ _ _ hvs =>
 cases hvs with
 | cons v2 _ _ _ h2 hvs =>
 cases hvs
 cases h2 with
 | str t _ ht =>
 have hts:t.size=s.length:=by rw [← ht];rfl
 refine e02 fun w1 e1=>?_
 have hsz:w1.heap.size=w.heap.size+2:=by subst e1;show ((w.heap.push _).push _).size=_;simp
 have hold:∀ k,k < w.heap.size→w1.heap[k]?=w.heap[k]?:=fun k hk=>by
  subst e1;show ((w.heap.push _).push _)[k]?=_
  rw [Array.getElem?_push,Array.getElem?_push];simp [Nat.ne_of_lt hk,Nat.ne_of_lt (Nat.lt_succ_of_lt hk)]
 have hn0:w1.heap[w.heap.size]?=some b0w:=by
  subst e1;show ((w.heap.push _).push _)[_]?=_
  rw [Array.getElem?_push,Array.getElem?_push];simp
 have hn1:w1.heap[w.heap.size+1]?=some J6:=by
  subst e1;show ((w.heap.push _).push _)[_]?=_
  rw [Array.getElem?_push,Array.getElem?_push];simp
 have hos:w1.os=w.os∧w1.tape=w.tape∧w1.output=w.output:=by subst e1;exact ⟨rfl,rfl,rfl⟩
 clear e1
 have hg1:GG.pred w1:=GG.stable w w1 hgl fun b hb=>hold b (Nat.lt_of_lt_of_le hb (GG.size w hgl))
 have hw1:S.within w1:=fun b o h=>by have:=hwi b o h;omega
 have hv1:u3 S o8 w1 [v0,v1,.string t] [d0,d1,.str s]:=hvs0.ext ⟨fun _ _ h=>h,fun b o h=>by unfold World.cell?;rw [hold b (hwi b o h)],fun _ _ h=>h⟩
 refine (CM.at0 hcm hg1 hw1 hv1).mono ?_
 rintro e w2 ⟨hk,S',hgr,hwt,he⟩
 have hk2:a0m w o8 w2:=⟨hk.os.trans hos.1,hk.tape.trans hos.2.1,hk.output.trans hos.2.2,by have:=hk.size;omega,fun k hlt _=>(hk.block k oM (fun _ _ h=>by cases h)).trans (hold k hlt)⟩
 have hgr2:S.grown S' w:=⟨hgr.1,fun b o h=>(hgr.2 b o h).imp_right fun h=>by omega⟩
 have hb0:w2.heap[w.heap.size]?=some b0w:=(hk.block _ oM (fun _ _ h=>by cases h)).trans hn0
 have hb1:w2.heap[w.heap.size+1]?=some J6:=(hk.block _ oM (fun _ _ h=>by cases h)).trans hn1
 have hsz2:w.heap.size+2≤w2.heap.size:=by have:=hk.size;omega
 have hne:∀ b o,S' b o→b ≠ w.heap.size:=fun b o h e=>by
  rcases hgr.2 b o h with h | h
  ·have:=hwi b o h;omega
  ·omega
 refine ⟨hb0,hb1,?_⟩
 have hh2:a6h S' o8 w2 []:=⟨fun id b h=>by simp at h,fun _ _=>rfl,fun _ _ _ _ _ _ _ h=>by simp at h⟩
 have hfail:∀ er p:Int,d=.tuple [a8t,a5f er p]→b3w (w.heap.size+1) (fun e w'=>a0m w o8 w'∧∃ S',S.grown S' w∧S'.within w'∧Abs.Ends S' o8 w w' ([].map id) e (.ret d)) er p w2:=fun er p hd=>by
  subst hd
  have hold2:∀ k,k < w2.heap.size→k ≠ w.heap.size+1→∀ o x,((w2.alloc o).setRow (w.heap.size+1) x).heap[k]?=w2.heap[k]?:=fun k hk hne o x=>by
   unfold World.setRow World.alloc
   simp only [Array.getElem?_modify,Array.getElem?_push]
   simp [Nat.ne_of_lt hk,Ne.symm hne]
  have hszr:∀ o x,((w2.alloc o).setRow (w.heap.size+1) x).heap.size=w2.heap.size+1:=fun o x=>by unfold World.setRow World.alloc;simp
  refine ⟨⟨hk2.os,hk2.tape,hk2.output,by rw [hszr];omega,fun k hlt hm=>(hold2 k oM oM _ _).trans (hk2.block k hlt hm)⟩,S',hgr2,fun b o h=>by rw [hszr];have:=hwt b o h;omega,⟨fun id b h=>by simp at h,fun _ _=>rfl,fun _ _ _ _ _ _ _ h=>by simp at h⟩,_,rfl,?_,?_⟩
  ·exact .tuple _ _ (.k e82 (.k (c7v er p) .nil))
  ·exact c0b fun l c z e=>by unfold a8t at e;cases e
 cases hd with
 | fail er p =>
  obtain ⟨v,rfl,hv⟩:=he
  cases hv with
  | iface _ v' _ hv =>
  cases hv with
  | agg us _ hv =>
  obtain ⟨us⟩:=us
  cases hv with
  | cons _ _ _ _ h1 hv =>
  cases hv with
  | cons _ _ _ _ h2 hv =>
  cases hv
  cases h1
  cases h2
  exact .fail er p (hfail er p rfl)
 | none c c2 =>
  obtain ⟨_,v,rfl,hv,_⟩:=he
  cases hv with
  | tuple us _ hv =>
  obtain ⟨us⟩:=us
  cases hv with
  | cons _ _ _ _ h1 hv =>
  cases hv with
  | cons _ _ _ _ h2 hv =>
  cases hv
  cases h1
  cases h2
  exact .none _ _ _ _ (by rw [hts];exact hfail 11 s.length rfl)
 | more k c c2 dx p hk2 =>
  obtain ⟨_,v,rfl,hv,_⟩:=he
  cases hv with
  | tuple us _ hv =>
  obtain ⟨us⟩:=us
  cases hv with
  | cons _ _ _ _ h1 hv =>
  cases hv with
  | cons _ _ _ _ h2 hv =>
  cases hv
  cases h1 with
  | slice base1 _ cap1 _ _ _ _ _ _ _ _ =>
  cases h2 with
  | slice base2 _ cap2 xs _ _ ha hx _ _ _ =>
  cases hx with
  | cons x0 _ _ _ _ hx =>
  cases hx with
  | cons x1 _ _ _ hx1 _ =>
  cases hx1
  rcases ha with ha | ⟨b,o,rfl,ha⟩
  ·cases ha
  ·exact .more k b o base1 cap1 cap2 p hk2 (ha 1 _ rfl).2 (hfail 12 p rfl)
 | one cs c2 hl h1c =>
  obtain ⟨_,v,rfl,hv,_⟩:=he
  cases hv with
  | tuple us _ hv =>
  obtain ⟨us⟩:=us
  cases hv with
  | cons _ _ _ _ h1 hv =>
  cases hv with
  | cons _ _ _ _ h2 hv =>
  cases hv
  cases h2 with
  | slice base2 _ cap2 _ _ _ _ _ _ _ _ =>
  cases h1 with
  | slice base1 _ cap1 xs _ _ ha hx _ _ _ =>
  have hxl:=hx.length
  rw [hl] at hxl
  have h7:∃ c0 c1 c2 c3 c4 c5 c6,xs=[c0,c1,c2,c3,c4,c5,c6]:=by
   match xs,hxl with
   | [c0,c1,c2,c3,c4,c5,c6],_=>exact ⟨_,_,_,_,_,_,_,rfl⟩
  obtain ⟨c0,c1,c2,c3,c4,c5,c6,rfl⟩:=h7
  rcases ha with ha | ⟨b,o,rfl,ha⟩
  ·cases ha
  ·refine .one b o base2 cap1 cap2 c0 c1 c2 c3 c4 c5 c6 (hne b _ (ha 0 _ rfl).1) (fun i v hv=>?_) (fun i v hv=>(ha i v (by simpa using hv)).2) fun w3 hn=>?_
   ·obtain ⟨d,hd,hr⟩:=hx.get i v (by simpa using hv)
    exact hr.oneCell (h1c d (List.mem_of_getElem? hd))
   ·refine ⟨⟨hn.os.trans hk2.os,hn.tape.trans hk2.tape,hn.output.trans hk2.output,by rw [hn.size];exact hk2.size,fun k hlt hm=>(hn.rest k oM).trans (hk2.block k hlt hm)⟩,S',hgr2,fun b o h=>by rw [hn.size];exact hwt b o h,⟨fun id b h=>by simp at h,fun _ _=>rfl,fun _ _ _ _ _ _ _ h=>by simp at h⟩,_,rfl,?_,?_⟩
    ·refine .tuple _ _ (.k (.agg _ _ ?_) (.k (c7v 0 0) .nil))
     exact hx.ext ⟨fun _ _ h=>h,fun b o h=>by unfold World.cell?;rw [hn.rest b (hne b o h)],fun _ _ h=>h⟩
    ·exact c0b fun l c z e=>by cases e
theorem e9j {n:Nat} {r:List G} {rs:List (List G)} {v:V} (h:RV (.sl n (r :: rs)) v):∃ q,A6 r q 0:=by
 cases h with
 | sl _ _ t off len h1 h2=>exact ⟨_,((h2.get (j:=0) rfl).2).1⟩
 | slq _ _ x h1 _=>cases h1 with | l _ t n off len e h2=>exact ⟨_,((h2.get (j:=0) rfl).2).1⟩
theorem e9b {a b:GV} {v:V} (h:RV (.t [a,b]) v):∃ x y,v=.tuple [x,y]∧RV a x∧RV b y:=by
 cases h with
 | t _ us h =>
  cases h with
  | cons _ _ x _ h1 h =>
   cases h with
   | cons _ _ y _ h2 h =>
    cases h
    exact ⟨x,y,rfl,h1,h2⟩
def b6i (n:Nat):Except (Int × Nat) (List (O × Nat))→r7
 | .error (e,p)=>.ret (.t [.a O.no.g,a81 e p])
 | .ok []=>.ret (.t [.a O.no.g,a81 11 n])
 | .ok [(o,_)]=>.ret (.t [.a o.g,a81 0 0])
 | .ok (_ :: (_,p) :: _)=>.ret (.t [.a O.no.g,a81 12 p])
def a1b:V:=.agg [.int .i64 0,.str 0 0,.str 0 0,.str 0 0,.str 0 0,.str 0 0,.slice .nil 1 0 0 .no]
theorem c09:RV (.a O.no.g) a1b:=.ag _ _ (.k (.i _ _) (.k (.s _ _ _ rfl rfl) (.k (.s _ _ _ rfl rfl) (.k (.s _ _ _ rfl rfl) (.k (.s _ _ _ rfl rfl) (.k (.s _ _ _ rfl rfl) (.k (.cl _ _ _ _ _ rfl (.nil _ _ _)) .nil)))))))
theorem b94 {α:Type} (f:α→List G):∀ l:List α,V3 (l.map f)=(l.map fun a=>(f a).map dG).flatten
 | []=>by simp [V3]
 | a :: l=>by rw [List.map_cons,a3v,b94 f l];rfl
theorem f1o (o:O):∀ d ∈ o.g.map dG,d.one=true:=by
 intro d hd
 rw [List.mem_map] at hd
 obtain ⟨g,_,rfl⟩:=hd
 cases g <;> simp only [dG] <;> rfl
theorem g1q (hk:k9 44 (c8i fun L cur s=>rdR (M4 L cur s))):k9 16 (c8i fun L cur s=>b6i s.length (M4 L cur s)):=fun ⟨(L,cur,s),hL,hs⟩ vs bs hv hb=>by
 obtain ⟨v,bs',ha,hr,hb'⟩:=hk ⟨(L,cur,s),hL,hs⟩ vs bs hv hb
 have e1:=b68 hb
 have e2:=b68 hb'
 subst e1 e2
 have hcm:=ha rfl
 change l8 (rdR (M4 L cur s)) v at hr
 change l7 [.sl 2 (L.map pg),.c (.s cur),.c (.s s)] vs at hv
 rw [hv.map_toD] at hcm
 show ∃ v bs',b5n 16 vs [] v bs'∧l8 (b6i s.length (M4 L cur s)) v∧RBs [] bs'
 have fin:∀ (a:V) (g:GV) (e p:Int),b5r s.length (a9d v) (.tuple [dV g,a5f e p])→RV g a→b6i s.length (M4 L cur s)=.ret (.t [g,a81 e p])→∃ v bs',b5n 16 vs [] v bs'∧l8 (b6i s.length (M4 L cur s)) v∧RBs [] bs':=fun a g e p h1 h2 h3=>by
  refine ⟨.ret (.tuple [a,.agg [.int .i64 e,.int .i64 p]]),[],fun _=>?_,?_,.nil⟩
  ·rw [hv.map_toD]
   have:=f1s hcm h1
   rw [← h2.toD] at this
   exact this
  ·rw [h3];exact .ret _ _ (.t _ _ (.k h2 (.k (c78 e p) .nil)))
 cases hx:M4 L cur s with
 | error ep =>
  obtain ⟨e,p⟩:=ep
  rw [hx] at hr fin
  cases hr with
  | pan _ v0 h0 =>
  refine fin a1b (.a O.no.g) e p ?_ c09 rfl
  rw [b65]
  show b5r _ (.pan (toD v0)) _
  rw [h0.toD]
  exact .fail e p
 | ok l =>
  rw [hx] at hr fin
  cases hr with
  | ret _ v0 h0 =>
  have hd:a9d (.ret v0)=.ret (.tuple [.slice l.length (V3 (l.map a88)) .no,.slice l.length (V3 (l.map a9a)) .no]):=by
   show W0.ret (toD v0)=_
   rw [h0.toD]
   simp only [dV,dVs,List.length_map]
  rw [hd] at fin
  match l,fin,h0 with
  | [],fin,h0 =>
   refine fin a1b (.a O.no.g) 11 s.length ?_ c09 rfl
   rw [b65]
   exact .none _ _
  | [(o,k)],fin,h0 =>
   obtain ⟨x,y,_,h1,_⟩:=e9b h0
   obtain ⟨q,hq⟩:=e9j h1
   refine fin (.a q 7) (.a o.g) 0 0 ?_ (.a _ _ _ (O.g_len o).symm hq) rfl
   have e1:V3 ([(o,k)].map a88)=o.g.map dG:=by rw [b94];simp [a88]
   rw [e1]
   simp only [dV]
   exact .one _ _ (by rw [List.length_map,O.g_len]) (f1o o)
  | (o,k) :: (o2,p) :: l,fin,h0 =>
   refine fin a1b (.a O.no.g) 12 p ?_ c09 rfl
   rw [b65]
   have e1:V3 (((o,k) :: (o2,p) :: l).map a9a)=.int .i64 k :: .int .i64 p :: (l.map fun a=>(a9a a).map dG).flatten:=by rw [b94];simp [a9a,dG]
   rw [e1]
   exact .more _ _ _ _ _ (by simp)
theorem f09:k9 46 c8j:=e4p kIS f0v kCR
theorem c6e:k9 17 c8k:=e6w f09
theorem f08:k9 44 (c8i fun L cur s=>rdR (M4 L cur s)):=f88 kIS f0v kCR
theorem f86:k9 16 (c8i fun L cur s=>b6i s.length (M4 L cur s)):=g1q f08
end
end Go.Proofs.YtdldcfllnohkeaaGreatDoor
