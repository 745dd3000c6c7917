/- The scanner's strings and bars: their walk. -/
import Derived.BigQuiet
import Derived.WalkSmall
import Derived.Test.YtdldcfllnohkeaaGreatDoorKTB
import Derived.Scope
set_option linter.all false
namespace Go.Proofs.YtdldcfllnohkeaaGreatDoor
open Go.RowKit Go.Shelf Go.Abs LQ
set_option maxRecDepth 100000
theorem U2 (bx:Nat) (S:ByteArray) (j:Int) (w:World) (h0:w.cell? ⟨bx,0,none⟩=some (.string S)) (h1:w.cell? ⟨bx,1,none⟩=some (.int .i64 j)) :
  Calls Tryz.prog 108 #[.pointer (some ⟨bx,0,none⟩)] w fun e w'=>e=.returned (.bool (decide (j < S.size)))∧∃ n,w'=w.drewN n:=by
 go_enter Tryz.func108,Tryz.ntmps108
 go_wp2
 go_quiet (fail)
 go_wp2
 go_ret
 exact ⟨rfl,_,rfl⟩
theorem b02 (er p:Int) (w:World) :
  Calls Tryz.prog 45 #[.int .i64 er,.int .i64 p] w fun e w'=>e=.panicked [{ v:=.iface 107 (.agg #[.int .i64 er,.int .i64 p]),recovered:=false }]∧w'=w:=by
 go_enter Tryz.func45,Tryz.ntmps45
 go_wp2
 exact ⟨rfl,rfl,rfl⟩
structure O8 (w0:World) (bx:Nat) (T:TypeId) (S:ByteArray) (j:Int) (acc:List UInt8) (w:World):Prop where
 os:w.os=w0.os
 tape:w.tape=w0.tape
 output:w.output=w0.output
 size:w0.heap.size≤w.heap.size
 old:∀ k,k < w0.heap.size→k ≠ bx→w.heap[k]?=w0.heap[k]?
 box:w.heap[bx]?=some (.cells #[.string S,.int .i64 j] T (0,0))
 isb:IsB w0.heap.size acc w
 lt:bx < w0.heap.size
section
variable {w0 w w':World} {bx:Nat} {T:TypeId} {S:ByteArray} {j:Int} {acc acc':List UInt8}
theorem O8.start (h:w0.heap[bx]?=some (.cells #[.string S,.int .i64 j] T (0,0))):O8 w0 bx T S j [] (w0.alloc (.cells #[.pointer none,.slice none 0 0] 94)):=by
 have hlt:bx < w0.heap.size:=(Array.getElem?_eq_some_iff.1 h).1
 have hk:∀ k,k < w0.heap.size→(w0.alloc (.cells #[.pointer none,.slice none 0 0] 94)).heap[k]?=w0.heap[k]?:=fun k hk=>by
  show (w0.heap.push _)[k]?=_
  rw [Array.getElem?_push];simp [Nat.ne_of_lt hk]
 exact ⟨rfl,rfl,rfl,by show _≤(w0.heap.push _).size;simp,fun k h1 _=>hk k h1,(hk bx hlt).trans h,d6k w0,hlt⟩
theorem O8.drewN (h:O8 w0 bx T S j acc w) (n:Nat):O8 w0 bx T S j acc (w.drewN n) :=
 ⟨h.os,h.tape,h.output,h.size,h.old,h.box,b5v h.isb fun _ _ _=>rfl,h.lt⟩
theorem O8.c0 (h:O8 w0 bx T S j acc w):w.cell? ⟨bx,0,none⟩=some (.string S):=by simp [World.cell?,h.box]
theorem O8.c1 (h:O8 w0 bx T S j acc w):w.cell? ⟨bx,1,none⟩=some (.int .i64 j):=by simp [World.cell?,h.box]
theorem O8.z1 (h:O8 w0 bx T S j acc w):w.frozen? ⟨bx,1,none⟩=false:=by simp [World.frozen?,h.box]
theorem O8.put (h:O8 w0 bx T S j acc w) (i:Int):O8 w0 bx T S i acc (w.setCell ⟨bx,1,none⟩ (.int .i64 i)):=by
 have hne:∀ k,k ≠ bx→(w.setCell ⟨bx,1,none⟩ (.int .i64 i)).heap[k]?=w.heap[k]?:=fun k hk=>by
  unfold World.setCell
  simp [Array.getElem?_modify,Ne.symm hk]
 refine ⟨h.os,h.tape,h.output,?_,fun k h1 h2=>(hne k h2).trans (h.old k h1 h2),?_,b5v h.isb fun k h1 _=>hne k (by have:=h.lt;omega),h.lt⟩
 ·unfold World.setCell;simp [h.size]
 ·unfold World.setCell
  simp [Array.getElem?_modify,h.box]
theorem O8.write (h:O8 w0 bx T S j acc w) (i:IsB w0.heap.size acc' w') (k:Below w0.heap.size w w'):O8 w0 bx T S j acc' w' :=
 ⟨k.os.trans h.os,k.tape.trans h.tape,k.output.trans h.output,Nat.le_trans h.size k.size,fun b h1 h2=>(k.block b h1).trans (h.old b h1 h2),(k.block _ h.lt).trans h.box,i,h.lt⟩
end
def e6s (bx:Nat) (T:TypeId) (s:f5):Except (Int × Nat) (List Int × Nat)→Ending→World→Prop
 | .ok (l,j),e,w=>e=.returned (.string ⟨(E6 l).toArray⟩)∧w.heap[bx]?=some (.cells #[.string ⟨s.toArray⟩,.int .i64 j] T (0,0))
 | .error (er,p),e,_=>e=.panicked [{ v:=.iface 107 (.agg #[.int .i64 er,.int .i64 p]),recovered:=false }]
structure c9r (w0:World) (bx:Nat) (w:World):Prop where
 os:w.os=w0.os
 tape:w.tape=w0.tape
 output:w.output=w0.output
 size:w0.heap.size≤w.heap.size
 old:∀ k,k < w0.heap.size→k ≠ bx→w.heap[k]?=w0.heap[k]?
theorem O8.keep {w0 w:World} {bx:Nat} {T:TypeId} {S:ByteArray} {j:Int} {acc:List UInt8} (h:O8 w0 bx T S j acc w):c9r w0 bx w:=⟨h.os,h.tape,h.output,h.size,h.old⟩
theorem O8.low {w0 w w':World} {bx:Nat} {T:TypeId} {S:ByteArray} {j:Int} {acc:List UInt8} (h:O8 w0 bx T S j acc w) (k:Below w0.heap.size w w'):c9r w0 bx w'∧w'.heap[bx]?=some (.cells #[.string S,.int .i64 j] T (0,0)) :=
 ⟨⟨k.os.trans h.os,k.tape.trans h.tape,k.output.trans h.output,Nat.le_trans h.size k.size,fun b h1 h2=>(k.block b h1).trans (h.old b h1 h2)⟩,(k.block _ h.lt).trans h.box⟩
theorem d2s (s:f5) (j:Nat) (hj:j < s.length):bt s j=(((⟨s.toArray⟩:ByteArray)[j]'(by simpa [ByteArray.size] using hj)).toNat:Int):=by
 unfold bt
 simp only [List.getD,List.getElem?_eq_getElem hj,Option.getD_some]
 rfl
theorem b1a (l:f5) (b:UInt8):a3p (l ++ [b])=a3p l ++ [(b.toNat:Int)]:=by simp [a3p]
set_option maxHeartbeats 4000000 in
theorem d6r (bx:Nat) (T:TypeId) (s:f5) (i c:Nat) (w:World) (hb:w.heap[bx]?=some (.cells #[.string ⟨s.toArray⟩,.int .i64 i] T (0,0))) (hi:i < s.length) (hs:s.length < 8000) (hc:c=34∨c=124) :
  Calls Tryz.prog 109 #[.pointer (some ⟨bx,0,none⟩),.int .u8 (c:Int)] w fun e w'=>c9r w bx w'∧e6s bx T s (H7 s c (i+1) []) e w':=by
 have I0:=O8.start hb
 have a0:=I0.c0
 have a1:=I0.c1
 have a2:=I0.z1
 go_enter Tryz.func109,Tryz.ntmps109
 go_wp2
 go_loopw [] (fun wr=>∃ (j:Nat) (acc:List UInt8),i < j∧j≤s.length∧acc.length≤j∧O8 w bx T ⟨s.toArray⟩ j acc wr∧H7 s c j (a3p acc)=H7 s c (i+1) []) (fun wr=>match wr.cell? ⟨bx,1,none⟩ with | some (.int _ j)=>s.length - j.toNat | _=>0)
 case atStart=>exact ⟨i+1,[],oM,oM,by simp,by have:=I0.put ((i:Int)+1);exact_mod_cast this,rfl⟩
 case round =>
  obtain ⟨j,acc,hij,hjs,hal,I,he⟩:=hrel
  have b0:=I.c0
  have b1:=I.c1
  have b2:=I.z1
  have hSz:((⟨s.toArray⟩:ByteArray).size:Int)=s.length:=by simp [ByteArray.size]
  by_cases hj:j < s.length
  ·have hjd:(decide ((j:Int) < ((⟨s.toArray⟩:ByteArray).size:Int)))=true:=by rw [hSz];simp;omega
   have hjS:(j:Int) < ((⟨s.toArray⟩:ByteArray).size:Int):=by rw [hSz];omega
   have hx:=d2s s j hj
   by_cases h1:bt s j=c
   ·have g1:((((⟨s.toArray⟩:ByteArray)[j]'(by simpa [ByteArray.size] using hj)).toNat:Int) == (c:Int))=true:=by rw [← hx,h1];simp
    go_wp2_with (first
     | (go_at_call 108;refine (U2 bx _ _ _ b0 b1).mono ?_;rintro e w1 ⟨rfl,n,rfl⟩;rw [hjd]))
    go_quiet (fail)
    go_wp2_with (first
     | (go_at_call 57;refine (a7r w.heap.size acc _ (((I.drewN _).put _).isb) ((I.drewN _).put (j+1)).size).mono ?_;rintro e w3 ⟨rfl,hb3⟩))
    go_ret
    have I3:=((I.drewN (n+nq)).put (j+1)).low hb3
    refine ⟨I3.1,?_⟩
    rw [← he,H7,if_pos hj,if_pos h1]
    exact ⟨by rw [b1g];rfl,by have:=I3.2;exact_mod_cast this⟩
   ·have g1:((((⟨s.toArray⟩:ByteArray)[j]'(by simpa [ByteArray.size] using hj)).toNat:Int) == (c:Int))=false:=by rw [← hx];simpa using h1
    by_cases h2:bt s j=92
    ·have g2:((((⟨s.toArray⟩:ByteArray)[j]'(by simpa [ByteArray.size] using hj)).toNat:Int) == (92:Int))=true:=by rw [← hx,h2];rfl
     by_cases hj2:j+1 < s.length
     ·have hjL2:decide ((j:Int)+1 < (s.length:Int))=true:=by simp;omega
      have hjS2:(j:Int)+1 < ((⟨s.toArray⟩:ByteArray).size:Int):=by rw [hSz];omega
      have hjP:(j:Int)+1 < (s.length:Int):=oM
      have hj0:0≤(j:Int)+1:=oM
      have hy:=d2s s (j+1) hj2
      have hjd2:(decide ((j:Int)+1 < ((⟨s.toArray⟩:ByteArray).size:Int)))=true:=by rw [hSz];simp;omega
      go_wp2_with (first
       | (go_at_call 108;refine (U2 bx _ _ _ b0 b1).mono ?_;rintro e w1 ⟨rfl,n,rfl⟩;rw [hjd]))
      go_quiet (fail)
      go_wp2
      by_cases h3:bt s (j+1)=c
      ·have g3:((((⟨s.toArray⟩:ByteArray)[j+1]'(by simpa [ByteArray.size] using hj2)).toNat:Int) == (c:Int))=true:=by rw [← hy,h3];simp
       have g3n:((((⟨s.toArray⟩:ByteArray)[j+1]'(by simpa [ByteArray.size] using hj2)).toNat:Int) != (c:Int))=false:=by rw [← hy,h3];simp
       go_big_quiet (fail)
       have I1:=fun m=>(I.drewN m).put (j+1)
       have c0:=fun m n2=>((I1 m).drewN n2).c0
       have c1:=fun m n2=>((I1 m).drewN n2).c1
       go_wp2_with (first
        | (go_at_call 108;refine (U2 bx _ _ _ (I1 _).c0 (I1 _).c1).mono ?_;rintro e w1 ⟨rfl,n2,rfl⟩;rw [hjd2]))
       go_quiet (fail)
       have I4:=fun m n2=>(I1 m).drewN n2
       go_wp2_with (first
        | (go_at_call 136;refine (c14 _ _ _ _ (I4 _ _).isb oM (I4 _ _).size).mono ?_;rintro e w2 ⟨rfl,hi2,hb2⟩;have I2:=(I4 _ _).write hi2 hb2;have d0:=I2.c0;have d1:=I2.c1;have d2:=I2.z1))
       go_roundw
       case rel =>
        have I3:=I2.put (j+1+1)
        refine ⟨j+2,_,oM,oM,?_,by exact_mod_cast I3,?_⟩
        ·simp;omega
        ·rw [← he]
         conv=>rhs;rw [H7,if_pos hj,if_neg h1,if_neg (by rw [h2];simp),if_pos hj2,if_neg (by intro h;exact h.1 h3)]
         rw [b1a,← hy]
       case measure =>
        have I3:=I2.put (j+1+1)
        have e1:=I3.c1
        simp only [e1,b1]
        omega
      ·have g3n:((((⟨s.toArray⟩:ByteArray)[j+1]'(by simpa [ByteArray.size] using hj2)).toNat:Int) != (c:Int))=true:=by rw [← hy];simpa using h3
       by_cases h4:bt s (j+1)=92
       ·have g4:((((⟨s.toArray⟩:ByteArray)[j+1]'(by simpa [ByteArray.size] using hj2)).toNat:Int) != (92:Int))=false:=by rw [← hy,h4];rfl
        go_big_quiet (fail)
        have I1:=fun m=>(I.drewN m).put (j+1)
        have c0:=fun m n2=>((I1 m).drewN n2).c0
        have c1:=fun m n2=>((I1 m).drewN n2).c1
        go_wp2_with (first
         | (go_at_call 108;refine (U2 bx _ _ _ (I1 _).c0 (I1 _).c1).mono ?_;rintro e w1 ⟨rfl,n2,rfl⟩;rw [hjd2]))
        go_quiet (fail)
        have I4:=fun m n2=>(I1 m).drewN n2
        go_wp2_with (first
         | (go_at_call 136;refine (c14 _ _ _ _ (I4 _ _).isb oM (I4 _ _).size).mono ?_;rintro e w2 ⟨rfl,hi2,hb2⟩;have I2:=(I4 _ _).write hi2 hb2;have d0:=I2.c0;have d1:=I2.c1;have d2:=I2.z1))
        go_roundw
        case rel =>
         have I3:=I2.put (j+1+1)
         refine ⟨j+2,_,oM,oM,?_,by exact_mod_cast I3,?_⟩
         ·simp;omega
         ·rw [← he]
          conv=>rhs;rw [H7,if_pos hj,if_neg h1,if_neg (by rw [h2];simp),if_pos hj2,if_neg (by intro h;exact h.2 h4)]
          rw [b1a,← hy]
        case measure =>
         have I3:=I2.put (j+1+1)
         have e1:=I3.c1
         simp only [e1,b1]
         omega
       ·have g4:((((⟨s.toArray⟩:ByteArray)[j+1]'(by simpa [ByteArray.size] using hj2)).toNat:Int) != (92:Int))=true:=by rw [← hy];simpa using h4
        go_big_quiet (fail)
        go_wp2_with (first
         | (go_at_call 45;refine (b02 _ _ _).mono ?_;rintro e w2 ⟨rfl,rfl⟩))
        refine ⟨rfl,(I.drewN _).keep,?_⟩
        rw [← he,H7,if_pos hj,if_neg h1,if_neg (by rw [h2];simp),if_pos hj2,if_pos ⟨h3,h4⟩]
        rfl
     ·have hjL2:decide ((j:Int)+1 < (s.length:Int))=false:=by simp;omega
      have hjS2:¬(j:Int)+1 < ((⟨s.toArray⟩:ByteArray).size:Int):=by rw [hSz];omega
      have hjd2:(decide ((j:Int)+1 < ((⟨s.toArray⟩:ByteArray).size:Int)))=false:=by simp [hjS2]
      go_wp2_with (first
       | (go_at_call 108;refine (U2 bx _ _ _ b0 b1).mono ?_;rintro e w1 ⟨rfl,n,rfl⟩;rw [hjd]))
      go_quiet (fail)
      go_wp2
      go_big_quiet (fail)
      have I1:=fun m=>(I.drewN m).put (j+1)
      have c0:=fun m n2=>((I1 m).drewN n2).c0
      have c1:=fun m n2=>((I1 m).drewN n2).c1
      go_wp2_with (first
       | (go_at_call 108;refine (U2 bx _ _ _ (I1 _).c0 (I1 _).c1).mono ?_;rintro e w1 ⟨rfl,n2,rfl⟩;rw [hjd2])
       | (go_at_call 45;refine (b02 _ _ _).mono ?_;rintro e w2 ⟨rfl,rfl⟩))
      refine ⟨rfl,((I1 _).drewN _).keep,?_⟩
      rw [← he,H7,if_pos hj,if_neg h1,if_neg (by rw [h2];simp),if_neg hj2]
      rfl
    ·have g2:((((⟨s.toArray⟩:ByteArray)[j]'(by simpa [ByteArray.size] using hj)).toNat:Int) == (92:Int))=false:=by rw [← hx];simpa using h2
     go_wp2_with (first
      | (go_at_call 108;refine (U2 bx _ _ _ b0 b1).mono ?_;rintro e w1 ⟨rfl,n,rfl⟩;rw [hjd]))
     go_quiet (fail)
     have I1:=I.drewN (n+nq)
     go_wp2_with (first
      | (go_at_call 136;refine (c14 _ _ _ _ I1.isb oM I1.size).mono ?_;rintro e w2 ⟨rfl,hi2,hb2⟩;have I2:=I1.write hi2 hb2;have d0:=I2.c0;have d1:=I2.c1;have d2:=I2.z1))
     go_roundw
     case rel =>
      have I3:=I2.put (j+1)
      refine ⟨j+1,_,oM,oM,?_,by exact_mod_cast I3,?_⟩
      ·simp;omega
      ·rw [← he]
       conv=>rhs;rw [H7,if_pos hj,if_neg h1,if_pos h2]
       rw [b1a,← hx]
     case measure =>
      have I3:=I2.put (j+1)
      have e1:=I3.c1
      simp only [e1,b1]
      omega
  ·have hjL:decide ((j:Int) < ((⟨s.toArray⟩:ByteArray).size:Int))=false:=by rw [hSz];simp;omega
   go_wp2_with (first
    | (go_at_call 108;refine (U2 bx _ _ _ b0 b1).mono ?_;rintro e w1 ⟨rfl,n,rfl⟩;rw [hjL])
    | (go_at_call 45;refine (b02 _ _ _).mono ?_;rintro e w2 ⟨rfl,rfl⟩))
   refine ⟨rfl,(I.drewN _).keep,?_⟩
   rw [← he,H7,if_neg hj]
   simp [e6s,ByteArray.size]
end Go.Proofs.YtdldcfllnohkeaaGreatDoor
namespace Go.Proofs.YtdldcfllnohkeaaGreatDoor
open Go.Abs LQ Go.RowKit Go.Shelf
set_option maxRecDepth 100000
set_option maxHeartbeats 1000000
noncomputable section
theorem _root_.Go.Abs.RB.den {gs:List G} {b:Bx} (h:RB gs b):E5 b=gs.map dG:=by
 cases h with
 | opa q m h1 h2=>subst h1;simp only [E5];exact h2.den
 | cells cs h =>
  simp only [E5]
  rw [h.map_toD,List.map_map]
  exact List.map_congr_left fun g _=>by simp only [Function.comp,dV]
theorem _root_.Go.Abs.RBs.den {gs:List (List G)} {bs:List Bx} (h:RBs gs bs):bs.map E5=gs.map fun g=>g.map dG:=by
 induction h with
 | nil=>rfl
 | cons g gs b bs h1 _ ih=>rw [List.map_cons,List.map_cons,h1.den,ih]
theorem d3a (s:f5) (i c:Nat) (hi:i < s.length) (hs:s.length < 8000) (hc:c=34∨c=124) (r:V1) (hs':List D)
  (hr:match H7 s c (i+1) [] with
   | .ok (l,j)=>r=.ret (.str (E6 l))∧hs'=[.str s,.int .i64 j]
   | .error (e,p)=>r=.pan (.iface 107 (.agg [.int .i64 e,.int .i64 p]))) :
  CM Tryz.prog GG 109 [.ptr 0 0,.int .u8 c] [[.str s,.int .i64 i]] r [hs']:=by
 refine ⟨Tryz.call109,fun w S M vs hg hM hwi hh hvs=>?_⟩
 obtain ⟨b,k,cs,T,hM0,hb,hcs,hnS⟩:=hh.box 0 _ rfl
 cases hvs with
 | cons _ _ _ _ h1 hvs =>
 cases hvs with
 | cons _ _ _ _ h2 hvs =>
 cases hvs
 cases h2
 cases h1 with
 | ptr _ _ b' c' hM' =>
 rw [hM0] at hM'
 injection hM' with hM'
 injection hM' with e1 e2
 subst e1 e2
 obtain ⟨cs⟩:=cs
 cases hcs with
 | cons _ _ _ _ q1 hcs =>
 cases hcs with
 | cons _ _ _ _ q2 hcs =>
 cases hcs
 cases q2
 cases q1 with
 | str t _ ht =>
 have ht:t=⟨s.toArray⟩:=by subst ht;rfl
 subst ht
 refine (d6r b T s i c w hb hi hs hc).mono ?_
 rintro e w' ⟨hk,he⟩
 refine ⟨⟨hk.os,hk.tape,hk.output,hk.size,fun k' hlt hne=>hk.old k' hlt fun h=>hne 0 k (h ▸ hM0)⟩,S,⟨fun _ _ h=>h,fun _ _ h=>.inl h⟩,fun b' o h=>Nat.lt_of_lt_of_le (hwi b' o h) hk.size,?_⟩
 cases hx:H7 s c (i+1) [] with
 | error ep =>
  obtain ⟨er,p⟩:=ep
  rw [hx] at hr he
  subst hr
  exact ⟨_,he,.iface _ _ _ (.agg _ _ (.k (.int _ _) (.k (.int _ _) .nil)))⟩
 | ok lj =>
  obtain ⟨l,j⟩:=lj
  rw [hx] at hr he
  obtain ⟨rfl,rfl⟩:=hr
  obtain ⟨rfl,hb'⟩:=he
  refine ⟨⟨fun id x hid=>?_,fun id hid=>hh.out id hid,fun i' j' x y b' k' l' hi' hj' _ _ _ _=>?_⟩,_,rfl,.str _ _ rfl,M6 (fun _ _ _ h=>by cases h) (fun _ h=>by cases h)⟩
  ·match id,hid with
   | 0,hid =>
    simp at hid
    subst hid
    exact ⟨b,k,_,T,hM0,hb',.k (.str _ _ rfl) (.k (.int _ _) .nil),hnS⟩
   | id+1,hid=>simp at hid
  ·have e1:i'=0:=by
    have:=(List.getElem?_eq_some_iff.1 hi').1
    simp at this;exact this
   have e2:j'=0:=by
    have:=(List.getElem?_eq_some_iff.1 hj').1
    simp at this;exact this
   rw [e1,e2]
theorem f8j:j3 109 c11:=fun p vs bs hv hb=>by
 obtain ⟨⟨⟨⟨s,i⟩,hsi⟩,c⟩,hc,hi,hs⟩:=p
 change c=34∨c=124 at hc
 change i < s.length at hi
 change s.length < 8000 at hs
 change j5 [.p 0 0,.c (.i .u8 c)] vs at hv
 change RBs [H3 s i] bs at hb
 show ∃ v bs',c15 109 vs bs v bs'∧j6 (b0y (T0 s i c)) v∧RBs [H3 s (c2q i (T0 s i c))] bs'
 have hd:vs.map toD=[.ptr 0 0,.int .u8 c]:=by rw [hv.map_toD];simp [dV,dG]
 have hbd:bs.map E5=[[.str s,.int .i64 i]]:=by rw [hb.den];simp [H3,dG]
 obtain ⟨n,rfl⟩:∃ n:Nat,c=n:=⟨c.toNat,oM⟩
 have hn:n=34∨n=124:=oM
 unfold T0
 cases hx:H7 s n (i+1) [] with
 | ok lj =>
  obtain ⟨l,j⟩:=lj
  refine ⟨.ret (.str (E6 l).length (j9 (E6 l))),[.cells [.str s.length (j9 s),.int .i64 j]],fun _=>?_,.ret _ _ (.s _ _ _ rfl rfl),.k (scB rfl) .nil⟩
  rw [hd,hbd]
  refine d3a s i n hi hs hn _ _ ?_
  rw [hx]
  refine ⟨?_,?_⟩
  ·show V1.ret (.str (k6 _ _))=_
   rw [y7]
  ·show [D.str (k6 _ _),_]=_
   rw [y7];rfl
 | error ep =>
  obtain ⟨e,p⟩:=ep
  refine ⟨.pan (.iface 107 (.agg [.int .i64 e,.int .i64 p])),[.cells [.str s.length (j9 s),.int .i64 i]],fun _=>?_,.pan _ _ (.fl _ _ _ _ (.k (.i _ _) (.k (.i _ _) .nil))),.k (scB rfl) .nil⟩
  rw [hd,hbd]
  refine d3a s i n hi hs hn _ _ ?_
  rw [hx]
  rfl
end
end Go.Proofs.YtdldcfllnohkeaaGreatDoor
namespace Go.Proofs.YtdldcfllnohkeaaGreatDoor
open Go.RowKit Go.Shelf Go.Abs LQ
set_option maxRecDepth 100000
set_option maxHeartbeats 4000000
theorem d59 (r:Int) (h1:128≤r) (h2:r < 256) (w:World) :
  Calls Tryz.prog 182 #[.int .i32 r] w fun e w'=>e=.returned (.bool true)∧w'=w:=by
 have a1:decide (0≤r)=true:=by simp;omega
 have a2:decide (r < 55296)=true:=by simp;omega
 go_enter Tryz.func182,Tryz.ntmps182
 go_wp2
 go_ret
 exact ⟨rfl,rfl⟩
theorem c57 (r:Int) (h1:128≤r) (h2:r < 256):∃ x y:UInt8,Utf8.encode r=⟨#[x,y]⟩∧128≤y.toNat:=by
 have key:∀ n:Fin 128,Utf8.encode ((n.1+128:Nat):Int)=⟨#[UInt8.ofNat (192+(n.1+128) / 64),UInt8.ofNat (128+(n.1+128) % 64)]⟩:=dE
 have k2:∀ n:Fin 128,128≤(UInt8.ofNat (128+(n.1+128) % 64)).toNat:=dE
 obtain ⟨n,rfl⟩:∃ n:Nat,r=((n+128:Nat):Int):=⟨(r - 128).toNat,oM⟩
 exact ⟨_,_,key ⟨n,oM⟩,k2 ⟨n,oM⟩⟩
theorem e24 (y:UInt8) (hy:128≤y.toNat) (S:ByteArray) (hS:S.data.toList=[10,13]) (c:Int) (hc:c=(y.toNat:Int)) (w:World):Calls Tryz.prog 133 #[.string S,.int .u8 c] w fun e w'=>e=.returned (.int .i64 (-1))∧w'=w:=by
 refine (Any.strings_IndexByte Tryz.lays137 S c w).mono ?_
 rintro e w' ⟨rfl,rfl⟩
 refine ⟨?_,rfl⟩
 have key:∀ y:UInt8,128≤y.toNat→Lib.indexByte [10,13] y=-1:=by
  intro y hy
  have h1:¬(10:UInt8)=y:=by rintro rfl;simp at hy
  have h2:¬(13:UInt8)=y:=by rintro rfl;simp at hy
  simp [Lib.indexByte,h1,h2]
 subst hc
 have e1:((y.toNat:Int)).toNat.toUInt8=y:=by simp
 rw [hS,e1,key y hy]
theorem b72 (r:Int) (h1:128≤r) (h2:r < 256) (w:World) :
  Calls Tryz.prog 155 #[.string ⟨#[32,9,10,13]⟩,.int .i32 r] w fun e w'=>e=.returned (.int .i64 (-1))∧∃ n,w'=w.drewN n:=by
 have a1:decide (0≤r)=true:=by simp;omega
 have a2:decide (r < 128)=false:=by simp;omega
 have a3:(r == 65533)=false:=by simp;omega
 go_enter Tryz.func155,Tryz.ntmps155
 go_wp2_with (first
  | (go_at_call 182;refine (d59 r h1 h2 _).mono ?_;rintro e w1 ⟨rfl,rfl⟩))
 obtain ⟨x,y,hE,hy⟩:=c57 r h1 h2
 have hne:((9:Int) != (y.toNat:Int))=true:=by simp;omega
 have hne2:((((⟨#[32,9,10,13]⟩:ByteArray)[1]'dE).toNat:Int) != (((⟨#[x,y]⟩:ByteArray)[1]'(by show 1 < 2;decide)).toNat:Int))=true:=hne
 refine wp_scope_straight ?_
 go_wp2
 go_loop [9] (fun v=>v=.int .i64 1) (fun _=>0)
 case atStart=>rfl
 case round =>
  subst hrel
  go_wp2
  refine wp_scope_straight ?_
  go_wp2
  go_quiet (fail)
  go_wp2
  go_quiet (first | (go_at_call 133;refine (e24 y hy _ dE _ rfl _).mono ?_;rintro e w' ⟨rfl,rfl⟩;exact ⟨rfl,_,rfl⟩))
  go_wp2
  exact ⟨rfl,_,results_tmp rfl _ _ _,rfl,_,rfl⟩
theorem c03 (r:Int) (h1:128≤r) (h2:r < 256) (w:World) :
  Calls Tryz.prog 132 #[.string ⟨#[32,9,10,13]⟩,.int .i32 r] w fun e w'=>e=.returned (.bool false)∧∃ n,w'=w.drewN n:=by
 go_enter Tryz.func132,Tryz.ntmps132
 go_wp2_with (first
  | (go_at_call 155;refine (b72 r h1 h2 _).mono ?_;rintro e w1 ⟨rfl,n,rfl⟩))
 go_ret
 exact ⟨rfl,_,rfl⟩
noncomputable section
theorem kCR:j3 132 d10:=fun ⟨(s,r),h0,h1⟩ vs bs hv hb=>by
 by_cases h:r < 128
 ·obtain ⟨v,bs',a,b,c⟩:=b9s ⟨(s,r),h0,h⟩ vs bs hv hb
  refine ⟨v,bs',a,?_,c⟩
  change j6 (.ret (.c (.b (decide (0≤Lib.indexByte s r.toNat.toUInt8))))) v at b
  show j6 (.ret (.c (.b (decide (r < 128∧0≤Lib.indexByte s r.toNat.toUInt8))))) v
  rw [show (decide (r < 128∧0≤Lib.indexByte s r.toNat.toUInt8))=decide (0≤Lib.indexByte s r.toNat.toUInt8) by simp [h]]
  exact b
 ·have h1:r < 128∨r < 256∧s=k6 4 218761504:=h1
  obtain ⟨h2,rfl⟩:=h1.resolve_left h
  change j5 [.c (.s (k6 4 218761504)),.c (.i .i32 r)] vs at hv
  cases hb
  have e1:decide (r < 128∧0≤Lib.indexByte (k6 4 218761504) r.toNat.toUInt8)=false:=by simp [h]
  refine ⟨.ret (.bool false),[],fun hok=>?_,?_,.nil⟩
  ·rw [c5k hv]
   refine I8 (d:=.bool false) Tryz.call132 fun w S M us hg hwi hr=>?_
   rw [c4t hr]
   have e2:(k6 4 218761504).toArray=#[32,9,10,13]:=dE
   rw [e2]
   refine (c03 r oM h2 w).mono ?_
   rintro e w' ⟨rfl,n,rfl⟩
   exact ⟨⟨rfl,rfl,rfl,Nat.le_refl _,fun _ _=>rfl⟩,_,S,rfl,⟨fun _ _ h=>h,fun _ _ h=>.inl h⟩,hwi,.bool _,M6 (fun _ _ _ h=>by cases h) (fun _ h=>by cases h)⟩
  ·show j6 (.ret (.c (.b (decide (r < 128∧0≤Lib.indexByte (k6 4 218761504) r.toNat.toUInt8))))) _
   rw [e1]
   exact .ret _ _ (.b _)
end
end Go.Proofs.YtdldcfllnohkeaaGreatDoor
namespace Go.Proofs.YtdldcfllnohkeaaGreatDoor
open Go.Abs
set_option maxRecDepth 100000
set_option maxHeartbeats 400000
abbrev f6t:Array Value:=#[.int .i64 0,.string ⟨#[]⟩,.string ⟨#[]⟩,.string ⟨#[]⟩,.string ⟨#[]⟩,.string ⟨#[]⟩,.slice none 0 0]
structure a0n (b:Nat) (w w':World):Prop where
 os:w'.os=w.os
 tape:w'.tape=w.tape
 output:w'.output=w.output
 size:w'.heap.size=w.heap.size
 rest:∀ k,k ≠ b→w'.heap[k]?=w.heap[k]?
theorem a0n.set (b i:Nat) (v:Value) (w:World):a0n b w (w.setCell ⟨b,i,none⟩ v) :=
 ⟨rfl,rfl,rfl,by simp [World.setCell],fun k hk=>by simp only [World.setCell,Array.getElem?_modify];simp [Ne.symm hk]⟩
theorem a0n.trans {b:Nat} {w w' w'':World} (h:a0n b w w') (k:a0n b w' w''):a0n b w w'' :=
 ⟨k.os.trans h.os,k.tape.trans h.tape,k.output.trans h.output,k.size.trans h.size,fun j hj=>(k.rest j hj).trans (h.rest j hj)⟩
def b7m (b1:Nat) (R:Ending→World→Prop) (er p:Int) (w2:World):Prop:=R (.returned (.tuple #[.agg f6t,.agg #[.int .i64 er,.int .i64 p]])) ((w2.alloc (.cells #[.int .i64 er,.int .i64 p] 107)).setRow b1 #[.int .i64 er,.int .i64 p])
inductive b18 (b0 b1:Nat) (S:ByteArray) (R:Ending→World→Prop) (w2:World):Ending→Prop
 | none (base base2:Option Addr) (cap cap2:Nat):b7m b1 R 11 S.size w2→b18 b0 b1 S R w2 (.returned (.tuple #[.slice base 0 cap,.slice base2 0 cap2]))
 | one (b o:Nat) (base2:Option Addr) (cap cap2:Nat) (c0 c1 c2 c3 c4 c5 c6:Value):b ≠ b0→(∀ (i:Nat) (v:Value),#[c0,c1,c2,c3,c4,c5,c6][i]?=some v→v.oneCell'=true)→(∀ (i:Nat) (v:Value),#[c0,c1,c2,c3,c4,c5,c6][i]?=some v→w2.cell? ⟨b,o+i,.none⟩=some v) →
  (∀ w3:World,a0n b0 w2 w3→R (.returned (.tuple #[.agg #[c0,c1,c2,c3,c4,c5,c6],.agg #[.int .i64 0,.int .i64 0]])) w3) →
  b18 b0 b1 S R w2 (.returned (.tuple #[.slice (some ⟨b,o,.none⟩) 1 cap,.slice base2 1 cap2]))
 | more (n b o:Nat) (base:Option Addr) (cap cap2:Nat) (p:Int):2≤n→w2.cell? ⟨b,o+1,.none⟩=some (.int .i64 p)→b7m b1 R 12 p w2→b18 b0 b1 S R w2 (.returned (.tuple #[.slice base n cap,.slice (some ⟨b,o,.none⟩) n cap2]))
 | fail (er p:Int):b7m b1 R er p w2→b18 b0 b1 S R w2 (.panicked [{ v:=.iface 107 (.agg #[.int .i64 er,.int .i64 p]),recovered:=false }])
theorem V0 {b i:Nat} {v:Value} {w:World} {cs:Array Value} {T:TypeId} (hb:w.heap[b]?=some (.cells cs T (0,0))):(w.setCell ⟨b,i,none⟩ v).heap[b]?=some (.cells (cs.setIfInBounds i v) T (0,0)):=by
 simp only [World.setCell,Array.getElem?_modify]
 simp [hb]
def d8j (w:World) (b:Nat) (c0 c1 c2 c3 c4 c5 c6:Value):World:=((((((w.setCell ⟨b,0,none⟩ c0).setCell ⟨b,1,none⟩ c1).setCell ⟨b,2,none⟩ c2).setCell ⟨b,3,none⟩ c3).setCell ⟨b,4,none⟩ c4).setCell ⟨b,5,none⟩ c5).setCell ⟨b,6,none⟩ c6
theorem d4x (w:World) (b:Nat) (c0 c1 c2 c3 c4 c5 c6:Value):a0n b w (d8j w b c0 c1 c2 c3 c4 c5 c6) :=
 (((((((a0n.set b 0 c0 w).trans (a0n.set b 1 c1 _)).trans (a0n.set b 2 c2 _)).trans (a0n.set b 3 c3 _)).trans (a0n.set b 4 c4 _)).trans (a0n.set b 5 c5 _)).trans (a0n.set b 6 c6 _))
structure Fr (b0 b1:Nat) (a:Act):Prop where
 defers:a.defers=[a45 b1]
 size:35 < a.tmps.size
 p6:a.tmps.getD 6 undef=.pointer (some ⟨b0,0,none⟩)
 p7:a.tmps.getD 7 undef=.pointer (some ⟨b1,0,none⟩)
end Go.Proofs.YtdldcfllnohkeaaGreatDoor
namespace Go.Proofs.YtdldcfllnohkeaaGreatDoor
open Go.Abs LQ
set_option maxRecDepth 100000
set_option maxHeartbeats 1000000
noncomputable section
def d2l:D:=.agg [.int .i64 0,.str [],.str [],.str [],.str [],.str [],.slice 0 [] .no]
inductive c9u (n:Nat):V1→D→Prop
 | none (c c2:List D):c9u n (.ret (.tuple [.slice 0 c .no,.slice 0 c2 .no])) (.tuple [d2l,a69 11 n])
 | one (cs c2:List D):cs.length=7→(∀ d ∈ cs,d.one=true)→c9u n (.ret (.tuple [.slice 1 cs .no,.slice 1 c2 .no])) (.tuple [.agg cs,a69 0 0])
 | more (k:Nat) (c c2:List D) (d0:D) (p:Int):2≤k→c9u n (.ret (.tuple [.slice k c .no,.slice k (d0 :: .int .i64 p :: c2) .no])) (.tuple [d2l,a69 12 p])
 | fail (er p:Int):c9u n (.pan (.iface 107 (.agg [.int .i64 er,.int .i64 p]))) (.tuple [d2l,a69 er p])
def a4n:V:=.agg [.int .i64 0,.str 0 0,.str 0 0,.str 0 0,.str 0 0,.str 0 0,.slice .nil 1 0 0 .no]
theorem e7s:j3 46 c5d:=f50 kIS f8j kCR
theorem d7l:j3 17 c5e:=e3q e7s
end
end Go.Proofs.YtdldcfllnohkeaaGreatDoor
