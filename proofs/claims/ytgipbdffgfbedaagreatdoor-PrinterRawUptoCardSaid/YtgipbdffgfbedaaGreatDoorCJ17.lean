/- number.integer.String: its walk. -/
import Derived.Test.YtgipbdffgfbedaaGreatDoorCJ16
set_option linter.all false
namespace Go.Proofs.YtgipbdffgfbedaaGreatDoor
open Go.RowKit Go.Shelf Go.Abs
set_option maxRecDepth 100000
def a0c (f:Nat→Nat):Nat→List UInt8
 | 0=>[]
 | k+1=>List.replicate (9 - (Lib.itoa (f k)).length) 48 ++ (Lib.itoa (f k) ++ a0c f k)
def a0b (neg:Bool) (f:Nat→Nat) (len:Nat):List UInt8:=if len=0 then [48] else (if neg then [45] else []) ++ (Lib.itoa (f (len - 1)) ++ a0c f (len - 1))
theorem b1h (n:Nat) (hn:n < 1000000000) (w:World) (hg:GG.pred w):Calls Tryz.prog 129 #[.int .i64 n] w fun e w'=>e=.returned (.string ⟨(Lib.itoa n).toArray⟩)∧Below w.heap.size w w' :=
 (Any.strconv_Itoa Tryz.laysM171 (n:Int) oM oM w (e3h hg)).mono fun e w' h=>by
  obtain ⟨rfl,k,os,rfl⟩:=h
  exact ⟨rfl,rfl,rfl,rfl,by show w.heap.size≤(w.heap ++ os).size;rw [Array.size_append];omega,fun j hj=>by show (w.heap ++ os)[j]?=w.heap[j]?;exact Array.getElem?_append_left hj⟩
theorem a8g {B:Nat} {w w':World} (h:Below B w w') {b o:Nat} {v:Value} (hb:b < B) (hc:w.cell? ⟨b,o,none⟩=some v):w'.cell? ⟨b,o,none⟩=some v:=by
 have:=h.block b hb
 unfold World.cell? at hc ⊢
 rw [this];exact hc
theorem W6 {B:Nat} {w w':World} (h:Below w.heap.size w w') (hB:B≤w.heap.size):Below B w w':=⟨h.os,h.tape,h.output,h.size,fun k hk=>h.block k (Nat.lt_of_lt_of_le hk hB)⟩
theorem d4d (n:Nat) (hn:n < 1000000000):(Lib.itoa n).length≤9:=by
 rw [LQ.itoa_showNat];exact LQ.showNat_len9 hn
theorem X4 {w w':World} (hg:GG.pred w) (h:Below w.heap.size w w'):GG.pred w':=GG.stable w w' hg fun b hb=>h.block b (Nat.lt_of_lt_of_le hb (GG.size w hg))
structure S5 (w0:World) (bx:Array Value) (T:TypeId) (acc:List UInt8) (w:World):Prop where
 old:Below w0.heap.size w0 w
 box:w.heap[w0.heap.size]?=some (.cells bx T (0,0))
 isb:IsB (w0.heap.size+1) acc w
theorem S5.start (w0:World) (bx:Array Value) (T:TypeId):S5 w0 bx T [] ((w0.alloc (.cells bx T)).alloc (.cells #[.pointer none,.slice none 0 0] 61)):=by
 have hs:(w0.alloc (.cells bx T)).heap.size=w0.heap.size+1:=by show (w0.heap.push _).size=_;simp
 refine ⟨((Below.refl _ w0).alloc (Nat.le_refl _) _).alloc (by simp) _,?_,?_⟩
 ·show ((w0.heap.push _).push _)[w0.heap.size]?=_
  rw [Array.getElem?_push,Array.getElem?_push];simp
 ·have:=d3q (w0.alloc (.cells bx T))
  rw [hs] at this
  exact this
theorem S5.size {w0:World} {bx:Array Value} {T:TypeId} {acc:List UInt8} {w:World} (h:S5 w0 bx T acc w):w0.heap.size+1 < w.heap.size:=d00 h.isb
theorem S5.quiet {w0:World} {bx:Array Value} {T:TypeId} {acc:List UInt8} {w w':World} (h:S5 w0 bx T acc w) (k:Below w.heap.size w w'):S5 w0 bx T acc w':=by
 have hs:=h.size
 exact ⟨h.old.trans (k.mono oM),(k.block _ oM).trans h.box,b8c h.isb k⟩
theorem S5.write {w0:World} {bx:Array Value} {T:TypeId} {acc acc':List UInt8} {w w':World} (h:S5 w0 bx T acc w) (i:IsB (w0.heap.size+1) acc' w') (k:Below (w0.heap.size+1) w w'):S5 w0 bx T acc' w' :=
 ⟨h.old.trans (k.mono oM),(k.block _ oM).trans h.box,i⟩
theorem S5.cell {w0:World} {bx:Array Value} {T:TypeId} {acc:List UInt8} {w:World} (h:S5 w0 bx T acc w) (j:Nat):w.cell? ⟨w0.heap.size,j,none⟩=bx[j]?:=by
 simp [World.cell?,h.box]
theorem S5.keep {w0:World} {bx:Array Value} {T:TypeId} {acc:List UInt8} {w:World} (h:S5 w0 bx T acc w) {b o:Nat} {v:Value} (hb:b < w0.heap.size) (hc:w0.cell? ⟨b,o,none⟩=some v):w.cell? ⟨b,o,none⟩=some v:=a8g h.old hb hc
theorem b8m (n:Nat) (h:n≤9):(⟨#[48,48,48,48,48,48,48,48,48]⟩:ByteArray).extract n 9=⟨(List.replicate (9 - n) 48).toArray⟩:=by
 match n,h with
 | 0,_ | 1,_ | 2,_ | 3,_ | 4,_ | 5,_ | 6,_ | 7,_ | 8,_ | 9,_=>decide
set_option maxHeartbeats 4000000 in
theorem b4h (neg:Bool) (base:Option Addr) (len cap:Nat) (f:Nat→Nat) (w:World) (hf:∀ i,f i < 1000000000) (hlen:len < 4800000) (hg:GG.pred w)
  (hcell:∀ i,i < len→∃ b o,base=some ⟨b,o,none⟩∧b < w.heap.size∧w.cell? ⟨b,o+i,none⟩=some (.int .u32 (f i))) :
  Calls Tryz.prog 106 #[.agg #[.bool neg,.slice base len cap]] w fun e w'=>e=.returned (.string ⟨(a0b neg f len).toArray⟩)∧Below w.heap.size w w':=by
 rcases Nat.eq_zero_or_pos len with rfl | hpos
 ·go_enter Tryz.func106,Tryz.ntmps106
  go_wp2
  go_ret
  exact ⟨rfl,(Below.refl _ w).alloc (Nat.le_refl _) _⟩
 ·obtain ⟨b,o,rfl,hb,_⟩:=hcell 0 hpos
  have hc:∀ i,i < len→w.cell? ⟨b,o+i,none⟩=some (.int .u32 (f i)):=fun i hi=>by
   obtain ⟨b',o',e,_,h⟩:=hcell i hi
   injection e with e;injection e with e1 e2;subst e1 e2;exact h
  clear hcell
  have hw:∀ i,wrap64 (f i:Int)=f i:=fun i=>by have:=hf i;unfold wrap64;omega
  have hil:∀ i,(Lib.itoa (f i)).length≤9:=fun i=>d4d _ (hf i)
  have I0:=S5.start w #[.bool neg,.slice (some ⟨b,o,none⟩) len cap] 126
  cases neg with
  | false =>
   go_enter Tryz.func106,Tryz.ntmps106
   go_wp2_with (first
    | (go_at_call 129;rw [hw];refine (b1h _ (hf _) _ (X4 hg I0.old)).mono ?_;rintro e w1 ⟨rfl,hb1⟩;have I1:=I0.quiet hb1)
    | (go_at_call 31;refine (P0 _ _ _ _ I1.isb (by simp [ByteArray.size];have:=hil (len - 1);omega) (by have:=I1.size;omega)).mono ?_;rintro e w2 ⟨⟨v,rfl⟩,hI2,hb2⟩;have I2:=I1.write hI2 hb2;have cb:=I2.cell 1))
   go_loopw [4] (fun i wr=>∃ (k:Nat) (acc:List UInt8),i=.int .i64 ((k:Int) - 1)∧k+1≤len∧S5 w #[.bool false,.slice (some ⟨b,o,none⟩) len cap] 126 acc wr∧acc ++ a0c f k=a0b false f len∧acc.length+9 * k≤9 * len+1) (fun i _=>(intOf i+1).toNat)
   case atStart=>exact ⟨len - 1,_,by congr 1;omega,oM,I2,by simp [a0b,Nat.ne_of_gt hpos],by have:=hil (len - 1);simp;omega⟩
   case round =>
    obtain ⟨k,acc,rfl,hk,I,hacc,hal⟩:=hrel
    have cb:=I.cell 1
    cases k with
    | zero =>
     go_wp2_with (go_at_call 33;refine (a6s _ _ _ I.isb (by have:=I.size;omega)).mono ?_;rintro e w3 ⟨rfl,hb3⟩)
     go_ret
     refine ⟨?_,I.old.trans (hb3.mono oM)⟩
     rw [← hacc];simp [a0c]
    | succ k =>
     have hck:=I.keep hb (hc k oM)
     have e1:((k+1:Nat):Int) - 1=(k:Int):=oM
     have hk9:=hil k
     have hk9i:((Lib.itoa (f k)).length:Int)≤9:=oM
     rw [e1]
     go_wp2_with (first
      | (go_at_call 129;rw [hw];refine (b1h _ (hf _) _ (X4 hg I.old)).mono ?_;rintro e w3 ⟨rfl,hb3⟩;have I3:=I.quiet hb3)
      | (go_at_call 31;refine (P0 _ _ _ _ I4.isb (by simp [ByteArray.size];omega) (by have:=I4.size;omega)).mono ?_;rintro e w5 ⟨⟨v5,rfl⟩,hI5,hb5⟩;have I5:=I4.write hI5 hb5)
      | (go_at_call 31;rw [b8m _ hk9];refine (P0 _ _ _ _ I3.isb (by simp [ByteArray.size];omega) (by have:=I3.size;omega)).mono ?_;rintro e w4 ⟨⟨v4,rfl⟩,hI4,hb4⟩;have I4:=I3.write hI4 hb4))
     go_roundw
     case rel=>exact ⟨k,_,rfl,oM,I5,by rw [← hacc,a0c];simp,by simp;omega⟩
     case measure=>simp only [intOf];omega
  | true =>
   go_enter Tryz.func106,Tryz.ntmps106
   go_wp2_with (first
    | (go_at_call 128;refine (c0m _ _ 45 _ I0.isb (by simp) (by have:=I0.size;omega)).mono ?_;rintro e w0 ⟨rfl,hI00,hb0⟩;have I00:=I0.write hI00 hb0;have cb0:=I00.cell 1;have hc0:=I00.keep hb (hc (len - 1) oM))
    | (go_at_call 129;rw [hw];refine (b1h _ (hf _) _ (X4 hg I00.old)).mono ?_;rintro e w1 ⟨rfl,hb1⟩;have I1:=I00.quiet hb1)
    | (go_at_call 31;refine (P0 _ _ _ _ I1.isb (by simp [ByteArray.size];have:=hil (len - 1);omega) (by have:=I1.size;omega)).mono ?_;rintro e w2 ⟨⟨v,rfl⟩,hI2,hb2⟩;have I2:=I1.write hI2 hb2;have cb:=I2.cell 1))
   go_loopw [4] (fun i wr=>∃ (k:Nat) (acc:List UInt8),i=.int .i64 ((k:Int) - 1)∧k+1≤len∧S5 w #[.bool true,.slice (some ⟨b,o,none⟩) len cap] 126 acc wr∧acc ++ a0c f k=a0b true f len∧acc.length+9 * k≤9 * len+1) (fun i _=>(intOf i+1).toNat)
   case atStart=>exact ⟨len - 1,_,by congr 1;omega,oM,I2,by simp [a0b,Nat.ne_of_gt hpos],by have:=hil (len - 1);simp;omega⟩
   case round =>
    obtain ⟨k,acc,rfl,hk,I,hacc,hal⟩:=hrel
    have cb:=I.cell 1
    cases k with
    | zero =>
     go_wp2_with (go_at_call 33;refine (a6s _ _ _ I.isb (by have:=I.size;omega)).mono ?_;rintro e w3 ⟨rfl,hb3⟩)
     go_ret
     refine ⟨?_,I.old.trans (hb3.mono oM)⟩
     rw [← hacc];simp [a0c]
    | succ k =>
     have hck:=I.keep hb (hc k oM)
     have e1:((k+1:Nat):Int) - 1=(k:Int):=oM
     have hk9:=hil k
     have hk9i:((Lib.itoa (f k)).length:Int)≤9:=oM
     rw [e1]
     go_wp2_with (first
      | (go_at_call 129;rw [hw];refine (b1h _ (hf _) _ (X4 hg I.old)).mono ?_;rintro e w3 ⟨rfl,hb3⟩;have I3:=I.quiet hb3)
      | (go_at_call 31;refine (P0 _ _ _ _ I4.isb (by simp [ByteArray.size];omega) (by have:=I4.size;omega)).mono ?_;rintro e w5 ⟨⟨v5,rfl⟩,hI5,hb5⟩;have I5:=I4.write hI5 hb5)
      | (go_at_call 31;rw [b8m _ hk9];refine (P0 _ _ _ _ I3.isb (by simp [ByteArray.size];omega) (by have:=I3.size;omega)).mono ?_;rintro e w4 ⟨⟨v4,rfl⟩,hI4,hb4⟩;have I4:=I3.write hI4 hb4))
     go_roundw
     case rel=>exact ⟨k,_,rfl,oM,I5,by rw [← hacc,a0c];simp,by simp;omega⟩
     case measure=>simp only [intOf];omega
end Go.Proofs.YtgipbdffgfbedaaGreatDoor
