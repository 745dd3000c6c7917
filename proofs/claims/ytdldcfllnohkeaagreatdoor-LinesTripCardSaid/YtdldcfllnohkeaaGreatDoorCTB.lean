/- number.integer.String: its walk. -/
import Derived.Test.YtdldcfllnohkeaaGreatDoorCTA
import Derived.WalkKit
import Derived.BigCall
import Derived.Test.YtdldcfllnohkeaaGreatDoorCEJ
set_option linter.all false
namespace Go.Proofs.YtdldcfllnohkeaaGreatDoor
open Go.RowKit Go.Shelf Go.Abs
set_option maxRecDepth 100000
def a11 (f:Nat→Nat):Nat→List UInt8
 | 0=>[]
 | k+1=>List.replicate (9 - (Lib.itoa (f k)).length) 48 ++ (Lib.itoa (f k) ++ a11 f k)
def a10 (neg:Bool) (f:Nat→Nat) (len:Nat):List UInt8:=if len=0 then [48] else (if neg then [45] else []) ++ (Lib.itoa (f (len - 1)) ++ a11 f (len - 1))
theorem b38 (n:Nat) (hn:n < 1000000000) (w:World) (hg:GG.pred w):Calls Tryz.prog 67 #[.int .i64 n] w fun e w'=>e=.returned (.string ⟨(Lib.itoa n).toArray⟩)∧Below w.heap.size w w' :=
 (Any.strconv_Itoa Tryz.laysM171 (n:Int) oM oM w (d70 hg)).mono fun e w' h=>by
  obtain ⟨rfl,k,os,rfl⟩:=h
  exact ⟨rfl,rfl,rfl,rfl,by show w.heap.size≤(w.heap ++ os).size;rw [Array.size_append];omega,fun j hj=>by show (w.heap ++ os)[j]?=w.heap[j]?;exact Array.getElem?_append_left hj⟩
theorem a7g {B:Nat} {w w':World} (h:Below B w w') {b o:Nat} {v:Value} (hb:b < B) (hc:w.cell? ⟨b,o,none⟩=some v):w'.cell? ⟨b,o,none⟩=some v:=by
 have:=h.block b hb
 unfold World.cell? at hc ⊢
 rw [this];exact hc
theorem F5 {B:Nat} {w w':World} (h:Below w.heap.size w w') (hB:B≤w.heap.size):Below B w w':=⟨h.os,h.tape,h.output,h.size,fun k hk=>h.block k (Nat.lt_of_lt_of_le hk hB)⟩
theorem e0f (n:Nat) (hn:n < 1000000000):(Lib.itoa n).length≤9:=by
 rw [LQ.itoa_showNat];exact LQ.showNat_len9 hn
theorem X6 {w w':World} (hg:GG.pred w) (h:Below w.heap.size w w'):GG.pred w':=GG.stable w w' hg fun b hb=>h.block b (Nat.lt_of_lt_of_le hb (GG.size w hg))
structure X1 (w0:World) (bx:Array Value) (T:TypeId) (acc:List UInt8) (w:World):Prop where
 old:Below w0.heap.size w0 w
 box:w.heap[w0.heap.size]?=some (.cells bx T (0,0))
 isb:IsB (w0.heap.size+1) acc w
theorem X1.start (w0:World) (bx:Array Value) (T:TypeId):X1 w0 bx T [] ((w0.alloc (.cells bx T)).alloc (.cells #[.pointer none,.slice none 0 0] 94)):=by
 have hs:(w0.alloc (.cells bx T)).heap.size=w0.heap.size+1:=by show (w0.heap.push _).size=_;simp
 refine ⟨((Below.refl _ w0).alloc (Nat.le_refl _) _).alloc (by simp) _,?_,?_⟩
 ·show ((w0.heap.push _).push _)[w0.heap.size]?=_
  rw [Array.getElem?_push,Array.getElem?_push];simp
 ·have:=d9o (w0.alloc (.cells bx T))
  rw [hs] at this
  exact this
theorem X1.size {w0:World} {bx:Array Value} {T:TypeId} {acc:List UInt8} {w:World} (h:X1 w0 bx T acc w):w0.heap.size+1 < w.heap.size:=d6t h.isb
theorem X1.quiet {w0:World} {bx:Array Value} {T:TypeId} {acc:List UInt8} {w w':World} (h:X1 w0 bx T acc w) (k:Below w.heap.size w w'):X1 w0 bx T acc w':=by
 have hs:=h.size
 exact ⟨h.old.trans (k.mono oM),(k.block _ oM).trans h.box,c2g h.isb k⟩
theorem X1.write {w0:World} {bx:Array Value} {T:TypeId} {acc acc':List UInt8} {w w':World} (h:X1 w0 bx T acc w) (i:IsB (w0.heap.size+1) acc' w') (k:Below (w0.heap.size+1) w w'):X1 w0 bx T acc' w' :=
 ⟨h.old.trans (k.mono oM),(k.block _ oM).trans h.box,i⟩
theorem X1.cell {w0:World} {bx:Array Value} {T:TypeId} {acc:List UInt8} {w:World} (h:X1 w0 bx T acc w) (j:Nat):w.cell? ⟨w0.heap.size,j,none⟩=bx[j]?:=by
 simp [World.cell?,h.box]
theorem X1.keep {w0:World} {bx:Array Value} {T:TypeId} {acc:List UInt8} {w:World} (h:X1 w0 bx T acc w) {b o:Nat} {v:Value} (hb:b < w0.heap.size) (hc:w0.cell? ⟨b,o,none⟩=some v):w.cell? ⟨b,o,none⟩=some v:=a7g h.old hb hc
theorem c2v (n:Nat) (h:n≤9):(⟨#[48,48,48,48,48,48,48,48,48]⟩:ByteArray).extract n 9=⟨(List.replicate (9 - n) 48).toArray⟩:=by
 match n,h with
 | 0,_ | 1,_ | 2,_ | 3,_ | 4,_ | 5,_ | 6,_ | 7,_ | 8,_ | 9,_=>decide
set_option maxHeartbeats 4000000 in
theorem b7w (neg:Bool) (base:Option Addr) (len cap:Nat) (f:Nat→Nat) (w:World) (hf:∀ i,f i < 1000000000) (hlen:len < 20000) (hg:GG.pred w)
  (hcell:∀ i,i < len→∃ b o,base=some ⟨b,o,none⟩∧b < w.heap.size∧w.cell? ⟨b,o+i,none⟩=some (.int .u32 (f i))) :
  Calls Tryz.prog 179 #[.agg #[.bool neg,.slice base len cap]] w fun e w'=>e=.returned (.string ⟨(a10 neg f len).toArray⟩)∧Below w.heap.size w w':=by
 rcases Nat.eq_zero_or_pos len with rfl | hpos
 ·go_enter Tryz.func179,Tryz.ntmps179
  go_wp2
  go_ret
  exact ⟨rfl,(Below.refl _ w).alloc (Nat.le_refl _) _⟩
 ·obtain ⟨b,o,rfl,hb,_⟩:=hcell 0 hpos
  have hc:∀ i,i < len→w.cell? ⟨b,o+i,none⟩=some (.int .u32 (f i)):=fun i hi=>by
   obtain ⟨b',o',e,_,h⟩:=hcell i hi
   injection e with e;injection e with e1 e2;subst e1 e2;exact h
  clear hcell
  have hw:∀ i,wrap64 (f i:Int)=f i:=fun i=>by have:=hf i;unfold wrap64;omega
  have hil:∀ i,(Lib.itoa (f i)).length≤9:=fun i=>e0f _ (hf i)
  have I0:=X1.start w #[.bool neg,.slice (some ⟨b,o,none⟩) len cap] 181
  cases neg with
  | false =>
   go_enter Tryz.func179,Tryz.ntmps179
   go_wp2_with (first
    | (go_at_call 67;rw [hw];refine (b38 _ (hf _) _ (X6 hg I0.old)).mono ?_;rintro e w1 ⟨rfl,hb1⟩;have I1:=I0.quiet hb1)
    | (go_at_call 55;refine (T8 _ _ _ _ I1.isb (by simp [ByteArray.size];have:=hil (len - 1);omega) (by have:=I1.size;omega)).mono ?_;rintro e w2 ⟨⟨v,rfl⟩,hI2,hb2⟩;have I2:=I1.write hI2 hb2;have cb:=I2.cell 1))
   go_loopw [4] (fun i wr=>∃ (k:Nat) (acc:List UInt8),i=.int .i64 ((k:Int) - 1)∧k+1≤len∧X1 w #[.bool false,.slice (some ⟨b,o,none⟩) len cap] 181 acc wr∧acc ++ a11 f k=a10 false f len∧acc.length+9 * k≤9 * len+1) (fun i _=>(intOf i+1).toNat)
   case atStart=>exact ⟨len - 1,_,by congr 1;omega,oM,I2,by simp [a10,Nat.ne_of_gt hpos],by have:=hil (len - 1);simp;omega⟩
   case round =>
    obtain ⟨k,acc,rfl,hk,I,hacc,hal⟩:=hrel
    have cb:=I.cell 1
    cases k with
    | zero =>
     go_wp2_with (go_at_call 57;refine (a9n _ _ _ I.isb (by have:=I.size;omega)).mono ?_;rintro e w3 ⟨rfl,hb3⟩)
     go_ret
     refine ⟨?_,I.old.trans (hb3.mono oM)⟩
     rw [← hacc];simp [a11]
    | succ k =>
     have hck:=I.keep hb (hc k oM)
     have e1:((k+1:Nat):Int) - 1=(k:Int):=oM
     have hk9:=hil k
     have hk9i:((Lib.itoa (f k)).length:Int)≤9:=oM
     rw [e1]
     go_wp2_with (first
      | (go_at_call 67;rw [hw];refine (b38 _ (hf _) _ (X6 hg I.old)).mono ?_;rintro e w3 ⟨rfl,hb3⟩;have I3:=I.quiet hb3)
      | (go_at_call 55;refine (T8 _ _ _ _ I4.isb (by simp [ByteArray.size];omega) (by have:=I4.size;omega)).mono ?_;rintro e w5 ⟨⟨v5,rfl⟩,hI5,hb5⟩;have I5:=I4.write hI5 hb5)
      | (go_at_call 55;rw [c2v _ hk9];refine (T8 _ _ _ _ I3.isb (by simp [ByteArray.size];omega) (by have:=I3.size;omega)).mono ?_;rintro e w4 ⟨⟨v4,rfl⟩,hI4,hb4⟩;have I4:=I3.write hI4 hb4))
     go_roundw
     case rel=>exact ⟨k,_,rfl,oM,I5,by rw [← hacc,a11];simp,by simp;omega⟩
     case measure=>simp only [intOf];omega
  | true =>
   go_enter Tryz.func179,Tryz.ntmps179
   go_wp2_with (first
    | (go_at_call 136;refine (c4y _ _ 45 _ I0.isb (by simp) (by have:=I0.size;omega)).mono ?_;rintro e w0 ⟨rfl,hI00,hb0⟩;have I00:=I0.write hI00 hb0;have cb0:=I00.cell 1;have hc0:=I00.keep hb (hc (len - 1) oM))
    | (go_at_call 67;rw [hw];refine (b38 _ (hf _) _ (X6 hg I00.old)).mono ?_;rintro e w1 ⟨rfl,hb1⟩;have I1:=I00.quiet hb1)
    | (go_at_call 55;refine (T8 _ _ _ _ I1.isb (by simp [ByteArray.size];have:=hil (len - 1);omega) (by have:=I1.size;omega)).mono ?_;rintro e w2 ⟨⟨v,rfl⟩,hI2,hb2⟩;have I2:=I1.write hI2 hb2;have cb:=I2.cell 1))
   go_loopw [4] (fun i wr=>∃ (k:Nat) (acc:List UInt8),i=.int .i64 ((k:Int) - 1)∧k+1≤len∧X1 w #[.bool true,.slice (some ⟨b,o,none⟩) len cap] 181 acc wr∧acc ++ a11 f k=a10 true f len∧acc.length+9 * k≤9 * len+1) (fun i _=>(intOf i+1).toNat)
   case atStart=>exact ⟨len - 1,_,by congr 1;omega,oM,I2,by simp [a10,Nat.ne_of_gt hpos],by have:=hil (len - 1);simp;omega⟩
   case round =>
    obtain ⟨k,acc,rfl,hk,I,hacc,hal⟩:=hrel
    have cb:=I.cell 1
    cases k with
    | zero =>
     go_wp2_with (go_at_call 57;refine (a9n _ _ _ I.isb (by have:=I.size;omega)).mono ?_;rintro e w3 ⟨rfl,hb3⟩)
     go_ret
     refine ⟨?_,I.old.trans (hb3.mono oM)⟩
     rw [← hacc];simp [a11]
    | succ k =>
     have hck:=I.keep hb (hc k oM)
     have e1:((k+1:Nat):Int) - 1=(k:Int):=oM
     have hk9:=hil k
     have hk9i:((Lib.itoa (f k)).length:Int)≤9:=oM
     rw [e1]
     go_wp2_with (first
      | (go_at_call 67;rw [hw];refine (b38 _ (hf _) _ (X6 hg I.old)).mono ?_;rintro e w3 ⟨rfl,hb3⟩;have I3:=I.quiet hb3)
      | (go_at_call 55;refine (T8 _ _ _ _ I4.isb (by simp [ByteArray.size];omega) (by have:=I4.size;omega)).mono ?_;rintro e w5 ⟨⟨v5,rfl⟩,hI5,hb5⟩;have I5:=I4.write hI5 hb5)
      | (go_at_call 55;rw [c2v _ hk9];refine (T8 _ _ _ _ I3.isb (by simp [ByteArray.size];omega) (by have:=I3.size;omega)).mono ?_;rintro e w4 ⟨⟨v4,rfl⟩,hI4,hb4⟩;have I4:=I3.write hI4 hb4))
     go_roundw
     case rel=>exact ⟨k,_,rfl,oM,I5,by rw [← hacc,a11];simp,by simp;omega⟩
     case measure=>simp only [intOf];omega
end Go.Proofs.YtdldcfllnohkeaaGreatDoor
namespace Go.Proofs.YtdldcfllnohkeaaGreatDoor
open Go.Abs LQ Go.RowKit Go.Shelf
set_option maxRecDepth 100000
set_option maxHeartbeats 4000000
noncomputable section
theorem c2o (f:Nat→Nat):∀ k,a11 f (k+1)=a11 (fun i=>f (i+1)) k ++ (List.replicate (9 - (Lib.itoa (f 0)).length) 48 ++ Lib.itoa (f 0))
 | 0=>by simp [a11]
 | k+1=>by
  rw [a11,c2o f k]
  conv=>rhs;rw [a11]
  simp only [List.append_assoc]
theorem e66 (n:Nat):n ≠ 0→Lib.itoa (((m9 n).getD ((m9 n).length - 1) 0:Nat):Int) ++ a11 (fun i=>(m9 n).getD i 0) ((m9 n).length - 1)=i7 n:=by
 induction n using Nat.strongRecOn with
 | _ n ih =>
  intro h
  have hd:n % B9 < 1000000000:=Nat.mod_lt _ dE
  have hn:n % B9+B9 * (n / B9)=n:=by unfold B9;omega
  by_cases hm:n / B9=0
  ·rw [a03 h,hm,H5]
   rw [hm] at hn
   simp only [List.length_cons,List.length_nil,Nat.zero_add,Nat.sub_self,List.getD_cons_zero,a11,List.append_nil]
   rw [itoa_showNat]
   rw [Nat.mul_zero,Nat.add_zero] at hn
   rw [hn]
  ·have hi:=ih (n / B9) (Nat.div_lt_self (Nat.pos_of_ne_zero h) dE) hm
   have hl:∃ k,(m9 (n / B9)).length=k+1:=by rw [a03 hm];exact ⟨_,rfl⟩
   obtain ⟨k,hk⟩:=hl
   rw [hk,Nat.add_sub_cancel] at hi
   rw [a03 h,List.length_cons,hk,Nat.add_sub_cancel,c2o]
   simp only [List.getD_cons_succ,List.getD_cons_zero]
   rw [← List.append_assoc,hi,itoa_showNat]
   have:=c33 hm hd
   rw [hn] at this
   exact this.symm
theorem e0n (neg:Bool) (n:Nat):a10 neg (fun i=>(m9 n).getD i 0) (m9 n).length=sgn neg n:=by
 unfold a10 sgn
 by_cases h:n=0
 ·subst h;rw [H5];rfl
 ·have h0:¬(m9 n).length=0:=by rw [a03 h];simp
  rw [if_neg h0,if_neg h,e66 n h]
  cases neg <;> simp
theorem d0t:∀ l:List Nat,V3 (l.map lg)=l.map fun d:Nat=>D.int .u32 (d:Int)
 | []=>by simp [V3]
 | d :: l=>by rw [List.map_cons,a3v,d0t l];simp [lg,dG]
theorem c7x {S:l9} {M:Mp} {w:World}:∀ {l:List Nat} {vs:List Value},u3 S M w vs (l.map fun d:Nat=>D.int .u32 (d:Int))→vs=l.map fun d:Nat=>Value.int .u32 (d:Int)
 | [],_,h=>by cases h;rfl
 | _ :: _,_,h=>by cases h with | cons _ _ _ _ h1 h2=>cases h1;rw [c7x h2];rfl
theorem kIS:k9 179 Y2:=fun ⟨(neg,n),hn⟩ vs bs hv hb=>by
 change l7 [.a (a2x neg n)] vs at hv
 change (m9 n).length < 20000 at hn
 cases hb
 refine ⟨.ret (.str (sgn neg n).length (n7 (sgn neg n))),[],fun hok=>?_,.ret _ _ (.s _ _ _ rfl rfl),.nil⟩
 rw [hv.map_toD]
 show CM X0.P X0.G _ _ [] (.ret (.str (m8 (sgn neg n).length (n7 (sgn neg n))))) []
 rw [C2]
 refine L5 (d:=.str (sgn neg n)) Tryz.call179 fun w S M us hg hwi hr=>?_
 simp only [List.map_cons,List.map_nil,dV,a2x,dG,z8,d0t,List.length_map] at hr
 cases hr with
 | cons _ _ _ _ r1 r2 =>
 cases r2
 cases r1 with
 | agg ws _ r1 =>
 obtain ⟨ws⟩:=ws
 cases r1 with
 | cons _ _ _ _ q1 q2 =>
 cases q1
 cases q2 with
 | cons _ _ _ _ q1 q3 =>
 cases q3
 cases q1 with
 | slice base len cap vs ds c a r k l z =>
 have hvs:=c7x r
 subst hvs
 refine (b7w neg base (m9 n).length cap (fun i=>(m9 n).getD i 0) w (fun i=>?_) hn hg fun i hi=>?_).mono ?_
 ·by_cases h:i < (m9 n).length
  ·have:=Q1 n ((m9 n)[i]) (List.getElem_mem h)
   simp only [List.getD,List.getElem?_eq_getElem h,Option.getD_some]
   exact this
  ·simp [List.getD,List.getElem?_eq_none (Nat.le_of_not_lt h)]
 ·rcases a with a | ⟨b,o,hb,a⟩
  ·rw [List.map_eq_nil_iff] at a
   rw [a] at hi;exact absurd hi (Nat.not_lt_zero _)
  ·have hx:((m9 n).map fun d:Nat=>Value.int .u32 (d:Int))[i]?=some (.int .u32 (((m9 n).getD i 0:Nat):Int)):=by
    simp [List.getD,List.getElem?_eq_getElem hi]
   obtain ⟨h1,h2⟩:=a i _ hx
   have h3:=hwi _ _ h1
   exact ⟨b,o,hb,h3,h2⟩
 ·rintro e w' ⟨rfl,hb⟩
  exact ⟨hb,_,S,rfl,⟨fun _ _ h=>h,fun _ _ h=>.inl h⟩,S8 hwi hb,.str _ _ (by rw [e0n]),P6 (fun _ _ _ h=>by cases h) (fun _ h=>by cases h)⟩
end
end Go.Proofs.YtdldcfllnohkeaaGreatDoor
namespace Go.Proofs.YtdldcfllnohkeaaGreatDoor
open Go.Abs LQ
set_option maxRecDepth 100000
set_option maxHeartbeats 400000
noncomputable section
def a81 (e p:Int):GV:=.a [.i .i64 e,.i .i64 p]
theorem c78 (e p:Int):RV (a81 e p) (.agg [.int .i64 e,.int .i64 p]):=.ag _ _ (.k (.i _ _) (.k (.i _ _) .nil))
theorem b68 {bs:List Bx} (h:RBs [] bs):bs=[]:=by cases h;rfl
theorem d73 {S:l9} {M:Mp} {w:World}:Rd S M w (.slice none 0 0) (.slice 0 [] .no):=.slice none 0 0 [] [] .no (.inl rfl) .nil trivial (Nat.le_refl _) (fun _=>rfl)
theorem c0b {S:l9} {w0 w:World} {v:Value} {d:D} {e p:Int} (hd:∀ l c z,d ≠ .slice l c (.fr z)):a5d S w0 w v (.tuple [d,a5f e p]) :=
 ⟨fun l c z h=>(by cases h),fun vs ds _ h2 i u x _ hx=>by
  injection h2 with h2
  subst h2
  match i,hx with
  | 0,hx=>simp at hx;subst hx;exact fun l c z h=>absurd h (hd l c z)
  | 1,hx=>simp at hx;subst hx;exact fun l c z h=>by cases h
  | i+2,hx=>simp at hx⟩
def b9n:Except (Int × Nat) (List x5)→r7
 | .ok T=>.ret (.t [.sl 5 (T.map A7),a81 0 0])
 | .error (e,p)=>.ret (.t [.sl 5 [],a81 e p])
def c8k:Sp where
 ι:={ s:i6 // s.length < 8000 }
 A s:=[.c (.s s.1)]
 B _:=[]
 R s:=b9n (C7 s.1)
 B' _:=[]
 inj i j vs bs h k _ _:=by
  obtain ⟨_,_,h1,k1,h,k⟩:=h.two k
  rw [H3 h1 k1];exact ⟨rfl,rfl⟩
theorem d8y (vs:List Value) (w:World) (R:Ending→World→Prop) (hl:vs.length=1) (h:∀ w1,w1=w.alloc J6∨w1=(w.alloc J6).drew→Calls Tryz.prog 46 vs.toArray w1 (c4z w.heap.size (fun _=>True) (fun v e=>.tuple #[v,e]) (.slice none 0 0) R)):Calls Tryz.prog 17 vs.toArray w R:=by
 obtain ⟨v0,rfl⟩:=List.length_eq_one_iff.1 hl
 exact d0b h
theorem c3k {ds:List D} {r r':W0} (h1:ds.length=1) (hn:∀ d,r=.ret d→∀ l c z,d ≠ .slice l c (.fr z)) (hcm:CM Tryz.prog GG 46 ds [] r []) (hr:a6k (fun d e=>.tuple [d,e]) (.slice 0 [] .no) r=some r'):CM Tryz.prog GG 17 ds [] r' [] :=
 d5y (f:=17) (g:=46) (dval:=fun d e=>.tuple [d,e]) (nild:=.slice 0 [] .no) (ok:=fun _=>True) (val:=fun v e=>.tuple #[v,e]) (nilv:=.slice none 0 0) Tryz.call17
  (fun vs w R hl h=>d8y vs w R (hl.trans h1) h)
  (fun S w v d e p _ hd=>.tuple _ _ (.k hd (.k (c7v e p) .nil)))
  (fun _ _ _ _ _ _=>trivial) (fun _ _=>d73)
  (fun S w0 w v d e p h=>c0b (h.elim (fun h l c z e=>by rw [h] at e;cases e) (hn d))) hcm hr
theorem e6w (hk:k9 46 c8j):k9 17 c8k:=fun ⟨s,hs⟩ vs bs hv hb=>by
 obtain ⟨v,bs',ha,hr,hb'⟩:=hk ⟨s,hs⟩ vs bs hv hb
 have e1:=b68 hb
 have e2:=b68 hb'
 subst e1 e2
 have hcm:=ha rfl
 have hl:(vs.map toD).length=1:=by rw [List.length_map,← l7.length hv];rfl
 change l8 (b9m (C7 s)) v at hr
 show ∃ v bs',b5n 17 vs [] v bs'∧l8 (b9n (C7 s)) v∧RBs [] bs'
 cases hx:C7 s with
 | ok T =>
  rw [hx] at hr
  cases hr with
  | ret _ v0 h0 =>
  refine ⟨.ret (.tuple [v0,.agg [.int .i64 0,.int .i64 0]]),[],fun _=>?_,.ret _ _ (.t _ _ (.k h0 (.k (c78 0 0) .nil))),.nil⟩
  refine c3k hl (fun d e l c z h=>?_) hcm rfl
  injection e with e
  rw [← e,h0.toD] at h
  cases h
 | error ep =>
  obtain ⟨e,p⟩:=ep
  rw [hx] at hr
  cases hr with
  | pan _ v0 h0 =>
  refine ⟨.ret (.tuple [.slice .nil 0 0 0 .no,.agg [.int .i64 e,.int .i64 p]]),[],fun _=>?_,.ret _ _ (.t _ _ (.k (.sl0 _ _ _) (.k (c78 e p) .nil))),.nil⟩
  refine c3k hl (fun d e=>by cases e) hcm ?_
  show a6k _ _ (.pan (toD v0))=_
  rw [h0.toD]
  simp only [dV,a6k,if_true]
  rfl
end
end Go.Proofs.YtdldcfllnohkeaaGreatDoor
