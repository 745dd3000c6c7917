/- printer.text: its walk. -/
import Derived.Test.YtdldcfllnohkeaaGreatDoorKJ5
set_option linter.all false
namespace Go.Proofs.YtdldcfllnohkeaaGreatDoor
open Go.Abs LQ Go.RowKit Go.Shelf
set_option maxRecDepth 100000
noncomputable section
structure S9 (w0:World) (bx:Array Value) (nb:Nat) (acc:f5) (w:World):Prop where
 old:Below w0.heap.size w0 w
 box:w.heap[w0.heap.size]?=some (.cells bx 26 (0,0))
 lt:w0.heap.size < nb
 isb:IsB nb acc w
section
variable {w0 w w':World} {bx:Array Value} {nb:Nat} {acc acc':f5}
theorem S9.size (h:S9 w0 bx nb acc w):nb < w.heap.size:=d3o h.isb
theorem S9.cell (h:S9 w0 bx nb acc w) (j:Nat):w.cell? ⟨w0.heap.size,j,none⟩=bx[j]?:=by simp [World.cell?,h.box]
theorem S9.quiet (h:S9 w0 bx nb acc w) (k:Below w.heap.size w w'):S9 w0 bx nb acc w':=by
 have:=h.size
 have:=h.lt
 exact ⟨h.old.trans (k.mono oM),(k.block _ oM).trans h.box,h.lt,b9q h.isb k⟩
theorem S9.write (h:S9 w0 bx nb acc w) (i:IsB nb acc' w') (k:Below nb w w'):S9 w0 bx nb acc' w':=by
 have:=h.lt
 exact ⟨h.old.trans (k.mono oM),(k.block _ oM).trans h.box,h.lt,i⟩
theorem S9.put (h:S9 w0 bx nb acc w) (hs:bx.size=7) (c0 c1 c2 c3 c4 c5 c6:Value):S9 w0 #[c0,c1,c2,c3,c4,c5,c6] nb acc (d8j w w0.heap.size c0 c1 c2 c3 c4 c5 c6):=by
 have hn:=d4x w w0.heap.size c0 c1 c2 c3 c4 c5 c6
 have:=h.lt
 exact ⟨⟨hn.os.trans h.old.os,hn.tape.trans h.old.tape,hn.output.trans h.old.output,by rw [hn.size];exact h.old.size,fun k hk=>(hn.rest k oM).trans (h.old.block k hk)⟩,d8k h.box hs _ _ _ _ _ _ _,h.lt,b5v h.isb fun j h1 _=>hn.rest j oM⟩
end

theorem S9.start {w0 w2:World} {bx:Array Value} {o:Obj} (hold:Below w0.heap.size w0 w2) (hbox:w2.heap[w0.heap.size]?=some (.cells bx 26 (0,0))):S9 w0 bx (w2.heap.size+1) [] ((w2.alloc o).alloc (.cells #[.pointer none,.slice none 0 0] 94)):=by
 have hlt:w0.heap.size < w2.heap.size:=(Array.getElem?_eq_some_iff.1 hbox).1
 refine ⟨hold.trans ((((Below.refl _ w2).alloc (Nat.le_refl _) o).alloc (by simp) _).mono hold.size),?_,oM,?_⟩
 ·show ((w2.heap.push _).push _)[w0.heap.size]?=_
  rw [Array.getElem?_push,Array.getElem?_push]
  simp [Nat.ne_of_lt hlt,Nat.ne_of_lt (Nat.lt_succ_of_lt hlt),hbox]
 ·have:=d6k (w2.alloc o)
  rw [show (w2.alloc o).heap.size=w2.heap.size+1 by show (w2.heap.push _).size=_;simp] at this
  exact this
theorem E0 {S:j8} {w0 w:World} {v:Value} {d:D} (hwi:S.within w0) (h:Rd S m5 w0 v d) (k:Below w0.heap.size w0 w):Rd S m5 w v d:=d9w hwi h k
theorem H2 {w0 w:World} (hg:GG.pred w0) (k:Below w0.heap.size w0 w):GG.pred w:=U5 hg k
theorem C9 {S:j8} {w0 w:World} (hwi:S.within w0) (k:Below w0.heap.size w0 w):S.within w:=fun b o h=>Nat.lt_of_lt_of_le (hwi b o h) k.size
abbrev cv (k:Int) (NU DE PK NM TX:ByteArray) (c6:Value):Array Value:=#[.int .i64 k,.string NU,.string DE,.string PK,.string NM,.string TX,c6]
set_option maxHeartbeats 4000000 in
theorem e0t (lv c6:Value) (C NU DE PK NM TX:ByteArray) (w:World) (z1:NU.size≤1000) (z2:DE.size≤1000) :
  Calls Tryz.prog 26 #[lv,.string C,.agg (cv 1 NU DE PK NM TX c6)] w fun e w'=>e=.returned (.string (if (DE.toList == [49])=true then NU else NU ++ ⟨#[47]⟩ ++ DE))∧Below w.heap.size w w':=by
 have z3:NU.size+1≤9223372036854775807:=oM
 have z4:NU.size+1+DE.size≤9223372036854775807:=oM
 cases hd:(DE.toList == [49]) with
 | true =>
  go_enter Tryz.func26,Tryz.ntmps26
  go_wp2
  go_ret
  exact ⟨rfl,(Below.refl _ w).alloc (Nat.le_refl _) _⟩
 | false =>
  go_enter Tryz.func26,Tryz.ntmps26
  go_wp2
  go_ret
  exact ⟨rfl,(Below.refl _ w).alloc (Nat.le_refl _) _⟩
set_option maxHeartbeats 4000000 in
theorem e6j (lv c6:Value) (C NU DE PK NM TX R:ByteArray) (w:World) (h:∀ w1,Below w.heap.size w w1→Calls Tryz.prog 52 #[.string TX,.int .i32 34] w1 fun e w'=>e=.returned (.string R)∧Below w1.heap.size w1 w') :
  Calls Tryz.prog 26 #[lv,.string C,.agg (cv 3 NU DE PK NM TX c6)] w fun e w'=>e=.returned (.string R)∧Below w.heap.size w w':=by
 have hb:Below w.heap.size w (w.alloc (.cells (cv 3 NU DE PK NM TX c6) 26)):=(Below.refl _ w).alloc (Nat.le_refl _) _
 have h:=h _ hb
 go_enter Tryz.func26,Tryz.ntmps26
 go_wp2_with (go_at_call 52;refine h.mono ?_;rintro e w1 ⟨rfl,hb1⟩)
 go_ret
 exact ⟨rfl,hb.trans (y9 hb1 hb.size)⟩
set_option maxHeartbeats 4000000 in
theorem e6i (lv c6:Value) (C NU DE PK NM TX R:ByteArray) (x:Int) (w:World) (h:∀ w1,Below w.heap.size w w1→Calls Tryz.prog 53 #[lv,.string C,.agg #[.string PK,.string NM]] w1 fun e w'=>e=.returned (.tuple #[.string R,.int .i64 x])∧Below w1.heap.size w1 w') :
  Calls Tryz.prog 26 #[lv,.string C,.agg (cv 2 NU DE PK NM TX c6)] w fun e w'=>e=.returned (.string R)∧Below w.heap.size w w':=by
 have hb:Below w.heap.size w (w.alloc (.cells (cv 2 NU DE PK NM TX c6) 26)):=(Below.refl _ w).alloc (Nat.le_refl _) _
 have h:=h _ hb
 go_enter Tryz.func26,Tryz.ntmps26
 go_wp2_with (go_at_call 53;refine h.mono ?_;rintro e w1 ⟨rfl,hb1⟩)
 go_ret
 exact ⟨rfl,hb.trans (y9 hb1 hb.size)⟩
abbrev H1:ByteArray:=⟨#[]⟩
def a7q (L:List Pk) (cur:f5) (x:O):Prop:=∀ (w:World) (S:j8) (lv c6:Value),GG.pred w→S.within w→Rd S m5 w lv (dV (.sl 2 (L.map pg)))→Rd S m5 w c6 (dG (.l (x.ps.map O.g))) →
  Calls Tryz.prog 26 #[lv,.string ⟨cur.toArray⟩,.agg (C4 x c6)] w fun e w'=>e=.returned (.string ⟨(o8 L cur x).toArray⟩)∧Below w.heap.size w w'
theorem sl6 {S:j8} {w:World} {v:Value} {xs:List (List G)} (h:Rd S m5 w v (dG (.l xs))):∃ base len cap,v=.slice base len cap:=by
 simp only [dG] at h
 cases h with
 | slice base len cap=>exact ⟨_,_,_,rfl⟩
theorem S9.free {w0 w:World} {bx:Array Value} {nb:Nat} {acc:f5} (h:S9 w0 bx nb acc w) (j:Nat):w.frozen? ⟨w0.heap.size,j,none⟩=false:=by simp [World.frozen?,h.box]
theorem a9t {w:World} {b o:Nat} {c0 c1 c2 c3 c4 c5 c6:Value} (h:∀ i u,#[c0,c1,c2,c3,c4,c5,c6][i]?=some u→w.cell? ⟨b,o+i,none⟩=some u) :
  w.cell? ⟨b,o,none⟩=some c0∧w.cell? ⟨b,o+1,none⟩=some c1∧w.cell? ⟨b,o+2,none⟩=some c2∧w.cell? ⟨b,o+3,none⟩=some c3∧w.cell? ⟨b,o+4,none⟩=some c4∧w.cell? ⟨b,o+5,none⟩=some c5∧w.cell? ⟨b,o+6,none⟩=some c6 :=
 ⟨h 0 _ rfl,h 1 _ rfl,h 2 _ rfl,h 3 _ rfl,h 4 _ rfl,h 5 _ rfl,h 6 _ rfl⟩
set_option maxHeartbeats 8000000 in
open Classical in
theorem e6h (L:List Pk) (cur:f5) (a d:O) (h3:(O.co a d).size≤3000) (hok:W7 (.co a d)) (hq:S8 (.co a d)) (ih:∀ x:O,x.size < (O.co a d).size→W7 x→S8 x→a7q L cur x):a7q L cur (.co a d):=by
 intro w S lv c6 hg hwi hlv hc6
 have hb0:Below w.heap.size w (w.alloc (.cells (cv 4 H1 H1 H1 H1 H1 c6) 26)):=(Below.refl _ w).alloc (Nat.le_refl _) _
 have hs:=a6x d3x (o:=.co a d) (S:=S) oM hq (H2 hg hb0) (C9 hwi hb0) (E0 hwi hc6 hb0)
 have hs:Calls Tryz.prog 54 #[.agg (cv 4 H1 H1 H1 H1 H1 c6)] _ _:=hs
 have hm:∀ w2,Below (w.alloc (.cells (cv 4 H1 H1 H1 H1 H1 c6) 26)).heap.size (w.alloc (.cells (cv 4 H1 H1 H1 H1 H1 c6) 26)) w2→w2.heap[w.heap.size]?=some (.cells (cv 4 H1 H1 H1 H1 H1 c6) 26 (0,0)):=fun w2 k=>by
  rw [k.block _ (by simp)]
  show (w.heap.push _)[w.heap.size]?=_
  simp
 show Calls Tryz.prog 26 #[lv,.string ⟨cur.toArray⟩,.agg (cv 4 H1 H1 H1 H1 H1 c6)] w _
 generalize hT:o8 L cur (.co a d)=T
 cases hsh:A7 (.co a d) with
 | some x =>
  rw [hsh] at hs
  go_enter Tryz.func26,Tryz.ntmps26
  have hxlt:x.size < (O.co a d).size:=by rw [R0.1 hsh];simp [O.size];omega
  have hqx:S8 x:=(by rw [R0.1 hsh] at hq;exact hq.two.2.two.1)
  have hokx:W7 x:=(by rw [R0.1 hsh] at hok;exact hok.2.1)
  have hxb:=(Z0 (L:=L) (cur:=cur) hokx).1
  have hTx:T=39 :: o8 L cur x:=by rw [← hT];exact a6q hsh
  have hih:=ih x hxlt hokx hqx
  unfold a7q at hih
  generalize o8 L cur x=R at hih hxb hTx
  have zR:1+(⟨R.toArray⟩:ByteArray).size≤9223372036854775807:=by show 1+R.length≤_;omega
  go_wp2_with (first
   | (go_at_call 54;refine hs.mono ?_;rintro e w2 ⟨hb2,S',hgr,hw2,x6,rfl,hx6⟩;obtain ⟨xb,xl,xc,rfl⟩:=sl6 hx6;have hba:=hb0.trans (y9 hb2 hb0.size);have hlv2:=(E0 hwi hlv hba).ext (S':=S') ⟨hgr.1,fun _ _ _=>rfl,fun _ _ h=>h⟩)
   | (go_at_call 26;refine (hih _ S' _ (.slice xb xl xc) (U5 (H2 hg hba) ((Below.refl _ _).alloc (Nat.le_refl _) _)) (C9 hw2 ((Below.refl _ _).alloc (Nat.le_refl _) _)) (E0 hw2 hlv2 ((Below.refl _ _).alloc (Nat.le_refl _) _)) (E0 hw2 hx6 ((Below.refl _ _).alloc (Nat.le_refl _) _))).mono ?_;rintro e w3 ⟨rfl,hb3⟩))
  go_ret
  refine ⟨?_,hba.trans ((((Below.refl _ _).alloc (Nat.le_refl _) _).trans (y9 hb3 (by simp))).mono hba.size)⟩
  rw [hTx]
  congr 2
 | none =>
  rw [hsh] at hs
  have hTr:b2v L cur [40] (.co a d)=T:=by rw [← hT];exact e5w hsh
  have hTl:2 * T.length≤415 * ((O.co a d).size+1):=by rw [← hT];exact (Z0 hok).1
  go_enter Tryz.func26,Tryz.ntmps26
  go_wp2_with (first
   | (go_at_call 54;refine hs.mono ?_;rintro e w2 ⟨hb2,S',hgr,hw2,x6,rfl,hx6⟩;obtain ⟨xb,xl,xc,rfl⟩:=sl6 hx6;have hba:=hb0.trans (y9 hb2 hb0.size)))
  go_loopg [12] (O.co a d).size (fun k v12 wr=>∃ (x:O) (acc bef:f5) (c6':Value),v12=.string ⟨bef.toArray⟩∧(x=.co a d∧bef=[40]∨x.size < (O.co a d).size∧bef=[32])∧S9 w (C4 x c6') (w2.heap.size+1) acc wr∧Rd S m5 w c6' (dG (.l (x.ps.map O.g)))∧W7 x∧S8 x∧x.size≤k∧acc ++ b2v L cur bef x=T)
  case atStart=>exact ⟨.co a d,[],[40],c6,rfl,.inl ⟨rfl,rfl⟩,S9.start hba (hm _ hb2),hc6,hok,hq,Nat.le_refl _,hTr⟩
  case round =>
   obtain ⟨x,acc,bef,c6',rfl,hcase,I,hx6,hokx,hqx,hxk,heq⟩:=hrel
   have hxle:x.size≤(O.co a d).size:=by rcases hcase with ⟨rfl,_⟩ | ⟨h,_⟩ <;> omega
   clear hs hm hTr hsh hgr hw2
   rcases hco:x.isCo with _ | _
   ·obtain ⟨hxlt,rfl⟩:x.size < (O.co a d).size∧bef=[32]:=by
     rcases hcase with ⟨rfl,_⟩ | h
     ·cases hco
     ·exact h
    have heq:acc ++ (if x=A5 then [41] else [32,46,32] ++ o8 L cur x ++ [41])=T:=by rw [← c88 hco (b:=[32])];exact heq
    obtain ⟨xk,exk,hxk4,q0⟩:∃ k:Int,k=x.k∧(k == 4)=false∧wr.cell? ⟨w.heap.size,0,none⟩=some (.int .i64 k):=⟨x.k,rfl,by cases x <;> first | (cases hco;done) | rfl,I.cell 0⟩
    by_cases hn:x=A5
    ·have hnil:O.eqb x A5=true:=O.eqb_t.2 hn
     rw [if_pos hn] at heq
     clear hn
     have hlen:acc.length+1=T.length:=by rw [← heq];simp
     have r6:wr.cell? ⟨w.heap.size,6,none⟩=some c6':=I.cell 6
     have r1:wr.cell? ⟨w.heap.size,1,none⟩=some (.string ⟨x.nu.toArray⟩):=I.cell 1
     have r2:wr.cell? ⟨w.heap.size,2,none⟩=some (.string ⟨x.de.toArray⟩):=I.cell 2
     have r3:wr.cell? ⟨w.heap.size,3,none⟩=some (.string ⟨x.sym.1.toArray⟩):=I.cell 3
     have r4:wr.cell? ⟨w.heap.size,4,none⟩=some (.string ⟨x.sym.2.toArray⟩):=I.cell 4
     have r5:wr.cell? ⟨w.heap.size,5,none⟩=some (.string ⟨x.txt.toArray⟩):=I.cell 5
     have hnc:=b45 hqx (H2 hg I.old) (C9 hwi I.old) (E0 hwi hx6 I.old)
     rw [hnil] at hnc
     have hnc:Calls Tryz.prog 56 #[.agg #[.int .i64 xk,.string ⟨x.nu.toArray⟩,.string ⟨x.de.toArray⟩,.string ⟨x.sym.1.toArray⟩,.string ⟨x.sym.2.toArray⟩,.string ⟨x.txt.toArray⟩,c6']] wr (fun e w'=>e=.returned (.bool true)∧Below wr.heap.size wr w'):=by rw [exk];exact hnc
     clear exk
     go_wp2_with (first
      | (go_at_call 56;refine hnc.mono ?_;rintro e w3 ⟨rfl,hb3⟩;have I1:=I.quiet hb3)
      | (go_at_call 55;refine (Q1 _ _ _ _ I1.isb (by simp [ByteArray.size];omega) (by have:=I1.size;omega)).mono ?_;rintro e w4 ⟨⟨v4,rfl⟩,hI4,hb4⟩;have I2:=I1.write hI4 hb4)
      | (go_at_call 57;refine (a7r _ _ _ I2.isb (by have:=I2.size;omega)).mono ?_;rintro e w5 ⟨rfl,hb5⟩))
     go_ret
     exact ⟨rfl,I2.old.trans (hb5.mono (Nat.le_of_lt I2.lt))⟩
    ·have hnil:O.eqb x A5=false:=O.eqb_f.2 hn
     rw [if_neg hn] at heq
     clear hn
     have hih:=ih x hxlt hokx hqx
     unfold a7q at hih
     generalize o8 L cur x=R at hih heq
     have hlen:acc.length+(R.length+4)=T.length:=by rw [← heq];simp
     have hih:∀ w1,Below w.heap.size w w1→Calls Tryz.prog 26 #[lv,.string ⟨cur.toArray⟩,.agg #[.int .i64 xk,.string ⟨x.nu.toArray⟩,.string ⟨x.de.toArray⟩,.string ⟨x.sym.1.toArray⟩,.string ⟨x.sym.2.toArray⟩,.string ⟨x.txt.toArray⟩,c6']] w1 (fun e w'=>e=.returned (.string ⟨R.toArray⟩)∧Below w1.heap.size w1 w'):=fun w1 k=>by
      rw [exk];exact hih w1 S lv c6' (H2 hg k) (C9 hwi k) (E0 hwi hlv k) (E0 hwi hx6 k)
     have r6:wr.cell? ⟨w.heap.size,6,none⟩=some c6':=I.cell 6
     have r1:wr.cell? ⟨w.heap.size,1,none⟩=some (.string ⟨x.nu.toArray⟩):=I.cell 1
     have r2:wr.cell? ⟨w.heap.size,2,none⟩=some (.string ⟨x.de.toArray⟩):=I.cell 2
     have r3:wr.cell? ⟨w.heap.size,3,none⟩=some (.string ⟨x.sym.1.toArray⟩):=I.cell 3
     have r4:wr.cell? ⟨w.heap.size,4,none⟩=some (.string ⟨x.sym.2.toArray⟩):=I.cell 4
     have r5:wr.cell? ⟨w.heap.size,5,none⟩=some (.string ⟨x.txt.toArray⟩):=I.cell 5
     have hnc:=b45 hqx (H2 hg I.old) (C9 hwi I.old) (E0 hwi hx6 I.old)
     rw [hnil] at hnc
     have hnc:Calls Tryz.prog 56 #[.agg #[.int .i64 xk,.string ⟨x.nu.toArray⟩,.string ⟨x.de.toArray⟩,.string ⟨x.sym.1.toArray⟩,.string ⟨x.sym.2.toArray⟩,.string ⟨x.txt.toArray⟩,c6']] wr (fun e w'=>e=.returned (.bool false)∧Below wr.heap.size wr w'):=by rw [exk];exact hnc
     have hcells:∀ {acc':f5} {wz:World},S9 w (C4 x c6') (w2.heap.size+1) acc' wz→wz.cell? ⟨w.heap.size,0,none⟩=some (.int .i64 xk):=fun Iz=>by rw [exk];exact Iz.cell 0
     clear exk
     go_wp2_with (first
      | (go_at_call 56;refine hnc.mono ?_;rintro e w3 ⟨rfl,hb3⟩;have I1:=I.quiet hb3)
      | (go_at_call 55;refine (Q1 _ _ _ _ I4.isb (by simp [ByteArray.size];omega) (by have:=I4.size;omega)).mono ?_;rintro e w7 ⟨⟨v7,rfl⟩,hI7,hb7⟩;have I5:=I4.write hI7 hb7)
      | (go_at_call 55;refine (Q1 _ _ _ _ I3.isb (by simp [ByteArray.size];omega) (by have:=I3.size;omega)).mono ?_;rintro e w6 ⟨⟨v6,rfl⟩,hI6,hb6⟩;have I4:=I3.write hI6 hb6)
      | (go_at_call 55;refine (Q1 _ _ _ _ I1.isb (by simp [ByteArray.size];omega) (by have:=I1.size;omega)).mono ?_;rintro e w4 ⟨⟨v4,rfl⟩,hI4,hb4⟩;have I2:=I1.write hI4 hb4;have y0:=hcells I2;have y1:w4.cell? ⟨w.heap.size,1,none⟩=some (.string ⟨x.nu.toArray⟩):=I2.cell 1;have y2:w4.cell? ⟨w.heap.size,2,none⟩=some (.string ⟨x.de.toArray⟩):=I2.cell 2;have y3:w4.cell? ⟨w.heap.size,3,none⟩=some (.string ⟨x.sym.1.toArray⟩):=I2.cell 3;have y4:w4.cell? ⟨w.heap.size,4,none⟩=some (.string ⟨x.sym.2.toArray⟩):=I2.cell 4;have y5:w4.cell? ⟨w.heap.size,5,none⟩=some (.string ⟨x.txt.toArray⟩):=I2.cell 5;have y6:w4.cell? ⟨w.heap.size,6,none⟩=some c6':=I2.cell 6)
      | (go_at_call 26;refine (hih _ I2.old).mono ?_;rintro e w5 ⟨rfl,hb5⟩;have I3:=I2.quiet hb5)
      | (go_at_call 57;refine (a7r _ _ _ I5.isb (by have:=I5.size;omega)).mono ?_;rintro e w8 ⟨rfl,hb8⟩))
     go_ret
     exact ⟨by rw [← heq];simp,I5.old.trans (hb8.mono (Nat.le_of_lt I5.lt))⟩
   ·obtain ⟨a',d',rfl⟩:∃ a' d',x=.co a' d':=by cases x <;> first | exact ⟨_,_,rfl⟩ | cases hco
    clear hco
    obtain ⟨b,o,cap,x6,y6,rfl,hcap,hx,hy,hxs,hys⟩:=d4s (a:=a') (d:=d') hx6
    obtain ⟨yb,yl,yc,rfl⟩:=sl6 hy
    have hsz:(O.co a' d').size=1+a'.size+d'.size:=rfl
    have hpa:=a'.size_pos
    have hpd:=d'.size_pos
    have hih:=ih a' oM hokx.1 hqx.two.1
    have heq:acc ++ (bef ++ (o8 L cur a' ++ (pT L cur d').2.1))=T:=heq
    have hsp:=c89 L cur d'
    unfold a7q at hih
    generalize o8 L cur a'=R at hih heq
    generalize (pT L cur d').2.1=Y at heq hsp
    have hlen:acc.length+(bef.length+(R.length+Y.length))=T.length:=by rw [← heq];simp
    have hbb:b < w.heap.size:=hwi _ _ (hxs 0 _ rfl).1
    have q0:wr.cell? ⟨w.heap.size,0,none⟩=some (.int .i64 4):=I.cell 0
    have hd2:decide ((1:Int) < 2)=true:=rfl
    go_wp2_with (first
     | (go_at_call 55;refine (Q1 _ _ _ _ I2.isb (by simp [ByteArray.size];omega) (by have:=I2.size;omega)).mono ?_;rintro e w5 ⟨⟨v5,rfl⟩,hI5,hb5⟩;have I3:=I2.write hI5 hb5;have r6:w5.cell? ⟨w.heap.size,6,none⟩=some (.slice (some ⟨b,o,none⟩) 2 cap):=I3.cell 6;obtain ⟨s0,s1,s2,s3,s4,s5,s6⟩:=(a9t fun i u hu=>a2i I3.old hbb (hys i u hu).2);have t0:w5.cell? ⟨w.heap.size,0,none⟩=some (.int .i64 4):=I3.cell 0;have t1:w5.cell? ⟨w.heap.size,1,none⟩=some (.string H1):=I3.cell 1;have t2:w5.cell? ⟨w.heap.size,2,none⟩=some (.string H1):=I3.cell 2;have t3:w5.cell? ⟨w.heap.size,3,none⟩=some (.string H1):=I3.cell 3;have t4:w5.cell? ⟨w.heap.size,4,none⟩=some (.string H1):=I3.cell 4;have t5:w5.cell? ⟨w.heap.size,5,none⟩=some (.string H1):=I3.cell 5;have z0:=I3.free 0;have z1:=I3.free 1;have z2:=I3.free 2;have z3:=I3.free 3;have z4:=I3.free 4;have z5:=I3.free 5;have z6:=I3.free 6)
     | (go_at_call 55;refine (Q1 _ _ _ _ I.isb (by simp [ByteArray.size];omega) (by have:=I.size;omega)).mono ?_;rintro e w3 ⟨⟨v3,rfl⟩,hI3,hb3⟩;have I1:=I.write hI3 hb3;have r6:w3.cell? ⟨w.heap.size,6,none⟩=some (.slice (some ⟨b,o,none⟩) 2 cap):=I1.cell 6;obtain ⟨p0,p1,p2,p3,p4,p5,p6⟩:=a9t fun i u hu=>a2i I1.old hbb (hxs i u hu).2)
     | (go_at_call 26;refine (hih _ S _ x6 (H2 hg I1.old) (C9 hwi I1.old) (E0 hwi hlv I1.old) (E0 hwi hx I1.old)).mono ?_;rintro e w4 ⟨rfl,hb4⟩;have I2:=I1.quiet hb4))
    go_roundg d'.size
    case measure=>omega
    case rel=>exact ⟨d',acc ++ bef ++ R,[32],.slice yb yl yc,rfl,.inr ⟨oM,rfl⟩,I3.put rfl _ _ _ _ _ _ _,hy,hokx.2,hqx.two.2,Nat.le_refl _,by rw [hsp,← heq];simp⟩
theorem c8w:f8 1=[49]:=sh1
theorem c5j (L:List Pk) (cur:f5) (m:Int) (d:Nat):o8 L cur (.num m d)=if (f8 d == [49])=true then f9 m else f9 m ++ [47] ++ f8 d:=by
 show b4f m d=_
 unfold b4f
 by_cases h:d=1
 ·subst h;rw [if_pos rfl,if_pos (by rw [c8w];rfl)]
 ·rw [if_neg h,if_neg]
  ·simp
  ·intro e
   exact h (a23 ((eq_of_beq e).trans c8w.symm))
theorem c5h (L:List Pk) (cur:f5) (hL:F1 L) (vL:V) (hvL:RV (.sl 2 (L.map pg)) vL):∀ (n:Nat) (o:O),o.size≤n→o.size≤3000→W7 o→S8 o→a7q L cur o:=by
 intro n
 induction n with
 | zero=>intro o h;have:=O.size_pos o;omega
 | succ n ih =>
 intro o hn h3 hok hq
 cases o with
 | no=>exact hok.elim
 | co a d=>exact e6h L cur a d h3 hok hq fun x hx=>ih x oM oM
 | num m d =>
  intro w S lv c6 hg hwi hlv hc6
  have l1:=hok.2.2.1
  have l2:=hok.2.2.2
  refine (e0t lv c6 ⟨cur.toArray⟩ ⟨(f9 m).toArray⟩ ⟨(f8 d).toArray⟩ H1 H1 H1 w (by show (f9 m).length≤_;omega) (by show (f8 d).length≤_;omega)).mono ?_
  rintro e w' ⟨rfl,hb⟩
  refine ⟨?_,hb⟩
  rw [c5j]
  have e1:(⟨(f8 d).toArray⟩:ByteArray).toList=f8 d:=by simp
  rw [e1]
  split
  ·rfl
  ·congr 2
 | tx t =>
  intro w S lv c6 hg hwi hlv hc6
  have hl:t.length≤200:=hok
  exact e6j lv c6 ⟨cur.toArray⟩ H1 H1 H1 H1 ⟨t.toArray⟩ ⟨(D8 34 t).toArray⟩ w fun w1 k=>c5z t 34 oM (.inl rfl) 34 rfl (H2 hg k)
 | sy s =>
  intro w S lv c6 hg hwi hlv hc6
  have h1:=a0v (s:=s) hok
  have h2:=a9c (s:=s) hok
  exact e6i lv c6 ⟨cur.toArray⟩ H1 H1 ⟨s.1.toArray⟩ ⟨s.2.toArray⟩ H1 ⟨(H9 L cur s).1.toArray⟩ (H9 L cur s).2 w fun w1 k=>d2t hL oM oM hvL (H2 hg k) (C9 hwi k) (E0 hwi hlv k)
def okT (o:O):Prop:=W7 o∧o.size≤3000
def txG (L:List Pk) (cur:f5) (o:O):GV:=.c (.s (o8 L cur o))
theorem d2z {P:Program} {G:b0k} {f:FuncId} {ds:List D} {d:D} (hcall:∀ args w,(callFunc f args).run P w=.ok (.enter f args) w)
  (h:∀ (w:World) (S:j8) (vs:List Value),G.pred w→S.within w→p9 S m5 w vs ds→Calls P f vs.toArray w fun e w'=>Below w.heap.size w w'∧∃ v S',e=.returned v∧S.grown S' w∧S'.within w'∧Rd S' m5 w' v d∧a3n S' w w' v d):CM P G f ds [] (.ret d) []:=by
 refine ⟨hcall,fun w S M vs hg hM hwi hh hvs=>?_⟩
 have hMn:M=m5:=funext fun id=>hh.out id (by simp)
 subst hMn
 refine (h w S vs hg hwi hvs).mono fun e w' ⟨hb,v,S',he,h1,h2,h3,h4⟩=>?_
 exact ⟨⟨hb.os,hb.tape,hb.output,hb.size,fun k hk _=>hb.block k hk⟩,S',h1,h2,⟨fun id b h=>by simp at h,fun _ _=>rfl,fun i j x y b k l h=>by simp at h⟩,v,he,h3,h4⟩
theorem e7o:j3 26 (b8s okT txG):=fun ⟨(L,cur,o),hL,ho,h3⟩ vs bs hv hb=>by
 change j5 [.sl 2 (L.map pg),.c (.s cur),.a o.g] vs at hv
 change F1 L at hL
 change W7 o at ho
 change o.size≤3000 at h3
 cases hb
 refine ⟨.ret (.str (o8 L cur o).length (j9 (o8 L cur o))),[],fun hok=>?_,.ret _ _ (.s _ _ _ rfl rfl),.nil⟩
 have hvs:=hv
 rw [hv.map_toD]
 show CM X0.P X0.G _ _ [] (.ret (.str (k6 (o8 L cur o).length (j9 (o8 L cur o))))) []
 rw [y7]
 cases hvs with
 | cons _ _ vL _ hvL hvs =>
 cases hvs with
 | cons _ _ _ _ _ hvs =>
 cases hvs with
 | cons _ _ vo _ hvo _ =>
 refine d2z (d:=.str (o8 L cur o)) Tryz.call26 fun w S us hg hwi hr=>?_
 have hr:p9 S m5 w us [dV (.sl 2 (L.map pg)),.str cur,dV (.a o.g)]:=hr
 cases hr with
 | cons lv _ _ _ r1 hr =>
 cases hr with
 | cons _ _ _ _ r2 hr =>
 cases hr with
 | cons _ _ _ _ r3 hr =>
 cases hr
 have e2:=T5 r2
 obtain ⟨c6,e3,hc6⟩:=b8g r3
 subst e2 e3
 refine (c5h L cur hL vL hvL o.size o (Nat.le_refl _) h3 ho (d2w hvo) w S lv c6 hg hwi r1 hc6).mono ?_
 rintro e w' ⟨rfl,hb⟩
 exact ⟨hb,_,S,rfl,⟨fun _ _ h=>h,fun _ _ h=>.inl h⟩,P5 hwi hb,.str _ _ rfl,M6 (fun _ _ _ h=>by cases h) (fun _ h=>by cases h)⟩
def prG (L:List Pk) (cur:f5) (o:O):GV:=.t [.c (.s (x7 L cur o).1),.c (.i .i64 (x7 L cur o).2)]
theorem e7q:j3 8 (b8s okV prG):=k7 (fun fn h=>f59 h) [(25,_),(26,_)] (.cons d3p (.cons e7o .nil)) fun U fn hfn ⟨(L,cur,o),hL,ho⟩ vs bs hv hb=>by
 have hck:=hfn 25 _ rfl
 have htx:=hfn 26 _ rfl
 have hL:F1 L:=hL
 have ho:okV o:=ho
 have hv:j5 [.sl 2 (L.map pg),.c (.s cur),.a o.g] vs:=hv
 have hb:RBs [] bs:=hb
 show g7 U _ fun v bs'=>j6 (.ret (prG L cur o)) v∧RBs [] bs'
 unfold r8
 (refine Zy ?_;intros)
 refine M5 aS o.g_len fun q0 hq0=>?_
 (refine Zy ?_;intros)
 by_cases hbad:B0 L cur=none∨t8 L o=false
 ·have e:x7 L cur o=([],13):=by unfold x7;rw [if_pos hbad]
  unfold prG
  rw [e]
  refine f6 hck ⟨(L,cur,o),hL,ho⟩ (r:=.c (.i .i64 13)) (by show n6.ret (.c (.i .i64 (x7 L cur o).2))=_;rw [e]) (.k (.sl _ _ _ _ _ (by simp) aS) (.k (.s _ _ _ rfl rfl) (.k (oV aS) .nil))) .nil fun _ _ _ _=>?_
  (refine Zz ?_;intros)
  exact g9 ⟨.ret _ _ j4,.nil⟩
 ·have e:x7 L cur o=(o8 L cur o,0):=by unfold x7;rw [if_neg hbad]
  unfold prG
  rw [e]
  refine f6 hck ⟨(L,cur,o),hL,ho⟩ (r:=.c (.i .i64 0)) (by show n6.ret (.c (.i .i64 (x7 L cur o).2))=_;rw [e]) (.k (.sl _ _ _ _ _ (by simp) aS) (.k (.s _ _ _ rfl rfl) (.k (oV aS) .nil))) .nil fun _ _ _ _=>?_
  (refine Zz ?_;intros)
  have hh:t8 L o=true:=by
   cases h:t8 L o with
   | true=>rfl
   | false=>exact absurd (.inr h) hbad
  refine f6 htx ⟨(L,cur,o),hL,a9f (b6e ho hh),ho.size⟩ (r:=.c (.s (o8 L cur o))) rfl (.k (.sl _ _ _ _ _ (by simp) aS) (.k (.s _ _ _ rfl rfl) (.k (oV aS) .nil))) .nil fun _ _ _ _=>?_
  (refine Zz ?_;intros)
  exact g9 ⟨.ret _ _ j4,.nil⟩
end
end Go.Proofs.YtdldcfllnohkeaaGreatDoor
namespace Go.Proofs.YtdldcfllnohkeaaGreatDoor
open Go.Abs LQ Go.RowKit
noncomputable section
theorem b92 (a:List f5) (x:f5):C3 (a ++ [x])=C3 a ++ [(if a=[] then (40:UInt8) else 32) :: x]:=by
 cases a with
 | nil=>rfl
 | cons l r=>simp [C3]
theorem a8x:∀ (a:List f5) (x:f5),M9 (a ++ [x])=a ++ [x ++ [41]]
 | [],x=>rfl
 | [l],x=>rfl
 | l :: m :: r,x=>by
  have:=a8x (m :: r) x
  simp only [List.cons_append,M9] at this ⊢
  rw [this]
theorem c3w {L:List Pk} {cur:f5}:∀ {n m:Nat} {o:O} {w:Int},o.size≤n→o.size≤m→E9 L cur n o w=E9 L cur m o w
 | 0,_,o,_,h,_=>by have:=O.size_pos o;omega
 | _+1,0,o,_,_,h=>by have:=O.size_pos o;omega
 | n+1,m+1,o,w,h,k=>by
  rw [E9,E9]
  cases hi:m8 o with
  | none=>rfl
  | some l =>
   simp only []
   have e:(l.flatMap fun x=>E9 L cur n x (w - 1))=l.flatMap fun x=>E9 L cur m x (w - 1):=by
    rw [List.flatMap_def,List.flatMap_def]
    congr 1
    exact List.map_congr_left fun x hx=>by have:=G8 hi x hx;exact c3w oM oM
   rw [e]
def q8 (L:List Pk) (cur:f5) (o:O) (w:Int):List f5:=E9 L cur o.size o w
theorem c8i {L:List Pk} {cur:f5} {o:O} {w:Int} (h:((o8 L cur o).length:Int)≤w∨m8 o=none∨(∃ l,m8 o=some l∧l.length < 2)∨A7 o ≠ none):q8 L cur o w=[o8 L cur o]:=by
 unfold q8
 obtain ⟨n,hn⟩:∃ n,o.size=n+1:=⟨o.size - 1,by have:=o.size_pos;omega⟩
 rw [hn,E9]
 cases hi:m8 o with
 | none=>rfl
 | some l =>
  simp only []
  rw [if_pos]
  rcases h with h | h | ⟨l',h,hl⟩ | h
  ·exact .inl h
  ·rw [hi] at h;cases h
  ·rw [hi] at h;injection h with h;subst h;exact .inr (.inl hl)
  ·exact .inr (.inr h)
theorem c3t {L:List Pk} {cur:f5} {o:O} {w:Int} {l:List O} (h:¬((o8 L cur o).length:Int)≤w) (hi:m8 o=some l) (hl:¬l.length < 2) (hs:A7 o=none):q8 L cur o w=M9 (C3 (l.flatMap fun x=>q8 L cur x (w - 1))):=by
 unfold q8
 obtain ⟨n,hn⟩:∃ n,o.size=n+1:=⟨o.size - 1,by have:=o.size_pos;omega⟩
 rw [hn,E9,hi]
 simp only []
 rw [if_neg (by rw [hs];simp;exact ⟨oM,oM⟩)]
 congr 2
 rw [List.flatMap_def,List.flatMap_def]
 congr 1
 exact List.map_congr_left fun x hx=>by have:=G8 hi x hx;exact c3w oM (Nat.le_refl _)
theorem d32 (L:List Pk) (cur:f5) (o:O) (w:Int):q8 L cur o w ≠ []:=c3x (Nat.le_refl _)
theorem b4d:∀ {a:List f5} {x:f5},x ∈ a→x.length≤(L8 a).length
 | [],_,h=>by cases h
 | y :: a,x,h=>by
  rw [U1]
  rcases List.mem_cons.1 h with rfl | h
  ·omega
  ·have:=b4d h;omega
section
variable {S:j8} {M:Mp} {w:World}
theorem b1n:∀ {l:List O} {vs:List Value},p9 S M w vs (Z6 (l.map O.g))→∀ (k:Nat) (x:O),l[k]?=some x →
  ∃ c6,(∀ (i:Nat) u,(C4 x c6)[i]?=some u→vs[7 * k+i]?=some u)∧Rd S M w c6 (dG (.l (x.ps.map O.g)))
 | [],_,_,k,x,hk=>by cases hk
 | a :: l,vs,h,k,x,hk=>by
  rw [List.map_cons,a5b] at h
  have la:(a.g.map dG).length=7:=by rw [List.length_map,O.g_len]
  generalize hds:a.g.map dG ++ Z6 (l.map O.g)=ds at h
  have r1:=h.take 7
  have r2:=h.drop 7
  subst hds
  rw [List.take_left' la] at r1
  rw [List.drop_left' la] at r2
  obtain ⟨x6,ex,hx⟩:=a9d r1
  have ev:vs=(C4 a x6).toList ++ vs.drop 7:=by rw [← ex,List.take_append_drop]
  cases k with
  | zero =>
   have hk:some a=some x:=hk
   injection hk with hk
   subst hk
   refine ⟨x6,fun i u hu=>?_,hx⟩
   rw [ev,List.getElem?_append_left]
   ·rw [Array.getElem?_toList,Nat.mul_zero,Nat.zero_add];exact hu
   ·have:=(Array.getElem?_eq_some_iff.1 hu).1;simp only [Nat.mul_zero,Nat.zero_add];simpa using this
  | succ k =>
   obtain ⟨c6,h1,h2⟩:=b1n r2 k x hk
   refine ⟨c6,fun i u hu=>?_,h2⟩
   have:=h1 i u hu
   rw [List.getElem?_drop] at this
   rw [show 7 * (k+1)+i=7+(7 * k+i) by omega]
   exact this
end
def b17 (S:j8) (w:World) (b o:Nat) (l:List O):Prop:=∀ (k:Nat) (x:O),l[k]?=some x→∃ c6,(∀ (i:Nat) u,(C4 x c6)[i]?=some u→S b (o+k * 7+i)∧w.cell? ⟨b,o+k * 7+i,none⟩=some u)∧Rd S m5 w c6 (dG (.l (x.ps.map O.g)))
theorem b46 {f:FuncId} (hk:j3 f (b8t J1)) {w:World} {S:j8} {o:O} {c6:Value} (hz:o.size < 90000) (hq:S8 o) (hg:GG.pred w) (hwi:S.within w) (hc:Rd S m5 w c6 (dG (.l (o.ps.map O.g)))) :
  Calls Tryz.prog f #[.agg (C4 o c6)] w fun e w'=>Below w.heap.size w w'∧∃ S',S.grown S' w∧S'.within w'∧∃ base cap,match m8 o with
   | some l=>e=.returned (.tuple #[.slice base l.length cap,.bool true])∧(l ≠ []→∃ b oo,base=some ⟨b,oo,none⟩∧b17 S' w' b oo l)
   | none=>e=.returned (.tuple #[.slice base 0 cap,.bool false]):=by
 obtain ⟨v,hv⟩:=hq.rv
 refine (a2e hk ⟨o,hz⟩ rfl rfl (vs:=[v]) (.k hv .nil) (us:=[.agg (C4 o c6)]) hg hwi (.k (b2a hc) .nil)).mono ?_
 rintro e w' ⟨v,S',rfl,hb,h1,h2,hr⟩
 refine ⟨hb,S',h1,h2,?_⟩
 have hr:Rd S' m5 w' v (dV (J1 o)):=hr
 have key:∀ (l:List O) (z:Bool),Rd S' m5 w' v (dV (.t [.sl 7 (l.map O.g),.c (.b z)]))→∃ base cap,v=.tuple #[.slice base l.length cap,.bool z]∧(l ≠ []→∃ b oo,base=some ⟨b,oo,none⟩∧b17 S' w' b oo l):=by
  intro l z hr
  rw [dV,dVs,dVs,dVs] at hr
  cases hr with
  | tuple vs _ r =>
  obtain ⟨vs⟩:=vs
  cases r with
  | cons _ _ _ _ r1 r2 =>
  cases r2 with
  | cons _ _ _ _ r2 r3 =>
  cases r3
  have r2:Rd S' m5 w' _ (.bool z):=r2
  cases r2
  rw [dV,List.length_map] at r1
  generalize hds:Z6 (l.map O.g)=ds at r1
  cases r1 with
  | slice base _ cap us _ _ sl r _ hle _ =>
  subst hds
  refine ⟨base,cap,rfl,fun hl=>?_⟩
  have hus:us ≠ []:=by
   intro e
   cases l with
   | nil=>exact hl rfl
   | cons a l =>
    obtain ⟨c6,hx,_⟩:=b1n r 0 a rfl
    have:=hx 0 _ rfl
    rw [e] at this
    cases this
  rcases sl with sl | ⟨b,oo,rfl,sl⟩
  ·exact absurd sl hus
  refine ⟨b,oo,rfl,fun k x hk=>?_⟩
  obtain ⟨c6,hx,h6⟩:=b1n r k x hk
  refine ⟨c6,fun i u hu=>?_,h6⟩
  have:=sl _ u (hx i u hu)
  rw [show oo+(7 * k+i)=oo+k * 7+i by omega] at this
  exact this
 unfold J1 at hr
 cases hs:m8 o with
 | none =>
  rw [hs] at hr
  obtain ⟨base,cap,e,_⟩:=key [] false hr
  exact ⟨base,cap,by rw [e];rfl⟩
 | some l =>
  rw [hs] at hr
  obtain ⟨base,cap,e,h⟩:=key l true hr
  exact ⟨base,cap,by rw [e],h⟩
end
end Go.Proofs.YtdldcfllnohkeaaGreatDoor
namespace Go.Proofs.YtdldcfllnohkeaaGreatDoor
open Go.Abs LQ Go.RowKit Go.Shelf
set_option maxRecDepth 100000
noncomputable section
def O5 (w:World) (v:Value) (R:List f5) (lo:Nat):Prop:=∃ b cap,v=.slice (some ⟨b,0,none⟩) R.length cap∧R.length≤cap∧lo≤b∧b < w.heap.size∧∀ (j:Nat) s,R[j]?=some s→w.cell? ⟨b,j,none⟩=some (.string ⟨s.toArray⟩)
theorem b0q {w w1:World} {T:TypeId} {c0 c1 c2 c3 c4 c5 c6:Value} (k:Below (w.heap.size+1) (w.alloc (.cells #[c0,c1,c2,c3,c4,c5,c6] T)) w1) :
  w1.cell? ⟨w.heap.size,0,none⟩=some c0∧w1.cell? ⟨w.heap.size,1,none⟩=some c1∧w1.cell? ⟨w.heap.size,2,none⟩=some c2∧w1.cell? ⟨w.heap.size,3,none⟩=some c3∧w1.cell? ⟨w.heap.size,4,none⟩=some c4∧w1.cell? ⟨w.heap.size,5,none⟩=some c5∧w1.cell? ⟨w.heap.size,6,none⟩=some c6:=by
 have h:w1.heap[w.heap.size]?=some (.cells #[c0,c1,c2,c3,c4,c5,c6] T (0,0)):=by
  rw [k.block _ oM]
  show (w.heap.push _)[w.heap.size]?=_
  simp
 simp only [World.cell?,h]
 exact ⟨rfl,rfl,rfl,rfl,rfl,rfl,rfl⟩
theorem c8x {w w3:World} (h:Below w.heap.size w w3) (o1:Obj) (T:f5) (t:TypeId):O5 ((w3.alloc o1).alloc (.cells #[.string ⟨T.toArray⟩] t)) (.slice (some ⟨w3.heap.size+1,0,none⟩) 1 1) [T] w.heap.size∧Below w.heap.size w ((w3.alloc o1).alloc (.cells #[.string ⟨T.toArray⟩] t)):=by
 have hs:=h.size
 have e:((w3.alloc o1).alloc (.cells #[.string ⟨T.toArray⟩] t)).heap[w3.heap.size+1]?=some (.cells #[.string ⟨T.toArray⟩] t (0,0)):=by
  show ((w3.heap.push o1).push _)[w3.heap.size+1]?=_
  rw [Array.getElem?_push]
  simp
 refine ⟨⟨w3.heap.size+1,1,rfl,Nat.le_refl _,oM,by simp,fun j s hj=>?_⟩,(h.alloc oM o1).alloc (by simp;omega) _⟩
 cases j with
 | zero=>injection hj with hj;subst hj;unfold World.cell?;rw [e];rfl
 | succ j=>cases hj
set_option maxHeartbeats 8000000 in
theorem c6c (lv c6:Value) (C:ByteArray) (o:O) (wd:Int) (w:World) (T:f5) (is sh:Bool) (n:Nat) (hT:T.length < 1000000000) (hn:n < 1000000000) (hwd:-2000000000 < wd∧wd≤9223372036854775807)
  (hone:((T.length:Int)≤wd)∨is=false∨n < 2∨sh=true)
  (ht:∀ w1,Below w.heap.size w w1→Calls Tryz.prog 26 #[lv,.string C,.agg (C4 o c6)] w1 fun e w'=>e=.returned (.string ⟨T.toArray⟩)∧Below w1.heap.size w1 w')
  (hi:∀ w1,Below w.heap.size w w1→Calls Tryz.prog 69 #[.agg (C4 o c6)] w1 fun e w'=>Below w1.heap.size w1 w'∧∃ base cap,e=.returned (.tuple #[.slice base n cap,.bool is]))
  (hs:∀ w1,Below w.heap.size w w1→Calls Tryz.prog 54 #[.agg (C4 o c6)] w1 fun e w'=>Below w1.heap.size w1 w'∧∃ x xb xl xc,e=.returned (.tuple #[.agg (C4 x (.slice xb xl xc)),.bool sh])) :
  Calls Tryz.prog 40 #[lv,.string C,.agg (C4 o c6),.int .i64 wd] w fun e w'=>∃ v,e=.returned v∧O5 w' v [T] w.heap.size∧Below w.heap.size w w':=by
 have hb0:Below w.heap.size w (w.alloc (.cells (C4 o c6) 26)):=(Below.refl _ w).alloc (Nat.le_refl _) _
 have ht:=ht _ hb0
 unfold C4 at *
 go_enter Tryz.func40,Tryz.ntmps40
 go_wp2_with (first
  | (go_at_call 26;refine ht.mono ?_;rintro e w1 ⟨rfl,hb1⟩;have hk1:=y9 (B:=w.heap.size+1) hb1 (by simp);obtain ⟨p0,p1,p2,p3,p4,p5,p6⟩:=b0q hk1;have hba:=hb0.trans (y9 hb1 hb0.size);have hi:=hi _ hba)
  | (go_at_call 69;refine hi.mono ?_;rintro e w2 ⟨hb2,ib,ic,rfl⟩;have hk2:=hk1.trans (y9 hb2 (by have:=hk1.size;simpa using this));obtain ⟨q0,q1,q2,q3,q4,q5,q6⟩:=b0q hk2;have hbb:=hba.trans (y9 hb2 hba.size);have hs:=hs _ hbb)
  | (go_at_call 54;refine hs.mono ?_;rintro e w3 ⟨hb3,x,xb,xl,xc,rfl⟩;have hbc:=hbb.trans (y9 hb3 hbb.size)))
 all_goals first
  | (go_ret;exact ⟨_,rfl,c8x hbc _ _ _⟩)
  | (exfalso
     have a1:wd < (T.length:Int):=aS
     have a2:is=true:=aS
     have a3:(2:Int)≤n:=aS
     rcases hone with h | h | h | h
     ·omega
     ·rw [a2] at h;cases h
     ·omega
     ·subst h;simp at *)
end
end Go.Proofs.YtdldcfllnohkeaaGreatDoor
