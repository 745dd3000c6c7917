/- printer.text: its walk. -/
import Derived.Test.YtgipbdffgfbedaaGreatDoorCJ22
set_option linter.all false
namespace Go.Proofs.YtgipbdffgfbedaaGreatDoor
open Go.Abs LQ Go.RowKit Go.Shelf
set_option maxRecDepth 100000
noncomputable section
structure R1 (w0:World) (bx:Array Value) (nb:Nat) (acc:f6) (w:World):Prop where
 old:Below w0.heap.size w0 w
 box:w.heap[w0.heap.size]?=some (.cells bx 26 (0,0))
 lt:w0.heap.size < nb
 isb:IsB nb acc w
section
variable {w0 w w':World} {bx:Array Value} {nb:Nat} {acc acc':f6}
theorem R1.size (h:R1 w0 bx nb acc w):nb < w.heap.size:=d00 h.isb
theorem R1.cell (h:R1 w0 bx nb acc w) (j:Nat):w.cell? ⟨w0.heap.size,j,none⟩=bx[j]?:=by simp [World.cell?,h.box]
theorem R1.quiet (h:R1 w0 bx nb acc w) (k:Below w.heap.size w w'):R1 w0 bx nb acc w':=by
 have:=h.size
 have:=h.lt
 exact ⟨h.old.trans (k.mono oM),(k.block _ oM).trans h.box,h.lt,b8c h.isb k⟩
theorem R1.write (h:R1 w0 bx nb acc w) (i:IsB nb acc' w') (k:Below nb w w'):R1 w0 bx nb acc' w':=by
 have:=h.lt
 exact ⟨h.old.trans (k.mono oM),(k.block _ oM).trans h.box,h.lt,i⟩
theorem R1.put (h:R1 w0 bx nb acc w) (hs:bx.size=7) (c0 c1 c2 c3 c4 c5 c6:Value):R1 w0 #[c0,c1,c2,c3,c4,c5,c6] nb acc (d5m w w0.heap.size c0 c1 c2 c3 c4 c5 c6):=by
 have hn:=d13 w w0.heap.size c0 c1 c2 c3 c4 c5 c6
 have:=h.lt
 exact ⟨⟨hn.os.trans h.old.os,hn.tape.trans h.old.tape,hn.output.trans h.old.output,by rw [hn.size];exact h.old.size,fun k hk=>(hn.rest k oM).trans (h.old.block k hk)⟩,d5n h.box hs _ _ _ _ _ _ _,h.lt,b4k h.isb fun j h1 _=>hn.rest j oM⟩
end

theorem R1.start {w0 w2:World} {bx:Array Value} {o:Obj} (hold:Below w0.heap.size w0 w2) (hbox:w2.heap[w0.heap.size]?=some (.cells bx 26 (0,0))):R1 w0 bx (w2.heap.size+1) [] ((w2.alloc o).alloc (.cells #[.pointer none,.slice none 0 0] 61)):=by
 have hlt:w0.heap.size < w2.heap.size:=(Array.getElem?_eq_some_iff.1 hbox).1
 refine ⟨hold.trans ((((Below.refl _ w2).alloc (Nat.le_refl _) o).alloc (by simp) _).mono hold.size),?_,oM,?_⟩
 ·show ((w2.heap.push _).push _)[w0.heap.size]?=_
  rw [Array.getElem?_push,Array.getElem?_push]
  simp [Nat.ne_of_lt hlt,Nat.ne_of_lt (Nat.lt_succ_of_lt hlt),hbox]
 ·have:=d3q (w2.alloc o)
  rw [show (w2.alloc o).heap.size=w2.heap.size+1 by show (w2.heap.push _).size=_;simp] at this
  exact this
theorem W3 {S:k8} {w0 w:World} {v:Value} {d:D} (hwi:S.within w0) (h:Rd S s9 w0 v d) (k:Below w0.heap.size w0 w):Rd S s9 w v d:=d5t hwi h k
theorem W2 {w0 w:World} (hg:GG.pred w0) (k:Below w0.heap.size w0 w):GG.pred w:=X4 hg k
theorem T6 {S:k8} {w0 w:World} (hwi:S.within w0) (k:Below w0.heap.size w0 w):S.within w:=fun b o h=>Nat.lt_of_lt_of_le (hwi b o h) k.size
abbrev cv (k:Int) (NU DE PK NM TX:ByteArray) (c6:Value):Array Value:=#[.int .i64 k,.string NU,.string DE,.string PK,.string NM,.string TX,c6]
set_option maxHeartbeats 4000000 in
theorem d6m (lv c6:Value) (C NU DE PK NM TX:ByteArray) (w:World) (z1:NU.size≤1000) (z2:DE.size≤1000) :
  Calls Tryz.prog 16 #[lv,.string C,.agg (cv 1 NU DE PK NM TX c6)] w fun e w'=>e=.returned (.string (if (DE.toList == [49])=true then NU else NU ++ ⟨#[47]⟩ ++ DE))∧Below w.heap.size w w':=by
 have z3:NU.size+1≤9223372036854775807:=oM
 have z4:NU.size+1+DE.size≤9223372036854775807:=oM
 cases hd:(DE.toList == [49]) with
 | true =>
  go_enter Tryz.func16,Tryz.ntmps16
  go_wp2
  go_ret
  exact ⟨rfl,(Below.refl _ w).alloc (Nat.le_refl _) _⟩
 | false =>
  go_enter Tryz.func16,Tryz.ntmps16
  go_wp2
  go_ret
  exact ⟨rfl,(Below.refl _ w).alloc (Nat.le_refl _) _⟩
set_option maxHeartbeats 4000000 in
theorem e1j (lv c6:Value) (C NU DE PK NM TX R:ByteArray) (w:World) (h:∀ w1,Below w.heap.size w w1→Calls Tryz.prog 28 #[.string TX,.int .i32 34] w1 fun e w'=>e=.returned (.string R)∧Below w1.heap.size w1 w') :
  Calls Tryz.prog 16 #[lv,.string C,.agg (cv 3 NU DE PK NM TX c6)] w fun e w'=>e=.returned (.string R)∧Below w.heap.size w w':=by
 have hb:Below w.heap.size w (w.alloc (.cells (cv 3 NU DE PK NM TX c6) 26)):=(Below.refl _ w).alloc (Nat.le_refl _) _
 have h:=h _ hb
 go_enter Tryz.func16,Tryz.ntmps16
 go_wp2_with (go_at_call 28;refine h.mono ?_;rintro e w1 ⟨rfl,hb1⟩)
 go_ret
 exact ⟨rfl,hb.trans (W6 hb1 hb.size)⟩
set_option maxHeartbeats 4000000 in
theorem e1i (lv c6:Value) (C NU DE PK NM TX R:ByteArray) (x:Int) (w:World) (h:∀ w1,Below w.heap.size w w1→Calls Tryz.prog 29 #[lv,.string C,.agg #[.string PK,.string NM]] w1 fun e w'=>e=.returned (.tuple #[.string R,.int .i64 x])∧Below w1.heap.size w1 w') :
  Calls Tryz.prog 16 #[lv,.string C,.agg (cv 2 NU DE PK NM TX c6)] w fun e w'=>e=.returned (.string R)∧Below w.heap.size w w':=by
 have hb:Below w.heap.size w (w.alloc (.cells (cv 2 NU DE PK NM TX c6) 26)):=(Below.refl _ w).alloc (Nat.le_refl _) _
 have h:=h _ hb
 go_enter Tryz.func16,Tryz.ntmps16
 go_wp2_with (go_at_call 29;refine h.mono ?_;rintro e w1 ⟨rfl,hb1⟩)
 go_ret
 exact ⟨rfl,hb.trans (W6 hb1 hb.size)⟩
abbrev G5:ByteArray:=⟨#[]⟩
def a6r (L:List Pk) (cur:f6) (x:O):Prop:=∀ (w:World) (S:k8) (lv c6:Value),GG.pred w→S.within w→Rd S s9 w lv (dV (.sl 2 (L.map pg)))→Rd S s9 w c6 (dG (.l (x.ps.map O.g))) →
  Calls Tryz.prog 16 #[lv,.string ⟨cur.toArray⟩,.agg (ob7 x c6)] w fun e w'=>e=.returned (.string ⟨(A0 L cur x).toArray⟩)∧Below w.heap.size w w'
theorem sl6 {S:k8} {w:World} {v:Value} {xs:List (List G)} (h:Rd S s9 w v (dG (.l xs))):∃ base len cap,v=.slice base len cap:=by
 simp only [dG] at h
 cases h with
 | slice base len cap=>exact ⟨_,_,_,rfl⟩
theorem R1.free {w0 w:World} {bx:Array Value} {nb:Nat} {acc:f6} (h:R1 w0 bx nb acc w) (j:Nat):w.frozen? ⟨w0.heap.size,j,none⟩=false:=by simp [World.frozen?,h.box]
theorem c3d {w:World} {b o:Nat} {c0 c1 c2 c3 c4 c5 c6:Value} (h:∀ i u,#[c0,c1,c2,c3,c4,c5,c6][i]?=some u→w.cell? ⟨b,o+i,none⟩=some u) :
  w.cell? ⟨b,o,none⟩=some c0∧w.cell? ⟨b,o+1,none⟩=some c1∧w.cell? ⟨b,o+2,none⟩=some c2∧w.cell? ⟨b,o+3,none⟩=some c3∧w.cell? ⟨b,o+4,none⟩=some c4∧w.cell? ⟨b,o+5,none⟩=some c5∧w.cell? ⟨b,o+6,none⟩=some c6 :=
 ⟨h 0 _ rfl,h 1 _ rfl,h 2 _ rfl,h 3 _ rfl,h 4 _ rfl,h 5 _ rfl,h 6 _ rfl⟩
set_option maxHeartbeats 8000000 in
open Classical in
theorem e1h (L:List Pk) (cur:f6) (a d:O) (h3:(O.co a d).size≤3000) (hok:okP (.co a d)) (hq:a1s (.co a d)) (ih:∀ x:O,x.size < (O.co a d).size→okP x→a1s x→a6r L cur x):a6r L cur (.co a d):=by
 intro w S lv c6 hg hwi hlv hc6
 have hb0:Below w.heap.size w (w.alloc (.cells (cv 4 G5 G5 G5 G5 G5 c6) 26)):=(Below.refl _ w).alloc (Nat.le_refl _) _
 have hs:=c38 e2v (o:=.co a d) (S:=S) oM hq (W2 hg hb0) (T6 hwi hb0) (W3 hwi hc6 hb0)
 have hs:Calls Tryz.prog 30 #[.agg (cv 4 G5 G5 G5 G5 G5 c6)] _ _:=hs
 have hm:∀ w2,Below (w.alloc (.cells (cv 4 G5 G5 G5 G5 G5 c6) 26)).heap.size (w.alloc (.cells (cv 4 G5 G5 G5 G5 G5 c6) 26)) w2→w2.heap[w.heap.size]?=some (.cells (cv 4 G5 G5 G5 G5 G5 c6) 26 (0,0)):=fun w2 k=>by
  rw [k.block _ (by simp)]
  show (w.heap.push _)[w.heap.size]?=_
  simp
 show Calls Tryz.prog 16 #[lv,.string ⟨cur.toArray⟩,.agg (cv 4 G5 G5 G5 G5 G5 c6)] w _
 generalize hT:A0 L cur (.co a d)=T
 cases hsh:J6 (.co a d) with
 | some x =>
  rw [hsh] at hs
  go_enter Tryz.func16,Tryz.ntmps16
  have hxlt:x.size < (O.co a d).size:=by rw [P7.1 hsh];simp [O.size];omega
  have hqx:a1s x:=(by rw [P7.1 hsh] at hq;exact hq.two.2.two.1)
  have hokx:okP x:=(by rw [P7.1 hsh] at hok;exact hok.2.1)
  have hxb:=(a3u (L:=L) (cur:=cur) hokx).1
  have hTx:T=39 :: A0 L cur x:=by rw [← hT];exact b0z hsh
  have hih:=ih x hxlt hokx hqx
  unfold a6r at hih
  generalize A0 L cur x=R at hih hxb hTx
  have zR:1+(⟨R.toArray⟩:ByteArray).size≤9223372036854775807:=by show 1+R.length≤_;omega
  go_wp2_with (first
   | (go_at_call 30;refine hs.mono ?_;rintro e w2 ⟨hb2,S',hgr,hw2,x6,rfl,hx6⟩;obtain ⟨xb,xl,xc,rfl⟩:=sl6 hx6;have hba:=hb0.trans (W6 hb2 hb0.size);have hlv2:=(W3 hwi hlv hba).ext (S':=S') ⟨hgr.1,fun _ _ _=>rfl,fun _ _ h=>h⟩)
   | (go_at_call 16;refine (hih _ S' _ (.slice xb xl xc) (X4 (W2 hg hba) ((Below.refl _ _).alloc (Nat.le_refl _) _)) (T6 hw2 ((Below.refl _ _).alloc (Nat.le_refl _) _)) (W3 hw2 hlv2 ((Below.refl _ _).alloc (Nat.le_refl _) _)) (W3 hw2 hx6 ((Below.refl _ _).alloc (Nat.le_refl _) _))).mono ?_;rintro e w3 ⟨rfl,hb3⟩))
  go_ret
  refine ⟨?_,hba.trans ((((Below.refl _ _).alloc (Nat.le_refl _) _).trans (W6 hb3 (by simp))).mono hba.size)⟩
  rw [hTx]
  congr 2
 | none =>
  rw [hsh] at hs
  have hTr:b1p L cur [40] (.co a d)=T:=by rw [← hT];exact e0y hsh
  have hTl:2 * T.length≤415 * ((O.co a d).size+1):=by rw [← hT];exact (a3u hok).1
  go_enter Tryz.func16,Tryz.ntmps16
  go_wp2_with (first
   | (go_at_call 30;refine hs.mono ?_;rintro e w2 ⟨hb2,S',hgr,hw2,x6,rfl,hx6⟩;obtain ⟨xb,xl,xc,rfl⟩:=sl6 hx6;have hba:=hb0.trans (W6 hb2 hb0.size)))
  go_loopg [12] (O.co a d).size (fun k v12 wr=>∃ (x:O) (acc bef:f6) (c6':Value),v12=.string ⟨bef.toArray⟩∧(x=.co a d∧bef=[40]∨x.size < (O.co a d).size∧bef=[32])∧R1 w (ob7 x c6') (w2.heap.size+1) acc wr∧Rd S s9 w c6' (dG (.l (x.ps.map O.g)))∧okP x∧a1s x∧x.size≤k∧acc ++ b1p L cur bef x=T)
  case atStart=>exact ⟨.co a d,[],[40],c6,rfl,.inl ⟨rfl,rfl⟩,R1.start hba (hm _ hb2),hc6,hok,hq,Nat.le_refl _,hTr⟩
  case round =>
   obtain ⟨x,acc,bef,c6',rfl,hcase,I,hx6,hokx,hqx,hxk,heq⟩:=hrel
   have hxle:x.size≤(O.co a d).size:=by rcases hcase with ⟨rfl,_⟩ | ⟨h,_⟩ <;> omega
   clear hs hm hTr hsh hgr hw2
   rcases hco:x.isCo with _ | _
   ·obtain ⟨hxlt,rfl⟩:x.size < (O.co a d).size∧bef=[32]:=by
     rcases hcase with ⟨rfl,_⟩ | h
     ·cases hco
     ·exact h
    have heq:acc ++ (if x=A7 then [41] else [32,46,32] ++ A0 L cur x ++ [41])=T:=by rw [← c60 hco (b:=[32])];exact heq
    obtain ⟨xk,exk,hxk4,q0⟩:∃ k:Int,k=x.k∧(k == 4)=false∧wr.cell? ⟨w.heap.size,0,none⟩=some (.int .i64 k):=⟨x.k,rfl,by cases x <;> first | (cases hco;done) | rfl,I.cell 0⟩
    by_cases hn:x=A7
    ·have hnil:O.eqb x A7=true:=O.eqb_t.2 hn
     rw [if_pos hn] at heq
     clear hn
     have hlen:acc.length+1=T.length:=by rw [← heq];simp
     have r6:wr.cell? ⟨w.heap.size,6,none⟩=some c6':=I.cell 6
     have r1:wr.cell? ⟨w.heap.size,1,none⟩=some (.string ⟨x.nu.toArray⟩):=I.cell 1
     have r2:wr.cell? ⟨w.heap.size,2,none⟩=some (.string ⟨x.de.toArray⟩):=I.cell 2
     have r3:wr.cell? ⟨w.heap.size,3,none⟩=some (.string ⟨x.sym.1.toArray⟩):=I.cell 3
     have r4:wr.cell? ⟨w.heap.size,4,none⟩=some (.string ⟨x.sym.2.toArray⟩):=I.cell 4
     have r5:wr.cell? ⟨w.heap.size,5,none⟩=some (.string ⟨x.txt.toArray⟩):=I.cell 5
     have hnc:=b3z hqx (W2 hg I.old) (T6 hwi I.old) (W3 hwi hx6 I.old)
     rw [hnil] at hnc
     have hnc:Calls Tryz.prog 32 #[.agg #[.int .i64 xk,.string ⟨x.nu.toArray⟩,.string ⟨x.de.toArray⟩,.string ⟨x.sym.1.toArray⟩,.string ⟨x.sym.2.toArray⟩,.string ⟨x.txt.toArray⟩,c6']] wr (fun e w'=>e=.returned (.bool true)∧Below wr.heap.size wr w'):=by rw [exk];exact hnc
     clear exk
     go_wp2_with (first
      | (go_at_call 32;refine hnc.mono ?_;rintro e w3 ⟨rfl,hb3⟩;have I1:=I.quiet hb3)
      | (go_at_call 31;refine (P0 _ _ _ _ I1.isb (by simp [ByteArray.size];omega) (by have:=I1.size;omega)).mono ?_;rintro e w4 ⟨⟨v4,rfl⟩,hI4,hb4⟩;have I2:=I1.write hI4 hb4)
      | (go_at_call 33;refine (a6s _ _ _ I2.isb (by have:=I2.size;omega)).mono ?_;rintro e w5 ⟨rfl,hb5⟩))
     go_ret
     exact ⟨rfl,I2.old.trans (hb5.mono (Nat.le_of_lt I2.lt))⟩
    ·have hnil:O.eqb x A7=false:=O.eqb_f.2 hn
     rw [if_neg hn] at heq
     clear hn
     have hih:=ih x hxlt hokx hqx
     unfold a6r at hih
     generalize A0 L cur x=R at hih heq
     have hlen:acc.length+(R.length+4)=T.length:=by rw [← heq];simp
     have hih:∀ w1,Below w.heap.size w w1→Calls Tryz.prog 16 #[lv,.string ⟨cur.toArray⟩,.agg #[.int .i64 xk,.string ⟨x.nu.toArray⟩,.string ⟨x.de.toArray⟩,.string ⟨x.sym.1.toArray⟩,.string ⟨x.sym.2.toArray⟩,.string ⟨x.txt.toArray⟩,c6']] w1 (fun e w'=>e=.returned (.string ⟨R.toArray⟩)∧Below w1.heap.size w1 w'):=fun w1 k=>by
      rw [exk];exact hih w1 S lv c6' (W2 hg k) (T6 hwi k) (W3 hwi hlv k) (W3 hwi hx6 k)
     have r6:wr.cell? ⟨w.heap.size,6,none⟩=some c6':=I.cell 6
     have r1:wr.cell? ⟨w.heap.size,1,none⟩=some (.string ⟨x.nu.toArray⟩):=I.cell 1
     have r2:wr.cell? ⟨w.heap.size,2,none⟩=some (.string ⟨x.de.toArray⟩):=I.cell 2
     have r3:wr.cell? ⟨w.heap.size,3,none⟩=some (.string ⟨x.sym.1.toArray⟩):=I.cell 3
     have r4:wr.cell? ⟨w.heap.size,4,none⟩=some (.string ⟨x.sym.2.toArray⟩):=I.cell 4
     have r5:wr.cell? ⟨w.heap.size,5,none⟩=some (.string ⟨x.txt.toArray⟩):=I.cell 5
     have hnc:=b3z hqx (W2 hg I.old) (T6 hwi I.old) (W3 hwi hx6 I.old)
     rw [hnil] at hnc
     have hnc:Calls Tryz.prog 32 #[.agg #[.int .i64 xk,.string ⟨x.nu.toArray⟩,.string ⟨x.de.toArray⟩,.string ⟨x.sym.1.toArray⟩,.string ⟨x.sym.2.toArray⟩,.string ⟨x.txt.toArray⟩,c6']] wr (fun e w'=>e=.returned (.bool false)∧Below wr.heap.size wr w'):=by rw [exk];exact hnc
     have hcells:∀ {acc':f6} {wz:World},R1 w (ob7 x c6') (w2.heap.size+1) acc' wz→wz.cell? ⟨w.heap.size,0,none⟩=some (.int .i64 xk):=fun Iz=>by rw [exk];exact Iz.cell 0
     clear exk
     go_wp2_with (first
      | (go_at_call 32;refine hnc.mono ?_;rintro e w3 ⟨rfl,hb3⟩;have I1:=I.quiet hb3)
      | (go_at_call 31;refine (P0 _ _ _ _ I4.isb (by simp [ByteArray.size];omega) (by have:=I4.size;omega)).mono ?_;rintro e w7 ⟨⟨v7,rfl⟩,hI7,hb7⟩;have I5:=I4.write hI7 hb7)
      | (go_at_call 31;refine (P0 _ _ _ _ I3.isb (by simp [ByteArray.size];omega) (by have:=I3.size;omega)).mono ?_;rintro e w6 ⟨⟨v6,rfl⟩,hI6,hb6⟩;have I4:=I3.write hI6 hb6)
      | (go_at_call 31;refine (P0 _ _ _ _ I1.isb (by simp [ByteArray.size];omega) (by have:=I1.size;omega)).mono ?_;rintro e w4 ⟨⟨v4,rfl⟩,hI4,hb4⟩;have I2:=I1.write hI4 hb4;have y0:=hcells I2;have y1:w4.cell? ⟨w.heap.size,1,none⟩=some (.string ⟨x.nu.toArray⟩):=I2.cell 1;have y2:w4.cell? ⟨w.heap.size,2,none⟩=some (.string ⟨x.de.toArray⟩):=I2.cell 2;have y3:w4.cell? ⟨w.heap.size,3,none⟩=some (.string ⟨x.sym.1.toArray⟩):=I2.cell 3;have y4:w4.cell? ⟨w.heap.size,4,none⟩=some (.string ⟨x.sym.2.toArray⟩):=I2.cell 4;have y5:w4.cell? ⟨w.heap.size,5,none⟩=some (.string ⟨x.txt.toArray⟩):=I2.cell 5;have y6:w4.cell? ⟨w.heap.size,6,none⟩=some c6':=I2.cell 6)
      | (go_at_call 16;refine (hih _ I2.old).mono ?_;rintro e w5 ⟨rfl,hb5⟩;have I3:=I2.quiet hb5)
      | (go_at_call 33;refine (a6s _ _ _ I5.isb (by have:=I5.size;omega)).mono ?_;rintro e w8 ⟨rfl,hb8⟩))
     go_ret
     exact ⟨by rw [← heq];simp,I5.old.trans (hb8.mono (Nat.le_of_lt I5.lt))⟩
   ·obtain ⟨a',d',rfl⟩:∃ a' d',x=.co a' d':=by cases x <;> first | exact ⟨_,_,rfl⟩ | cases hco
    clear hco
    obtain ⟨b,o,cap,x6,y6,rfl,hcap,hx,hy,hxs,hys⟩:=d1y (a:=a') (d:=d') hx6
    obtain ⟨yb,yl,yc,rfl⟩:=sl6 hy
    have hsz:(O.co a' d').size=1+a'.size+d'.size:=rfl
    have hpa:=a'.size_pos
    have hpd:=d'.size_pos
    have hih:=ih a' oM hokx.1 hqx.two.1
    have heq:acc ++ (bef ++ (A0 L cur a' ++ (pT L cur d').2.1))=T:=heq
    have hsp:=c61 L cur d'
    unfold a6r at hih
    generalize A0 L cur a'=R at hih heq
    generalize (pT L cur d').2.1=Y at heq hsp
    have hlen:acc.length+(bef.length+(R.length+Y.length))=T.length:=by rw [← heq];simp
    have hbb:b < w.heap.size:=hwi _ _ (hxs 0 _ rfl).1
    have q0:wr.cell? ⟨w.heap.size,0,none⟩=some (.int .i64 4):=I.cell 0
    have hd2:decide ((1:Int) < 2)=true:=rfl
    go_wp2_with (first
     | (go_at_call 31;refine (P0 _ _ _ _ I2.isb (by simp [ByteArray.size];omega) (by have:=I2.size;omega)).mono ?_;rintro e w5 ⟨⟨v5,rfl⟩,hI5,hb5⟩;have I3:=I2.write hI5 hb5;have r6:w5.cell? ⟨w.heap.size,6,none⟩=some (.slice (some ⟨b,o,none⟩) 2 cap):=I3.cell 6;obtain ⟨s0,s1,s2,s3,s4,s5,s6⟩:=(c3d fun i u hu=>a8g I3.old hbb (hys i u hu).2);have t0:w5.cell? ⟨w.heap.size,0,none⟩=some (.int .i64 4):=I3.cell 0;have t1:w5.cell? ⟨w.heap.size,1,none⟩=some (.string G5):=I3.cell 1;have t2:w5.cell? ⟨w.heap.size,2,none⟩=some (.string G5):=I3.cell 2;have t3:w5.cell? ⟨w.heap.size,3,none⟩=some (.string G5):=I3.cell 3;have t4:w5.cell? ⟨w.heap.size,4,none⟩=some (.string G5):=I3.cell 4;have t5:w5.cell? ⟨w.heap.size,5,none⟩=some (.string G5):=I3.cell 5;have z0:=I3.free 0;have z1:=I3.free 1;have z2:=I3.free 2;have z3:=I3.free 3;have z4:=I3.free 4;have z5:=I3.free 5;have z6:=I3.free 6)
     | (go_at_call 31;refine (P0 _ _ _ _ I.isb (by simp [ByteArray.size];omega) (by have:=I.size;omega)).mono ?_;rintro e w3 ⟨⟨v3,rfl⟩,hI3,hb3⟩;have I1:=I.write hI3 hb3;have r6:w3.cell? ⟨w.heap.size,6,none⟩=some (.slice (some ⟨b,o,none⟩) 2 cap):=I1.cell 6;obtain ⟨p0,p1,p2,p3,p4,p5,p6⟩:=c3d fun i u hu=>a8g I1.old hbb (hxs i u hu).2)
     | (go_at_call 16;refine (hih _ S _ x6 (W2 hg I1.old) (T6 hwi I1.old) (W3 hwi hlv I1.old) (W3 hwi hx I1.old)).mono ?_;rintro e w4 ⟨rfl,hb4⟩;have I2:=I1.quiet hb4))
    go_roundg d'.size
    case measure=>omega
    case rel=>exact ⟨d',acc ++ bef ++ R,[32],.slice yb yl yc,rfl,.inr ⟨oM,rfl⟩,I3.put rfl _ _ _ _ _ _ _,hy,hokx.2,hqx.two.2,Nat.le_refl _,by rw [hsp,← heq];simp⟩
theorem c6q:f7 1=[49]:=sh1
theorem c3q (L:List Pk) (cur:f6) (m:Int) (d:Nat):A0 L cur (.num m d)=if (f7 d == [49])=true then g7 m else g7 m ++ [47] ++ f7 d:=by
 show b28 m d=_
 unfold b28
 by_cases h:d=1
 ·subst h;rw [if_pos rfl,if_pos (by rw [c6q];rfl)]
 ·rw [if_neg h,if_neg]
  ·simp
  ·intro e
   exact h (a2g ((eq_of_beq e).trans c6q.symm))
theorem d6a (L:List Pk) (cur:f6) (hL:H8 L) (vL:V) (hvL:RV (.sl 2 (L.map pg)) vL):∀ (n:Nat) (o:O),o.size≤n→o.size≤3000→okP o→a1s o→a6r L cur o:=by
 intro n
 induction n with
 | zero=>intro o h;have:=O.size_pos o;omega
 | succ n ih =>
 intro o hn h3 hok hq
 cases o with
 | no=>exact hok.elim
 | co a d=>exact e1h L cur a d h3 hok hq fun x hx=>ih x oM oM
 | num m d =>
  intro w S lv c6 hg hwi hlv hc6
  have l1:=hok.2.2.1
  have l2:=hok.2.2.2
  refine (d6m lv c6 ⟨cur.toArray⟩ ⟨(g7 m).toArray⟩ ⟨(f7 d).toArray⟩ G5 G5 G5 w (by show (g7 m).length≤_;omega) (by show (f7 d).length≤_;omega)).mono ?_
  rintro e w' ⟨rfl,hb⟩
  refine ⟨?_,hb⟩
  rw [c3q]
  have e1:(⟨(f7 d).toArray⟩:ByteArray).toList=f7 d:=by simp
  rw [e1]
  split
  ·rfl
  ·congr 2
 | tx t =>
  intro w S lv c6 hg hwi hlv hc6
  have hl:t.length≤200:=hok
  exact e1j lv c6 ⟨cur.toArray⟩ G5 G5 G5 G5 ⟨t.toArray⟩ ⟨(D3 34 t).toArray⟩ w fun w1 k=>c37 t 34 oM (.inl rfl) 34 rfl (W2 hg k)
 | sy s =>
  intro w S lv c6 hg hwi hlv hc6
  have h1:=a0d (s:=s) hok
  have h2:=a8i (s:=s) hok
  exact e1i lv c6 ⟨cur.toArray⟩ G5 G5 ⟨s.1.toArray⟩ ⟨s.2.toArray⟩ G5 ⟨(H3 L cur s).1.toArray⟩ (H3 L cur s).2 w fun w1 k=>c99 hL oM oM hvL (W2 hg k) (T6 hwi k) (W3 hwi hlv k)
def okT (o:O):Prop:=okP o∧o.size≤3000
def txG (L:List Pk) (cur:f6) (o:O):GV:=.c (.s (A0 L cur o))
theorem e11 {P:Program} {G:a9k} {f:FuncId} {ds:List D} {d:D} (hcall:∀ args w,(callFunc f args).run P w=.ok (.enter f args) w)
  (h:∀ (w:World) (S:k8) (vs:List Value),G.pred w→S.within w→p9 S s9 w vs ds→Calls P f vs.toArray w fun e w'=>Below w.heap.size w w'∧∃ v S',e=.returned v∧S.grown S' w∧S'.within w'∧Rd S' s9 w' v d∧a2y S' w w' v d):CM P G f ds [] (.ret d) []:=by
 refine ⟨hcall,fun w S M vs hg hM hwi hh hvs=>?_⟩
 have hMn:M=s9:=funext fun id=>hh.out id (by simp)
 subst hMn
 refine (h w S vs hg hwi hvs).mono fun e w' ⟨hb,v,S',he,h1,h2,h3,h4⟩=>?_
 exact ⟨⟨hb.os,hb.tape,hb.output,hb.size,fun k hk _=>hb.block k hk⟩,S',h1,h2,⟨fun id b h=>by simp at h,fun _ _=>rfl,fun i j x y b k l h=>by simp at h⟩,v,he,h3,h4⟩
theorem e2r:j4 16 (b3o okT txG):=fun ⟨(L,cur,o),hL,ho,h3⟩ vs bs hv hb=>by
 change j6 [.sl 2 (L.map pg),.c (.s cur),.a o.g] vs at hv
 change H8 L at hL
 change okP o at ho
 change o.size≤3000 at h3
 cases hb
 refine ⟨.ret (.str (A0 L cur o).length (j9 (A0 L cur o))),[],fun hok=>?_,.ret _ _ (.s _ _ _ rfl rfl),.nil⟩
 have hvs:=hv
 rw [hv.map_toD]
 show CM X0.P X0.G _ _ [] (.ret (.str (n5 (A0 L cur o).length (j9 (A0 L cur o))))) []
 rw [z7]
 cases hvs with
 | cons _ _ vL _ hvL hvs =>
 cases hvs with
 | cons _ _ _ _ _ hvs =>
 cases hvs with
 | cons _ _ vo _ hvo _ =>
 refine e11 (d:=.str (A0 L cur o)) Tryz.call16 fun w S us hg hwi hr=>?_
 have hr:p9 S s9 w us [dV (.sl 2 (L.map pg)),.str cur,dV (.a o.g)]:=hr
 cases hr with
 | cons lv _ _ _ r1 hr =>
 cases hr with
 | cons _ _ _ _ r2 hr =>
 cases hr with
 | cons _ _ _ _ r3 hr =>
 cases hr
 have e2:=X5 r2
 obtain ⟨c6,e3,hc6⟩:=c6v r3
 subst e2 e3
 refine (d6a L cur hL vL hvL o.size o (Nat.le_refl _) h3 ho (e10 hvo) w S lv c6 hg hwi r1 hc6).mono ?_
 rintro e w' ⟨rfl,hb⟩
 exact ⟨hb,_,S,rfl,⟨fun _ _ h=>h,fun _ _ h=>.inl h⟩,S3 hwi hb,.str _ _ rfl,Q0 (fun _ _ _ h=>by cases h) (fun _ h=>by cases h)⟩
def prG (L:List Pk) (cur:f6) (o:O):GV:=.t [.c (.s (E4 L cur o).1),.c (.i .i64 (E4 L cur o).2)]
theorem d09:j4 6 (b3o okV prG):=l9 (fun fn h=>d7g h) [(15,_),(16,_)] (.cons e2f (.cons e2r .nil)) fun U fn hfn ⟨(L,cur,o),hL,ho⟩ vs bs hv hb=>by
 have hck:=hfn 15 _ rfl
 have htx:=hfn 16 _ rfl
 have hL:H8 L:=hL
 have ho:okV o:=ho
 have hv:j6 [.sl 2 (L.map pg),.c (.s cur),.a o.g] vs:=hv
 have hb:RBs [] bs:=hb
 show g8 U _ fun v bs'=>j7 (.ret (prG L cur o)) v∧RBs [] bs'
 unfold r6
 (refine Zy ?_;intros)
 refine S7 aS o.g_len fun q0 hq0=>?_
 (refine Zy ?_;intros)
 by_cases hbad:C6 L cur=none∨v8 L o=false
 ·have e:E4 L cur o=([],13):=by unfold E4;rw [if_pos hbad]
  unfold prG
  rw [e]
  refine f9 hck ⟨(L,cur,o),hL,ho⟩ (r:=.c (.i .i64 13)) (by show o8.ret (.c (.i .i64 (E4 L cur o).2))=_;rw [e]) (.k (.sl _ _ _ _ _ (by simp) aS) (.k (.s _ _ _ rfl rfl) (.k (oV aS) .nil))) .nil fun _ _ _ _=>?_
  (refine Zz ?_;intros)
  exact i7 ⟨.ret _ _ j3,.nil⟩
 ·have e:E4 L cur o=(A0 L cur o,0):=by unfold E4;rw [if_neg hbad]
  unfold prG
  rw [e]
  refine f9 hck ⟨(L,cur,o),hL,ho⟩ (r:=.c (.i .i64 0)) (by show o8.ret (.c (.i .i64 (E4 L cur o).2))=_;rw [e]) (.k (.sl _ _ _ _ _ (by simp) aS) (.k (.s _ _ _ rfl rfl) (.k (oV aS) .nil))) .nil fun _ _ _ _=>?_
  (refine Zz ?_;intros)
  have hh:v8 L o=true:=by
   cases h:v8 L o with
   | true=>rfl
   | false=>exact absurd (.inr h) hbad
  refine f9 htx ⟨(L,cur,o),hL,b97 (d7d ho hh),ho.size⟩ (r:=.c (.s (A0 L cur o))) rfl (.k (.sl _ _ _ _ _ (by simp) aS) (.k (.s _ _ _ rfl rfl) (.k (oV aS) .nil))) .nil fun _ _ _ _=>?_
  (refine Zz ?_;intros)
  exact i7 ⟨.ret _ _ j3,.nil⟩
end
end Go.Proofs.YtgipbdffgfbedaaGreatDoor
