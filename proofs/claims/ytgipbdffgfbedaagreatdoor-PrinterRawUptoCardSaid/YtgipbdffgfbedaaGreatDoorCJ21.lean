/- printer.quoted: its walk. -/
import Derived.Test.YtgipbdffgfbedaaGreatDoorCJ17
import Derived.Lib.Replace
import Derived.Lib.SplitLaws
set_option linter.all false
namespace Go.Proofs.YtgipbdffgfbedaaGreatDoor
open Go.RowKit Go.Shelf Go.Abs LQ
set_option maxRecDepth 100000
def H7 (a:UInt8) (s:f6):f6:=s.flatMap fun b=>if b=a then [92,a] else [b]
theorem b7a (a:UInt8):∀ s:f6,Lib.replaceK [a] [92,a] (s.count a) s=H7 a s
 | []=>rfl
 | b :: l=>by
  by_cases h:b=a
  ·subst h
   have hi:Lib.index (b :: l) [b]=(0:Nat):=by rw [Lib.index_one];unfold Lib.indexByte;simp
   rw [List.count_cons_self,Lib.replaceK_hit _ _ _ _ 0 hi]
   have:=b7a b l
   simp only [List.take_zero,List.nil_append,List.length_cons,List.length_nil,Nat.zero_add,List.drop_succ_cons,List.drop_zero]
   rw [this]
   simp [H7]
  ·have ih:=b7a a l
   have hc:(b :: l).count a=l.count a:=List.count_cons_of_ne (fun e=>h e)
   rw [hc]
   have he:H7 a (b :: l)=b :: H7 a l:=by simp [H7,h]
   rw [he,← ih]
   cases hk:l.count a with
   | zero=>rfl
   | succ k =>
    obtain ⟨i,hi⟩:=Lib.index_of_count (s:=l) (old:=[a]) (by rw [Lib.count_one,hk];omega)
    have hi2:Lib.index (b :: l) [a]=((i+1:Nat):Int):=by
     rw [Lib.index_one] at hi ⊢
     unfold Lib.indexByte
     rw [if_neg (by simpa using h),hi,if_neg (by simp)]
     simp
    rw [Lib.replaceK_hit _ _ _ _ i hi,Lib.replaceK_hit _ _ _ _ (i+1) hi2]
    simp
theorem c84 (a:UInt8) (s:f6):Lib.replaceAll s [a] [92,a]=H7 a s:=by
 unfold Lib.replaceAll Lib.replace Lib.replaceNum
 rw [if_neg (by simp),if_pos (.inl dE),Lib.count_one,b7a]
theorem b23 (a:UInt8) (s:f6):(H7 a s).length≤2 * s.length:=by
 unfold H7
 induction s with
 | nil=>simp
 | cons b l ih =>
  rw [List.flatMap_cons,List.length_append,List.length_cons]
  split
  ·simp only [List.length_cons,List.length_nil];omega
  ·simp only [List.length_cons,List.length_nil];omega
theorem d30 (c:UInt8) (l:f6):(F6 c l).length≤2 * l.length:=by
 unfold F6
 induction l with
 | nil=>simp
 | cons b l ih =>
  rw [List.flatMap_cons,List.length_append,List.length_cons]
  split
  ·simp only [List.length_cons,List.length_nil];omega
  ·simp only [List.length_cons,List.length_nil];omega
theorem c5z {c:UInt8} (hc:c ≠ 92) (s:f6):H7 c (H7 92 s)=F6 c s:=by
 unfold H7 F6
 rw [List.flatMap_assoc]
 refine congrArg (fun f=>List.flatMap f s) (funext fun b=>?_)
 by_cases h1:b=92
 ·subst h1
  rw [if_pos rfl,if_pos (.inr rfl)]
  simp [Ne.symm hc]
 ·rw [if_neg h1]
  by_cases h2:b=c
  ·subst h2;simp
  ·simp [h1,h2]
theorem BXq:Builder.Extra Tryz.prog Tryz.lays155_ren where
 sizeBuilder:=kR
 liesBuilder:=kR
 t5:=Tryz.lays155.t5
 a5:=Tryz.lays155.a5
 z5:=Tryz.lays155.z5
 v5:=Tryz.lays155.v5
 infoByte:=kR
 cellsByte:=kR
 sizeByte:=kR
 neB5:=dE
theorem a43 (m:Int) (s:f6) (a:UInt8) (w:World) (hm:w.cell? ⟨Tryz.lays155_ren.g 1,0,none⟩=some (.int .i64 m)) (hs:s.length < 240000000) :
  Calls Tryz.prog 50 #[.string ⟨s.toArray⟩,.string ⟨#[a]⟩,.string ⟨#[92,a]⟩] w fun e w'=>e=.returned (.string ⟨(H7 a s).toArray⟩)∧Below w.heap.size w w':=by
 have hcnt:=Lib.count_one a s
 have hle:=List.count_le_length (a:=a) (l:=s)
 refine (Any.strings_ReplaceAll Tryz.lays155 BXq ⟨s.toArray⟩ ⟨#[a]⟩ ⟨#[92,a]⟩ m w (by show s.length < _;omega) hm (Nat.le_refl 1) ?_).mono ?_
 ·show s.length+Lib.countB ⟨s.toArray⟩ ⟨#[a]⟩ * 2≤_
  have:Lib.countB ⟨s.toArray⟩ ⟨#[a]⟩=Lib.count s [a]:=rfl
  rw [this,hcnt]
  omega
 ·rintro e w' ⟨rfl,hb⟩
  refine ⟨?_,hb⟩
  rw [show Lib.replaceAll (⟨s.toArray⟩:ByteArray).data.toList (⟨#[a]⟩:ByteArray).data.toList (⟨#[92,a]⟩:ByteArray).data.toList=H7 a s from c84 a s]
structure Hid (p:Prop):Prop where
 go:p
def qM:Value→Nat
 | .int _ j=>3 - j.toNat
 | _=>0
def Q8 (c:Nat) (s:f6):Nat→f6
 | 0=>s
 | 1=>H7 92 s
 | 2=>if c=34 then H7 34 (H7 92 s) else H7 92 s
 | _=>H7 c.toUInt8 (H7 92 s)
set_option maxHeartbeats 4000000 in
theorem c41 (m:Int) (s:f6) (c:Nat) (hc:c=34∨c=124) (w:World) (hm:w.cell? ⟨Tryz.lays155_ren.g 1,0,none⟩=some (.int .i64 m)) (hs:s.length < 21600000) :
  Calls Tryz.prog 28 #[.string ⟨s.toArray⟩,.int .i32 (c:Int)] w fun e w'=>e=.returned (.string ⟨(D3 c.toUInt8 s).toArray⟩)∧Below w.heap.size w w':=by
 have key:Hid ((((34:Int) == (c:Int))=true∧((124:Int) == (c:Int))=false∧Hid (Q8 c s 2=H7 34 (H7 92 s)∧Q8 c s 3=Q8 c s 2∧(Q8 c s 2).length < 240000000)) ∨
   (((34:Int) == (c:Int))=false∧((124:Int) == (c:Int))=true∧Hid (Q8 c s 2=H7 92 s∧Q8 c s 3=H7 124 (Q8 c s 2)∧(Q8 c s 2).length < 240000000))):=by
  have e1:=b23 92 s
  have e2:=b23 34 (H7 92 s)
  rcases hc with rfl | rfl
  ·exact ⟨.inl ⟨rfl,rfl,⟨rfl,rfl,by show (H7 34 (H7 92 s)).length < _;omega⟩⟩⟩
  ·exact ⟨.inr ⟨rfl,rfl,⟨rfl,rfl,by show (H7 92 s).length < _;omega⟩⟩⟩
 have henc:Hid (Utf8.encode (c:Int)=⟨#[c.toUInt8]⟩):=by rcases hc with rfl | rfl <;> exact ⟨dE⟩
 have hfin:Hid (Q8 c s 3=F6 c.toUInt8 s):=by
  rcases hc with rfl | rfl
  ·exact ⟨c5z dE s⟩
  ·exact ⟨c5z dE s⟩
 clear hc
 go_enter Tryz.func28,Tryz.ntmps28
 go_wp2
 go_loopw [0,9] (fun v0 v9 wr=>∃ i:Nat,i≤3∧v9=.int .i64 i∧v0=.string ⟨(Q8 c s i).toArray⟩∧Below w.heap.size w wr∧wr.heap[w.heap.size]?=some (.cells #[.int .i32 92,.int .i32 34,.int .i32 124] 21 (0,0))) (fun v0 v9 wr=>qM v9)
 case atStart=>exact ⟨0,dE,rfl,rfl,(Below.refl _ w).alloc (Nat.le_refl _) _,by show (w.heap.push _)[w.heap.size]?=_;simp⟩
 case round =>
  obtain ⟨i,hi,rfl,rfl,hbl,hcell⟩:=hrel
  rename_i wr _
  have c0:wr.cell? ⟨w.heap.size,0,none⟩=some (.int .i32 92):=by simp [World.cell?,hcell]
  have c1:wr.cell? ⟨w.heap.size,1,none⟩=some (.int .i32 34):=by simp [World.cell?,hcell]
  have c2:wr.cell? ⟨w.heap.size,2,none⟩=some (.int .i32 124):=by simp [World.cell?,hcell]
  have hgb:Tryz.lays155_ren.g 1 < w.heap.size:=by
   rcases Nat.lt_or_ge (Tryz.lays155_ren.g 1) w.heap.size with h | h
   ·exact h
   ·simp [World.cell?,Array.getElem?_eq_none h] at hm
  have hm2:=a8g hbl hgb hm
  have hsz:w.heap.size < wr.heap.size:=(Array.getElem?_eq_some_iff.1 hcell).1
  have e1:=b23 92 s
  obtain rfl | rfl | rfl | rfl:i=0∨i=1∨i=2∨i=3:=oM
  ·go_wp2_with (first
    | (go_at_call 50;refine (a43 m s 92 _ hm2 oM).mono ?_;rintro e w2 ⟨rfl,hb2⟩))
   exact ⟨⟨1,dE,rfl,rfl,hbl.trans (W6 hb2 oM),(hb2.block _ hsz).trans hcell⟩,dE⟩
  ·rcases key.go with ⟨g1,g2,r⟩ | ⟨g1,g2,r⟩
   ·go_wp2_with (first
     | (go_at_call 50;refine (a43 m (H7 92 s) 34 _ hm2 oM).mono ?_;rintro e w2 ⟨rfl,hb2⟩))
    exact ⟨⟨2,dE,rfl,by rw [r.go.1],hbl.trans (W6 hb2 oM),(hb2.block _ hsz).trans hcell⟩,dE⟩
   ·go_wp2_with (first
     | (go_at_call 50;refine (a43 m (H7 92 s) 34 _ hm2 oM).mono ?_;rintro e w2 ⟨rfl,hb2⟩))
    exact ⟨⟨2,dE,rfl,by rw [r.go.1];rfl,hbl,hcell⟩,dE⟩
  ·rcases key.go with ⟨g1,g2,r⟩ | ⟨g1,g2,r⟩
   ·go_wp2_with (first
     | (go_at_call 50;refine (a43 m (Q8 c s 2) 124 _ hm2 r.go.2.2).mono ?_;rintro e w2 ⟨rfl,hb2⟩))
    exact ⟨⟨3,dE,rfl,by rw [r.go.2.1],hbl,hcell⟩,dE⟩
   ·go_wp2_with (first
     | (go_at_call 50;refine (a43 m (Q8 c s 2) 124 _ hm2 r.go.2.2).mono ?_;rintro e w2 ⟨rfl,hb2⟩))
    exact ⟨⟨3,dE,rfl,by rw [r.go.2.1],hbl.trans (W6 hb2 oM),(hb2.block _ hsz).trans hcell⟩,dE⟩
  ·clear key
   refine wp_seq ?_
   refine wp_region ?_
   simp [wpOps,go_sem]
   refine .inl ?_
   refine wp_seq ?_
   refine wp_cond_false (by simp [Act.eval]) ?_
   refine wp_exit ?_
   simp only [Exit.then,Exit.inBlock,if_true]
   refine ‹∀ (a:Act) (w:World),Code.wp _ _ _ a w→_› _ _ ?_
   clear hm2 c0 c1 c2 hgb hsz e1 hi
   have hSl:(⟨(Q8 c s 3).toArray⟩:ByteArray).size≤240000000:=by
    show (Q8 c s 3).length≤_
    rw [hfin.go]
    have:=d30 c.toUInt8 s
    omega
   have hEl:(Utf8.encode (c:Int)).size=1:=by rw [henc.go];rfl
   have hfin2:Hid (Utf8.encode (c:Int) ++ ⟨(Q8 c s 3).toArray⟩ ++ Utf8.encode (c:Int)=⟨(D3 c.toUInt8 s).toArray⟩):=by
    refine ⟨?_⟩
    rw [henc.go,hfin.go]
    unfold D3
    apply ByteArray.ext
    simp
   obtain ⟨E,hE⟩:∃ E,Utf8.encode (c:Int)=E:=⟨_,rfl⟩
   generalize hS:(⟨(Q8 c s 3).toArray⟩:ByteArray)=S at *
   rw [hE] at hEl hfin2
   clear hS hfin henc
   have z1:E.size+S.size≤9223372036854775807:=oM
   have z2:(E ++ S).size+E.size≤9223372036854775807:=by rw [ByteArray.size_append];omega
   have z3:E.size+S.size+E.size≤9223372036854775807:=oM
   clear hEl hSl
   go_wp2
   go_ret
   exact ⟨by rw [hfin2.go];rfl,hbl⟩
end Go.Proofs.YtgipbdffgfbedaaGreatDoor
