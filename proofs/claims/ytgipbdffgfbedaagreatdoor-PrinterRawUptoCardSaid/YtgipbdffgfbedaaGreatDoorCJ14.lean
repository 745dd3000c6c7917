/- strings.Builder at this seat: what its methods do. -/
import Derived.Test.YtgipbdffgfbedaaGreatDoorCS
import Derived.Test.YtgipbdffgfbedaaGreatDoorCG
set_option linter.all false
namespace Go.Proofs.YtgipbdffgfbedaaGreatDoor
open Go.RowKit Go.Shelf
set_option maxRecDepth 100000
def a0h:Ren:={ Tryz.lays155_ren with f:=fun n=>if n=167 then 128 else Tryz.lays155_ren.f n }
theorem f1v:Lays.n166 Tryz.prog a0h:={ Tryz.lays155 with
 f166:=Tryz.lays155.f166.trans (congrArg some kR)
 f240:=Tryz.lays155.f240.trans (congrArg some kR)
 f276:=Tryz.lays155.f276.trans (congrArg some kR) }
theorem f1w:Lays.n167 Tryz.prog a0h:={ Tryz.lays155 with
 f167:=Tryz.func128.trans (congrArg some kR)
 f240:=Tryz.lays155.f240.trans (congrArg some kR)
 f276:=Tryz.lays155.f276.trans (congrArg some kR) }
theorem f1x:Lays.n169 Tryz.prog a0h:={ Tryz.lays155 with
 f169:=Tryz.lays155.f169.trans (congrArg some kR) }
theorem BX:Builder.Extra Tryz.prog a0h where
 sizeBuilder:=kR
 liesBuilder:=kR
 t5:=Tryz.lays155.t5
 a5:=Tryz.lays155.a5
 z5:=Tryz.lays155.z5
 v5:=Tryz.lays155.v5
 infoByte:=kR
 cellsByte:=kR
 sizeByte:=kR
 neB5:=dE
abbrev IsB (b:Nat) (bs:List UInt8) (w:World):Prop:=Lib.IsBuilderF 61 5 b b (Lib.byteCells bs) w
theorem c0m (b:Nat) (bs:List UInt8) (c:UInt8) (w:World) (h:IsB b bs w) (hlen:bs.length < 240000000) (hBw:b≤w.heap.size) :
  Calls Tryz.prog 128 #[.pointer (some ⟨b,0,none⟩),.int .u8 c.toNat] w fun e w'=>e=.returned .nilIface∧IsB b (bs ++ [c]) w'∧Below b w w' :=
 (Any.Builder_WriteByte_k f1w BX b b (Lib.byteCells bs) c.toNat w h (by rw [Lib.byteCells_length];omega) hBw).mono fun e w' ⟨h1,h2,h3,_⟩=>⟨h1,by rw [IsB,Lib.byteCells_append];exact .inr h2,h3⟩
theorem P0 (b:Nat) (bs:List UInt8) (s:ByteArray) (w:World) (h:IsB b bs w) (hlen:bs.length+s.size < 240000000) (hBw:b≤w.heap.size) :
  Calls Tryz.prog 31 #[.pointer (some ⟨b,0,none⟩),.string s] w fun e w'=>(∃ v,e=.returned v)∧IsB b (bs ++ s.data.toList) w'∧Below b w w' :=
 (Any.Builder_WriteString_k f1v BX b b (Lib.byteCells bs) s w h (by rw [Lib.byteCells_length];omega) hBw).mono fun e w' ⟨h1,h2,h3,_⟩=>⟨⟨_,h1⟩,by rw [IsB,Lib.byteCells_append,← Lib.strCells_eq];exact .inr h2,h3⟩
theorem a6s (b:Nat) (bs:List UInt8) (w:World) (h:IsB b bs w) (hBw:b≤w.heap.size) :
  Calls Tryz.prog 33 #[.pointer (some ⟨b,0,none⟩)] w fun e w'=>e=.returned (.string ⟨bs.toArray⟩)∧Below b w w' :=
 (Any.Builder_String_any_k f1x BX b b bs w h hBw).mono fun e w' ⟨h1,_,h3,_⟩=>⟨h1,h3⟩
theorem d3q (w:World):IsB w.heap.size [] (w.alloc (.cells #[.pointer none,.slice none 0 0] 61)):=Lib.IsBuilderF.of (Lib.fresh_isBuilder _ _ w)
theorem b4k {b:Nat} {bs:List UInt8} {w w':World} (h:IsB b bs w) (k:∀ j,b≤j→j < w.heap.size→w'.heap[j]?=w.heap[j]?):IsB b bs w':=by
 have one:∀ p,Lib.BuilderAtF 61 5 b b p (Lib.byteCells bs) w→Lib.BuilderAtF 61 5 b b p (Lib.byteCells bs) w':=by
  intro p h
  have hlt:=h.lt
  obtain ⟨hB,v,hb,hown,hne⟩:=h
  refine ⟨hB,v,(k b (Nat.le_refl _) hlt).trans hb,⟨hown.1,?_⟩,hne⟩
  rcases hown.2 with hn | ⟨g,cap,cur,fz,rfl,hb',hgg,rest⟩
  ·exact .inl hn
  ·exact .inr ⟨g,cap,cur,fz,rfl,hb',(k g hb' (Array.getElem?_eq_some_iff.1 hgg).1).trans hgg,rest⟩
 exact h.imp (one _) (one _)
theorem b8c {b:Nat} {bs:List UInt8} {w w':World} (h:IsB b bs w) (k:Below w.heap.size w w'):IsB b bs w':=b4k h fun j _ hj=>k.block j hj
theorem d00 {b:Nat} {bs:List UInt8} {w:World} (h:IsB b bs w):b < w.heap.size:=h.elim (·.lt) (·.lt)
end Go.Proofs.YtgipbdffgfbedaaGreatDoor
