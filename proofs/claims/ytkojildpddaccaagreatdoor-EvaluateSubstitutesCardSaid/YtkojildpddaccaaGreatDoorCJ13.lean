/- strings.Builder at this seat: what its methods do. -/
import Derived.Test.YtkojildpddaccaaGreatDoorCS
import Derived.Test.YtkojildpddaccaaGreatDoorCG
set_option linter.all false
namespace Go.Proofs.YtkojildpddaccaaGreatDoor
open Go.RowKit Go.Shelf
set_option maxRecDepth 100000
theorem tA {t:TypeId} {b:Bool} (h:Abs.aggOf Tryz.prog t=some b):∀ w,(isAgg t).run Tryz.prog w=.ok b w:=Abs.run_isAgg h
theorem tZ {t:TypeId} {n:Nat} (h:Abs.szOf Tryz.prog t=some n):∀ w,(Go.sizeOf t).run Tryz.prog w=.ok n w:=Abs.run_sizeOf' h
theorem tV {t:TypeId} {v:Value} (h:(Tryz.prog.info? t).bind (fun i=>i.zero)=some v):∀ w,(zeroValue t).run Tryz.prog w=.ok v w:=fun w=>by
 cases hi:Tryz.prog.info? t with
 | none=>rw [hi] at h;cases h
 | some i =>
  rw [hi] at h;have hz:i.zero=some v:=h;simp [zeroValue,Abs.run_typeInfo' hi,hz]
def a05:Ren:=⟨fun | 166=>285 | 167=>284 | 169=>286 | 240=>297 | 276=>305 | n=>n,fun | 37=>229 | 70=>282 | 72=>284 | 75=>261 | 80=>120 | 164=>297 | 127=>289 | n=>n,fun n=>n⟩
theorem g7j:Lays.n166 Tryz.prog a05:={
 mixed:=kR
 f166:=Tryz.func285.trans (congrArg some kR)
 f240:=Tryz.func297.trans (congrArg some kR)
 f276:=Tryz.func305.trans (congrArg some kR)
 t0:=kR
 a0:=tA kR
 z0:=tZ kR
 v0:=tV kR
 t3:=kR
 a3:=tA kR
 z3:=tZ kR
 v3:=tV kR
 t4:=kR
 a4:=tA kR
 z4:=tZ kR
 v4:=tV kR
 t9:=kR
 a9:=tA kR
 z9:=tZ kR
 v9:=tV kR
 t20:=kR
 a20:=tA kR
 z20:=tZ kR
 v20:=tV kR
 t37:=kR
 a37:=tA kR
 z37:=tZ kR
 v37:=tV kR
 t70:=kR
 a70:=tA kR
 z70:=tZ kR
 v70:=tV kR
 t72:=kR
 a72:=tA kR
 z72:=tZ kR
 v72:=tV kR
 t75:=kR
 a75:=tA kR
 z75:=tZ kR
 v75:=tV kR
 t164:=kR
 a164:=tA kR
 z164:=tZ kR
 v164:=tV kR }
theorem c42:Lays.n167 Tryz.prog a05:={
 mixed:=kR
 f167:=Tryz.func284.trans (congrArg some kR)
 f240:=Tryz.func297.trans (congrArg some kR)
 f276:=Tryz.func305.trans (congrArg some kR)
 t0:=kR
 a0:=tA kR
 z0:=tZ kR
 v0:=tV kR
 t4:=kR
 a4:=tA kR
 z4:=tZ kR
 v4:=tV kR
 t5:=kR
 a5:=tA kR
 z5:=tZ kR
 v5:=tV kR
 t9:=kR
 a9:=tA kR
 z9:=tZ kR
 v9:=tV kR
 t20:=kR
 a20:=tA kR
 z20:=tZ kR
 v20:=tV kR
 t37:=kR
 a37:=tA kR
 z37:=tZ kR
 v37:=tV kR
 t70:=kR
 a70:=tA kR
 z70:=tZ kR
 v70:=tV kR
 t72:=kR
 a72:=tA kR
 z72:=tZ kR
 v72:=tV kR
 t75:=kR
 a75:=tA kR
 z75:=tZ kR
 v75:=tV kR
 t164:=kR
 a164:=tA kR
 z164:=tZ kR
 v164:=tV kR }
theorem g7k:Lays.n169 Tryz.prog a05:={ Tryz.lays169 with
 f169:=Tryz.lays169.f169.trans (congrArg some kR) }
theorem BX:Builder.Extra Tryz.prog a05 where
 sizeBuilder:=kR
 liesBuilder:=kR
 t5:=c42.t5
 a5:=c42.a5
 z5:=c42.z5
 v5:=c42.v5
 infoByte:=kR
 cellsByte:=kR
 sizeByte:=kR
 neB5:=dE
abbrev IsB (b:Nat) (bs:List UInt8) (w:World):Prop:=Lib.IsBuilderF 284 5 b b (Lib.byteCells bs) w
theorem g5t (b:Nat) (bs:List UInt8) (c:UInt8) (w:World) (h:IsB b bs w) (hlen:bs.length < 1000000) (hBw:b≤w.heap.size) :
  Calls Tryz.prog 284 #[.pointer (some ⟨b,0,none⟩),.int .u8 c.toNat] w fun e w'=>e=.returned .nilIface∧IsB b (bs ++ [c]) w'∧Below b w w' :=
 (Any.Builder_WriteByte_k c42 BX b b (Lib.byteCells bs) c.toNat w h (by rw [Lib.byteCells_length];omega) hBw).mono fun e w' ⟨h1,h2,h3,_⟩=>⟨h1,by rw [IsB,Lib.byteCells_append];exact .inr h2,h3⟩
theorem a6d (b:Nat) (bs:List UInt8) (s:ByteArray) (w:World) (h:IsB b bs w) (hlen:bs.length+s.size < 1000000) (hBw:b≤w.heap.size) :
  Calls Tryz.prog 285 #[.pointer (some ⟨b,0,none⟩),.string s] w fun e w'=>(∃ v,e=.returned v)∧IsB b (bs ++ s.data.toList) w'∧Below b w w' :=
 (Any.Builder_WriteString_k g7j BX b b (Lib.byteCells bs) s w h (by rw [Lib.byteCells_length];omega) hBw).mono fun e w' ⟨h1,h2,h3,_⟩=>⟨⟨_,h1⟩,by rw [IsB,Lib.byteCells_append,← Lib.strCells_eq];exact .inr h2,h3⟩
theorem d0i (b:Nat) (bs:List UInt8) (w:World) (h:IsB b bs w) (hBw:b≤w.heap.size) :
  Calls Tryz.prog 286 #[.pointer (some ⟨b,0,none⟩)] w fun e w'=>e=.returned (.string ⟨bs.toArray⟩)∧Below b w w' :=
 (Any.Builder_String_any_k g7k BX b b bs w h hBw).mono fun e w' ⟨h1,_,h3,_⟩=>⟨h1,h3⟩
theorem g8h (w:World):IsB w.heap.size [] (w.alloc (.cells #[.pointer none,.slice none 0 0] 284)):=Lib.IsBuilderF.of (Lib.fresh_isBuilder _ _ w)
theorem f4i {b:Nat} {bs:List UInt8} {w w':World} (h:IsB b bs w) (k:∀ j,b≤j→j < w.heap.size→w'.heap[j]?=w.heap[j]?):IsB b bs w':=by
 have one:∀ p,Lib.BuilderAtF 284 5 b b p (Lib.byteCells bs) w→Lib.BuilderAtF 284 5 b b p (Lib.byteCells bs) w':=by
  intro p h;have hlt:=h.lt;obtain ⟨hB,v,hb,hown,hne⟩:=h;refine ⟨hB,v,(k b (Nat.le_refl _) hlt).trans hb,⟨hown.1,?_⟩,hne⟩;rcases hown.2 with hn | ⟨g,cap,cur,fz,rfl,hb',hgg,rest⟩
  ·exact .inl hn
  ·exact .inr ⟨g,cap,cur,fz,rfl,hb',(k g hb' (Array.getElem?_eq_some_iff.1 hgg).1).trans hgg,rest⟩
 exact h.imp (one _) (one _)
theorem d64 {b:Nat} {bs:List UInt8} {w w':World} (h:IsB b bs w) (k:Below w.heap.size w w'):IsB b bs w':=f4i h fun j _ hj=>k.block j hj
theorem f4h {b:Nat} {bs:List UInt8} {w:World} (h:IsB b bs w):b < w.heap.size:=h.elim (·.lt) (·.lt)
end Go.Proofs.YtkojildpddaccaaGreatDoor
