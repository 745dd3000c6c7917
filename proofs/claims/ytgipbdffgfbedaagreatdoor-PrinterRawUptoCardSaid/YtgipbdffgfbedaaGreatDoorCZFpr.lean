/- b3x facts of the card of 'lispproverlaw6.PrinterRaw', one by one. -/
import Derived.Test.YtgipbdffgfbedaaGreatDoorCZ1
set_option linter.all false
namespace Go.Proofs.YtgipbdffgfbedaaGreatDoor
open Go.Abs Go.ChangeShapes Go.WideShapes Go.ChangeAt Go.WideMaps Go.WideElems Go.RowKit
set_option maxRecDepth 100000
theorem c80:Tryz.prog.inPlace 3=Rows.printerRawUptoRow.inPlace:=kR
theorem b9n:Tryz.prog.unfollowed 3=true:=kR
theorem c4z:Tryz.prog.recurses 3=true:=kR
theorem d5j:Tryz.prog.varsNamed 3=Rows.printerRawUptoRow.named:=kR
theorem c2u:mapsRowed Tryz.prog=true:=kR
theorem d11:joinedFacts Tryz.prog 3 Tryz.f3 (Rows.OpenSpec.upto Rows.printerRawSpec).bare Rows.printerRawUptoRow=true:=by
 unfold joinedFacts
 rw [c80,b9n,c4z,d5j,c14,c2u]
 kernel_rfl
end Go.Proofs.YtgipbdffgfbedaaGreatDoor
