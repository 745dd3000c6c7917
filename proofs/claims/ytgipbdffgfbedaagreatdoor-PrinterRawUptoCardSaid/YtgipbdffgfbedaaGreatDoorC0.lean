/- What closes itself: the tactic stands once, as a default. -/
import Derived.KernelRfl
theorem oM {p:Prop} (h:p:=by omega):p:=h
theorem aS {p:Prop} (h:p:=by assumption):p:=h
theorem kR {p:Prop} (h:p:=by kernel_rfl):p:=h
theorem dE {p:Prop} (h:p:=by decide):p:=h
