/- The table of the functions, run. -/
import Derived.Test.YtkojildpddaccaaGreatDoorCL0
import Derived.Test.YtkojildpddaccaaGreatDoorCL1
set_option linter.all false
namespace Go.Proofs.YtkojildpddaccaaGreatDoor
open Go.Abs
def TOK (T:a28):Prop:=∀ g F,(g,F) ∈ T→∀ fn,(∀ g,G8 X0 g (fn g))→G8 X0 g (F fn)
theorem tN:TOK []:=fun _ _ h=>absurd h (by simp)
theorem tC {g:FuncId} {F:FF→F3} {T:a28} (h:∀ {fn:FF},HH fn→G8 X0 g (F fn)) (k:TOK T):TOK ((g,F) :: T):=fun g' F' m=>by
  rcases List.mem_cons.1 m with e | m
  · injection e with e1 e2;subst e1 e2;exact fun _=>h
  · exact k g' F' m
noncomputable def ftL:a28:=[(5,r5 CU),(8,r8 CU),(9,r9 CU),(13,r13 CU),(15,r15 CU),(17,r17 CU),(18,r18 CU),(20,r20 CU),(23,r23 CU),(24,r24 CU),(25,r25 CU),(26,r26 CU),(27,r27 CU),(29,r29 CU),(30,r30 CU),(31,r31 CU),(32,r32 CU),(35,r35 CU),(37,r37 CU),(38,r38 CU),(39,r39 CU),(44,r44 CU),(45,r45 CU),(46,r46 CU),(50,r50 CU),(51,r51 CU),(52,r52 CU),(53,r53 CU),(54,r54 CU),(55,r55 CU),(56,r56 CU),(57,r57 CU),(58,r58 CU),(60,r60 CU),(64,r64 CU),(66,r66 CU),(67,r67 CU),(69,r69 CU),(70,r70 CU),(87,r87 CU),(88,r88 CU),(93,r93 CU),(94,r94 CU),(95,r95 CU),(96,r96 CU),(97,r97 CU),(98,r98 CU),(99,r99 CU),(100,e3b CU),(101,e3c CU),(103,e3d CU),(105,f5w CU),(106,f5x CU),(107,f5y CU),(108,f5z CU),(109,f50 CU),(132,e3e CU),(133,e3f CU),(136,f6c CU),(137,e3g CU),(138,e3h CU),(139,e3i CU),(140,e3j CU),(141,f6d CU),(142,f6e CU),(145,f6f CU),(146,f6g CU),(147,f6h CU),(148,f6i CU),(149,f6j CU),(150,f6m CU),(151,f6n CU),(152,f6o CU),(165,f61 CU),(166,f62 CU),(168,f63 CU),(169,f64 CU),(170,f66 CU),(172,f67 CU),(173,f68 CU),(174,f69 CU),(175,f7a CU),(176,f7b CU),(203,f7h CU),(204,e3k CU),(205,e3l CU),(206,e3m CU),(207,e3n CU),(208,f7i CU),(210,f7j CU),(211,f7k CU),(212,f7l CU),(243,f78 CU),(248,f79 CU),(249,f8a CU),(250,f8b CU)]
theorem f4b:TOK ftL:=tC (@g44) <| tC (@g47) <| tC (@e50) <| tC (@d74) <| tC (@d75) <| tC (@d76) <| tC (@d77) <| tC (@d78) <| tC (@f76) <| tC (@d79) <| tC (@f8i) <| tC (@d8a) <| tC (@d8b) <| tC (@f8z) <| tC (@f81) <| tC (@f82) <| tC (@d8c) <| tC (@d8d) <| tC (@d8e) <| tC (@d8f) <| tC (@d8g) <| tC (@d8h) <| tC (@f9d) <| tC (@f9e) <| tC (@d8i) <| tC (@d8j) <| tC (@f9h) <| tC (@f9i) <| tC (@f9j) <| tC (@f9k) <| tC (@f9l) <| tC (@f9m) <| tC (@d8k) <| tC (@d8l) <| tC (@d8m) <| tC (@f9u) <| tC (@f9v) <| tC (@f9w) <| tC (@f9x) <| tC (@d8n) <| tC (@d8o) <| tC (@d8p) <| tC (@f92) <| tC (@f93) <| tC (@f95) <| tC (@f96) <| tC (@f97) <| tC (@f98) <| tC (@d1p) <| tC (@d1q) <| tC (@d1r) <| tC (@e8s) <| tC (@e8t) <| tC (@e8u) <| tC (@e8v) <| tC (@e8w) <| tC (@d1s) <| tC (@d1t) <| tC (@e81) <| tC (@d1u) <| tC (@d1v) <| tC (@d1w) <| tC (@d1x) <| tC (@e82) <| tC (@e83) <| tC (@e84) <| tC (@e85) <| tC (@e86) <| tC (@e87) <| tC (@e88) <| tC (@e89) <| tC (@e9a) <| tC (@e9b) <| tC (@e9o) <| tC (@e9p) <| tC (@e9q) <| tC (@e9r) <| tC (@e9s) <| tC (@e9t) <| tC (@e9u) <| tC (@e9v) <| tC (@e9w) <| tC (@e9x) <| tC (@e91) <| tC (@d1y) <| tC (@d1z) <| tC (@d10) <| tC (@d11) <| tC (@e92) <| tC (@e93) <| tC (@e94) <| tC (@e95) <| tC (@f0q) <| tC (@f0r) <| tC (@f0s) <| tC (@f0t) <| tN
noncomputable def ftU:a28:=ftL
theorem d6x:∀ g F,(g,F) ∈ ftU→∀ fn,(∀ g,G8 X0 g (fn g))→G8 X0 g (F fn):=f4b
/-- What a function gives, run. -/
noncomputable def RL (g:FuncId):F3:=a4s (b1f ftU 300 g)
theorem g1q (g:FuncId):G8 X0 g (RL g):=b44 d6x 300 g
/-- One result, known. -/
def c68 (r:R):F3:=fun vs bs=>match vs with
 | []=>match bs with
  | []=>some r
  | _=>none
 | _=>none
theorem e76 {g:FuncId} {F:F3} (hF:G8 X0 g F) {r:R} (h:F [] []=some r):G8 X0 g (c68 r):=fun vs bs x bs' e hok=>by
 unfold c68 at e;split at e
 ·split at e
  ·injection e with e;exact hF [] [] x bs' (h.trans (congrArg some e)) hok
  ·cases e
 ·cases e
/-- A table with a result that is known. -/
theorem c69 {T:a28} (hT:∀ g F,(g,F) ∈ T→∀ fn,(∀ g,G8 X0 g (fn g))→G8 X0 g (F fn)) {g0:FuncId} {F0:F3} (hF:G8 X0 g0 F0) {r:R} (h:F0 [] []=some r) :
  ∀ g F,(g,F) ∈ ((g0,fun _=>c68 r) :: T:a28)→∀ fn,(∀ g,G8 X0 g (fn g))→G8 X0 g (F fn):=fun g F hm=>by
 rcases List.mem_cons.1 hm with e | hm
 ·injection e with e1 e2;subst e1 e2;exact fun _ _=>e76 hF h
 ·exact hT g F hm
end Go.Proofs.YtkojildpddaccaaGreatDoor
