/- The table of the functions, run. -/
import Derived.Test.YtkojildpddaccaaGreatDoorCL0
import Derived.Test.YtkojildpddaccaaGreatDoorCL1
import Derived.Test.YtkojildpddaccaaGreatDoorCL2
set_option linter.all false
namespace Go.Proofs.YtkojildpddaccaaGreatDoor
open Go.Abs
def TOK (T:a1k):Prop:=∀ g F,(g,F) ∈ T→∀ fn,(∀ g,E3 X0 g (fn g))→E3 X0 g (F fn)
theorem tN:TOK []:=fun _ _ h=>absurd h (by simp)
theorem tC {g:FuncId} {F:FF→D8} {T:a1k} (h:∀ {fn:FF},HH fn→E3 X0 g (F fn)) (k:TOK T):TOK ((g,F) :: T):=fun g' F' m=>by
  rcases List.mem_cons.1 m with e | m
  · injection e with e1 e2
    subst e1 e2
    exact fun _=>h
  · exact k g' F' m
noncomputable def ftL:a1k:=[(8,r8 CU),(15,r15 CU),(16,r16 CU),(17,r17 CU),(18,r18 CU),(20,r20 CU),(21,r21 CU),(23,r23 CU),(24,r24 CU),(25,r25 CU),(26,r26 CU),(27,r27 CU),(29,r29 CU),(30,r30 CU),(31,r31 CU),(32,r32 CU),(35,r35 CU),(38,r38 CU),(39,r39 CU),(41,r41 CU),(42,r42 CU),(43,r43 CU),(44,r44 CU),(45,r45 CU),(46,r46 CU),(47,r47 CU),(48,r48 CU),(50,r50 CU),(51,r51 CU),(52,r52 CU),(53,r53 CU),(54,r54 CU),(55,r55 CU),(56,r56 CU),(57,r57 CU),(58,r58 CU),(60,r60 CU),(66,r66 CU),(67,r67 CU),(68,r68 CU),(69,r69 CU),(70,r70 CU),(71,r71 CU),(72,r72 CU),(73,r73 CU),(74,r74 CU),(75,r75 CU),(76,r76 CU),(78,r78 CU),(79,r79 CU),(80,r80 CU),(81,r81 CU),(82,r82 CU),(83,r83 CU),(84,r84 CU),(85,r85 CU),(87,r87 CU),(88,r88 CU),(93,r93 CU),(94,r94 CU),(95,r95 CU),(96,r96 CU),(97,r97 CU),(98,r98 CU),(99,r99 CU),(100,d13 CU),(101,d14 CU),(103,d15 CU),(105,e1f CU),(106,e1g CU),(107,e1h CU),(108,e1i CU),(109,d16 CU),(110,d17 CU),(111,d18 CU),(112,d19 CU),(114,d2a CU),(115,d2b CU),(116,fun fn=>b7v (d2c CU fn) (b7v (b6v CU fn) (b6w CU fn))),(117,d2d CU),(118,d2e CU),(119,d2f CU),(120,d2g CU),(121,d2h CU),(122,e1j CU),(123,e1k CU),(124,d2i CU),(125,d2j CU),(126,d2k CU),(127,d2l CU),(128,d2m CU),(129,d2n CU),(130,d2o CU),(131,d2p CU),(132,d2q CU),(133,d2r CU),(136,d2s CU),(137,d2t CU),(138,d2u CU),(139,d2v CU),(140,d2w CU),(141,e1n CU),(142,d2x CU),(145,e1o CU),(146,e1p CU),(147,e1q CU),(148,e1r CU),(149,e1s CU),(150,e1t CU),(151,e1u CU),(152,e1v CU),(154,e1x CU),(160,d2y CU),(161,e1y CU),(165,e1z CU),(166,e10 CU),(168,e11 CU),(169,e12 CU),(170,e13 CU),(172,e14 CU),(173,e17 CU),(174,d2z CU),(175,e18 CU),(176,d20 CU),(177,d21 CU),(178,fun fn=>b7v (d22 CU fn) (b7v (b6x CU fn) (b6y CU fn))),(179,d23 CU),(180,d25 CU),(181,d26 CU),(182,e19 CU),(183,e2a CU),(186,e2b CU),(188,d27 CU),(189,d28 CU),(190,d29 CU),(203,d3a CU),(204,d3b CU),(205,d3c CU),(206,d3d CU),(207,d3e CU),(208,e2o CU),(210,e2p CU),(211,e2q CU),(212,e2r CU),(216,e2u CU),(222,e2v CU),(231,d3f CU),(232,e2w CU),(233,d3g CU),(234,d3h CU),(235,e2x CU),(236,d3i CU),(243,e24 CU),(248,e25 CU),(249,e26 CU),(250,e27 CU),(251,d3j CU),(256,e29 CU),(258,e3a CU),(259,e3b CU),(260,e3c CU),(262,e3d CU),(264,e3e CU),(265,e3f CU),(267,e3g CU),(268,e3h CU),(280,e3l CU),(281,e3m CU),(283,e3n CU),(287,e3o CU),(290,e3p CU),(291,e3q CU),(295,e3r CU),(302,e3s CU)]
theorem f5u:TOK ftL:=tC (@g4y) <| tC (@d59) <| tC (@f7l) <| tC (@d6a) <| tC (@d6b) <| tC (@d6c) <| tC (@d6d) <| tC (@f7r) <| tC (@d6e) <| tC (@d6f) <| tC (@d6g) <| tC (@d6h) <| tC (@f7v) <| tC (@f7x) <| tC (@f7z) <| tC (@d6i) <| tC (@d6j) <| tC (@f77) <| tC (@d6k) <| tC (@f8a) <| tC (@f8c) <| tC (@f8e) <| tC (@d6l) <| tC (@d6m) <| tC (@d6n) <| tC (@c40) <| tC (@d6p) <| tC (@d6q) <| tC (@d6r) <| tC (@f8i) <| tC (@f8k) <| tC (@f8m) <| tC (@f8o) <| tC (@f8q) <| tC (@f8s) <| tC (@d6s) <| tC (@d6t) <| tC (@f83) <| tC (@f85) <| tC (@f87) <| tC (@d6u) <| tC (@d6v) <| tC (@d6w) <| tC (@d6x) <| tC (@d6y) <| tC (@d6z) <| tC (@d60) <| tC (@d61) <| tC (@d62) <| tC (@f89) <| tC (@f9b) <| tC (@d63) <| tC (@d64) <| tC (@d65) <| tC (@d66) <| tC (@d67) <| tC (@d68) <| tC (@d69) <| tC (@d7a) <| tC (@f9o) <| tC (@d7b) <| tC (@d7c) <| tC (@d7d) <| tC (@f9q) <| tC (@f9s) <| tC (@c78) <| tC (@c79) <| tC (@c8a) <| tC (@f0c) <| tC (@f0d) <| tC (@f0e) <| tC (@f0f) <| tC (@c8b) <| tC (@c8c) <| tC (@c8d) <| tC (@c8e) <| tC (@c8f) <| tC (@c8g) <| tC (fun h=>b2e (c8h h) (b2e (c0e h) (c0f h))) <| tC (@c8i) <| tC (@c8j) <| tC (@c8k) <| tC (@c8l) <| tC (@c8m) <| tC (@f0g) <| tC (@f0h) <| tC (@c8n) <| tC (@c8o) <| tC (@c8p) <| tC (@c8q) <| tC (@c8r) <| tC (@c8s) <| tC (@c8t) <| tC (@c8u) <| tC (@c8v) <| tC (@c8w) <| tC (@c8x) <| tC (@c8y) <| tC (@c8z) <| tC (@c80) <| tC (@c81) <| tC (@f0k) <| tC (@c82) <| tC (@f0l) <| tC (@f0m) <| tC (@f0n) <| tC (@f0o) <| tC (@f0p) <| tC (@f0q) <| tC (@f0r) <| tC (@f0s) <| tC (@f0u) <| tC (@c83) <| tC (@f0v) <| tC (@f0w) <| tC (@f0x) <| tC (@f0y) <| tC (@f0z) <| tC (@f00) <| tC (@f01) <| tC (@f02) <| tC (@c84) <| tC (@f03) <| tC (@c85) <| tC (@c86) <| tC (fun h=>b2e (c87 h) (b2e (c0g h) (c0h h))) <| tC (@c88) <| tC (@c89) <| tC (@c9a) <| tC (@f04) <| tC (@f05) <| tC (@f06) <| tC (@c9b) <| tC (@c9c) <| tC (@c9d) <| tC (@c9e) <| tC (@c9f) <| tC (@c9g) <| tC (@c9h) <| tC (@c9i) <| tC (@f1j) <| tC (@f1k) <| tC (@f1l) <| tC (@f1m) <| tC (@f1p) <| tC (@f1q) <| tC (@c9j) <| tC (@f1r) <| tC (@c9k) <| tC (@c9l) <| tC (@f1s) <| tC (@c9m) <| tC (@f1z) <| tC (@f10) <| tC (@f11) <| tC (@f12) <| tC (@c9n) <| tC (@f15) <| tC (@f18) <| tC (@f2a) <| tC (@f2b) <| tC (@f2c) <| tC (@f2d) <| tC (@f2e) <| tC (@f2f) <| tC (@f2g) <| tC (@f2k) <| tC (@f2l) <| tC (@f2m) <| tC (@f2n) <| tC (@f2o) <| tC (@f2p) <| tC (@f2q) <| tC (@f2r) <| tN
noncomputable def ftU:a1k:=ftL
theorem c3r:∀ g F,(g,F) ∈ ftU→∀ fn,(∀ g,E3 X0 g (fn g))→E3 X0 g (F fn):=f5u
/-- What a function gives, run. -/
noncomputable def RL (g:FuncId):D8:=a2c (a7r ftU 300 g)
theorem g08 (g:FuncId):E3 X0 g (RL g):=a8m c3r 300 g
/-- One result, known. -/
def c4c (r:R):D8:=fun vs bs=>match vs with
 | []=>match bs with
  | []=>some r
  | _=>none
 | _=>none
theorem e9s {g:FuncId} {F:D8} (hF:E3 X0 g F) {r:R} (h:F [] []=some r):E3 X0 g (c4c r):=fun vs bs x bs' e hok=>by
 unfold c4c at e
 split at e
 ·split at e
  ·injection e with e
   exact hF [] [] x bs' (h.trans (congrArg some e)) hok
  ·cases e
 ·cases e
/-- A table with a result that is known. -/
theorem c4d {T:a1k} (hT:∀ g F,(g,F) ∈ T→∀ fn,(∀ g,E3 X0 g (fn g))→E3 X0 g (F fn)) {g0:FuncId} {F0:D8} (hF:E3 X0 g0 F0) {r:R} (h:F0 [] []=some r) :
  ∀ g F,(g,F) ∈ ((g0,fun _=>c4c r) :: T:a1k)→∀ fn,(∀ g,E3 X0 g (fn g))→E3 X0 g (F fn):=fun g F hm=>by
 rcases List.mem_cons.1 hm with e | hm
 ·injection e with e1 e2;subst e1 e2;exact fun _ _=>e9s hF h
 ·exact hT g F hm
end Go.Proofs.YtkojildpddaccaaGreatDoor
