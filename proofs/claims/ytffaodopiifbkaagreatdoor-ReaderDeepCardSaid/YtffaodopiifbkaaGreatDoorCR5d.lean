/- The reference's objects: which are formed, which are valid; lists; numbers. -/
import Derived.Test.YtffaodopiifbkaaGreatDoorCR5c
set_option linter.all false
namespace Go.Proofs.YtffaodopiifbkaaGreatDoor
open Go.Abs LQ
set_option maxRecDepth 100000
set_option maxHeartbeats 4000000
noncomputable section
section
variable {U:t6} {P:E6→List Bx→Prop}
end
theorem Zz {p q:Prop} (k:q) (h:Tr p q:=by ((repeat' (first | (with_reducible apply Tr.all) | (with_reducible intro _) | (apply Tr.b;(case f=>first | exact sCndEqT dE | exact sCndEqF dE | exact sCndS0 (by rfl) | exact sCndBandS (by rfl) | exact sCndBandT | exact b56 | exact a1i aS | exact c20 | exact b1w aS | exact b54 | exact a5i aS | exact b0i | exact b1z aS | exact sP | exact sPR aS | exact sIV | exact sI aS | exact sBV | exact sBK | exact sB aS | exact sSV | exact sS aS | exact sA | exact H4 aS (by rfl) | exact b8s (by rfl) | exact c5a (by rfl) | exact c1l aS (by rfl) | exact c18 aS (by rfl) | exact c8k aS | exact sSl aS | exact sTu aS | exact sBo | exact X8 aS (by rfl) | exact sBc | exact d0t aS | exact sBt | exact sBs | exact sBr | exact a1z aS | exact b6n aS | exact b5k aS (by rfl) | exact c9q aS (by rfl) | exact sCI' aS (by rfl) | exact sCB' aS (by rfl) | exact sCS aS | exact sCI aS | exact sCB aS | exact b41 (by first | omega | (simp only [List.length_map] at *;omega)) | exact b6p (by first | omega | (simp only [List.length_map] at *;omega)) | exact c09 | exact b2c | exact b1t | exact c05 | exact b58 | exact b44 | exact sfSubN | exact b15 | exact sfBSelE | exact sfB | exact sJn | exact c00 | exact c1d | exact c1n | exact D1 aS (by (first | exact w8 O.g_len | exact w8 (fun _=>rfl))) | exact b1g aS (by (first | exact w8 O.g_len | exact w8 (fun _=>rfl))) | exact c04 (by first | omega | (simp only [List.length_map] at *;omega)) | exact b5l (by first | omega | (simp only [List.length_map] at *;omega)) | exact c87 aS (by first | assumption | omega | (simp only [List.length_map] at *;omega)) | exact sfT aS (by rfl))) | (apply Tr.chk;(case ht=>(repeat' (first | exact trT | exact trF | apply a4r | apply a33 | exact a3z | exact a4o | exact a3p | exact a5t | exact a9b | exact a11 | exact a1t | exact a1c | exact a1o | exact a0j | exact a4p | exact a9u | exact a9k | exact trS | exact trV)));(case hp=>first | omega | (simp only [List.length_map] at *;omega))) | (apply Tr.cnd;(case ht=>(repeat' (first | exact trT | exact trF | apply a4r | apply a33 | exact a3z | exact a4o | exact a3p | exact a5t | exact a9b | exact a11 | exact a1t | exact a1c | exact a1o | exact a0j | exact a4p | exact a9u | exact a9k | exact trS | exact trV))))));all_goals exact Tr.refl)):p:=h.go k
end
end Go.Proofs.YtffaodopiifbkaaGreatDoor
