/- The reference's objects: which are formed, which are valid; lists; numbers. -/
import Derived.Test.YtffaodopiifbkaaGreatDoorCR5c
set_option linter.all false
namespace Go.Proofs.YtffaodopiifbkaaGreatDoor
open Go.Abs LQ
set_option maxRecDepth 100000
set_option maxHeartbeats 4000000
noncomputable section
section
variable {U:x5} {P:L3→List Bx→Prop}
theorem e92 {a b:Int} {x y:Om} (h:a=b) (k:j6 U x P):j6 U (U.cnd (U.iEq a b) x y) P:=c1b a7r (fun _=>k) (fun n=>absurd h n)
theorem e7c {a b:Int} {x y:Om} (h:¬a=b) (k:j6 U y P):j6 U (U.cnd (U.iEq a b) x y) P:=c1b a7r (fun n=>absurd n h) (fun _=>k)
end
theorem Zz {p q:Prop} (k:q) (h:Tr p q:=by ((repeat' (first | (with_reducible apply Tr.all) | (with_reducible intro _) | (apply Tr.b;(case f=>first | exact e92 dE | exact e7c dE | exact sCndS0 (by rfl) | exact sCndBandS (by rfl) | exact sCndBandT | exact b9b | exact a2x aS | exact c7l | exact b35 aS | exact b7f | exact a7d aS | exact b14 | exact b31 aS | exact sP | exact sPR aS | exact sIV | exact sI aS | exact sBV | exact sBK | exact sB aS | exact sSV | exact sS aS | exact sA | exact L0 aS (by rfl) | exact b97 (by rfl) | exact c8r (by rfl) | exact c4n aS (by rfl) | exact c7q aS (by rfl) | exact d5s aS | exact sSl aS | exact sTu aS | exact sBo | exact a7l aS (by rfl) | exact sBc | exact d3q aS | exact sBt | exact sBs | exact sBr | exact a2j aS | exact b84 aS | exact b8w aS (by rfl) | exact d31 aS (by rfl) | exact sCI' aS (by rfl) | exact sCB' aS (by rfl) | exact sCS aS | exact sCI aS | exact sCB aS | exact b7h (by first | omega | (simp only [List.length_map] at *;omega)) | exact b9t (by first | omega | (simp only [List.length_map] at *;omega)) | exact c39 | exact b3u | exact b3z | exact c4f | exact b9v | exact b9i | exact sfSubN | exact b3y | exact sfBSelE | exact sfB | exact sJn | exact c4t | exact c4u | exact c4s | exact E2 aS (by (first | exact A3 O.g_len | exact A3 (fun _=>rfl))) | exact b19 aS (by (first | exact A3 O.g_len | exact A3 (fun _=>rfl))) | exact c4r (by first | omega | (simp only [List.length_map] at *;omega)) | exact b9o (by first | omega | (simp only [List.length_map] at *;omega)) | exact d4s aS (by first | assumption | omega | (simp only [List.length_map] at *;omega)) | exact sfT aS (by rfl))) | (apply Tr.chk;(case ht=>(repeat' (first | exact trT | exact trF | apply a5u | apply a6b | exact a5n | exact a5w | exact a7p | exact a68 | exact a7r | exact a2m | exact a2z | exact a2y | exact a2k | exact a2o | exact a5s | exact b1c | exact b0u | exact trS | exact trV)));(case hp=>first | omega | (simp only [List.length_map] at *;omega))) | (apply Tr.cnd;(case ht=>(repeat' (first | exact trT | exact trF | apply a5u | apply a6b | exact a5n | exact a5w | exact a7p | exact a68 | exact a7r | exact a2m | exact a2z | exact a2y | exact a2k | exact a2o | exact a5s | exact b1c | exact b0u | exact trS | exact trV))))));all_goals exact Tr.refl)):p:=h.go k
def O.sm:O→Prop
 | .num n d=>(j4 n).length < 9000∧(i7 d).length < 9000
 | .sy s=>s.1.length < 9000∧s.2.length < 9000
 | .tx s=>s.length < 9000
 | .co a d=>a.sm∧d.sm
 | .no=>True
def O.fm:O→Bool
 | .num n d=>decide (t7 (j4 n) (i7 d)=(j4 n,i7 d)∧E6 (j4 n)≤100∧E6 (i7 d)≤100)
 | .sy s=>named s
 | .tx s=>decide (s.length≤200)
 | .co a d=>a.fm && d.fm
 | .no=>false
end
end Go.Proofs.YtffaodopiifbkaaGreatDoor
