/- The reference's objects: which are formed, which are valid; lists; numbers. -/
import Derived.Test.YtdldcfllnohkeaaGreatDoorCR5c
set_option linter.all false
namespace Go.Proofs.YtdldcfllnohkeaaGreatDoor
open Go.Abs LQ
set_option maxRecDepth 100000
set_option maxHeartbeats 4000000
noncomputable section
section
variable {U:v8} {P:L6→List Bx→Prop}
theorem e9e {a b:Int} {x y:Om} (h:a=b) (k:j5 U x P):j5 U (U.cnd (U.iEq a b) x y) P:=c1a a7t (fun _=>k) (fun n=>absurd h n)
theorem e9d {a b:Int} {x y:Om} (h:¬a=b) (k:j5 U y P):j5 U (U.cnd (U.iEq a b) x y) P:=c1a a7t (fun n=>absurd n h) (fun _=>k)
end
theorem Zz {p q:Prop} (k:q) (h:Tr p q:=by ((repeat' (first | (with_reducible apply Tr.all) | (with_reducible intro _) | (apply Tr.b;(case f=>first | exact e9e dE | exact e9d dE | exact sCndS0 (by rfl) | exact sCndBandS (by rfl) | exact sCndBandT | exact b8y | exact a26 aS | exact c79 | exact b4k aS | exact b8z | exact a7r aS | exact b3a | exact b4j aS | exact sP | exact sPR aS | exact sIV | exact sI aS | exact sBV | exact sBK | exact sB aS | exact sSV | exact sS aS | exact sA | exact M5 aS (by rfl) | exact c1b (by rfl) | exact c8b (by rfl) | exact c4p aS (by rfl) | exact c8c aS (by rfl) | exact d40 aS | exact sSl aS | exact sTu aS | exact sBo | exact a7q aS (by rfl) | exact sBc | exact d4y aS | exact sBt | exact sBs | exact sBr | exact a28 aS | exact b85 aS | exact b81 aS (by rfl) | exact d4z aS (by rfl) | exact sCI' aS (by rfl) | exact sCB' aS (by rfl) | exact sCS aS | exact sCI aS | exact sCB aS | exact b83 (by first | omega | (simp only [List.length_map] at *;omega)) | exact b82 (by first | omega | (simp only [List.length_map] at *;omega)) | exact c4r | exact b4l | exact b4n | exact c4q | exact b84 | exact b80 | exact sfSubN | exact b4m | exact sfBSelE | exact sfB | exact sJn | exact c4o | exact c4m | exact c4n | exact E8 aS (by (first | exact A0 O.g_len | exact A0 (fun _=>rfl))) | exact b29 aS (by (first | exact A0 O.g_len | exact A0 (fun _=>rfl))) | exact c4t (by first | omega | (simp only [List.length_map] at *;omega)) | exact b86 (by first | omega | (simp only [List.length_map] at *;omega)) | exact d42 aS (by first | assumption | omega | (simp only [List.length_map] at *;omega)) | exact sfT aS (by rfl))) | (apply Tr.chk;(case ht=>(repeat' (first | exact trT | exact trF | apply a6c | apply a58 | exact a6b | exact a6a | exact a5l | exact a7u | exact a7t | exact a3h | exact a3i | exact a3g | exact a3f | exact a3e | exact a6e | exact b1i | exact b1h | exact trS | exact trV)));(case hp=>first | omega | (simp only [List.length_map] at *;omega))) | (apply Tr.cnd;(case ht=>(repeat' (first | exact trT | exact trF | apply a6c | apply a58 | exact a6b | exact a6a | exact a5l | exact a7u | exact a7t | exact a3h | exact a3i | exact a3g | exact a3f | exact a3e | exact a6e | exact b1i | exact b1h | exact trS | exact trV))))));all_goals exact Tr.refl)):p:=h.go k
def O.sm:O→Prop
 | .num n d=>(j3 n).length < 9000∧(i7 d).length < 9000
 | .sy s=>s.1.length < 9000∧s.2.length < 9000
 | .tx s=>s.length < 9000
 | .co a d=>a.sm∧d.sm
 | .no=>True
def O.fm:O→Bool
 | .num n d=>decide (u4 (j3 n) (i7 d)=(j3 n,i7 d)∧G8 (j3 n)≤100∧G8 (i7 d)≤100)
 | .sy s=>named s
 | .tx s=>decide (s.length≤200)
 | .co a d=>a.fm && d.fm
 | .no=>false
end
end Go.Proofs.YtdldcfllnohkeaaGreatDoor
