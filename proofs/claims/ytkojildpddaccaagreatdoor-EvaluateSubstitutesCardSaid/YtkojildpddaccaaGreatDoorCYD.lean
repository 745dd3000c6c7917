/- What the definitions of the prelude are, read by the program and by the reference. -/
import Derived.Test.YtkojildpddaccaaGreatDoorCLT
set_option linter.all false
namespace Go.Proofs.YtkojildpddaccaaGreatDoor
open Go.Abs
set_option maxRecDepth 100000
set_option maxHeartbeats 4000000
def uL:Q:=.str 4 1886611820
def uE:Q:=.str 0 0
def uZ:Q:=.slice .nil 0 0 0
def uO:Q:=.int .i64 0
def uX:Q:=.str 1 120
def E5 (x0 x1:Q):Q:=(.agg [(.int .i64 2),uE,uE,x0,x1,uE,uZ] 0)
def N0:Q:=(E5 uL (.str 5 474416047460))
def b2n:Q:=(E5 uL (.str 3 7630702))
def c5y:Q:=(E5 uL (.str 1 112))
def C8:Q:=(E5 uL (.str 3 7104878))
def s7 (x0 x1:Q):Q:=(.agg [(.int .i64 4),uE,uE,uE,uE,uE,(.slice (.node x0 (.node x1 .nil .nil) .nil) 7 0 2)] 0)
def P3:Q:=(E5 uL (.str 2 26217))
def c0m:Q:=(E5 uL (.str 1 116))
def c52:Q:=(s7 c0m C8)
def e4z:Q:=(s7 C8 c52)
def d3a:Q:=(E5 uL (.str 1 113))
def e40:Q:=(s7 c5y (s7 d3a C8))
def a7i:Q:=(s7 C8 C8)
def e41:Q:=(s7 P3 (s7 d3a (s7 c0m a7i)))
def b4c:Q:=(E5 uL uX)
def G7:Q:=(s7 b4c C8)
def b0m:Q:=(E5 uL (.str 5 465491554661))
def d3b:Q:=(s7 (s7 b0m (s7 b4c a7i)) C8)
def e1e (x0 x1:Q):Q:=(.agg [(.int .i64 1),x0,x1,uE,uE,uE,uZ] 0)
def e42:Q:=(e1e (.str 1 48) (.str 1 49))
def b4d:Q:=(s7 e42 C8)
def c4d:Q:=(s7 b4c b4d)
def c4e:Q:=(E5 uL (.str 16 154763657438445722016110534213293714799))
def b76:Q:=(E5 uL (.str 5 482972954467))
def a2l:Q:=(s7 b76 G7)
def c4f:Q:=(E5 uL (.str 3 7496035))
def c4g:Q:=(s7 c4f G7)
def b4e:Q:=(s7 c4g C8)
def e43:Q:=(E5 uL (.str 3 7759218))
def d3c:Q:=(E5 uL (.str 7 28554821420279149))
def b77:Q:=(E5 uL (.str 5 500069396323))
def a7j:Q:=(s7 d3c (s7 (s7 b77 G7) C8))
def d3d:Q:=(E5 uL (.str 3 7496803))
def d3e:Q:=(s7 d3d G7)
def b0n:Q:=(s7 d3e C8)
def e44:Q:=(E5 uL (.str 4 2020173422))
def c5k:Q:=(E5 uL (.str 4 1886675310))
def c5l:Q:=(s7 c5k G7)
def c5m:Q:=(E5 uL (.str 3 7351663))
def c5n:Q:=(E5 uL (.str 6 123619517017455))
def d5s:Q:=(s7 c5n G7)
def c5o:Q:=(E5 uL (.str 3 6581857))
def c5p:Q:=(s7 c4e G7)
def d5t:Q:=(s7 c5p C8)
def d5u:Q:=(E5 uL (.str 4 1886613360))
def c5q:Q:=(E5 uL (.str 19 2596503303086219638716254741629954753688907119))
def d5v:Q:=(s7 c5q G7)
def c5r:Q:=(E5 uL (.str 6 128038972042607))
def d5w:Q:=(s7 c5r G7)
def d5x:Q:=(s7 d5w C8)
def b71:Q:=(E5 uL (.str 2 15471))
def d5y:Q:=(E5 uL (.str 10 493273875644262058848373))
def c5s:Q:=(E5 uL (.str 1 110))
def d5z:Q:=(E5 uL (.str 1 118))
def b72:Q:=(E5 uL (.str 5 431415719271))
def b73:Q:=(s7 c5s C8)
def c5t:Q:=(E5 uL (.str 10 531053184691079719776884))
def d50:Q:=(s7 (s7 c5t G7) C8)
def d51:Q:=(s7 b72 (s7 (s7 c5o (s7 (s7 c5k b73) d50)) C8))
def d52:Q:=(s7 d3c (s7 (s7 e44 b73) C8))
def d53:Q:=(E5 uL (.str 2 28794))
def d54:Q:=(s7 d53 b73)
def c5u:Q:=(E5 uL (.str 4 1936617315))
def d55:Q:=(s7 d5z b0n)
def c5v:Q:=(E5 uL (.str 1 43))
def d56:Q:=(s7 c5v (s7 (e1e (.str 2 12589) (.str 1 49)) b73))
def d57:Q:=(s7 (s7 b2n (s7 a2l C8)) C8)
def d58:Q:=(s7 G7 d57)
def b74:Q:=(s7 (E5 uL (.str 8 8102650174351109737)) G7)
def b75:Q:=(E5 uL (.str 1 60))
def d59:Q:=(E5 uL (.str 11 131024224507261934500016993))
def c5w:Q:=(E5 uL (.str 1 107))
def b2o:Q:=(s7 (E5 uL (.str 1 97)) C8)
def d6a:Q:=(E5 uL (.str 4 1684959075))
def c5x:Q:=(s7 (s7 c4f b2o) C8)
def d6b:Q:=(e1e (.str 1 49) (.str 1 49))
def d6c:Q:=(E5 uL (.str 12 33542201473859071681443489133))
def c5z:Q:=(E5 uL (.str 1 101))
def d6d:Q:=(s7 b72 d50)
def d6e:Q:=(s7 b75 (s7 e42 G7))
def d6f:Q:=(E5 uL (.str 3 7234924))
def a4f:Q:=(s7 (E5 uL (.str 1 121)) C8)
def c50:Q:=(s7 b4c a4f)
def d6g:Q:=(s7 c5p (s7 (s7 c4e a4f) C8))
def d6h:Q:=(s7 d5v (s7 (s7 c5q a4f) C8))
def d6i:Q:=(E5 uL (.str 3 6845550))
def d6j:Q:=(E5 uL (.str 13 7956982234992646598644298836322))
def DR:V:=(.slice (.node (s7 N0 (s7 b2n (s7 (s7 c5y C8) (s7 (s7 P3 (s7 c5y e4z)) C8)))) (.node (s7 N0 (s7 (E5 uL (.str 7 32481125787004265)) (s7 e40 (s7 (s7 P3 (s7 c5y (s7 e41 c52))) C8)))) (.node (s7 N0 (s7 (E5 uL (.str 8 8101519867924934498)) (s7 G7 (s7 (s7 P3 (s7 (s7 b0m (s7 b4c c52)) (s7 c0m d3b))) C8)))) (.node (s7 N0 (s7 (E5 uL (.str 3 7891302)) (s7 G7 (s7 (s7 P3 (s7 (s7 (E5 uL (.str 9 2073844980909096591730)) G7) c4d)) C8)))) (.node (s7 N0 (s7 c4e (s7 G7 (s7 (s7 P3 (s7 a2l (s7 (s7 c4f b4e) b4d))) C8)))) .nil .nil) (.node (s7 N0 (s7 e43 (s7 G7 (s7 a7j (s7 (s7 P3 (s7 a2l (s7 (s7 (E5 uL (.str 6 110425311047777)) (s7 (s7 e43 b0n) (s7 (s7 (E5 uL (.str 4 1953720684)) b4e) C8))) a7i))) C8))))) .nil .nil)) (.node (s7 N0 (s7 e44 (s7 G7 (s7 (s7 P3 (s7 c5l c4d)) C8)))) (.node (s7 N0 (s7 c5m (s7 G7 (s7 a7j (s7 (s7 P3 (s7 d5s (s7 c5l (s7 (s7 c5o (s7 (s7 b76 b4e) (s7 (s7 c5m d5t) (s7 (s7 b2n (s7 (s7 b0m (s7 c5p b4d)) C8)) (s7 (s7 d5u (s7 d5v C8)) (s7 (s7 c5m d5x) (s7 (s7 b71 (s7 (s7 c4e d5x) d5t)) C8))))))) C8)))) C8))))) .nil .nil) (.node (s7 N0 (s7 d5y (s7 (s7 c5s (s7 d5z G7)) (s7 d51 (s7 d52 (s7 (s7 P3 (s7 d54 (s7 (s7 c5u d55) (s7 (s7 c5u (s7 c4g (s7 (s7 d5y (s7 d56 d55)) C8))) C8)))) C8)))))) .nil .nil))) (.node (s7 N0 (s7 (E5 uL (.str 4 1836020833)) d58)) (.node (s7 N0 (s7 c5k (s7 G7 (s7 (s7 P3 (s7 b74 (s7 (s7 b2n (s7 (s7 b75 c4d) C8)) a7i))) C8)))) (.node (s7 N0 (s7 c5r (s7 G7 (s7 (s7 P3 (s7 a2l (s7 d3e b4d))) C8)))) .nil .nil) (.node (s7 N0 (s7 d59 (s7 (s7 c5w b2o) (s7 (s7 d3c (s7 (s7 b77 b2o) C8)) (s7 (s7 d6a (s7 (s7 (s7 b2n (s7 (s7 b76 b2o) C8)) a7i) (s7 (s7 (s7 c5o (s7 (s7 b76 c5x) (s7 (s7 b0m (s7 c5w (s7 (s7 c4f c5x) C8))) C8))) c5x) (s7 (s7 c0m (s7 (s7 d59 (s7 c5w (s7 (s7 d3d b2o) C8))) C8)) C8)))) C8))))) .nil .nil)) (.node (s7 N0 (s7 b77 (s7 G7 (s7 a7j (s7 (s7 P3 (s7 a2l (s7 (s7 c5v (s7 d6b (s7 (s7 b77 b4e) (s7 (s7 b77 b0n) C8)))) b4d))) C8))))) (.node (s7 N0 (s7 c5t (s7 G7 (s7 a7j (s7 (s7 P3 (s7 a2l (s7 (s7 c5t b0n) d3b))) C8))))) .nil .nil) .nil))) (.node (s7 N0 (s7 (E5 uL (.str 3 6710889)) (s7 e40 (s7 (s7 P3 (s7 c5y (s7 e41 (s7 (s7 P3 (s7 d3a e4z)) C8)))) C8)))) (.node (s7 N0 (s7 (E5 uL (.str 7 31657557352151411)) (s7 G7 c52))) (.node (s7 N0 (s7 (E5 uL (.str 4 2020173417)) (s7 G7 (s7 (s7 P3 (s7 b74 c4d)) C8)))) (.node (s7 N0 (s7 c5q (s7 G7 (s7 (s7 P3 (s7 a2l (s7 (s7 d3d b4e) G7))) C8)))) .nil .nil) (.node (s7 N0 (s7 d6c (s7 (s7 c5z G7) (s7 d6d (s7 a7j (s7 (s7 P3 (s7 a2l (s7 (s7 P3 (s7 (s7 b0m (s7 c5z b4e)) (s7 b4c (s7 (s7 d6c (s7 c5z b0n)) C8)))) a7i))) C8)))))) .nil .nil)) (.node (s7 N0 (s7 d53 (s7 G7 (s7 (s7 b72 (s7 c5l C8)) (s7 (s7 P3 (s7 b74 (s7 (s7 b2n (s7 d6e C8)) c52))) C8))))) (.node (s7 N0 (s7 d6f (s7 G7 (s7 a7j (s7 (s7 P3 (s7 a2l (s7 (s7 c5v (s7 d6b (s7 (s7 d6f b0n) C8))) b4d))) C8))))) .nil .nil) .nil)) (.node (s7 N0 (s7 (E5 uL (.str 4 1885630053)) (s7 G7 (s7 (s7 b72 (s7 (s7 (E5 uL (.str 2 29295)) (s7 a2l d3b)) C8)) d57)))) (.node (s7 N0 (s7 d5u (s7 G7 (s7 (s7 P3 (s7 b74 (s7 d6e a7i))) C8)))) (.node (s7 N0 (s7 b71 (s7 c50 (s7 a7j (s7 (s7 d6a (s7 (s7 d5s (s7 (s7 P3 (s7 (s7 b76 a4f) (s7 c0m (s7 (s7 b75 c50) C8)))) C8)) (s7 (s7 (s7 c5n a4f) a7i) (s7 (s7 (s7 b2n (s7 (s7 b0m d6g) C8)) (s7 (s7 b71 d6g) C8)) (s7 (s7 (s7 b2n (s7 (s7 b0m d6h) C8)) (s7 (s7 b75 d6h) C8)) (s7 (s7 c0m (s7 (s7 b71 (s7 d5w (s7 (s7 c5r a4f) C8))) C8)) C8)))))) C8))))) .nil .nil) (.node (s7 N0 (s7 d6i (s7 (s7 c5s G7) (s7 d51 (s7 d52 (s7 (s7 P3 (s7 d54 (s7 c4g (s7 (s7 d6i (s7 d56 b0n)) C8)))) C8)))))) .nil .nil)) (.node (s7 N0 (s7 c5n d58)) (.node (s7 N0 (s7 d6j (s7 c50 (s7 d6d (s7 a7j (s7 (s7 P3 (s7 a2l (s7 (s7 c5u (s7 c4g (s7 (s7 d6j (s7 d3e a4f)) C8))) a4f))) C8)))))) .nil .nil) .nil)))) 7 0 28 .no)
def slT:V→TQ
 | .slice t _ _ _ _=>t
 | _=>.nil
theorem g39:RL 29 [] []=some (.ret DR,[]):=kR
end Go.Proofs.YtkojildpddaccaaGreatDoor
namespace Go.Proofs.YtkojildpddaccaaGreatDoor
open Go.Abs
set_option maxRecDepth 100000
set_option maxHeartbeats 4000000
noncomputable section
def ft1:a28:=(29,fun _=>c68 (.ret DR,[])) :: ftU
theorem d6w:∀ g F,(g,F) ∈ ft1→∀ fn,(∀ g,G8 X0 g (fn g))→G8 X0 g (F fn):=c69 d6x (g1q 29) g39
def N5 (g:FuncId):F3:=a4s (b1f ft1 300 g)
def CUv (lpv:((LV→LB→Om)→LV→LB→Om)→LV→LB→Om):C3:={ CU with lp:=lpv }
theorem f2g:CUv lp=CU:=rfl
def lpN (n:Nat) (body:(LV→LB→Om)→LV→LB→Om):LV→LB→Om:=Nat.rec (motive:=fun _=>LV→LB→Om) (fun _ _=>none) (fun _ ih=>body ih) n
theorem g4z (body:(LV→LB→Om)→LV→LB→Om):lp body=lpN 100000 body:=kR
theorem d8u {T:a28} {n:Nat} {g:FuncId} {F:FF→F3} (h:a7t g T=some F):a4s (b1f T (n+1) g)=F fun g=>a4s (b1f T n g):=by
 show a4s (match a7t g T with
  | some F=>⟨F fun g=>a4s (b1f T n g)⟩
  | none=>⟨fun _ _=>none⟩)=_
 rw [h];rfl
theorem f2z:N5 29 [] []=some (.ret DR,[]):=kR
end
end Go.Proofs.YtkojildpddaccaaGreatDoor
