/- What the definitions of the prelude are, read by the program and by the reference. -/
import Derived.Test.YtkojildpddaccaaGreatDoorCLT
set_option linter.all false
namespace Go.Proofs.YtkojildpddaccaaGreatDoor
open Go.Abs
set_option maxRecDepth 100000
set_option maxHeartbeats 4000000
def uL:Q:=.str 4 1886611820
def uE:Q:=.str 0 0
def uZ:Q:=.slice .nil 0 0 0
def uO:Q:=.int .i64 0
def uX:Q:=.str 1 120
def D7 (x0 x1:Q):Q:=(.agg [(.int .i64 2),uE,uE,x0,x1,uE,uZ] 0)
def L0:Q:=(D7 uL (.str 5 474416047460))
def b04:Q:=(D7 uL (.str 3 7630702))
def c21:Q:=(D7 uL (.str 1 112))
def B7:Q:=(D7 uL (.str 3 7104878))
def o9 (x0 x1:Q):Q:=(.agg [(.int .i64 4),uE,uE,uE,uE,uE,(.slice (.node x0 (.node x1 .nil .nil) .nil) 7 0 2)] 0)
def N1:Q:=(D7 uL (.str 2 26217))
def b75:Q:=(D7 uL (.str 1 116))
def c24:Q:=(o9 b75 B7)
def e5e:Q:=(o9 B7 c24)
def d0t:Q:=(D7 uL (.str 1 113))
def e5f:Q:=(o9 c21 (o9 d0t B7))
def a6a:Q:=(o9 B7 B7)
def e5g:Q:=(o9 N1 (o9 d0t (o9 b75 a6a)))
def b2m:Q:=(D7 uL uX)
def F4:Q:=(o9 b2m B7)
def a9d:Q:=(D7 uL (.str 5 465491554661))
def d0u:Q:=(o9 (o9 a9d (o9 b2m a6a)) B7)
def d9r (x0 x1:Q):Q:=(.agg [(.int .i64 1),x0,x1,uE,uE,uE,uZ] 0)
def e5h:Q:=(d9r (.str 1 48) (.str 1 49))
def b2n:Q:=(o9 e5h B7)
def c1j:Q:=(o9 b2m b2n)
def c1k:Q:=(D7 uL (.str 16 154763657438445722016110534213293714799))
def b5t:Q:=(D7 uL (.str 5 482972954467))
def a1p:Q:=(o9 b5t F4)
def c1l:Q:=(D7 uL (.str 3 7496035))
def c1m:Q:=(o9 c1l F4)
def b2o:Q:=(o9 c1m B7)
def e5i:Q:=(D7 uL (.str 3 7759218))
def d0v:Q:=(D7 uL (.str 7 28554821420279149))
def b5u:Q:=(D7 uL (.str 5 500069396323))
def a6b:Q:=(o9 d0v (o9 (o9 b5u F4) B7))
def d0w:Q:=(D7 uL (.str 3 7496803))
def d0x:Q:=(o9 d0w F4)
def a9e:Q:=(o9 d0x B7)
def e5j:Q:=(D7 uL (.str 4 2020173422))
def c2n:Q:=(D7 uL (.str 4 1886675310))
def c2o:Q:=(o9 c2n F4)
def c2p:Q:=(D7 uL (.str 3 7351663))
def c2q:Q:=(D7 uL (.str 6 123619517017455))
def d4e:Q:=(o9 c2q F4)
def c2r:Q:=(D7 uL (.str 3 6581857))
def c2s:Q:=(o9 c1k F4)
def d4f:Q:=(o9 c2s B7)
def d4g:Q:=(D7 uL (.str 4 1886613360))
def c2t:Q:=(D7 uL (.str 19 2596503303086219638716254741629954753688907119))
def d4h:Q:=(o9 c2t F4)
def c2u:Q:=(D7 uL (.str 6 128038972042607))
def d4i:Q:=(o9 c2u F4)
def d4j:Q:=(o9 d4i B7)
def b5o:Q:=(D7 uL (.str 2 15471))
def d4k:Q:=(D7 uL (.str 10 493273875644262058848373))
def c2v:Q:=(D7 uL (.str 1 110))
def d4l:Q:=(D7 uL (.str 1 118))
def b5p:Q:=(D7 uL (.str 5 431415719271))
def b5q:Q:=(o9 c2v B7)
def c2w:Q:=(D7 uL (.str 10 531053184691079719776884))
def d4m:Q:=(o9 (o9 c2w F4) B7)
def d4n:Q:=(o9 b5p (o9 (o9 c2r (o9 (o9 c2n b5q) d4m)) B7))
def d4o:Q:=(o9 d0v (o9 (o9 e5j b5q) B7))
def d4p:Q:=(D7 uL (.str 2 28794))
def d4q:Q:=(o9 d4p b5q)
def c2x:Q:=(D7 uL (.str 4 1936617315))
def d4r:Q:=(o9 d4l a9e)
def c2y:Q:=(D7 uL (.str 1 43))
def d4s:Q:=(o9 c2y (o9 (d9r (.str 2 12589) (.str 1 49)) b5q))
def d4t:Q:=(o9 (o9 b04 (o9 a1p B7)) B7)
def d4u:Q:=(o9 F4 d4t)
def b5r:Q:=(o9 (D7 uL (.str 8 8102650174351109737)) F4)
def b5s:Q:=(D7 uL (.str 1 60))
def d4v:Q:=(D7 uL (.str 11 131024224507261934500016993))
def c2z:Q:=(D7 uL (.str 1 107))
def b05:Q:=(o9 (D7 uL (.str 1 97)) B7)
def d4w:Q:=(D7 uL (.str 4 1684959075))
def c20:Q:=(o9 (o9 c1l b05) B7)
def d4x:Q:=(d9r (.str 1 49) (.str 1 49))
def d4y:Q:=(D7 uL (.str 12 33542201473859071681443489133))
def c22:Q:=(D7 uL (.str 1 101))
def d4z:Q:=(o9 b5p d4m)
def d40:Q:=(o9 b5s (o9 e5h F4))
def d41:Q:=(D7 uL (.str 3 7234924))
def a3l:Q:=(o9 (D7 uL (.str 1 121)) B7)
def c23:Q:=(o9 b2m a3l)
def d42:Q:=(o9 c2s (o9 (o9 c1k a3l) B7))
def d43:Q:=(o9 d4h (o9 (o9 c2t a3l) B7))
def d44:Q:=(D7 uL (.str 3 6845550))
def d45:Q:=(D7 uL (.str 13 7956982234992646598644298836322))
def DR:V:=(.slice (.node (o9 L0 (o9 b04 (o9 (o9 c21 B7) (o9 (o9 N1 (o9 c21 e5e)) B7)))) (.node (o9 L0 (o9 (D7 uL (.str 7 32481125787004265)) (o9 e5f (o9 (o9 N1 (o9 c21 (o9 e5g c24))) B7)))) (.node (o9 L0 (o9 (D7 uL (.str 8 8101519867924934498)) (o9 F4 (o9 (o9 N1 (o9 (o9 a9d (o9 b2m c24)) (o9 b75 d0u))) B7)))) (.node (o9 L0 (o9 (D7 uL (.str 3 7891302)) (o9 F4 (o9 (o9 N1 (o9 (o9 (D7 uL (.str 9 2073844980909096591730)) F4) c1j)) B7)))) (.node (o9 L0 (o9 c1k (o9 F4 (o9 (o9 N1 (o9 a1p (o9 (o9 c1l b2o) b2n))) B7)))) .nil .nil) (.node (o9 L0 (o9 e5i (o9 F4 (o9 a6b (o9 (o9 N1 (o9 a1p (o9 (o9 (D7 uL (.str 6 110425311047777)) (o9 (o9 e5i a9e) (o9 (o9 (D7 uL (.str 4 1953720684)) b2o) B7))) a6a))) B7))))) .nil .nil)) (.node (o9 L0 (o9 e5j (o9 F4 (o9 (o9 N1 (o9 c2o c1j)) B7)))) (.node (o9 L0 (o9 c2p (o9 F4 (o9 a6b (o9 (o9 N1 (o9 d4e (o9 c2o (o9 (o9 c2r (o9 (o9 b5t b2o) (o9 (o9 c2p d4f) (o9 (o9 b04 (o9 (o9 a9d (o9 c2s b2n)) B7)) (o9 (o9 d4g (o9 d4h B7)) (o9 (o9 c2p d4j) (o9 (o9 b5o (o9 (o9 c1k d4j) d4f)) B7))))))) B7)))) B7))))) .nil .nil) (.node (o9 L0 (o9 d4k (o9 (o9 c2v (o9 d4l F4)) (o9 d4n (o9 d4o (o9 (o9 N1 (o9 d4q (o9 (o9 c2x d4r) (o9 (o9 c2x (o9 c1m (o9 (o9 d4k (o9 d4s d4r)) B7))) B7)))) B7)))))) .nil .nil))) (.node (o9 L0 (o9 (D7 uL (.str 4 1836020833)) d4u)) (.node (o9 L0 (o9 c2n (o9 F4 (o9 (o9 N1 (o9 b5r (o9 (o9 b04 (o9 (o9 b5s c1j) B7)) a6a))) B7)))) (.node (o9 L0 (o9 c2u (o9 F4 (o9 (o9 N1 (o9 a1p (o9 d0x b2n))) B7)))) .nil .nil) (.node (o9 L0 (o9 d4v (o9 (o9 c2z b05) (o9 (o9 d0v (o9 (o9 b5u b05) B7)) (o9 (o9 d4w (o9 (o9 (o9 b04 (o9 (o9 b5t b05) B7)) a6a) (o9 (o9 (o9 c2r (o9 (o9 b5t c20) (o9 (o9 a9d (o9 c2z (o9 (o9 c1l c20) B7))) B7))) c20) (o9 (o9 b75 (o9 (o9 d4v (o9 c2z (o9 (o9 d0w b05) B7))) B7)) B7)))) B7))))) .nil .nil)) (.node (o9 L0 (o9 b5u (o9 F4 (o9 a6b (o9 (o9 N1 (o9 a1p (o9 (o9 c2y (o9 d4x (o9 (o9 b5u b2o) (o9 (o9 b5u a9e) B7)))) b2n))) B7))))) (.node (o9 L0 (o9 c2w (o9 F4 (o9 a6b (o9 (o9 N1 (o9 a1p (o9 (o9 c2w a9e) d0u))) B7))))) .nil .nil) .nil))) (.node (o9 L0 (o9 (D7 uL (.str 3 6710889)) (o9 e5f (o9 (o9 N1 (o9 c21 (o9 e5g (o9 (o9 N1 (o9 d0t e5e)) B7)))) B7)))) (.node (o9 L0 (o9 (D7 uL (.str 7 31657557352151411)) (o9 F4 c24))) (.node (o9 L0 (o9 (D7 uL (.str 4 2020173417)) (o9 F4 (o9 (o9 N1 (o9 b5r c1j)) B7)))) (.node (o9 L0 (o9 c2t (o9 F4 (o9 (o9 N1 (o9 a1p (o9 (o9 d0w b2o) F4))) B7)))) .nil .nil) (.node (o9 L0 (o9 d4y (o9 (o9 c22 F4) (o9 d4z (o9 a6b (o9 (o9 N1 (o9 a1p (o9 (o9 N1 (o9 (o9 a9d (o9 c22 b2o)) (o9 b2m (o9 (o9 d4y (o9 c22 a9e)) B7)))) a6a))) B7)))))) .nil .nil)) (.node (o9 L0 (o9 d4p (o9 F4 (o9 (o9 b5p (o9 c2o B7)) (o9 (o9 N1 (o9 b5r (o9 (o9 b04 (o9 d40 B7)) c24))) B7))))) (.node (o9 L0 (o9 d41 (o9 F4 (o9 a6b (o9 (o9 N1 (o9 a1p (o9 (o9 c2y (o9 d4x (o9 (o9 d41 a9e) B7))) b2n))) B7))))) .nil .nil) .nil)) (.node (o9 L0 (o9 (D7 uL (.str 4 1885630053)) (o9 F4 (o9 (o9 b5p (o9 (o9 (D7 uL (.str 2 29295)) (o9 a1p d0u)) B7)) d4t)))) (.node (o9 L0 (o9 d4g (o9 F4 (o9 (o9 N1 (o9 b5r (o9 d40 a6a))) B7)))) (.node (o9 L0 (o9 b5o (o9 c23 (o9 a6b (o9 (o9 d4w (o9 (o9 d4e (o9 (o9 N1 (o9 (o9 b5t a3l) (o9 b75 (o9 (o9 b5s c23) B7)))) B7)) (o9 (o9 (o9 c2q a3l) a6a) (o9 (o9 (o9 b04 (o9 (o9 a9d d42) B7)) (o9 (o9 b5o d42) B7)) (o9 (o9 (o9 b04 (o9 (o9 a9d d43) B7)) (o9 (o9 b5s d43) B7)) (o9 (o9 b75 (o9 (o9 b5o (o9 d4i (o9 (o9 c2u a3l) B7))) B7)) B7)))))) B7))))) .nil .nil) (.node (o9 L0 (o9 d44 (o9 (o9 c2v F4) (o9 d4n (o9 d4o (o9 (o9 N1 (o9 d4q (o9 c1m (o9 (o9 d44 (o9 d4s a9e)) B7)))) B7)))))) .nil .nil)) (.node (o9 L0 (o9 c2q d4u)) (.node (o9 L0 (o9 d45 (o9 c23 (o9 d4z (o9 a6b (o9 (o9 N1 (o9 a1p (o9 (o9 c2x (o9 c1m (o9 (o9 d45 (o9 d0x a3l)) B7))) a3l))) B7)))))) .nil .nil) .nil)))) 7 0 28 .no)
def slT:V→TQ
 | .slice t _ _ _ _=>t
 | _=>.nil
theorem g3u:RL 29 [] []=some (.ret DR,[]):=kR
end Go.Proofs.YtkojildpddaccaaGreatDoor
namespace Go.Proofs.YtkojildpddaccaaGreatDoor
open Go.Abs
set_option maxRecDepth 100000
set_option maxHeartbeats 4000000
noncomputable section
def ft1:a1k:=(29,fun _=>c4c (.ret DR,[])) :: ftU
theorem d5i:∀ g F,(g,F) ∈ ft1→∀ fn,(∀ g,E3 X0 g (fn g))→E3 X0 g (F fn):=c4d c3r (g08 29) g3u
def L5 (g:FuncId):D8:=a2c (a7r ft1 300 g)
def CUv (lpv:((LV→LB→Om)→LV→LB→Om)→LV→LB→Om):B0:={ CU with lp:=lpv }
theorem f3x:CUv lp=CU:=rfl
def lpN (n:Nat) (body:(LV→LB→Om)→LV→LB→Om):LV→LB→Om:=Nat.rec (motive:=fun _=>LV→LB→Om) (fun _ _=>none) (fun _ ih=>body ih) n
theorem g4p (body:(LV→LB→Om)→LV→LB→Om):lp body=lpN 100000 body:=kR
theorem d7h {T:a1k} {n:Nat} {g:FuncId} {F:FF→D8} (h:a6k g T=some F):a2c (a7r T (n+1) g)=F fun g=>a2c (a7r T n g):=by
 show a2c (match a6k g T with
  | some F=>⟨F fun g=>a2c (a7r T n g)⟩
  | none=>⟨fun _ _=>none⟩)=_
 rw [h]
 rfl
theorem f44:L5 29 [] []=some (.ret DR,[]):=kR
end
end Go.Proofs.YtkojildpddaccaaGreatDoor
