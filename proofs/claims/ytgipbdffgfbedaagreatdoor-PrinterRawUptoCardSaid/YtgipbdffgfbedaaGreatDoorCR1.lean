/- Typed data, what stands for it in runs, and the rules by which a function's text is walked over data that are not known. No program in sight. -/
import Derived.Test.YtgipbdffgfbedaaGreatDoorCQ2
set_option linter.all false
namespace Go.Abs
noncomputable section
open Go.Abs

inductive G where
 | b (x:Bool)
 | i (k:IntKind) (n:Int)
 | s (x:List UInt8)
 | l (xs:List (List G))

mutual
/-- A value of one cell stands for this. -/
inductive RG:G→Q→Prop
 | b (x:Bool):RG (.b x) (.bool x)
 | i (k:IntKind) (n:Int):RG (.i k n) (.int k n)
 | s (x:List UInt8) (l c:Nat):l=x.length→c=j9 x→RG (.s x) (.str l c)
 | l (xs:List (List G)) (t:j0 Q) (n off len:Nat):len=xs.length→n7 n xs t off→RG (.l xs) (.slice t n off len)
/-- The elements, n cells each, stand in a tree from a place on. -/
inductive n7:Nat→List (List G)→j0 Q→Nat→Prop
 | nil (n:Nat) (t:j0 Q) (off:Nat):n7 n [] t off
 | cons (n:Nat) (r:List G) (rs:List (List G)) (t:j0 Q) (off:Nat):r.length=n→u3 r (tQ t off) 0→(∀ g,r=[g]→RG g (tQ t off))→n7 n rs t (off+1)→n7 n (r :: rs) t off
/-- The cells stand in a value from a place on. -/
inductive u3:List G→Q→Nat→Prop
 | nil (q:Q) (i:Nat):u3 [] q i
 | cons (g:G) (gs:List G) (q:Q) (i:Nat):RG g (celQ q i)→u3 gs q (i+1)→u3 (g :: gs) q i
end

def Row (r:List G) (q:Q):Prop:=u3 r q 0∧∀ g,r=[g]→RG g q
theorem u3.get {gs:List G}:∀ {q:Q} {i j:Nat} {g:G},u3 gs q i→gs[j]?=some g→RG g (celQ q (i+j)):=by
 induction gs with
 | nil=>intro q i j g h e;simp at e
 | cons x gs ih =>
  intro q i j g h e
  cases h with
  | cons _ _ _ _ h1 h2 =>
   cases j with
   | zero=>simp at e;subst e;simpa using h1
   | succ j =>
    have:=ih h2 (j:=j) (by simpa using e)
    rw [show i+1+j=i+(j+1) by omega] at this
    exact this
theorem u3.of {gs:List G}:∀ {q:Q} {i:Nat},(∀ j g,gs[j]?=some g→RG g (celQ q (i+j)))→u3 gs q i:=by
 induction gs with
 | nil=>intro q i _;exact .nil q i
 | cons x gs ih =>
  intro q i h
  refine .cons _ _ _ _ (by simpa using h 0 x (by simp)) (ih fun j g e=>?_)
  have:=h (j+1) g (by simpa using e)
  rw [show i+1+j=i+(j+1) by omega]
  exact this
theorem n7.get {n:Nat} {xs:List (List G)}:∀ {t:j0 Q} {off j:Nat} {r:List G},n7 n xs t off→xs[j]?=some r→r.length=n∧Row r (tQ t (off+j)):=by
 induction xs with
 | nil=>intro t off j r h e;simp at e
 | cons x xs ih =>
  intro t off j r h e
  cases h with
  | cons _ _ _ _ _ h1 h2 h2' h3 =>
   cases j with
   | zero=>simp at e;subst e;exact ⟨h1,h2,h2'⟩
   | succ j =>
    have:=ih h3 (j:=j) (by simpa using e)
    rw [show off+1+j=off+(j+1) by omega] at this
    exact this
theorem n7.of {n:Nat} {xs:List (List G)}:∀ {t:j0 Q} {off:Nat},(∀ j r,xs[j]?=some r→r.length=n∧Row r (tQ t (off+j)))→n7 n xs t off:=by
 induction xs with
 | nil=>intro t off _;exact .nil n t off
 | cons x xs ih =>
  intro t off h
  refine .cons _ _ _ _ _ (h 0 x (by simp)).1 (h 0 x (by simp)).2.1 (h 0 x (by simp)).2.2 (ih fun j r e=>?_)
  have:=h (j+1) r (by simpa using e)
  rw [show off+1+j=off+(j+1) by omega]
  exact this
theorem n7.take {n:Nat} {xs:List (List G)} {t:j0 Q} {off:Nat} (h:n7 n xs t off) (k:Nat):n7 n (xs.take k) t off:=.of fun j r e=>by
 rw [List.getElem?_take] at e
 split at e
 ·exact h.get e
 ·cases e
theorem c4a (x:Q) (h:∀ i,celQ x i=Nat.rec (motive:=fun _=>Q) x (fun _ _=>.no) i) (h2:∀ i,subQ x i=Nat.rec (motive:=fun _=>Q) x (fun _ _=>.no) i) (k j:Nat):celQ (subQ x k) j=celQ x (k+j):=by
 rw [h2]
 cases k with
 | zero=>show celQ x j=celQ x (0+j);rw [Nat.zero_add]
 | succ k =>
  rw [h,show k+1+j=(k+j)+1 by omega]
  cases j <;> rfl
theorem d0b (x:Q) (k j:Nat):celQ (subQ x k) j=celQ x (k+j):=by
 cases x with
 | agg cs off=>show gL cs (off+k+j)=gL cs (off+(k+j));rw [Nat.add_assoc]
 | aggt t off=>show tQ t (off+k+j)=tQ t (off+(k+j));rw [Nat.add_assoc]
 | _=>exact c4a _ (fun _=>rfl) (fun _=>rfl) k j
theorem u3.drop {gs:List G} {q:Q} (k:Nat) (h:u3 gs q 0):u3 (gs.drop k) (subQ q k) 0:=.of fun j g e=>by
 rw [d0b]
 rw [List.getElem?_drop] at e
 have:=h.get e
 rw [show 0+(k+j)=k+(0+j) by omega] at this
 exact this
theorem u3.take {gs:List G} {q:Q} {i:Nat} (k:Nat) (h:u3 gs q i):u3 (gs.take k) q i:=.of fun j g e=>by
 rw [List.getElem?_take] at e
 split at e
 ·exact h.get e
 ·cases e

mutual
theorem RG.inj:∀ {g g':G} {x:Q},RG g x→RG g' x→g=g'
 | _,_,_,.b x,h=>by cases h;rfl
 | _,_,_,.i k n,h=>by cases h;rfl
 | _,_,_,.s x l c h1 h2,h=>by cases h with | s y _ _ h3 h4=>rw [← z7 x,← h1,← h2,h3,h4,z7]
 | _,_,_,.l xs t n off len h1 h2,h=>by cases h with | l ys _ _ _ _ h3 h4=>rw [n7.inj h2 h4 (h1.symm.trans h3)]
theorem n7.inj:∀ {n:Nat} {xs ys:List (List G)} {t:j0 Q} {off:Nat},n7 n xs t off→n7 n ys t off→xs.length=ys.length→xs=ys
 | _,_,ys,_,_,.nil n t off,h,e=>by cases ys with | nil=>rfl | cons _ _=>simp at e
 | _,_,_,_,_,.cons n r rs t off h1 h2 _ h3,h,e=>by
  cases h with
  | nil=>simp at e
  | cons _ r' rs' _ _ k1 k2 _ k3=>rw [u3.inj h2 k2 (h1.trans k1.symm),n7.inj h3 k3 (by simpa using e)]
theorem u3.inj:∀ {gs gs':List G} {q:Q} {i:Nat},u3 gs q i→u3 gs' q i→gs.length=gs'.length→gs=gs'
 | _,gs',_,_,.nil q i,h,e=>by cases gs' with | nil=>rfl | cons _ _=>simp at e
 | _,_,_,_,.cons g gs q i h1 h2,h,e=>by
  cases h with
  | nil=>simp at e
  | cons g' gs' _ _ k1 k2=>rw [RG.inj h1 k1,u3.inj h2 k2 (by simpa using e)]
end

inductive GV where
 | c (g:G)
 | a (gs:List G)
 | t (vs:List GV)
 | p (id off:Nat)
 | sl (n:Nat) (xs:List (List G))
 | fr (z:Nat) (xs:List (List G))
 | f0 (z:Nat) (xs:List (List G))
 | nilI
 | fl (t:TypeId) (e p:Int)
 | raw (v:V)

mutual
inductive RV:GV→V→Prop
 | b (x:Bool):RV (.c (.b x)) (.bool x)
 | kn (x:Bool):RV (.c (.b x)) (.known x)
 | i (k:IntKind) (n:Int):RV (.c (.i k n)) (.int k n)
 | s (x:List UInt8) (l c:Nat):l=x.length→c=j9 x→RV (.c (.s x)) (.str l c)
 | cl (xs:List (List G)) (t:j0 Q) (n off len:Nat):len=xs.length→n7 n xs t off→RV (.c (.l xs)) (.slice t n off len .no)
 | q (g:G) (x:Q):RG g x→RV (.c g) (.q x)
 | a (gs:List G) (q:Q) (m:Nat):m=gs.length→u3 gs q 0→RV (.a gs) (.a q m)
 | ag (gs:List G) (cs:List V):j6 (gs.map .c) cs→RV (.a gs) (.agg cs)
 | t (gs:List GV) (vs:List V):j6 gs vs→RV (.t gs) (.tuple vs)
 | p (id off:Nat):RV (.p id off) (.ptr id off)
 | sl (n:Nat) (xs:List (List G)) (t:j0 Q) (off len:Nat):len=xs.length→n7 n xs t off→RV (.sl n xs) (.slice t n off len .no)
 | sl0 (n:Nat) (t:j0 Q) (off:Nat):RV (.sl n []) (.slice t 0 off 0 .no)
 | slq (n:Nat) (xs:List (List G)) (x:Q):RG (.l xs) x→(∀ r ∈ xs,r.length=n)→RV (.sl n xs) (.q x)
 | fr (z:Nat) (xs:List (List G)) (t:j0 Q) (off len:Nat):len=xs.length→n7 z xs t off→RV (.fr z xs) (.slice t z off len (.fr z))
 | f0 (z:Nat) (xs:List (List G)) (t:j0 Q) (len:Nat):len=xs.length→n7 z xs t 0→RV (.f0 z xs) (.slice t z 0 len (.fr z))
 | nilI:RV .nilI .nilIface
 | fl (t:TypeId) (e p:Int) (vs:List V):j6 [.c (.i .i64 e),.c (.i .i64 p)] vs→RV (.fl t e p) (.iface t (.agg vs))
 | flq (t:TypeId) (e p:Int) (q:Q):u3 [.i .i64 e,.i .i64 p] q 0→RV (.fl t e p) (.iface t (.a q 2))
 | raw (v:V):RV (.raw v) v
inductive j6:List GV→List V→Prop
 | nil:j6 [] []
 | cons (g:GV) (gs:List GV) (v:V) (vs:List V):RV g v→j6 gs vs→j6 (g :: gs) (v :: vs)
end
theorem j6.length:∀ {gs:List GV} {vs:List V},j6 gs vs→gs.length=vs.length
 | [],_,h=>by cases h;rfl
 | g :: gs,_,h=>by cases h with | cons _ _ _ vs _ h=>simp [h.length]
theorem j6.two {g g':GV} {gs gs':List GV} {vs:List V} (h:j6 (g :: gs) vs) (k:j6 (g' :: gs') vs):∃ v l,RV g v∧RV g' v∧j6 gs l∧j6 gs' l:=by
 cases h with | cons _ _ v l h1 h2=>cases k with | cons _ _ _ _ k1 k2=>exact ⟨v,l,h1,k1,h2,k2⟩
inductive RB:List G→Bx→Prop
 | opa (gs:List G) (q:Q) (m:Nat):m=gs.length→u3 gs q 0→RB gs (.opa q m)
 | cells (gs:List G) (cs:List V):j6 (gs.map .c) cs→RB gs (.cells cs)
inductive RBs:List (List G)→List Bx→Prop
 | nil:RBs [] []
 | cons (g:List G) (gs:List (List G)) (b:Bx) (bs:List Bx):RB g b→RBs gs bs→RBs (g :: gs) (b :: bs)
theorem j6.k {g:GV} {gs:List GV} {v:V} {vs:List V} (h:RV g v) (t:j6 gs vs):j6 (g :: gs) (v :: vs):=.cons _ _ _ _ h t
theorem RBs.k {g:List G} {gs:List (List G)} {b:Bx} {bs:List Bx} (h:RB g b) (t:RBs gs bs):RBs (g :: gs) (b :: bs):=.cons _ _ _ _ h t
theorem u3.k {g:G} {gs:List G} {q:Q} {i:Nat} (h:RG g (celQ q i)) (t:u3 gs q (i+1)):u3 (g :: gs) q i:=.cons _ _ _ _ h t
theorem p9.k {S:_} {M:_} {w:_} {v:Value} {d:D} {vs:List Value} {ds:List D} (h:Rd S M w v d) (t:p9 S M w vs ds):p9 S M w (v :: vs) (d :: ds):=.cons _ _ _ _ h t
inductive o8 where
 | ret (v:GV)
 | pan (v:GV)
inductive j7:o8→J0→Prop
 | ret (g:GV) (v:V):RV g v→j7 (.ret g) (.ret v)
 | pan (g:GV) (v:V):RV g v→j7 (.pan g) (.pan v)

theorem RV.c_inj {g g':G} {v:V} (h:RV (.c g) v) (k:RV (.c g') v):g=g':=by
 cases h with
 | b x=>cases k;rfl
 | kn x=>cases k;rfl
 | i=>cases k;rfl
 | s x l c h1 h2=>cases k with | s y _ _ k1 k2=>rw [← z7 x,← h1,← h2,k1,k2,z7]
 | cl xs t n off len h1 h2=>cases k with | cl ys _ _ _ _ k1 k2=>rw [n7.inj h2 k2 (h1.symm.trans k1)]
 | q _ x h=>cases k with | q _ _ k=>exact h.inj k
theorem j6.c_inj:∀ {gs gs':List G} {vs:List V},j6 (gs.map .c) vs→j6 (gs'.map .c) vs→gs=gs'
 | [],gs',_,h,k=>by
  cases h
  cases gs' with
  | nil=>rfl
  | cons=>cases k
 | g :: gs,gs',_,h,k=>by
  cases h with
  | cons _ _ v vs h1 h2 =>
   cases gs' with
   | nil=>cases k
   | cons g' gs'=>cases k with | cons _ _ _ _ k1 k2=>rw [h1.c_inj k1,j6.c_inj h2 k2]
theorem RV.a_inj {gs gs':List G} {v:V} (h:RV (.a gs) v) (k:RV (.a gs') v):gs=gs':=by
 cases h with
 | a _ q m h1 h2=>cases k with | a _ _ _ k1 k2=>exact h2.inj k2 (h1.symm.trans k1)
 | ag _ cs h=>cases k with | ag _ _ k=>exact h.c_inj k
theorem RV.sl_inj {n n':Nat} {xs ys:List (List G)} {v:V} (h:RV (.sl n xs) v) (k:RV (.sl n' ys) v):xs=ys:=by
 cases h with
 | sl _ _ t off len h1 h2 =>
  cases k with
  | sl _ _ _ _ _ k1 k2=>exact n7.inj h2 k2 (h1.symm.trans k1)
  | sl0=>simpa using h1.symm
 | sl0 _ t off =>
  cases k with
  | sl _ _ _ _ _ k1 k2=>exact (List.length_eq_zero_iff.1 k1.symm).symm
  | sl0=>rfl
 | slq _ _ x h _=>cases k with | slq _ _ _ k _=>have:=h.inj k;injection this
theorem RB.inj {gs gs':List G} {b:Bx} (h:RB gs b) (k:RB gs' b):gs=gs':=by
 cases h with
 | opa q m h1 h2=>cases k with | opa _ _ k1 k2=>exact h2.inj k2 (h1.symm.trans k1)
 | cells cs h=>cases k with | cells _ k=>exact h.c_inj k
abbrev KJ':=List V→List Bx→Om
def g8 (U:q7) (M:Om) (P:J0→List Bx→Prop):Prop:=U=CU→∃ v bs,M=some (v,bs)∧P v bs
def I9 (U:q7) (b:Bool) (p:Prop):Prop:=U=CU→(b=true↔p)

section
variable {U:q7} {P:J0→List Bx→Prop}
theorem c7h (x:Q) (K:Q→Om):CU.fQ x K=K x:=b4b x K
theorem U9 (x:Int) (K:Int→Om):CU.fI x K=K x:=d6y x K
theorem a5x (x:Nat) (K:Nat→Om):CU.fN x K=K x:=b90 x K
theorem e1n (x:Bool) (K:Bool→Om):CU.fB x K=K x:=d6x x K
theorem trT:I9 U true True:=fun _=>by simp
theorem trF:I9 U false False:=fun _=>by simp
theorem a3y {b:Bool} {p:Prop} (h:I9 U b p):I9 U (U.bnot b) (¬p):=fun e=>by
 have:=h e;subst e;rw [← this];show bnot b=true↔_;cases b <;> simp [bnot]
theorem a3v {a b:Bool} {p q:Prop} (h:I9 U a p) (k:I9 U b q):I9 U (U.band a b) (p∧q):=fun e=>by
 rw [← h e,← k e];subst e;show band a b=true↔_;cases a <;> cases b <;> simp [band]
theorem a3a {a b:Int}:I9 U (U.iLt a b) (a < b):=fun e=>by subst e;show iLt a b=true↔_;rw [Y6];simp
theorem a5a {a b:Int}:I9 U (U.iLe a b) (a≤b):=fun e=>by subst e;show iLe a b=true↔_;rw [T8];simp
theorem a49 {a b:Int}:I9 U (U.iEq a b) (a=b):=fun e=>by subst e;show iEq a b=true↔_;rw [P2];simp
theorem a3x {a:Int} {n:Nat}:I9 U (U.iLt a (U.iOfN n)) (a < (n:Int)):=fun e=>by subst e;exact a3a rfl
theorem a3w {a:Int} {n:Nat}:I9 U (U.iLe a (U.iOfN n)) (a≤(n:Int)):=fun e=>by subst e;exact a5a rfl
theorem a1h {a b:Nat}:I9 U (U.nLe a b) (a≤b):=fun e=>by subst e;show Nat.ble a b=true↔_;rw [Nat.ble_eq]
theorem a1i {a k b:Nat}:I9 U (U.nLe (U.nAdd a k) b) (a+k≤b):=fun e=>by subst e;exact a1h rfl
theorem a1j {a k m b:Nat}:I9 U (U.nLe (U.nMul (U.nAdd a k) m) b) ((a+k) * m≤b):=fun e=>by subst e;exact a1h rfl
theorem a1k {a:Int} {m b:Nat}:I9 U (U.nLe (U.nMul (U.iNat a) m) b) (a.toNat * m≤b):=fun e=>by subst e;show Nat.ble (iNat a * m) b=true↔_;rw [D0,Nat.ble_eq]
theorem a1l {a:Int} {b:Nat}:I9 U (U.nLe (U.iNat a) b) (a.toNat≤b):=fun e=>by subst e;show Nat.ble (iNat a) b=true↔_;rw [D0,Nat.ble_eq]
theorem a30 {a b:Nat}:I9 U (U.nEq a b) (a=b):=fun e=>by subst e;show Nat.beq a b=true↔_;rw [Nat.beq_eq]
theorem trS {l c l' c':Nat}:I9 U (U.sEq l c l' c') (n5 l c=n5 l' c'):=fun e=>by subst e;show sEq l c l' c'=true↔_;rw [a7h];simp
theorem a81 {x y:List UInt8}:I9 U (U.sEq x.length (j9 x) y.length (j9 y)) (x=y):=fun e=>by rw [trS e,z7,z7]
theorem a6o {x:List UInt8} {l c:Nat}:I9 U (U.sEq x.length (j9 x) l c) (x=n5 l c):=fun e=>by rw [trS e,z7]
theorem trV {b:Bool}:I9 U b (b=true):=fun _=>Iff.rfl

theorem i7 {v:J0} {bs:List Bx} (h:P v bs):g8 U (some (v,bs)) P:=fun _=>⟨v,bs,rfl,h⟩
theorem D5 {v:J0} {bs:List Bx} (h:U=CU→P v bs):g8 U (some (v,bs)) P:=fun e=>⟨v,bs,rfl,h e⟩
theorem a02 (a b:Int):CU.iEq a b=decide (a=b):=by show iEq a b=_;rw [P2];rfl
theorem b2x (a b:Int):CU.iLt a b=decide (a < b):=by show iLt a b=_;rw [Y6]
theorem c0y (a b:Int):CU.iLe a b=decide (a≤b):=by show iLe a b=_;rw [T8]
theorem b9z (a:Bool):CU.bnot a=!a:=by cases a <;> rfl
theorem b08 (a b:Bool):CU.band a b=(a && b):=by cases a <;> cases b <;> rfl
theorem cuS (x y:List UInt8):CU.sEq x.length (j9 x) y.length (j9 y)=decide (x=y):=by
 show sEq _ _ _ _=_;rw [a7h,z7,z7];by_cases h:x=y <;> simp [h]
theorem a9u (x:List UInt8) (l c:Nat):CU.sEq x.length (j9 x) l c=decide (x=n5 l c):=by
 show sEq _ _ _ _=_;rw [a7h,z7];by_cases h:x=n5 l c <;> simp [h]
theorem b5k {v:V} {l:List V} {K:V→List V→Om} (h:g8 U (K v l) P):g8 U (U.uCons (v :: l) K) P:=fun e=>by have:=h e;subst e;exact this
theorem W5 {g:GV} {gs:List GV} {vs:List V} {K:V→List V→Om} (hv:j6 (g :: gs) vs) (h:∀ v l,RV g v→j6 gs l→g8 U (K v l) P):g8 U (U.uCons vs K) P:=by
 cases hv with | cons _ _ v l h1 h2=>exact b5k (h v l h1 h2)
theorem c29 {K:Om} (h:g8 U K P):g8 U (U.uNil [] K) P:=fun e=>by have:=h e;subst e;exact this
theorem b5m {vs:List V} {K:Om} (hv:j6 [] vs) (h:g8 U K P):g8 U (U.uNil vs K) P:=by cases hv;exact c29 h
theorem b0n {v:Bx} {l:List Bx} {K:Bx→List Bx→Om} (h:g8 U (K v l) P):g8 U (U.uConsB (v :: l) K) P:=fun e=>by have:=h e;subst e;exact this
theorem b1r {g:List G} {gs:List (List G)} {vs:List Bx} {K:Bx→List Bx→Om} (hv:RBs (g :: gs) vs) (h:∀ v l,RB g v→RBs gs l→g8 U (K v l) P):g8 U (U.uConsB vs K) P:=by
 cases hv with | cons _ _ v l h1 h2=>exact b0n (h v l h1 h2)
theorem b5l {K:Om} (h:g8 U K P):g8 U (U.uNilB [] K) P:=fun e=>by have:=h e;subst e;exact this
theorem a7i {vs:List Bx} {K:Om} (hv:RBs [] vs) (h:g8 U K P):g8 U (U.uNilB vs K) P:=by cases hv;exact b5l h
theorem sP {id off:Nat} {K:Om} (h:g8 U K P):g8 U (U.uP id off (.ptr id off) K) P:=fun e=>by
 have:=h e;subst e
 show ∃ v bs,cond (Nat.beq id id) (cond (Nat.beq off off) K none) none=some (v,bs)∧P v bs
 rw [Nat.beq_refl,Nat.beq_refl];exact this
theorem sPR {id off:Nat} {v:V} {K:Om} (hv:RV (.p id off) v) (h:g8 U K P):g8 U (U.uP id off v K) P:=by cases hv;exact sP h
theorem sI {k:IntKind} {n:Int} {v:V} {K:Int→Om} (hv:RV (.c (.i k n)) v) (h:g8 U (K n) P):g8 U (U.uI k v K) P:=fun e=>by
 have:=h e;subst e
 cases hv with
 | i=>show ∃ v bs,cond (ikEq k k) (K n) none=some (v,bs)∧P v bs;rw [a98];exact this
 | q _ x hx=>cases hx;show ∃ v bs,cond (ikEq k k) (K n) none=some (v,bs)∧P v bs;rw [a98];exact this
theorem sIV {k:IntKind} {n:Int} {K:Int→Om} (h:g8 U (K n) P):g8 U (U.uI k (.int k n) K) P:=sI (.i k n) h
theorem sB {x:Bool} {v:V} {K:Bool→Om} (hv:RV (.c (.b x)) v) (h:g8 U (K x) P):g8 U (U.uB v K) P:=fun e=>by
 have:=h e;subst e
 cases hv with
 | b=>exact this
 | kn=>exact this
 | q _ _ hx=>cases hx;exact this
theorem sBV {x:Bool} {K:Bool→Om} (h:g8 U (K x) P):g8 U (U.uB (.bool x) K) P:=sB (.b x) h
theorem sBK {x:Bool} {K:Bool→Om} (h:g8 U (K x) P):g8 U (U.uB (.known x) K) P:=sB (.kn x) h
theorem sS {x:List UInt8} {v:V} {K:Nat→Nat→Om} (hv:RV (.c (.s x)) v) (h:g8 U (K x.length (j9 x)) P):g8 U (U.uS v K) P:=fun e=>by
 have:=h e;subst e
 cases hv with
 | s _ l c h1 h2=>subst h1 h2;exact this
 | q _ _ hx=>cases hx with | s _ l c h1 h2=>subst h1 h2;exact this
theorem sSV {l c:Nat} {K:Nat→Nat→Om} (h:g8 U (K l c) P):g8 U (U.uS (.str l c) K) P:=fun e=>by have:=h e;subst e;exact this
theorem n7.len {n:Nat} {xs:List (List G)} {t:j0 Q} {off:Nat} (h:n7 n xs t off):∀ r ∈ xs,r.length=n:=fun r hr=>by
 obtain ⟨j,hj⟩:=List.getElem?_of_mem hr
 exact (h.get hj).1
theorem b0m {n:Nat} {xs:List (List G)} {x:Q} {K:j0 Q→Nat→Nat→Om} (hx:RG (.l xs) x) (hn:∀ r ∈ xs,r.length=n) (h:∀ t off,n7 n xs t off→g8 U (K t off xs.length) P):g8 U (U.cSl n x K) P:=fun e=>by
 subst e
 cases hx with
 | l _ t n' off len h1 h2 =>
  subst h1
  show ∃ v bs,cond (Nat.beq n n') (K t off xs.length) (cond (Nat.beq xs.length 0) (K .nil 0 0) none)=some (v,bs)∧P v bs
  cases xs with
  | nil =>
   cases Nat.beq n n' with
   | true=>exact h t off (.nil _ _ _) rfl
   | false=>exact h .nil 0 (.nil _ _ _) rfl
  | cons r rs =>
   have h3:=hn r List.mem_cons_self
   have h4:=h2.len r List.mem_cons_self
   have:n=n':=h3.symm.trans h4
   subst this
   rw [Nat.beq_refl]
   exact h t off h2 rfl
theorem sSl {n:Nat} {xs:List (List G)} {v:V} {K:j0 Q→Nat→Nat→Om} (hv:RV (.sl (n+1) xs) v) (h:∀ t off,n7 (n+1) xs t off→g8 U (K t off xs.length) P):g8 U (U.uSl (n+1) 0 v K) P:=by
 cases hv with
 | sl _ _ t off len h1 h2 =>
  subst h1
  intro e
  have:=h t off h2 e
  subst e
  show ∃ v bs,cond (Nat.beq (n+1) (n+1)) (K t off xs.length) (chk (nEq xs.length 0) (K .nil 0 0))=some (v,bs)∧P v bs
  rw [Nat.beq_refl];exact this
 | sl0 _ t off =>
  intro e
  have:=h .nil 0 (.nil _ _ _) e
  subst e
  exact this
 | slq _ _ x hx hn =>
  intro e
  have:=b0m (U:=U) (P:=P) (K:=K) hx hn h e
  subst e
  exact this
theorem f4l {n:Nat} {xs:List (List G)} {v:V} {K:j0 Q→Nat→Nat→Om} (hv:RV (.c (.l xs)) v) (hn:∀ r ∈ xs,r.length=n+1) (h:∀ t off,n7 (n+1) xs t off→g8 U (K t off xs.length) P):g8 U (U.uSl (n+1) 0 v K) P:=by
 cases hv with
 | cl _ t n' off len h1 h2 =>
  by_cases e:n'=n+1
  ·subst e
   exact sSl (.sl _ _ _ _ _ h1 h2) h
  ·have ex:xs=[]:=by
    cases xs with
    | nil=>rfl
    | cons r rs=>exact absurd ((n7.len h2 r (by simp)).symm.trans (hn r (by simp))) e
   subst ex
   subst h1
   intro hU
   have:=h .nil 0 (.nil _ _ _) hU
   subst hU
   cases n' with
   | zero=>exact this
   | succ n' =>
    show ∃ v bs,cond (Nat.beq (n+1) (n'+1)) (K t off 0) (chk (nEq 0 0) (K .nil 0 0))=some (v,bs)∧P v bs
    rw [show Nat.beq (n+1) (n'+1)=false from by rw [Bool.eq_false_iff];exact fun hb=>e (Nat.eq_of_beq_eq_true hb).symm]
    exact this
 | q _ x hx=>exact sSl (.slq _ _ _ hx hn) h
theorem b7d {n c:Nat} {z:V5} {t:j0 Q} {off len:Nat} {K:j0 Q→Nat→Nat→Om} (hc:V7 z=c) (h:g8 U (K t off len) P):g8 U (U.uSl (n+1) c (.slice t (n+1) off len z) K) P:=fun e=>by
 have:=h e;subst e
 show ∃ v bs,cond (Nat.beq (V7 z) c) (cond (Nat.beq (n+1) (n+1)) (K t off len) (chk (nEq len 0) (K .nil 0 0))) none=some (v,bs)∧P v bs
 rw [hc,Nat.beq_refl,Nat.beq_refl];exact this
theorem c3b {n c:Nat} {z:V5} {t:j0 Q} {off:Nat} {K:j0 Q→Nat→Nat→Om} (hc:V7 z=c) (h:g8 U (K .nil 0 0) P):g8 U (U.uSl n c (.slice t 0 off 0 z) K) P:=fun e=>by
 have:=h e;subst e
 show ∃ v bs,cond (Nat.beq (V7 z) c) (K .nil 0 0) none=some (v,bs)∧P v bs
 rw [hc,Nat.beq_refl];exact this
theorem B5 {α:Type} {f:α→List G} {n:Nat} {ys:List α} {x:Q} {K:j0 Q→Nat→Nat→Om} (hx:RG (.l (ys.map f)) x) (hn:∀ r ∈ ys.map f,r.length=n) (h:∀ t off,n7 n (ys.map f) t off→g8 U (K t off ys.length) P):g8 U (U.cSl n x K) P :=
 b0m hx hn fun t off k=>by rw [List.length_map];exact h t off k
theorem c9b {α:Type} {f:α→List G} {n:Nat} {ys:List α} {v:V} {K:j0 Q→Nat→Nat→Om} (hv:RV (.sl (n+1) (ys.map f)) v) (h:∀ t off,n7 (n+1) (ys.map f) t off→g8 U (K t off ys.length) P):g8 U (U.uSl (n+1) 0 v K) P :=
 sSl hv fun t off k=>by rw [List.length_map];exact h t off k
theorem e8h {g:G} {v:V} (h:RV (.c g) v):∃ x,uA.exQ v=some x∧RG g x:=by
 cases h with
 | b x=>exact ⟨_,rfl,.b x⟩
 | kn x=>exact ⟨_,rfl,.b x⟩
 | i k n=>exact ⟨_,rfl,.i k n⟩
 | s x l c h1 h2=>exact ⟨_,rfl,.s x l c h1 h2⟩
 | cl xs t n off len h1 h2=>exact ⟨_,rfl,.l xs t n off len h1 h2⟩
 | q _ x h=>exact ⟨_,rfl,h⟩
inductive a1r:List G→List Q→Prop
 | nil:a1r [] []
 | cons (g:G) (gs:List G) (q:Q) (qs:List Q):RG g q→a1r gs qs→a1r (g :: gs) (q :: qs)
theorem a1r.get:∀ {gs:List G} {qs:List Q},a1r gs qs→∀ {j g},gs[j]?=some g→RG g (gL qs j)
 | _,_,.nil,j,g,e=>by simp at e
 | _,_,.cons g gs q qs h1 h2,0,g',e=>by simp at e;subst e;exact h1
 | _,_,.cons g gs q qs h1 h2,j+1,g',e=>a1r.get h2 (j:=j) (by simpa using e)
theorem a1r.cel {gs:List G} {qs:List Q} (h:a1r gs qs):u3 gs (.agg qs 0) 0:=.of fun j g e=>by
 have:=h.get e
 show RG g (gL qs (0+(0+j)))
 rw [Nat.zero_add,Nat.zero_add];exact this
theorem b4a:∀ {gs:List G} {cs:List V},j6 (gs.map .c) cs→∃ qs,uA.exQs cs=some qs∧a1r gs qs
 | [],_,h=>by cases h;exact ⟨[],rfl,.nil⟩
 | g :: gs,_,h=>by
  cases h with
  | cons _ _ v vs h1 h2 =>
   obtain ⟨x,e1,k1⟩:=e8h h1
   obtain ⟨qs,e2,k2⟩:=b4a h2
   exact ⟨x :: qs,by simp only [uA.exQs,e1,e2],.cons _ _ _ _ k1 k2⟩
theorem sA {m:Nat} {gs:List G} {q:Q} {K:Q→Om} (h:g8 U (K q) P):g8 U (U.uA m (.a q m) K) P:=fun e=>by
 have:=h e;subst e
 show ∃ v bs,cond (Nat.beq m m) (K q) none=some (v,bs)∧P v bs
 rw [Nat.beq_refl];exact this
theorem S7 {gs:List G} {v:V} {K:Q→Om} {m:Nat} (hv:RV (.a gs) v) (hm:gs.length=m) (h:∀ q,u3 gs q 0→g8 U (K q) P):g8 U (U.uA m v K) P:=by
 subst hm
 cases hv with
 | a _ q m' h1 h2=>subst h1;exact sA (gs:=gs) (h q h2)
 | ag _ cs hv =>
  obtain ⟨qs,e1,k1⟩:=b4a hv
  intro e
  have:=h _ k1.cel e
  subst e
  have hl:cs.length=gs.length:=by have:=hv.length;simpa using this.symm
  show ∃ v bs,cond (Nat.beq cs.length gs.length) (match uA.exQs cs with
   | some qs=>K (.agg qs 0)
   | none=>none) none=some (v,bs)∧P v bs
  rw [hl,Nat.beq_refl,e1]
  exact this
theorem b0l {gs:List G} {b:Bx} {K:Q→Om} {m:Nat} (hv:RB gs b) (hm:gs.length=m) (h:∀ q,u3 gs q 0→g8 U (K q) P):g8 U (U.uBo m b K) P:=by
 subst hm
 cases hv with
 | opa q m' h1 h2 =>
  subst h1
  intro e
  have:=h q h2 e
  subst e
  show ∃ v bs,cond (Nat.beq gs.length gs.length) (K q) none=some (v,bs)∧P v bs
  rw [Nat.beq_refl];exact this
 | cells cs hv =>
  obtain ⟨qs,e1,k1⟩:=b4a hv
  intro e
  have:=h _ k1.cel e
  subst e
  have hl:cs.length=gs.length:=by have:=hv.length;simpa using this.symm
  show ∃ v bs,cond (Nat.beq cs.length gs.length) (match uA.exQs cs with
   | some qs=>K (.agg qs 0)
   | none=>none) none=some (v,bs)∧P v bs
  rw [hl,Nat.beq_refl,e1]
  exact this
theorem d3a {gs:List G} {x:Q}:∀ {l:List G} (i:Nat),(∀ j g,l[j]?=some g→gs[i+j]?=some g)→u3 gs x 0→j6 (l.map .c) ((a82 i l.length).map fun i=>.q (celQ x i))
 | [],i,_,_=>.nil
 | g :: l,i,hl,h=>by
  have h1:=h.get (hl 0 g (by simp))
  rw [Nat.zero_add,Nat.add_zero] at h1
  exact .cons _ _ _ _ (.q _ _ h1) (d3a (i+1) (fun j g e=>by rw [show i+1+j=i+(j+1) by omega];exact hl (j+1) g (by simpa using e)) h)
theorem c89 {gs:List G} {b:Bx} {K:List V→Om} (hv:RB gs b) (h:∀ cs,j6 (gs.map .c) cs→g8 U (K cs) P):g8 U (U.uBc b K) P:=by
 cases hv with
 | opa q m h1 h2 =>
  subst h1
  intro e
  have:=h _ (d3a (l:=gs) 0 (fun j g e=>by rw [Nat.zero_add];exact e) h2) e
  subst e
  exact this
 | cells cs hv=>intro e;have:=h cs hv e;subst e;exact this
theorem sTu {gs:List GV} {v:V} {K:List V→Om} (hv:RV (.t gs) v) (h:∀ vs,j6 gs vs→g8 U (K vs) P):g8 U (U.uTu v K) P:=by
 cases hv with | t _ vs hv=>exact fun e=>by have:=h vs hv e;subst e;exact this
theorem sBo {m:Nat} {q:Q} {K:Q→Om} (h:g8 U (K q) P):g8 U (U.uBo m (.opa q m) K) P:=fun e=>by
 have:=h e;subst e
 show ∃ v bs,cond (Nat.beq m m) (K q) none=some (v,bs)∧P v bs
 rw [Nat.beq_refl];exact this
theorem sBc {cs:List V} {K:List V→Om} (h:g8 U (K cs) P):g8 U (U.uBc (.cells cs) K) P:=fun e=>by have:=h e;subst e;exact this
theorem sBs {id len:Nat} {K:Nat→Om} (h:g8 U (K len) P):g8 U (U.uBs id (.bslice id len) K) P:=fun e=>by
 have:=h e;subst e
 show ∃ v bs,cond (Nat.beq id id) (K len) none=some (v,bs)∧P v bs
 rw [Nat.beq_refl];exact this
theorem sBr {t:j0 Q} {len:Nat} {K:j0 Q→Nat→Om} (h:g8 U (K t len) P):g8 U (U.uBr (.row t len) K) P:=fun e=>by have:=h e;subst e;exact this
theorem sBt {z l:Nat} {K:Nat→Om} (h:g8 U (K l) P):g8 U (U.uBt z (.tok l z) K) P:=fun e=>by
 have:=h e;subst e
 show ∃ v bs,cond (Nat.beq z z) (K l) none=some (v,bs)∧P v bs
 rw [Nat.beq_refl];exact this
theorem sCI {k:IntKind} {n:Int} {x:Q} {K:Int→Om} (hx:RG (.i k n) x) (h:g8 U (K n) P):g8 U (U.cI k x K) P:=fun e=>by
 have:=h e;subst e;cases hx
 show ∃ v bs,cond (ikEq k k) (K n) none=some (v,bs)∧P v bs
 rw [a98];exact this
theorem sCB {b:Bool} {x:Q} {K:Bool→Om} (hx:RG (.b b) x) (h:g8 U (K b) P):g8 U (U.cB x K) P:=fun e=>by have:=h e;subst e;cases hx;exact this
theorem sCS {s:List UInt8} {x:Q} {K:Nat→Nat→Om} (hx:RG (.s s) x) (h:g8 U (K s.length (j9 s)) P):g8 U (U.cS x K) P:=fun e=>by
 have:=h e;subst e
 cases hx with | s _ l c h1 h2=>subst h1 h2;exact this
theorem c9a {gs:List G} {q:Q} {i:Nat} {s:List UInt8} {K:Nat→Nat→Om} (hq:u3 gs q 0) (hi:gs[i]?=some (.s s)) (h:g8 U (K s.length (j9 s)) P):g8 U (U.cS (U.celQ q i) K) P:=fun e=>by
 subst e;have:=hq.get hi;rw [Nat.zero_add] at this;exact sCS this h rfl
theorem b5o {gs:List G} {q:Q} {i:Nat} {g:G} {K:Q→Om} (hq:u3 gs q 0) (hi:gs[i]?=some g) (h:∀ x,RG g x→g8 U (K x) P):g8 U (U.fQ (U.celQ q i) K) P:=fun e=>by
 subst e;have:=hq.get hi;rw [Nat.zero_add] at this
 have:=h _ this rfl
 rw [c7h];exact this
theorem b5s {gs:List G} {q:Q} {i:Nat} {K:Q→Om} (hq:u3 gs q 0) (h:∀ x,u3 (gs.drop i) x 0→g8 U (K x) P):g8 U (U.fQ (U.subQ q i) K) P:=fun e=>by
 subst e;have:=h _ (hq.drop i) rfl
 rw [c7h];exact this
theorem a7j {gs:List G} {q:Q} {K:Q→Om} (hq:u3 gs q 0) (h:∀ x,u3 gs x 0→g8 U (K x) P):g8 U (U.fQ (U.subQ q 0) K) P:=b5s hq h
theorem sfT {n:Nat} {xs:List (List G)} {r:List G} {t:j0 Q} {off:Nat} {i:Int} {K:Q→Om} (ht:n7 n xs t off) (hi:xs[i.toNat]?=some r) (h:∀ x,u3 r x 0→g8 U (K x) P):g8 U (U.fQ (U.tQ t (U.nAdd off (U.iNat i))) K) P:=fun e=>by
 subst e;have:=h _ (ht.get hi).2.1 rfl
 rw [c7h]
 show ∃ v bs,K (tQ t (Nat.add off (iNat i)))=some (v,bs)∧P v bs
 rw [D0];exact this
theorem c9f {α:Type} {f:α→List G} {n:Nat} {xs:List α} {y:α} {t:j0 Q} {off:Nat} {i:Int} {K:Q→Om} (ht:n7 n (xs.map f) t off) (hi:xs[i.toNat]?=some y) (h:∀ x,u3 (f y) x 0→g8 U (K x) P):g8 U (U.fQ (U.tQ t (U.nAdd off (U.iNat i))) K) P :=
 sfT ht (by rw [List.getElem?_map,hi];rfl) h
theorem c9e {α:Type} {f:α→List G} {n:Nat} {xs:List α} {t:j0 Q} {off:Nat} {i:Nat} {K:Q→Om} (ht:n7 n (xs.map f) t off) (hi:i < xs.length) (h:∀ x,u3 (f xs[i]) x 0→g8 U (K x) P):g8 U (U.fQ (U.tQ t (U.nAdd off (U.iNat (i:Int)))) K) P :=
 c9f ht (by rw [Int.toNat_natCast];exact List.getElem?_eq_getElem hi) h
theorem sfB {x:Bool} {K:Bool→Om} (h:g8 U (K x) P):g8 U (U.fB x K) P:=fun e=>by have:=h e;subst e;rw [e1n];exact this
theorem c0e {n:Nat} {K:Int→Om} (h:g8 U (K n) P):g8 U (U.fI (U.iOfN n) K) P:=fun e=>by have:=h e;subst e;rw [U9];exact this
theorem b5n {a b:Nat} {K:Nat→Om} (h:g8 U (K (a+b)) P):g8 U (U.fN (U.nAdd a b) K) P:=fun e=>by have:=h e;subst e;rw [a5x];exact this
theorem b1s {a:Nat} {b:Int} {K:Nat→Om} (h:g8 U (K (a+b.toNat)) P):g8 U (U.fN (U.nAdd a (U.iNat b)) K) P:=fun e=>by
 have:=h e;subst e;rw [a5x]
 show ∃ v bs,K (a+iNat b)=some (v,bs)∧P v bs
 rw [D0];exact this
theorem b1u {a b:Int} {K:Nat→Om} (h:g8 U (K (a.toNat - b.toNat)) P):g8 U (U.fN (U.nSub (U.iNat a) (U.iNat b)) K) P:=fun e=>by
 have:=h e;subst e;rw [a5x]
 show ∃ v bs,K (iNat a - iNat b)=some (v,bs)∧P v bs
 rw [D0,D0];exact this
theorem b5r {a:Int} {b:Nat} {K:Nat→Om} (h:g8 U (K (a.toNat * b)) P):g8 U (U.fN (U.nMul (U.iNat a) b) K) P:=fun e=>by
 have:=h e;subst e;rw [a5x]
 show ∃ v bs,K (iNat a * b)=some (v,bs)∧P v bs
 rw [D0];exact this
theorem e6v {xs:List (List G)} {g:G} {t:j0 Q} {k:Nat} {K:Q→Om} (ht:n7 1 xs t 0) (hi:xs[k]?=some [g]) (h:∀ x,RG g x→g8 U (K x) P):g8 U (U.fQ (U.tQ t k) K) P:=fun e=>by
 subst e
 have:=(ht.get hi).2.2 g rfl
 rw [Nat.zero_add] at this
 have:=h _ this rfl
 rw [c7h];exact this
theorem c0d {b:Int} {K:Nat→Om} (h:g8 U (K b.toNat) P):g8 U (U.fN (U.iNat b) K) P:=fun e=>by
 have:=h e;subst e;rw [a5x]
 show ∃ v bs,K (iNat b)=some (v,bs)∧P v bs
 rw [D0];exact this
theorem c33 {e m:Int} (h:e=m) (h1:-9223372036854775808≤m) (h2:m < 9223372036854775808):wr .i64 e=m:=by
 subst h;rw [a1p];exact a2x .i64 _ (by show _ < ((9223372036854775808:Nat):Int);omega) (by show -((9223372036854775808:Nat):Int)≤_;omega)
theorem c0g {a b:Int} {K:Int→Om} (hr:-9223372036854775808≤a+b∧a+b < 9223372036854775808) (h:g8 U (K (a+b)) P):g8 U (U.fI (U.wr .i64 (U.iAdd a b)) K) P:=fun e=>by
 have:=h e;subst e;rw [U9]
 show ∃ v bs,K (wr .i64 (iAdd a b))=some (v,bs)∧P v bs
 rw [c33 (b6m a b) hr.1 hr.2];exact this
theorem b5t {a b:Int} {K:Int→Om} (hr:-9223372036854775808≤a - b∧a - b < 9223372036854775808) (h:g8 U (K (a - b)) P):g8 U (U.fI (U.wr .i64 (U.iSub a b)) K) P:=fun e=>by
 have:=h e;subst e;rw [U9]
 show ∃ v bs,K (wr .i64 (iSub a b))=some (v,bs)∧P v bs
 rw [c33 (b1g a b) hr.1 hr.2];exact this
theorem e9b {a b:Int} {K:Int→Om} (h:g8 U (K (a.tmod b)) P):g8 U (U.fI (U.iRem a b) K) P:=fun e=>by
 have:=h e;subst e;rw [U9]
 show ∃ v bs,K (iRem a b)=some (v,bs)∧P v bs
 rw [c54];exact this
theorem e6u {n m:Nat} {e M:Int} {K:Int→Om} (he:e=n) (hM:M=m) (h:g8 U (K ((n % m:Nat):Int)) P):g8 U (U.fI (U.iRem e M) K) P:=by
 subst he hM
 exact e9b (by rw [Int.ofNat_tmod] at *;exact h)
theorem b5p {x:List UInt8} {i:Int} {K:Int→Om} (hi:i.toNat < x.length) (h:g8 U (K ((x.getD i.toNat 0).toNat:Int)) P):g8 U (U.fI (U.iOfN (U.sIdx (j9 x) (U.iNat i))) K) P:=fun e=>by
 have:=h e;subst e;rw [U9]
 show ∃ v bs,K ((sIdx (j9 x) (iNat i):Nat):Int)=some (v,bs)∧P v bs
 rw [D0,← c65 hi,z7];exact this
theorem u0 {α:Type} {f:α→List G} {n:Nat} (hf:∀ x,(f x).length=n) {xs:List α}:∀ r ∈ xs.map f,r.length=n:=fun r hr=>by
 obtain ⟨x,_,rfl⟩:=List.mem_map.1 hr;exact hf x
theorem M5 {x y:Bool} (h:x=y):RV (.c (.b x)) (.bool y):=h ▸ .b x
theorem F2 {x y:Bool} (h:x=y):RV (.c (.b x)) (.known y):=h ▸ .kn x
theorem Y1 {k:IntKind} {x y:Int} (h:x=y):RV (.c (.i k x)) (.int k y):=h ▸ .i k x
theorem b5q {x:List UInt8} {i:Nat} {K:Int→Om} (hi:i < x.length) (h:g8 U (K ((x.getD i 0).toNat:Int)) P):g8 U (U.fI (U.iOfN (U.sIdx (j9 x) (U.iNat (i:Int)))) K) P:=b5p (i:=(i:Int)) (by rw [Int.toNat_natCast];exact hi) (by rw [Int.toNat_natCast];exact h)
theorem f4m {b x:Bool} {K:Bool→Om} (hb:U=CU→b=x) (h:g8 U (K x) P):g8 U (U.fB b K) P:=fun e=>by
 have e1:=hb e;have:=h e;subst e e1;rw [e1n];exact this
theorem e8f (c a b:Bool):CU.bsel c a b=cond c a b:=by cases c <;> rfl
theorem b1t {a b:Bool} {K:Bool→Om} (h:g8 U (K (a != b)) P):g8 U (U.fB (U.bsel a (U.bnot b) b) K) P :=
 f4m (fun e=>by subst e;rw [e8f,b9z];cases a <;> cases b <;> rfl) h
theorem d2h {c:Bool} {p:Prop} {a b:Int} {K:Int→Om} (hc:I9 U c p) (h:p→g8 U (K a) P) (k:¬p→g8 U (K b) P):g8 U (U.fI (U.isel c a b) K) P:=fun e=>by
 have h1:=hc e
 cases c with
 | true=>have:=h (h1.1 rfl) e;subst e;rw [U9];exact this
 | false=>have:=k (fun hp=>by cases h1.2 hp) e;subst e;rw [U9];exact this
theorem e6p {b:Bool} {p:Prop} {x:Om} (ht:I9 U b p) (hp:p) (h:g8 U x P):g8 U (U.chk b x) P:=fun e=>by
 have h1:=(ht e).2 hp;have:=h e;subst e h1;exact this
theorem b3n {b:Bool} {p:Prop} {x y:Om} (ht:I9 U b p) (h:p→g8 U x P) (k:¬p→g8 U y P):g8 U (U.cnd b x y) P:=fun e=>by
 have h1:=ht e
 cases b with
 | true=>have:=h (h1.1 rfl) e;subst e;exact this
 | false=>have:=k (fun hp=>by cases h1.2 hp) e;subst e;exact this
theorem c0b {x y:Om} (h:g8 U x P):g8 U (U.cnd true x y) P:=b3n trT (fun _=>h) (fun k=>absurd trivial k)
theorem b99 {x y:Om} (h:g8 U y P):g8 U (U.cnd false x y) P:=b3n trF (fun k=>k.elim) (fun _=>h)
theorem c0a {b:Bool} {x y:Om} (h:g8 U (U.cnd b y x) P):g8 U (U.cnd (U.bnot b) x y) P:=fun e=>by
 have:=h e;subst e
 show ∃ v bs,cnd (bnot b) x y=some (v,bs)∧P v bs
 rw [a6v]
 have h2:∃ v bs,cnd b y x=some (v,bs)∧P v bs:=this
 rw [a6v] at h2
 cases b <;> exact h2
theorem sJn {f:KJ'→Om} {g:KJ'} (h:g8 U (f g) P):g8 U (U.jn f g) P:=fun e=>by have:=h e;subst e;exact this
theorem Q4 {f:KJ'→Om} {g:KJ'} (J:List V→List Bx→Prop) (hg:∀ vs bs,J vs bs→g8 U (g vs bs) P) (hf:∀ c:KJ',(∀ vs bs,J vs bs→g8 U (c vs bs) P)→g8 U (f c) P):g8 U (U.jn f g) P:=sJn (hf g hg)
def lpN (n:Nat) (body:(List V→List Bx→Om)→List V→List Bx→Om):List V→List Bx→Om :=
 Nat.rec (motive:=fun _=>List V→List Bx→Om) (fun _ _=>none) (fun _ ih=>body ih) n
theorem f4e:lp=lpN y8:=rfl
theorem f4k {β:Type} {body:KJ'→KJ'} (S5:β→List V→List Bx→Prop) (μ:β→Nat)
  (step:∀ (self:KJ') x vs bs,S5 x vs bs→(∀ y vs' bs',S5 y vs' bs'→μ y < μ x→g8 U (self vs' bs') P)→g8 U (body self vs bs) P):∀ n x vs bs,μ x < n→S5 x vs bs→g8 U (lpN n body vs bs) P:=by
 intro n
 induction n with
 | zero=>intro x vs bs h;omega
 | succ n ih =>
  intro x vs bs hx hi
  exact step _ x vs bs hi fun y vs' bs' hy hlt=>ih y vs' bs' oM hy
theorem lpU (e:U=CU):U.lp=lpN y8:=by subst e;exact f4e
theorem F3 {β:Type} {body:KJ'→KJ'} {vs0:List V} {bs0:List Bx} (S5:β→List V→List Bx→Prop) (μ:β→Nat) (x0:β) (h0:S5 x0 vs0 bs0) (hμ:μ x0 < y8)
  (step:∀ (self:KJ') x vs bs,S5 x vs bs→(∀ y vs' bs',S5 y vs' bs'→μ y < μ x→g8 U (self vs' bs') P)→g8 U (body self vs bs) P):g8 U (U.lp body vs0 bs0) P:=fun e=>by
 rw [lpU e]
 exact f4k S5 μ step y8 x0 vs0 bs0 hμ h0 e
theorem b7e {t:j0 Q} {x:Q} {i:Nat} (h:i+2≤281474976710656):tQ (t.set .no x L0 i) i=x:=by
 rw [b52,j0.get_set _ _ L0 _ _ (show i+2≤281474976710656 from h)];rfl
theorem a8v {t:j0 Q} {x:Q} {i k:Nat} (h:k ≠ i):tQ (t.set .no x L0 i) k=tQ t k:=by
 rw [b52,b52]
 rcases j0.get_set_ne2 .no x L0 t i k h with h | ⟨h1,h2⟩
 ·rw [h]
 ·rw [h1,h2];rfl
theorem d8d {n:Nat} {t2:j0 Q} {ys:List (List G)}:∀ {j:Nat} {xs:List (List G)} {t:j0 Q} {off:Nat} {K:j0 Q→Om},n7 n xs t off→n7 n ys t2 j→off+xs.length+ys.length+1≤281474976710656 →
  ∃ t',n7 n (xs ++ ys) t' off∧aT t2 ys.length t (off+xs.length) j K=K t':=by
 induction ys with
 | nil=>intro j xs t off K h _ _;exact ⟨t,by simpa using h,rfl⟩
 | cons y ys ih =>
  intro j xs t off K h1 h2 h3
  cases h2 with
  | cons _ _ _ _ _ k1 k2 k2' k3 =>
   simp only [List.length_cons] at h3
   have hs:n7 n (xs ++ [y]) (t.set .no (tQ t2 j) L0 (off+xs.length)) off:=.of fun k r e=>by
    by_cases hk:k < xs.length
    ·rw [List.getElem?_append_left hk] at e
     rw [a8v oM]
     exact h1.get e
    ·by_cases hk2:k=xs.length
     ·subst hk2
      simp at e
      subst e
      rw [b7e oM]
      exact ⟨k1,k2,k2'⟩
     ·rw [List.getElem?_eq_none (by simp;omega)] at e;cases e
   obtain ⟨t',h4,h5⟩:=ih (K:=K) hs k3 (by simp;omega)
   refine ⟨t',by simpa using h4,?_⟩
   show cond (Nat.ble (Nat.add (off+xs.length) 2) 281474976710656) (fQ (tQ t2 j) fun e=>a1a e L0 t (off+xs.length) fun t=>aT t2 ys.length t (off+xs.length+1) (j+1) K) none=K t'
   have hb:Nat.ble (Nat.add (off+xs.length) 2) 281474976710656=true:=by
    rw [Nat.ble_eq];show off+xs.length+2≤_;omega
   rw [hb,b4b,U7]
   simp only [List.length_append,List.length_cons,List.length_nil] at h5
   exact h5
theorem sAT {n:Nat} {xs ys:List (List G)} {t t2:j0 Q} {off j a m:Nat} {K:j0 Q→Om} (ht:n7 n xs t off) (ht2:n7 n ys t2 j) (ha:a=xs.length) (hm:m=ys.length) (hb:off+xs.length+ys.length+1≤281474976710656)
  (h:∀ t',n7 n (xs ++ ys) t' off→g8 U (K t') P):g8 U (U.aT t2 m t (U.nAdd off a) j K) P:=fun e=>by
 obtain ⟨t',h1,h2⟩:=d8d (K:=K) ht ht2 hb
 have:=h t' h1 e
 subst e ha hm
 show ∃ v bs,aT t2 ys.length t (off+xs.length) j K=some (v,bs)∧P v bs
 rw [h2];exact this
theorem T4 {n:Nat} {xs:List (List G)} {r:List G} {q:Q} {t:j0 Q} {off a:Nat} {K:j0 Q→Om} (ht:n7 n xs t off) (hr:U=CU→Row r q) (hn:r.length=n) (ha:a=xs.length) (hb:off+xs.length+2≤281474976710656)
  (h:∀ t',n7 n (xs ++ [r]) t' off→g8 U (K t') P):g8 U (U.aT (.node q .nil .nil) 1 t (U.nAdd off a) 0 K) P:=fun e =>
 sAT ht (ys:=[r]) (t2:=.node q .nil .nil) (j:=0) (.cons _ _ _ _ _ hn (hr e).1 (hr e).2 (.nil _ _ _)) ha rfl (by simpa using hb) h e
theorem RG.cel0 {g:G} {q:Q} (h:RG g q):celQ q 0=q:=by cases h <;> rfl
theorem E7 {g:G} {q:Q} (h:RG g q):Row [g] q:=⟨.cons _ _ _ _ (by rw [h.cel0];exact h) (.nil _ _),fun g' e=>by cases e;exact h⟩
theorem a6l {r:List G} {q:Q} (hn:r.length ≠ 1) (h:u3 r q 0):Row r q:=⟨h,fun g e=>by subst e;exact absurd rfl hn⟩
theorem c7f {n:Nat} {r:List G} {x:Q} (hr:Row r x) (hn:r.length=n):∀ (m:Nat) {xs:List (List G)} {t:j0 Q} {off:Nat} {K:j0 Q→Om},n7 n xs t off→off+xs.length+m+1≤281474976710656 →
  ∃ t',n7 n (xs ++ List.replicate m r) t' off∧zT x m t (off+xs.length) K=K t'
 | 0,xs,t,off,K,h,_=>⟨t,by simpa using h,rfl⟩
 | m+1,xs,t,off,K,h1,h3=>by
  have hs:n7 n (xs ++ [r]) (t.set .no x L0 (off+xs.length)) off:=.of fun k r' e=>by
   by_cases hk:k < xs.length
   ·rw [List.getElem?_append_left hk] at e
    rw [a8v oM]
    exact h1.get e
   ·by_cases hk2:k=xs.length
    ·subst hk2
     simp at e
     subst e
     rw [b7e oM]
     exact ⟨hn,hr⟩
    ·rw [List.getElem?_eq_none (by simp;omega)] at e;cases e
  obtain ⟨t',h4,h5⟩:=c7f hr hn m (K:=K) hs (by simp;omega)
  refine ⟨t',by rw [List.append_assoc] at h4;exact h4,?_⟩
  show cond (Nat.ble (Nat.add (off+xs.length) 2) 281474976710656) (a1a x L0 t (off+xs.length) fun t=>zT x m t (off+xs.length+1) K) none=K t'
  have hb:Nat.ble (Nat.add (off+xs.length) 2) 281474976710656=true:=by
   rw [Nat.ble_eq];show off+xs.length+2≤_;omega
  rw [hb,U7]
  simp only [List.length_append,List.length_cons,List.length_nil] at h5
  exact h5
theorem sZT {n m:Nat} {r:List G} {x:Q} {K:j0 Q→Om} (hr:U=CU→Row r x) (hn:r.length=n) (hm:m≤140737488355328) (h:∀ t',n7 n (List.replicate m r) t' 0→g8 U (K t') P):g8 U (U.zT x m .nil 0 K) P:=fun e=>by
 obtain ⟨t',h1,h2⟩:=c7f (hr e) hn m (K:=K) (n7.nil n .nil 0) (by simp;omega)
 rw [List.nil_append] at h1
 have:=h t' h1 e
 subst e
 show ∃ v bs,zT x m .nil 0 K=some (v,bs)∧P v bs
 have h2:zT x m .nil 0 K=K t':=h2
 rw [h2];exact this
theorem sST {n:Nat} {xs:List (List G)} {r:List G} {x:Q} {t:j0 Q} {off i:Nat} {K:j0 Q→Om} (ht:n7 n xs t off) (hr:U=CU→Row r x) (hn:r.length=n) (hi:i < xs.length) (hb:off+i+2≤281474976710656)
  (h:∀ t',n7 n (xs.set i r) t' off→g8 U (K t') P):g8 U (U.sT t (off+i) x K) P:=fun e=>by
 have hs:n7 n (xs.set i r) (t.set .no x L0 (off+i)) off:=.of fun k r' e'=>by
  by_cases hk:k=i
  ·subst hk
   rw [List.getElem?_set_self oM] at e'
   injection e' with e'
   subst e'
   rw [b7e oM]
   exact ⟨hn,hr e⟩
  ·rw [List.getElem?_set_ne oM] at e'
   rw [a8v oM]
   exact ht.get e'
 have:=h _ hs e
 subst e
 show ∃ v bs,a1a x L0 t (off+i) K=some (v,bs)∧P v bs
 rw [U7];exact this
theorem a8u {n:Nat} {xs:List (List G)} {r:List G} {x:Q} {t:j0 Q} {i:Nat} {K:j0 Q→Om} (ht:n7 n xs t 0) (hr:U=CU→Row r x) (hn:r.length=n) (hi:i < xs.length) (hb:i+2≤281474976710656)
  (h:∀ t',n7 n (xs.set i r) t' 0→g8 U (K t') P):g8 U (U.sT t i x K) P:=fun e=>by
 have h2:=sST (off:=0) (i:=i) (K:=K) ht hr hn hi oM h e
 rw [Nat.zero_add] at h2
 exact h2
inductive a0w (id n:Nat) (xs:List (List G)):V→Prop
 | a (t:j0 Q) (len:Nat):len=xs.length→n7 n xs t 0→a0w id n xs (.slice t n 0 len (.tok id))
 | b:xs=[]→a0w id n xs (.slice .nil 0 0 0 (.tok id))
theorem c3c {id n c:Nat} {xs:List (List G)} {v:V} {K:j0 Q→Nat→Nat→Om} (hv:a0w id (n+1) xs v) (hc:V7 (.tok id)=c) (h:∀ t,n7 (n+1) xs t 0→g8 U (K t 0 xs.length) P):g8 U (U.uSl (n+1) c v K) P:=by
 cases hv with
 | a t len h1 h2=>subst h1;exact b7d hc (h t h2)
 | b h1=>subst h1;exact c3b hc (h .nil (.nil _ _ _))
theorem c0c {α:Type} {f:α→List G} {id n c:Nat} {ys:List α} {v:V} {K:j0 Q→Nat→Nat→Om} (hv:a0w id (n+1) (ys.map f) v) (hc:V7 (.tok id)=c) (h:∀ t,n7 (n+1) (ys.map f) t 0→g8 U (K t 0 ys.length) P):g8 U (U.uSl (n+1) c v K) P :=
 c3c hv hc fun t k=>by rw [List.length_map];exact h t k
theorem b0s {e m:Int} {K:Int→Om} (he:e=m) (hr:-9223372036854775808≤m∧m < 9223372036854775808) (h:g8 U (K m) P):g8 U (U.fI (U.wr .i64 e) K) P:=fun e'=>by
 have:=h e';subst e';rw [U9]
 show ∃ v bs,K (wr .i64 e)=some (v,bs)∧P v bs
 rw [c33 he hr.1 hr.2];exact this
theorem d8b {e:Int} (h1:0≤e) (h2:e < 256):wr .u8 e=e:=by
 rw [a1p];exact a2x .u8 _ (by show _ < ((256:Nat):Int);omega) (by show -((0:Nat):Int)≤_;omega)
theorem d2m {a b m:Int} {K:Int→Om} (he:a - b=m) (hr:0≤m∧m < 256) (h:g8 U (K m) P):g8 U (U.fI (U.wr .u8 (U.iSub a b)) K) P:=fun e'=>by
 have:=h e';subst e';rw [U9]
 show ∃ v bs,K (wr .u8 (iSub a b))=some (v,bs)∧P v bs
 rw [b1g,he,d8b hr.1 hr.2];exact this
theorem d71 {e m:Int} {K:Int→Om} (he:e=m) (hr:0≤m∧m < 256) (h:g8 U (K m) P):g8 U (U.fI (U.wr .u8 e) K) P:=fun e'=>by
 have:=h e';subst e';rw [U9]
 show ∃ v bs,K (wr .u8 e)=some (v,bs)∧P v bs
 rw [he,d8b hr.1 hr.2];exact this
def bg (b:UInt8):List G:=[.i .u8 b.toNat]
theorem d8f {ys:List UInt8}:∀ {t:j0 Q} {off:Nat} {K:Nat→Om},n7 1 (ys.map bg) t off→bT t ys.length off K=K (j9 ys):=by
 induction ys with
 | nil=>intro t off K _;rfl
 | cons y ys ih =>
  intro t off K h
  cases h with
  | cons _ _ _ _ _ h1 h2 h2' h3 =>
   have h5:=h2' _ rfl
   have h6:t.get off=some (.int .u8 y.toNat):=by
    rw [b52] at h5
    cases hg:t.get off with
    | none=>rw [hg] at h5;cases h5
    | some q=>rw [hg] at h5;simp at h5;cases h5;rfl
   show (match t.get off with
    | some (.int .u8 n)=>bT t ys.length (off+1) fun c=>fN (Nat.add (Nat.mod (iNat n) 256) (Nat.mul 256 c)) K
    | _=>none)=_
   rw [h6]
   simp only []
   rw [ih h3,b90]
   have:=y.toNat_lt
   have e:Nat.add (Nat.mod (iNat (y.toNat:Int)) 256) (Nat.mul 256 (j9 ys))=j9 (y :: ys):=by
    rw [D0]
    show y.toNat % 256+256 * j9 ys=y.toNat+256 * j9 ys
    omega
   rw [e]
theorem sBT {ys:List UInt8} {t:j0 Q} {off m:Nat} {K:Nat→Om} (ht:n7 1 (ys.map bg) t off) (hm:m=ys.length) (h:g8 U (K (j9 ys)) P):g8 U (U.bT t m off K) P:=fun e=>by
 have:=h e
 subst e hm
 show ∃ v bs,bT t ys.length off K=some (v,bs)∧P v bs
 rw [d8f ht];exact this
structure Sp where
 ι:Type
 A:ι→List GV
 B:ι→List (List G)
 R:ι→o8
 B':ι→List (List G)
 inj:∀ i j vs bs,j6 (A i) vs→j6 (A j) vs→RBs (B i) bs→RBs (B j) bs→R i=R j∧B' i=B' j
def Ans (fn:FuncId→C2) (g:FuncId) (sp:Sp):Prop:=∀ i vs bs,j6 (sp.A i) vs→RBs (sp.B i) bs→∃ v bs',fn g vs bs=some (v,bs')∧j7 (sp.R i) v∧RBs (sp.B' i) bs'
theorem f9 {fn:FuncId→C2} {g:FuncId} {sp:Sp} (hg:Ans fn g sp) (i:sp.ι) {vs:List V} {bs:List Bx} {K:V→List Bx→Om} {Kp:V→Om} {r:GV} (hr:sp.R i=.ret r) (hv:j6 (sp.A i) vs) (hb:RBs (sp.B i) bs)
  (hk:∀ v bs',RV r v→RBs (sp.B' i) bs'→g8 U (K v bs') P):g8 U (U.bind (fn g vs bs) K Kp) P:=fun e=>by
 obtain ⟨v,bs',h1,h2,h3⟩:=hg i vs bs hv hb
 rw [hr] at h2
 cases h2 with
 | ret _ v h2 =>
  have:=hk v bs' h2 h3 e
  subst e
  rw [h1]
  exact this
theorem P6 {fn:FuncId→C2} {g:FuncId} {sp:Sp} (hg:Ans fn g sp) (i:sp.ι) {vs:List V} {bs:List Bx} {K:V→List Bx→Om} {Kp:V→Om} {r:GV} (hr:sp.R i=.pan r) (hv:j6 (sp.A i) vs) (hb:RBs (sp.B i) bs)
  (hk:∀ v,RV r v→g8 U (Kp v) P):g8 U (U.bind (fn g vs bs) K Kp) P:=fun e=>by
 obtain ⟨v,bs',h1,h2,h3⟩:=hg i vs bs hv hb
 rw [hr] at h2
 cases h2 with
 | pan _ v h2 =>
  have:=hk v h2 e
  subst e
  rw [h1]
  exact this
theorem d2a {k:IntKind} {n:Int} {v:V} (h:RV (.c (.i k n)) v) (f:Nat→Option Nat):X6 f v=v:=by
 cases h with
 | i=>rfl
 | q=>rfl
theorem e6k {t:TypeId} {e p:Int} {v:V} (h:RV (.fl t e p) v):RV (.fl t e p) (CU.rn0 v):=by
 show RV _ (a0j V0 v)
 cases h with
 | fl _ _ _ vs h =>
  have:a0j V0 (.iface t (.agg vs))=.iface t (.agg vs):=by
   cases h with
   | cons _ _ v1 _ h1 h =>
    cases h with
    | cons _ _ v2 _ h2 h =>
     cases h
     simp only [a0j,T2,T1,List.map_cons,List.map_nil,d2a h1,d2a h2]
  rw [this];exact .fl _ _ _ _ h
 | flq _ _ _ q h=>exact .flq _ _ _ _ h
theorem a09 {t:TypeId} {e p:Int} {v:V} {bs:List Bx} {B:List (List G)} (h:RV (.fl t e p) v) (hb:RBs B bs):g8 U (some (.pan (U.rn0 v),bs)) fun v bs'=>j7 (.pan (.fl t e p)) v∧RBs B bs' :=
 D5 fun e=>by subst e;exact ⟨.pan _ _ (e6k h),hb⟩
def Sp.lt (sp:Sp) (μ:sp.ι→Nat) (n:Nat):Sp where
 ι:={ i:sp.ι // μ i < n }
 A i:=sp.A i.1
 B i:=sp.B i.1
 R i:=sp.R i.1
 B' i:=sp.B' i.1
 inj i j:=sp.inj i.1 j.1
end
end
end Go.Abs
