/- Typed data, what stands for it in runs, and the rules by which a function's text is walked over data that are not known. No program in sight. -/
import Derived.Test.YtkojildpddaccaaGreatDoorCQ2
set_option linter.all false
namespace Go.Abs
noncomputable section
open Go.Abs

inductive G where
 | b (x:Bool)
 | i (k:IntKind) (n:Int)
 | s (x:List UInt8)
 | l (xs:List (List G))

mutual
/-- A value of one cell stands for this. -/
inductive RG:G→Q→Prop
 | b (x:Bool):RG (.b x) (.bool x)
 | i (k:IntKind) (n:Int):RG (.i k n) (.int k n)
 | s (x:List UInt8) (l c:Nat):l=x.length→c=C6 x→RG (.s x) (.str l c)
 | l (xs:List (List G)) (t:s6 Q) (n off len:Nat):len=xs.length→u6 n xs t off→RG (.l xs) (.slice t n off len)
/-- The elements, n cells each, stand in a tree from a place on. -/
inductive u6:Nat→List (List G)→s6 Q→Nat→Prop
 | nil (n:Nat) (t:s6 Q) (off:Nat):u6 n [] t off
 | cons (n:Nat) (r:List G) (rs:List (List G)) (t:s6 Q) (off:Nat):r.length=n→u3 r (tQ t off) 0→(∀ g,r=[g]→RG g (tQ t off))→u6 n rs t (off+1)→u6 n (r :: rs) t off
/-- The cells stand in a value from a place on. -/
inductive u3:List G→Q→Nat→Prop
 | nil (q:Q) (i:Nat):u3 [] q i
 | cons (g:G) (gs:List G) (q:Q) (i:Nat):RG g (celQ q i)→u3 gs q (i+1)→u3 (g :: gs) q i
end

def Row (r:List G) (q:Q):Prop:=u3 r q 0∧∀ g,r=[g]→RG g q
theorem u3.get {gs:List G}:∀ {q:Q} {i j:Nat} {g:G},u3 gs q i→gs[j]?=some g→RG g (celQ q (i+j)):=by
 induction gs with
 | nil=>intro q i j g h e;simp at e
 | cons x gs ih =>
  intro q i j g h e
  cases h with
  | cons _ _ _ _ h1 h2 =>
   cases j with
   | zero=>simp at e;subst e;simpa using h1
   | succ j =>
    have:=ih h2 (j:=j) (by simpa using e)
    rw [show i+1+j=i+(j+1) by omega] at this
    exact this
theorem u3.of {gs:List G}:∀ {q:Q} {i:Nat},(∀ j g,gs[j]?=some g→RG g (celQ q (i+j)))→u3 gs q i:=by
 induction gs with
 | nil=>intro q i _;exact .nil q i
 | cons x gs ih =>
  intro q i h
  refine .cons _ _ _ _ (by simpa using h 0 x (by simp)) (ih fun j g e=>?_)
  have:=h (j+1) g (by simpa using e)
  rw [show i+1+j=i+(j+1) by omega]
  exact this
theorem u6.get {n:Nat} {xs:List (List G)}:∀ {t:s6 Q} {off j:Nat} {r:List G},u6 n xs t off→xs[j]?=some r→r.length=n∧Row r (tQ t (off+j)):=by
 induction xs with
 | nil=>intro t off j r h e;simp at e
 | cons x xs ih =>
  intro t off j r h e
  cases h with
  | cons _ _ _ _ _ h1 h2 h2' h3 =>
   cases j with
   | zero=>simp at e;subst e;exact ⟨h1,h2,h2'⟩
   | succ j =>
    have:=ih h3 (j:=j) (by simpa using e)
    rw [show off+1+j=off+(j+1) by omega] at this
    exact this
theorem u6.of {n:Nat} {xs:List (List G)}:∀ {t:s6 Q} {off:Nat},(∀ j r,xs[j]?=some r→r.length=n∧Row r (tQ t (off+j)))→u6 n xs t off:=by
 induction xs with
 | nil=>intro t off _;exact .nil n t off
 | cons x xs ih =>
  intro t off h
  refine .cons _ _ _ _ _ (h 0 x (by simp)).1 (h 0 x (by simp)).2.1 (h 0 x (by simp)).2.2 (ih fun j r e=>?_)
  have:=h (j+1) r (by simpa using e)
  rw [show off+1+j=off+(j+1) by omega]
  exact this
theorem u6.take {n:Nat} {xs:List (List G)} {t:s6 Q} {off:Nat} (h:u6 n xs t off) (k:Nat):u6 n (xs.take k) t off:=.of fun j r e=>by
 rw [List.getElem?_take] at e
 split at e
 ·exact h.get e
 ·cases e
theorem u6.drop {n:Nat} {xs:List (List G)} {t:s6 Q} {off:Nat} (h:u6 n xs t off) (k:Nat):u6 n (xs.drop k) t (off+k):=.of fun j r e=>by
 rw [List.getElem?_drop] at e
 rw [Nat.add_assoc]
 exact h.get e
theorem c56 (x:Q) (h:∀ i,celQ x i=Nat.rec (motive:=fun _=>Q) x (fun _ _=>.no) i) (h2:∀ i,subQ x i=Nat.rec (motive:=fun _=>Q) x (fun _ _=>.no) i) (k j:Nat):celQ (subQ x k) j=celQ x (k+j):=by
 rw [h2]
 cases k with
 | zero=>show celQ x j=celQ x (0+j);rw [Nat.zero_add]
 | succ k =>
  rw [h,show k+1+j=(k+j)+1 by omega]
  cases j <;> rfl
theorem d38 (x:Q) (k j:Nat):celQ (subQ x k) j=celQ x (k+j):=by
 cases x with
 | agg cs off=>show gL cs (off+k+j)=gL cs (off+(k+j));rw [Nat.add_assoc]
 | aggt t off=>show tQ t (off+k+j)=tQ t (off+(k+j));rw [Nat.add_assoc]
 | _=>exact c56 _ (fun _=>rfl) (fun _=>rfl) k j
theorem u3.drop {gs:List G} {q:Q} (k:Nat) (h:u3 gs q 0):u3 (gs.drop k) (subQ q k) 0:=.of fun j g e=>by
 rw [d38]
 rw [List.getElem?_drop] at e
 have:=h.get e
 rw [show 0+(k+j)=k+(0+j) by omega] at this
 exact this
theorem u3.take {gs:List G} {q:Q} {i:Nat} (k:Nat) (h:u3 gs q i):u3 (gs.take k) q i:=.of fun j g e=>by
 rw [List.getElem?_take] at e
 split at e
 ·exact h.get e
 ·cases e

mutual
theorem RG.inj:∀ {g g':G} {x:Q},RG g x→RG g' x→g=g'
 | _,_,_,.b x,h=>by cases h;rfl
 | _,_,_,.i k n,h=>by cases h;rfl
 | _,_,_,.s x l c h1 h2,h=>by cases h with | s y _ _ h3 h4=>rw [← E8 x,← h1,← h2,h3,h4,E8]
 | _,_,_,.l xs t n off len h1 h2,h=>by cases h with | l ys _ _ _ _ h3 h4=>rw [u6.inj h2 h4 (h1.symm.trans h3)]
theorem u6.inj:∀ {n:Nat} {xs ys:List (List G)} {t:s6 Q} {off:Nat},u6 n xs t off→u6 n ys t off→xs.length=ys.length→xs=ys
 | _,_,ys,_,_,.nil n t off,h,e=>by cases ys with | nil=>rfl | cons _ _=>simp at e
 | _,_,_,_,_,.cons n r rs t off h1 h2 _ h3,h,e=>by
  cases h with
  | nil=>simp at e
  | cons _ r' rs' _ _ k1 k2 _ k3=>rw [u3.inj h2 k2 (h1.trans k1.symm),u6.inj h3 k3 (by simpa using e)]
theorem u3.inj:∀ {gs gs':List G} {q:Q} {i:Nat},u3 gs q i→u3 gs' q i→gs.length=gs'.length→gs=gs'
 | _,gs',_,_,.nil q i,h,e=>by cases gs' with | nil=>rfl | cons _ _=>simp at e
 | _,_,_,_,.cons g gs q i h1 h2,h,e=>by
  cases h with
  | nil=>simp at e
  | cons g' gs' _ _ k1 k2=>rw [RG.inj h1 k1,u3.inj h2 k2 (by simpa using e)]
end

inductive GV where
 | c (g:G)
 | a (gs:List G)
 | t (vs:List GV)
 | p (id off:Nat)
 | sl (n:Nat) (xs:List (List G))
 | fr (z:Nat) (xs:List (List G))
 | f0 (z:Nat) (xs:List (List G))
 | nilI
 | fl (t:TypeId) (e p:Int)
 | raw (v:V)

mutual
inductive RV:GV→V→Prop
 | b (x:Bool):RV (.c (.b x)) (.bool x)
 | kn (x:Bool):RV (.c (.b x)) (.known x)
 | i (k:IntKind) (n:Int):RV (.c (.i k n)) (.int k n)
 | s (x:List UInt8) (l c:Nat):l=x.length→c=C6 x→RV (.c (.s x)) (.str l c)
 | cl (xs:List (List G)) (t:s6 Q) (n off len:Nat):len=xs.length→u6 n xs t off→RV (.c (.l xs)) (.slice t n off len .no)
 | q (g:G) (x:Q):RG g x→RV (.c g) (.q x)
 | a (gs:List G) (q:Q) (m:Nat):m=gs.length→u3 gs q 0→RV (.a gs) (.a q m)
 | ag (gs:List G) (cs:List V):t7 (gs.map .c) cs→RV (.a gs) (.agg cs)
 | t (gs:List GV) (vs:List V):t7 gs vs→RV (.t gs) (.tuple vs)
 | p (id off:Nat):RV (.p id off) (.ptr id off)
 | sl (n:Nat) (xs:List (List G)) (t:s6 Q) (off len:Nat):len=xs.length→u6 n xs t off→RV (.sl n xs) (.slice t n off len .no)
 | sl0 (n:Nat) (t:s6 Q) (off:Nat):RV (.sl n []) (.slice t 0 off 0 .no)
 | slq (n:Nat) (xs:List (List G)) (x:Q):RG (.l xs) x→(∀ r ∈ xs,r.length=n)→RV (.sl n xs) (.q x)
 | fr (z:Nat) (xs:List (List G)) (t:s6 Q) (off len:Nat):len=xs.length→u6 z xs t off→RV (.fr z xs) (.slice t z off len (.fr z))
 | f0 (z:Nat) (xs:List (List G)) (t:s6 Q) (len:Nat):len=xs.length→u6 z xs t 0→RV (.f0 z xs) (.slice t z 0 len (.fr z))
 | nilI:RV .nilI .nilIface
 | fl (t:TypeId) (e p:Int) (vs:List V):t7 [.c (.i .i64 e),.c (.i .i64 p)] vs→RV (.fl t e p) (.iface t (.agg vs))
 | flq (t:TypeId) (e p:Int) (q:Q):u3 [.i .i64 e,.i .i64 p] q 0→RV (.fl t e p) (.iface t (.a q 2))
 | raw (v:V):RV (.raw v) v
inductive t7:List GV→List V→Prop
 | nil:t7 [] []
 | cons (g:GV) (gs:List GV) (v:V) (vs:List V):RV g v→t7 gs vs→t7 (g :: gs) (v :: vs)
end
theorem t7.length:∀ {gs:List GV} {vs:List V},t7 gs vs→gs.length=vs.length
 | [],_,h=>by cases h;rfl
 | g :: gs,_,h=>by cases h with | cons _ _ _ vs _ h=>simp [h.length]
theorem t7.two {g g':GV} {gs gs':List GV} {vs:List V} (h:t7 (g :: gs) vs) (k:t7 (g' :: gs') vs):∃ v l,RV g v∧RV g' v∧t7 gs l∧t7 gs' l:=by
 cases h with | cons _ _ v l h1 h2=>cases k with | cons _ _ _ _ k1 k2=>exact ⟨v,l,h1,k1,h2,k2⟩
inductive RB:List G→Bx→Prop
 | opa (gs:List G) (q:Q) (m:Nat):m=gs.length→u3 gs q 0→RB gs (.opa q m)
 | cells (gs:List G) (cs:List V):t7 (gs.map .c) cs→RB gs (.cells cs)
inductive s5:List (List G)→List Bx→Prop
 | nil:s5 [] []
 | cons (g:List G) (gs:List (List G)) (b:Bx) (bs:List Bx):RB g b→s5 gs bs→s5 (g :: gs) (b :: bs)
theorem t7.k {g:GV} {gs:List GV} {v:V} {vs:List V} (h:RV g v) (t:t7 gs vs):t7 (g :: gs) (v :: vs):=.cons _ _ _ _ h t
theorem s5.k {g:List G} {gs:List (List G)} {b:Bx} {bs:List Bx} (h:RB g b) (t:s5 gs bs):s5 (g :: gs) (b :: bs):=.cons _ _ _ _ h t
theorem u3.k {g:G} {gs:List G} {q:Q} {i:Nat} (h:RG g (celQ q i)) (t:u3 gs q (i+1)):u3 (g :: gs) q i:=.cons _ _ _ _ h t
theorem C2.k {S:_} {M:_} {w:_} {v:Value} {d:D} {vs:List Value} {ds:List D} (h:Rd S M w v d) (t:C2 S M w vs ds):C2 S M w (v :: vs) (d :: ds):=.cons _ _ _ _ h t
inductive u9 where
 | ret (v:GV)
 | pan (v:GV)
inductive u0:u9→H4→Prop
 | ret (g:GV) (v:V):RV g v→u0 (.ret g) (.ret v)
 | pan (g:GV) (v:V):RV g v→u0 (.pan g) (.pan v)

theorem RV.c_inj {g g':G} {v:V} (h:RV (.c g) v) (k:RV (.c g') v):g=g':=by
 cases h with
 | b x=>cases k;rfl
 | kn x=>cases k;rfl
 | i=>cases k;rfl
 | s x l c h1 h2=>cases k with | s y _ _ k1 k2=>rw [← E8 x,← h1,← h2,k1,k2,E8]
 | cl xs t n off len h1 h2=>cases k with | cl ys _ _ _ _ k1 k2=>rw [u6.inj h2 k2 (h1.symm.trans k1)]
 | q _ x h=>cases k with | q _ _ k=>exact h.inj k
theorem t7.c_inj:∀ {gs gs':List G} {vs:List V},t7 (gs.map .c) vs→t7 (gs'.map .c) vs→gs=gs'
 | [],gs',_,h,k=>by
  cases h
  cases gs' with
  | nil=>rfl
  | cons=>cases k
 | g :: gs,gs',_,h,k=>by
  cases h with
  | cons _ _ v vs h1 h2 =>
   cases gs' with
   | nil=>cases k
   | cons g' gs'=>cases k with | cons _ _ _ _ k1 k2=>rw [h1.c_inj k1,t7.c_inj h2 k2]
theorem RV.a_inj {gs gs':List G} {v:V} (h:RV (.a gs) v) (k:RV (.a gs') v):gs=gs':=by
 cases h with
 | a _ q m h1 h2=>cases k with | a _ _ _ k1 k2=>exact h2.inj k2 (h1.symm.trans k1)
 | ag _ cs h=>cases k with | ag _ _ k=>exact h.c_inj k
theorem RV.sl_inj {n n':Nat} {xs ys:List (List G)} {v:V} (h:RV (.sl n xs) v) (k:RV (.sl n' ys) v):xs=ys:=by
 cases h with
 | sl _ _ t off len h1 h2 =>
  cases k with
  | sl _ _ _ _ _ k1 k2=>exact u6.inj h2 k2 (h1.symm.trans k1)
  | sl0=>simpa using h1.symm
 | sl0 _ t off =>
  cases k with
  | sl _ _ _ _ _ k1 k2=>exact (List.length_eq_zero_iff.1 k1.symm).symm
  | sl0=>rfl
 | slq _ _ x h _=>cases k with | slq _ _ _ k _=>have:=h.inj k;injection this
theorem RB.inj {gs gs':List G} {b:Bx} (h:RB gs b) (k:RB gs' b):gs=gs':=by
 cases h with
 | opa q m h1 h2=>cases k with | opa _ _ k1 k2=>exact h2.inj k2 (h1.symm.trans k1)
 | cells cs h=>cases k with | cells _ k=>exact h.c_inj k
abbrev KJ':=List V→List Bx→Om
def s4 (U:B0) (M:Om) (P:H4→List Bx→Prop):Prop:=U=CU→∃ v bs,M=some (v,bs)∧P v bs
def K8 (U:B0) (b:Bool) (p:Prop):Prop:=U=CU→(b=true↔p)

section
variable {U:B0} {P:H4→List Bx→Prop}
theorem d0e (x:Q) (K:Q→Om):CU.fQ x K=K x:=b55 x K
theorem a2a (x:Int) (K:Int→Om):CU.fI x K=K x:=e5u x K
theorem a83 (x:Nat) (K:Nat→Om):CU.fN x K=K x:=c1p x K
theorem f3w (x:Bool) (K:Bool→Om):CU.fB x K=K x:=e5t x K
theorem trT:K8 U true True:=fun _=>by simp
theorem trF:K8 U false False:=fun _=>by simp
theorem a0f {b:Bool} {p:Prop} (h:K8 U b p):K8 U (U.bnot b) (¬p):=fun e=>by
 have:=h e;subst e;rw [← this];show bnot b=true↔_;cases b <;> simp [bnot]
theorem V7 {a b:Bool} {p q:Prop} (h:K8 U a p) (k:K8 U b q):K8 U (U.band a b) (p∧q):=fun e=>by
 rw [← h e,← k e];subst e;show band a b=true↔_;cases a <;> cases b <;> simp [band]
theorem a1b {a b:Int}:K8 U (U.iLt a b) (a < b):=fun e=>by subst e;show iLt a b=true↔_;rw [a1v];simp
theorem a0l {a b:Int}:K8 U (U.iLe a b) (a≤b):=fun e=>by subst e;show iLe a b=true↔_;rw [W0];simp
theorem a1a {a b:Int}:K8 U (U.iEq a b) (a=b):=fun e=>by subst e;show iEq a b=true↔_;rw [S3];simp
theorem a0e {a:Int} {n:Nat}:K8 U (U.iLt a (U.iOfN n)) (a < (n:Int)):=fun e=>by subst e;exact a1b rfl
theorem Y2 {a:Int} {n:Nat}:K8 U (U.iLe a (U.iOfN n)) (a≤(n:Int)):=fun e=>by subst e;exact a0l rfl
theorem V9 {a b:Nat}:K8 U (U.nLe a b) (a≤b):=fun e=>by subst e;show Nat.ble a b=true↔_;rw [Nat.ble_eq]
theorem U4 {a k b:Nat}:K8 U (U.nLe (U.nAdd a k) b) (a+k≤b):=fun e=>by subst e;exact V9 rfl
theorem U5 {a k m b:Nat}:K8 U (U.nLe (U.nMul (U.nAdd a k) m) b) ((a+k) * m≤b):=fun e=>by subst e;exact V9 rfl
theorem U6 {a:Int} {m b:Nat}:K8 U (U.nLe (U.nMul (U.iNat a) m) b) (a.toNat * m≤b):=fun e=>by subst e;show Nat.ble (iNat a * m) b=true↔_;rw [G8,Nat.ble_eq]
theorem U7 {a:Int} {b:Nat}:K8 U (U.nLe (U.iNat a) b) (a.toNat≤b):=fun e=>by subst e;show Nat.ble (iNat a) b=true↔_;rw [G8,Nat.ble_eq]
theorem a0g {a b:Nat}:K8 U (U.nEq a b) (a=b):=fun e=>by subst e;show Nat.beq a b=true↔_;rw [Nat.beq_eq]
theorem trS {l c l' c':Nat}:K8 U (U.sEq l c l' c') (o8 l c=o8 l' c'):=fun e=>by subst e;show sEq l c l' c'=true↔_;rw [b1y];simp
theorem a2t {x y:List UInt8}:K8 U (U.sEq x.length (C6 x) y.length (C6 y)) (x=y):=fun e=>by rw [trS e,E8,E8]
theorem a1c {x:List UInt8} {l c:Nat}:K8 U (U.sEq x.length (C6 x) l c) (x=o8 l c):=fun e=>by rw [trS e,E8]
theorem trV {b:Bool}:K8 U b (b=true):=fun _=>Iff.rfl

theorem p9 {v:H4} {bs:List Bx} (h:P v bs):s4 U (some (v,bs)) P:=fun _=>⟨v,bs,rfl,h⟩
theorem E9 {v:H4} {bs:List Bx} (h:U=CU→P v bs):s4 U (some (v,bs)) P:=fun e=>⟨v,bs,rfl,h e⟩
theorem a5c (a b:Int):CU.iEq a b=decide (a=b):=by show iEq a b=_;rw [S3];rfl
theorem b73 (a b:Int):CU.iLt a b=decide (a < b):=by show iLt a b=_;rw [a1v]
theorem c2l (a b:Int):CU.iLe a b=decide (a≤b):=by show iLe a b=_;rw [W0]
theorem b2j (a:Bool):CU.bnot a=!a:=by cases a <;> rfl
theorem a2x (a b:Bool):CU.band a b=(a && b):=by cases a <;> cases b <;> rfl
theorem b74 (x:List UInt8) (l c:Nat):CU.sEq x.length (C6 x) l c=decide (x=o8 l c):=by
 show sEq _ _ _ _=_;rw [b1y,E8];by_cases h:x=o8 l c <;> simp [h]
theorem b3c {v:V} {l:List V} {K:V→List V→Om} (h:s4 U (K v l) P):s4 U (U.uCons (v :: l) K) P:=fun e=>by have:=h e;subst e;exact this
theorem M3 {g:GV} {gs:List GV} {vs:List V} {K:V→List V→Om} (hv:t7 (g :: gs) vs) (h:∀ v l,RV g v→t7 gs l→s4 U (K v l) P):s4 U (U.uCons vs K) P:=by
 cases hv with | cons _ _ v l h1 h2=>exact b3c (h v l h1 h2)
theorem b8x {K:Om} (h:s4 U K P):s4 U (U.uNil [] K) P:=fun e=>by have:=h e;subst e;exact this
theorem b3e {vs:List V} {K:Om} (hv:t7 [] vs) (h:s4 U K P):s4 U (U.uNil vs K) P:=by cases hv;exact b8x h
theorem a8n {v:Bx} {l:List Bx} {K:Bx→List Bx→Om} (h:s4 U (K v l) P):s4 U (U.uConsB (v :: l) K) P:=fun e=>by have:=h e;subst e;exact this
theorem a8o {g:List G} {gs:List (List G)} {vs:List Bx} {K:Bx→List Bx→Om} (hv:s5 (g :: gs) vs) (h:∀ v l,RB g v→s5 gs l→s4 U (K v l) P):s4 U (U.uConsB vs K) P:=by
 cases hv with | cons _ _ v l h1 h2=>exact a8n (h v l h1 h2)
theorem b3d {K:Om} (h:s4 U K P):s4 U (U.uNilB [] K) P:=fun e=>by have:=h e;subst e;exact this
theorem a8p {vs:List Bx} {K:Om} (hv:s5 [] vs) (h:s4 U K P):s4 U (U.uNilB vs K) P:=by cases hv;exact b3d h
theorem sP {id off:Nat} {K:Om} (h:s4 U K P):s4 U (U.uP id off (.ptr id off) K) P:=fun e=>by
 have:=h e;subst e
 show ∃ v bs,cond (Nat.beq id id) (cond (Nat.beq off off) K none) none=some (v,bs)∧P v bs
 rw [Nat.beq_refl,Nat.beq_refl];exact this
theorem sPR {id off:Nat} {v:V} {K:Om} (hv:RV (.p id off) v) (h:s4 U K P):s4 U (U.uP id off v K) P:=by cases hv;exact sP h
theorem sI {k:IntKind} {n:Int} {v:V} {K:Int→Om} (hv:RV (.c (.i k n)) v) (h:s4 U (K n) P):s4 U (U.uI k v K) P:=fun e=>by
 have:=h e;subst e
 cases hv with
 | i=>show ∃ v bs,cond (ikEq k k) (K n) none=some (v,bs)∧P v bs;rw [b1i];exact this
 | q _ x hx=>cases hx;show ∃ v bs,cond (ikEq k k) (K n) none=some (v,bs)∧P v bs;rw [b1i];exact this
theorem sIV {k:IntKind} {n:Int} {K:Int→Om} (h:s4 U (K n) P):s4 U (U.uI k (.int k n) K) P:=sI (.i k n) h
theorem sB {x:Bool} {v:V} {K:Bool→Om} (hv:RV (.c (.b x)) v) (h:s4 U (K x) P):s4 U (U.uB v K) P:=fun e=>by
 have:=h e;subst e
 cases hv with
 | b=>exact this
 | kn=>exact this
 | q _ _ hx=>cases hx;exact this
theorem sBV {x:Bool} {K:Bool→Om} (h:s4 U (K x) P):s4 U (U.uB (.bool x) K) P:=sB (.b x) h
theorem sBK {x:Bool} {K:Bool→Om} (h:s4 U (K x) P):s4 U (U.uB (.known x) K) P:=sB (.kn x) h
theorem sS {x:List UInt8} {v:V} {K:Nat→Nat→Om} (hv:RV (.c (.s x)) v) (h:s4 U (K x.length (C6 x)) P):s4 U (U.uS v K) P:=fun e=>by
 have:=h e;subst e
 cases hv with
 | s _ l c h1 h2=>subst h1 h2;exact this
 | q _ _ hx=>cases hx with | s _ l c h1 h2=>subst h1 h2;exact this
theorem sSV {l c:Nat} {K:Nat→Nat→Om} (h:s4 U (K l c) P):s4 U (U.uS (.str l c) K) P:=fun e=>by have:=h e;subst e;exact this
theorem u6.len {n:Nat} {xs:List (List G)} {t:s6 Q} {off:Nat} (h:u6 n xs t off):∀ r ∈ xs,r.length=n:=fun r hr=>by
 obtain ⟨j,hj⟩:=List.getElem?_of_mem hr
 exact (h.get hj).1
theorem b43 {n:Nat} {xs:List (List G)} {x:Q} {K:s6 Q→Nat→Nat→Om} (hx:RG (.l xs) x) (hn:∀ r ∈ xs,r.length=n) (h:∀ t off,u6 n xs t off→s4 U (K t off xs.length) P):s4 U (U.cSl n x K) P:=fun e=>by
 subst e
 cases hx with
 | l _ t n' off len h1 h2 =>
  subst h1
  show ∃ v bs,cond (Nat.beq n n') (K t off xs.length) (cond (Nat.beq xs.length 0) (K .nil 0 0) none)=some (v,bs)∧P v bs
  cases xs with
  | nil =>
   cases Nat.beq n n' with
   | true=>exact h t off (.nil _ _ _) rfl
   | false=>exact h .nil 0 (.nil _ _ _) rfl
  | cons r rs =>
   have h3:=hn r List.mem_cons_self
   have h4:=h2.len r List.mem_cons_self
   have:n=n':=h3.symm.trans h4
   subst this
   rw [Nat.beq_refl]
   exact h t off h2 rfl
theorem sSl {n:Nat} {xs:List (List G)} {v:V} {K:s6 Q→Nat→Nat→Om} (hv:RV (.sl (n+1) xs) v) (h:∀ t off,u6 (n+1) xs t off→s4 U (K t off xs.length) P):s4 U (U.uSl (n+1) 0 v K) P:=by
 cases hv with
 | sl _ _ t off len h1 h2 =>
  subst h1
  intro e
  have:=h t off h2 e
  subst e
  show ∃ v bs,cond (Nat.beq (n+1) (n+1)) (K t off xs.length) (chk (nEq xs.length 0) (K .nil 0 0))=some (v,bs)∧P v bs
  rw [Nat.beq_refl];exact this
 | sl0 _ t off =>
  intro e
  have:=h .nil 0 (.nil _ _ _) e
  subst e
  exact this
 | slq _ _ x hx hn =>
  intro e
  have:=b43 (U:=U) (P:=P) (K:=K) hx hn h e
  subst e
  exact this
theorem a35 {n:Nat} {xs:List (List G)} {v:V} {K:s6 Q→Nat→Nat→Om} (hv:RV (.c (.l xs)) v) (hn:∀ r ∈ xs,r.length=n+1) (h:∀ t off,u6 (n+1) xs t off→s4 U (K t off xs.length) P):s4 U (U.uSl (n+1) 0 v K) P:=by
 cases hv with
 | cl _ t n' off len h1 h2 =>
  by_cases e:n'=n+1
  ·subst e
   exact sSl (.sl _ _ _ _ _ h1 h2) h
  ·have ex:xs=[]:=by
    cases xs with
    | nil=>rfl
    | cons r rs=>exact absurd ((u6.len h2 r (by simp)).symm.trans (hn r (by simp))) e
   subst ex
   subst h1
   intro hU
   have:=h .nil 0 (.nil _ _ _) hU
   subst hU
   cases n' with
   | zero=>exact this
   | succ n' =>
    show ∃ v bs,cond (Nat.beq (n+1) (n'+1)) (K t off 0) (chk (nEq 0 0) (K .nil 0 0))=some (v,bs)∧P v bs
    rw [show Nat.beq (n+1) (n'+1)=false from by rw [Bool.eq_false_iff];exact fun hb=>e (Nat.eq_of_beq_eq_true hb).symm]
    exact this
 | q _ x hx=>exact sSl (.slq _ _ _ hx hn) h
theorem b44 {n c:Nat} {z:Y4} {t:s6 Q} {off len:Nat} {K:s6 Q→Nat→Nat→Om} (hc:Y6 z=c) (h:s4 U (K t off len) P):s4 U (U.uSl (n+1) c (.slice t (n+1) off len z) K) P:=fun e=>by
 have:=h e;subst e
 show ∃ v bs,cond (Nat.beq (Y6 z) c) (cond (Nat.beq (n+1) (n+1)) (K t off len) (chk (nEq len 0) (K .nil 0 0))) none=some (v,bs)∧P v bs
 rw [hc,Nat.beq_refl,Nat.beq_refl];exact this
theorem b8y {n c:Nat} {z:Y4} {t:s6 Q} {off:Nat} {K:s6 Q→Nat→Nat→Om} (hc:Y6 z=c) (h:s4 U (K .nil 0 0) P):s4 U (U.uSl n c (.slice t 0 off 0 z) K) P:=fun e=>by
 have:=h e;subst e
 show ∃ v bs,cond (Nat.beq (Y6 z) c) (K .nil 0 0) none=some (v,bs)∧P v bs
 rw [hc,Nat.beq_refl];exact this
theorem E5 {α:Type} {f:α→List G} {n:Nat} {ys:List α} {x:Q} {K:s6 Q→Nat→Nat→Om} (hx:RG (.l (ys.map f)) x) (hn:∀ r ∈ ys.map f,r.length=n) (h:∀ t off,u6 n (ys.map f) t off→s4 U (K t off ys.length) P):s4 U (U.cSl n x K) P :=
 b43 hx hn fun t off k=>by rw [List.length_map];exact h t off k
theorem a94 {α:Type} {f:α→List G} {n:Nat} {ys:List α} {v:V} {K:s6 Q→Nat→Nat→Om} (hv:RV (.sl (n+1) (ys.map f)) v) (h:∀ t off,u6 (n+1) (ys.map f) t off→s4 U (K t off ys.length) P):s4 U (U.uSl (n+1) 0 v K) P :=
 sSl hv fun t off k=>by rw [List.length_map];exact h t off k
theorem g3x {g:G} {v:V} (h:RV (.c g) v):∃ x,uA.exQ v=some x∧RG g x:=by
 cases h with
 | b x=>exact ⟨_,rfl,.b x⟩
 | kn x=>exact ⟨_,rfl,.b x⟩
 | i k n=>exact ⟨_,rfl,.i k n⟩
 | s x l c h1 h2=>exact ⟨_,rfl,.s x l c h1 h2⟩
 | cl xs t n off len h1 h2=>exact ⟨_,rfl,.l xs t n off len h1 h2⟩
 | q _ x h=>exact ⟨_,rfl,h⟩
inductive a00:List G→List Q→Prop
 | nil:a00 [] []
 | cons (g:G) (gs:List G) (q:Q) (qs:List Q):RG g q→a00 gs qs→a00 (g :: gs) (q :: qs)
theorem a00.get:∀ {gs:List G} {qs:List Q},a00 gs qs→∀ {j g},gs[j]?=some g→RG g (gL qs j)
 | _,_,.nil,j,g,e=>by simp at e
 | _,_,.cons g gs q qs h1 h2,0,g',e=>by simp at e;subst e;exact h1
 | _,_,.cons g gs q qs h1 h2,j+1,g',e=>a00.get h2 (j:=j) (by simpa using e)
theorem a00.cel {gs:List G} {qs:List Q} (h:a00 gs qs):u3 gs (.agg qs 0) 0:=.of fun j g e=>by
 have:=h.get e
 show RG g (gL qs (0+(0+j)))
 rw [Nat.zero_add,Nat.zero_add];exact this
theorem c3k:∀ {gs:List G} {cs:List V},t7 (gs.map .c) cs→∃ qs,uA.exQs cs=some qs∧a00 gs qs
 | [],_,h=>by cases h;exact ⟨[],rfl,.nil⟩
 | g :: gs,_,h=>by
  cases h with
  | cons _ _ v vs h1 h2 =>
   obtain ⟨x,e1,k1⟩:=g3x h1
   obtain ⟨qs,e2,k2⟩:=c3k h2
   exact ⟨x :: qs,by simp only [uA.exQs,e1,e2],.cons _ _ _ _ k1 k2⟩
theorem sA {m:Nat} {gs:List G} {q:Q} {K:Q→Om} (h:s4 U (K q) P):s4 U (U.uA m (.a q m) K) P:=fun e=>by
 have:=h e;subst e
 show ∃ v bs,cond (Nat.beq m m) (K q) none=some (v,bs)∧P v bs
 rw [Nat.beq_refl];exact this
theorem C4 {gs:List G} {v:V} {K:Q→Om} {m:Nat} (hv:RV (.a gs) v) (hm:gs.length=m) (h:∀ q,u3 gs q 0→s4 U (K q) P):s4 U (U.uA m v K) P:=by
 subst hm
 cases hv with
 | a _ q m' h1 h2=>subst h1;exact sA (gs:=gs) (h q h2)
 | ag _ cs hv =>
  obtain ⟨qs,e1,k1⟩:=c3k hv
  intro e
  have:=h _ k1.cel e
  subst e
  have hl:cs.length=gs.length:=by have:=hv.length;simpa using this.symm
  show ∃ v bs,cond (Nat.beq cs.length gs.length) (match uA.exQs cs with
   | some qs=>K (.agg qs 0)
   | none=>none) none=some (v,bs)∧P v bs
  rw [hl,Nat.beq_refl,e1]
  exact this
theorem a32 {gs:List G} {b:Bx} {K:Q→Om} {m:Nat} (hv:RB gs b) (hm:gs.length=m) (h:∀ q,u3 gs q 0→s4 U (K q) P):s4 U (U.uBo m b K) P:=by
 subst hm
 cases hv with
 | opa q m' h1 h2 =>
  subst h1
  intro e
  have:=h q h2 e
  subst e
  show ∃ v bs,cond (Nat.beq gs.length gs.length) (K q) none=some (v,bs)∧P v bs
  rw [Nat.beq_refl];exact this
 | cells cs hv =>
  obtain ⟨qs,e1,k1⟩:=c3k hv
  intro e
  have:=h _ k1.cel e
  subst e
  have hl:cs.length=gs.length:=by have:=hv.length;simpa using this.symm
  show ∃ v bs,cond (Nat.beq cs.length gs.length) (match uA.exQs cs with
   | some qs=>K (.agg qs 0)
   | none=>none) none=some (v,bs)∧P v bs
  rw [hl,Nat.beq_refl,e1]
  exact this
theorem d8g {gs:List G} {x:Q}:∀ {l:List G} (i:Nat),(∀ j g,l[j]?=some g→gs[i+j]?=some g)→u3 gs x 0→t7 (l.map .c) ((b0c i l.length).map fun i=>.q (celQ x i))
 | [],i,_,_=>.nil
 | g :: l,i,hl,h=>by
  have h1:=h.get (hl 0 g (by simp))
  rw [Nat.zero_add,Nat.add_zero] at h1
  exact .cons _ _ _ _ (.q _ _ h1) (d8g (i+1) (fun j g e=>by rw [show i+1+j=i+(j+1) by omega];exact hl (j+1) g (by simpa using e)) h)
theorem c5c {gs:List G} {b:Bx} {K:List V→Om} (hv:RB gs b) (h:∀ cs,t7 (gs.map .c) cs→s4 U (K cs) P):s4 U (U.uBc b K) P:=by
 cases hv with
 | opa q m h1 h2 =>
  subst h1
  intro e
  have:=h _ (d8g (l:=gs) 0 (fun j g e=>by rw [Nat.zero_add];exact e) h2) e
  subst e
  exact this
 | cells cs hv=>intro e;have:=h cs hv e;subst e;exact this
theorem sTu {gs:List GV} {v:V} {K:List V→Om} (hv:RV (.t gs) v) (h:∀ vs,t7 gs vs→s4 U (K vs) P):s4 U (U.uTu v K) P:=by
 cases hv with | t _ vs hv=>exact fun e=>by have:=h vs hv e;subst e;exact this
theorem sBo {m:Nat} {q:Q} {K:Q→Om} (h:s4 U (K q) P):s4 U (U.uBo m (.opa q m) K) P:=fun e=>by
 have:=h e;subst e
 show ∃ v bs,cond (Nat.beq m m) (K q) none=some (v,bs)∧P v bs
 rw [Nat.beq_refl];exact this
theorem sBc {cs:List V} {K:List V→Om} (h:s4 U (K cs) P):s4 U (U.uBc (.cells cs) K) P:=fun e=>by have:=h e;subst e;exact this
theorem sBs {id len:Nat} {K:Nat→Om} (h:s4 U (K len) P):s4 U (U.uBs id (.bslice id len) K) P:=fun e=>by
 have:=h e;subst e
 show ∃ v bs,cond (Nat.beq id id) (K len) none=some (v,bs)∧P v bs
 rw [Nat.beq_refl];exact this
theorem sBr {t:s6 Q} {len:Nat} {K:s6 Q→Nat→Om} (h:s4 U (K t len) P):s4 U (U.uBr (.row t len) K) P:=fun e=>by have:=h e;subst e;exact this
theorem sBt {z l:Nat} {K:Nat→Om} (h:s4 U (K l) P):s4 U (U.uBt z (.tok l z) K) P:=fun e=>by
 have:=h e;subst e
 show ∃ v bs,cond (Nat.beq z z) (K l) none=some (v,bs)∧P v bs
 rw [Nat.beq_refl];exact this
theorem sCI {k:IntKind} {n:Int} {x:Q} {K:Int→Om} (hx:RG (.i k n) x) (h:s4 U (K n) P):s4 U (U.cI k x K) P:=fun e=>by
 have:=h e;subst e;cases hx
 show ∃ v bs,cond (ikEq k k) (K n) none=some (v,bs)∧P v bs
 rw [b1i];exact this
theorem sCB {b:Bool} {x:Q} {K:Bool→Om} (hx:RG (.b b) x) (h:s4 U (K b) P):s4 U (U.cB x K) P:=fun e=>by have:=h e;subst e;cases hx;exact this
theorem sCS {s:List UInt8} {x:Q} {K:Nat→Nat→Om} (hx:RG (.s s) x) (h:s4 U (K s.length (C6 s)) P):s4 U (U.cS x K) P:=fun e=>by
 have:=h e;subst e
 cases hx with | s _ l c h1 h2=>subst h1 h2;exact this
theorem c5d {gs:List G} {q:Q} {i:Nat} {s:List UInt8} {K:Nat→Nat→Om} (hq:u3 gs q 0) (hi:gs[i]?=some (.s s)) (h:s4 U (K s.length (C6 s)) P):s4 U (U.cS (U.celQ q i) K) P:=fun e=>by
 subst e;have:=hq.get hi;rw [Nat.zero_add] at this;exact sCS this h rfl
theorem Y1 {gs:List G} {q:Q} {i:Nat} {g:G} {K:Q→Om} (hq:u3 gs q 0) (hi:gs[i]?=some g) (h:∀ x,RG g x→s4 U (K x) P):s4 U (U.fQ (U.celQ q i) K) P:=fun e=>by
 subst e;have:=hq.get hi;rw [Nat.zero_add] at this
 have:=h _ this rfl
 rw [d0e];exact this
theorem b3g {gs:List G} {q:Q} {i:Nat} {K:Q→Om} (hq:u3 gs q 0) (h:∀ x,u3 (gs.drop i) x 0→s4 U (K x) P):s4 U (U.fQ (U.subQ q i) K) P:=fun e=>by
 subst e;have:=h _ (hq.drop i) rfl
 rw [d0e];exact this
theorem a5t {gs:List G} {q:Q} {K:Q→Om} (hq:u3 gs q 0) (h:∀ x,u3 gs x 0→s4 U (K x) P):s4 U (U.fQ (U.subQ q 0) K) P:=b3g hq h
theorem sfT {n:Nat} {xs:List (List G)} {r:List G} {t:s6 Q} {off:Nat} {i:Int} {K:Q→Om} (ht:u6 n xs t off) (hi:xs[i.toNat]?=some r) (h:∀ x,u3 r x 0→s4 U (K x) P):s4 U (U.fQ (U.tQ t (U.nAdd off (U.iNat i))) K) P:=fun e=>by
 subst e;have:=h _ (ht.get hi).2.1 rfl
 rw [d0e]
 show ∃ v bs,K (tQ t (Nat.add off (iNat i)))=some (v,bs)∧P v bs
 rw [G8];exact this
theorem e33 {α:Type} {f:α→List G} {n:Nat} {xs:List α} {y:α} {t:s6 Q} {off:Nat} {i:Int} {K:Q→Om} (ht:u6 n (xs.map f) t off) (hi:xs[i.toNat]?=some y) (h:∀ x,u3 (f y) x 0→s4 U (K x) P):s4 U (U.fQ (U.tQ t (U.nAdd off (U.iNat i))) K) P :=
 sfT ht (by rw [List.getElem?_map,hi];rfl) h
theorem c5f {α:Type} {f:α→List G} {n:Nat} {xs:List α} {t:s6 Q} {off:Nat} {i:Nat} {K:Q→Om} (ht:u6 n (xs.map f) t off) (hi:i < xs.length) (h:∀ x,u3 (f xs[i]) x 0→s4 U (K x) P):s4 U (U.fQ (U.tQ t (U.nAdd off (U.iNat (i:Int)))) K) P :=
 e33 ht (by rw [Int.toNat_natCast];exact List.getElem?_eq_getElem hi) h
theorem sfB {x:Bool} {K:Bool→Om} (h:s4 U (K x) P):s4 U (U.fB x K) P:=fun e=>by have:=h e;subst e;rw [f3w];exact this
theorem b7b {n:Nat} {K:Int→Om} (h:s4 U (K n) P):s4 U (U.fI (U.iOfN n) K) P:=fun e=>by have:=h e;subst e;rw [a2a];exact this
theorem b11 {a b:Nat} {K:Nat→Om} (h:s4 U (K (a+b)) P):s4 U (U.fN (U.nAdd a b) K) P:=fun e=>by have:=h e;subst e;rw [a83];exact this
theorem a8q {a:Nat} {b:Int} {K:Nat→Om} (h:s4 U (K (a+b.toNat)) P):s4 U (U.fN (U.nAdd a (U.iNat b)) K) P:=fun e=>by
 have:=h e;subst e;rw [a83]
 show ∃ v bs,K (a+iNat b)=some (v,bs)∧P v bs
 rw [G8];exact this
theorem a8u {a b:Int} {K:Nat→Om} (h:s4 U (K (a.toNat - b.toNat)) P):s4 U (U.fN (U.nSub (U.iNat a) (U.iNat b)) K) P:=fun e=>by
 have:=h e;subst e;rw [a83]
 show ∃ v bs,K (iNat a - iNat b)=some (v,bs)∧P v bs
 rw [G8,G8];exact this
theorem b13 {a:Int} {b:Nat} {K:Nat→Om} (h:s4 U (K (a.toNat * b)) P):s4 U (U.fN (U.nMul (U.iNat a) b) K) P:=fun e=>by
 have:=h e;subst e;rw [a83]
 show ∃ v bs,K (iNat a * b)=some (v,bs)∧P v bs
 rw [G8];exact this
theorem e30 {xs:List (List G)} {g:G} {t:s6 Q} {k:Nat} {K:Q→Om} (ht:u6 1 xs t 0) (hi:xs[k]?=some [g]) (h:∀ x,RG g x→s4 U (K x) P):s4 U (U.fQ (U.tQ t k) K) P:=fun e=>by
 subst e
 have:=(ht.get hi).2.2 g rfl
 rw [Nat.zero_add] at this
 have:=h _ this rfl
 rw [d0e];exact this
theorem b7a {b:Int} {K:Nat→Om} (h:s4 U (K b.toNat) P):s4 U (U.fN (U.iNat b) K) P:=fun e=>by
 have:=h e;subst e;rw [a83]
 show ∃ v bs,K (iNat b)=some (v,bs)∧P v bs
 rw [G8];exact this
theorem b2c {e m:Int} (h:e=m) (h1:-9223372036854775808≤m) (h2:m < 9223372036854775808):wr .i64 e=m:=by
 subst h;rw [a62];exact a63 .i64 _ (by show _ < ((9223372036854775808:Nat):Int);omega) (by show -((9223372036854775808:Nat):Int)≤_;omega)
theorem b7c {a b:Int} {K:Int→Om} (hr:-9223372036854775808≤a+b∧a+b < 9223372036854775808) (h:s4 U (K (a+b)) P):s4 U (U.fI (U.wr .i64 (U.iAdd a b)) K) P:=fun e=>by
 have:=h e;subst e;rw [a2a]
 show ∃ v bs,K (wr .i64 (iAdd a b))=some (v,bs)∧P v bs
 rw [b2c (c7n a b) hr.1 hr.2];exact this
theorem b7d {a b:Int} {K:Int→Om} (hr:-9223372036854775808≤a - b∧a - b < 9223372036854775808) (h:s4 U (K (a - b)) P):s4 U (U.fI (U.wr .i64 (U.iSub a b)) K) P:=fun e=>by
 have:=h e;subst e;rw [a2a]
 show ∃ v bs,K (wr .i64 (iSub a b))=some (v,bs)∧P v bs
 rw [b2c (b2u a b) hr.1 hr.2];exact this
theorem e7k {a b:Int} {K:Int→Om} (hr:-9223372036854775808≤a * b∧a * b < 9223372036854775808) (h:s4 U (K (a * b)) P):s4 U (U.fI (U.wr .i64 (U.iMul a b)) K) P:=fun e=>by
 have:=h e;subst e;rw [a2a]
 show ∃ v bs,K (wr .i64 (iMul a b))=some (v,bs)∧P v bs
 rw [b2c (c7o a b) hr.1 hr.2];exact this
theorem g45 {a b:Int} {K:Int→Om} (hr:-9223372036854775808≤a.tdiv b∧a.tdiv b < 9223372036854775808) (h:s4 U (K (a.tdiv b)) P):s4 U (U.fI (U.wr .i64 (U.iQuo a b)) K) P:=fun e=>by
 have:=h e;subst e;rw [a2a]
 show ∃ v bs,K (wr .i64 (iQuo a b))=some (v,bs)∧P v bs
 rw [b2c (b8a a b) hr.1 hr.2];exact this
theorem e7j {a b:Int} {K:Int→Om} (h:s4 U (K (a.tmod b)) P):s4 U (U.fI (U.iRem a b) K) P:=fun e=>by
 have:=h e;subst e;rw [a2a]
 show ∃ v bs,K (iRem a b)=some (v,bs)∧P v bs
 rw [c7p];exact this
theorem a8t {n m:Nat} {e M:Int} {K:Int→Om} (he:e=n) (hM:M=m) (h:s4 U (K ((n % m:Nat):Int)) P):s4 U (U.fI (U.iRem e M) K) P:=by
 subst he hM
 exact e7j (by rw [Int.ofNat_tmod] at *;exact h)
theorem a8v {n m:Nat} {e M:Int} {K:Int→Om} (he:e=n) (hM:M=m) (hn:n < 9223372036854775808) (h:s4 U (K ((n / m:Nat):Int)) P):s4 U (U.fI (U.wr .i64 (U.iQuo e M)) K) P:=by
 subst he hM
 have hd:=Nat.div_le_self n m
 have e1:(n:Int).tdiv m=((n / m:Nat):Int):=(Int.ofNat_tdiv n m).symm
 generalize n / m=q at *
 have e2:-9223372036854775808≤(q:Int)∧(q:Int) < 9223372036854775808:=oM
 exact g45 (by rw [e1];exact e2) (by rw [e1];exact h)
theorem b3f {x:List UInt8} {i:Int} {K:Int→Om} (hi:i.toNat < x.length) (h:s4 U (K ((x.getD i.toNat 0).toNat:Int)) P):s4 U (U.fI (U.iOfN (U.sIdx (C6 x) (U.iNat i))) K) P:=fun e=>by
 have:=h e;subst e;rw [a2a]
 show ∃ v bs,K ((sIdx (C6 x) (iNat i):Nat):Int)=some (v,bs)∧P v bs
 rw [G8,← c9v hi,E8];exact this
theorem v6 {α:Type} {f:α→List G} {n:Nat} (hf:∀ x,(f x).length=n) {xs:List α}:∀ r ∈ xs.map f,r.length=n:=fun r hr=>by
 obtain ⟨x,_,rfl⟩:=List.mem_map.1 hr;exact hf x
theorem N7 {x y:Bool} (h:x=y):RV (.c (.b x)) (.bool y):=h ▸ .b x
theorem H8 {x y:Bool} (h:x=y):RV (.c (.b x)) (.known y):=h ▸ .kn x
theorem R6 {k:IntKind} {x y:Int} (h:x=y):RV (.c (.i k x)) (.int k y):=h ▸ .i k x
theorem b12 {x:List UInt8} {i:Nat} {K:Int→Om} (hi:i < x.length) (h:s4 U (K ((x.getD i 0).toNat:Int)) P):s4 U (U.fI (U.iOfN (U.sIdx (C6 x) (U.iNat (i:Int)))) K) P:=b3f (i:=(i:Int)) (by rw [Int.toNat_natCast];exact hi) (by rw [Int.toNat_natCast];exact h)
theorem f9z {b x:Bool} {K:Bool→Om} (hb:U=CU→b=x) (h:s4 U (K x) P):s4 U (U.fB b K) P:=fun e=>by
 have e1:=hb e;have:=h e;subst e e1;rw [f3w];exact this
theorem e5d (c a b:Bool):CU.bsel c a b=cond c a b:=by cases c <;> rfl
theorem a8s {a b:Bool} {K:Bool→Om} (h:s4 U (K (a != b)) P):s4 U (U.fB (U.bsel a (U.bnot b) b) K) P :=
 f9z (fun e=>by subst e;rw [e5d,b2j];cases a <;> cases b <;> rfl) h
theorem a8r {a b:Bool} {K:Bool→Om} (h:s4 U (K (a == b)) P):s4 U (U.fB (U.bsel a b (U.bnot b)) K) P :=
 f9z (fun e=>by subst e;rw [e5d,b2j];cases a <;> cases b <;> rfl) h
theorem f91 {c:Bool} {p:Prop} {a b:Int} {K:Int→Om} (hc:K8 U c p) (h:p→s4 U (K a) P) (k:¬p→s4 U (K b) P):s4 U (U.fI (U.isel c a b) K) P:=fun e=>by
 have h1:=hc e
 cases c with
 | true=>have:=h (h1.1 rfl) e;subst e;rw [a2a];exact this
 | false=>have:=k (fun hp=>by cases h1.2 hp) e;subst e;rw [a2a];exact this
theorem d3m {b:Bool} {p:Prop} {x:Om} (ht:K8 U b p) (hp:p) (h:s4 U x P):s4 U (U.chk b x) P:=fun e=>by
 have h1:=(ht e).2 hp;have:=h e;subst e h1;exact this
theorem a93 {b:Bool} {p:Prop} {x y:Om} (ht:K8 U b p) (h:p→s4 U x P) (k:¬p→s4 U y P):s4 U (U.cnd b x y) P:=fun e=>by
 have h1:=ht e
 cases b with
 | true=>have:=h (h1.1 rfl) e;subst e;exact this
 | false=>have:=k (fun hp=>by cases h1.2 hp) e;subst e;exact this
theorem b68 {x y:Om} (h:s4 U x P):s4 U (U.cnd true x y) P:=a93 trT (fun _=>h) (fun k=>absurd trivial k)
theorem b66 {x y:Om} (h:s4 U y P):s4 U (U.cnd false x y) P:=a93 trF (fun k=>k.elim) (fun _=>h)
theorem b67 {b:Bool} {x y:Om} (h:s4 U (U.cnd b y x) P):s4 U (U.cnd (U.bnot b) x y) P:=fun e=>by
 have:=h e;subst e
 show ∃ v bs,cnd (bnot b) x y=some (v,bs)∧P v bs
 rw [a73]
 have h2:∃ v bs,cnd b y x=some (v,bs)∧P v bs:=this
 rw [a73] at h2
 cases b <;> exact h2
theorem sJn {f:KJ'→Om} {g:KJ'} (h:s4 U (f g) P):s4 U (U.jn f g) P:=fun e=>by have:=h e;subst e;exact this
theorem g9a {f:KJ'→Om} {g:KJ'} (J:List V→List Bx→Prop) (hg:∀ vs bs,J vs bs→s4 U (g vs bs) P) (hf:∀ c:KJ',(∀ vs bs,J vs bs→s4 U (c vs bs) P)→s4 U (f c) P):s4 U (U.jn f g) P:=sJn (hf g hg)
def lpN (n:Nat) (body:(List V→List Bx→Om)→List V→List Bx→Om):List V→List Bx→Om :=
 Nat.rec (motive:=fun _=>List V→List Bx→Om) (fun _ _=>none) (fun _ ih=>body ih) n
theorem g84:lp=lpN C9:=rfl
theorem g9b {β:Type} {body:KJ'→KJ'} (U9:β→List V→List Bx→Prop) (μ:β→Nat)
  (step:∀ (self:KJ') x vs bs,U9 x vs bs→(∀ y vs' bs',U9 y vs' bs'→μ y < μ x→s4 U (self vs' bs') P)→s4 U (body self vs bs) P):∀ n x vs bs,μ x < n→U9 x vs bs→s4 U (lpN n body vs bs) P:=by
 intro n
 induction n with
 | zero=>intro x vs bs h;omega
 | succ n ih =>
  intro x vs bs hx hi
  exact step _ x vs bs hi fun y vs' bs' hy hlt=>ih y vs' bs' oM hy
theorem lpU (e:U=CU):U.lp=lpN C9:=by subst e;exact g84
theorem F9 {β:Type} {body:KJ'→KJ'} {vs0:List V} {bs0:List Bx} (U9:β→List V→List Bx→Prop) (μ:β→Nat) (x0:β) (h0:U9 x0 vs0 bs0) (hμ:μ x0 < C9)
  (step:∀ (self:KJ') x vs bs,U9 x vs bs→(∀ y vs' bs',U9 y vs' bs'→μ y < μ x→s4 U (self vs' bs') P)→s4 U (body self vs bs) P):s4 U (U.lp body vs0 bs0) P:=fun e=>by
 rw [lpU e]
 exact g9b U9 μ step C9 x0 vs0 bs0 hμ h0 e
theorem b80 {t:s6 Q} {x:Q} {i:Nat} (h:i+2≤281474976710656):tQ (t.set .no x E0 i) i=x:=by
 rw [b7l,s6.get_set _ _ E0 _ _ (show i+2≤281474976710656 from h)];rfl
theorem a95 {t:s6 Q} {x:Q} {i k:Nat} (h:k ≠ i):tQ (t.set .no x E0 i) k=tQ t k:=by
 rw [b7l,b7l]
 rcases s6.get_set_ne2 .no x E0 t i k h with h | ⟨h1,h2⟩
 ·rw [h]
 ·rw [h1,h2];rfl
theorem e8b {n:Nat} {t2:s6 Q} {ys:List (List G)}:∀ {j:Nat} {xs:List (List G)} {t:s6 Q} {off:Nat} {K:s6 Q→Om},u6 n xs t off→u6 n ys t2 j→off+xs.length+ys.length+1≤281474976710656 →
  ∃ t',u6 n (xs ++ ys) t' off∧aT t2 ys.length t (off+xs.length) j K=K t':=by
 induction ys with
 | nil=>intro j xs t off K h _ _;exact ⟨t,by simpa using h,rfl⟩
 | cons y ys ih =>
  intro j xs t off K h1 h2 h3
  cases h2 with
  | cons _ _ _ _ _ k1 k2 k2' k3 =>
   simp only [List.length_cons] at h3
   have hs:u6 n (xs ++ [y]) (t.set .no (tQ t2 j) E0 (off+xs.length)) off:=.of fun k r e=>by
    by_cases hk:k < xs.length
    ·rw [List.getElem?_append_left hk] at e
     rw [a95 oM]
     exact h1.get e
    ·by_cases hk2:k=xs.length
     ·subst hk2
      simp at e
      subst e
      rw [b80 oM]
      exact ⟨k1,k2,k2'⟩
     ·rw [List.getElem?_eq_none (by simp;omega)] at e;cases e
   obtain ⟨t',h4,h5⟩:=ih (K:=K) hs k3 (by simp;omega)
   refine ⟨t',by simpa using h4,?_⟩
   show cond (Nat.ble (Nat.add (off+xs.length) 2) 281474976710656) (fQ (tQ t2 j) fun e=>a10 e E0 t (off+xs.length) fun t=>aT t2 ys.length t (off+xs.length+1) (j+1) K) none=K t'
   have hb:Nat.ble (Nat.add (off+xs.length) 2) 281474976710656=true:=by
    rw [Nat.ble_eq];show off+xs.length+2≤_;omega
   rw [hb,b55,X1]
   simp only [List.length_append,List.length_cons,List.length_nil] at h5
   exact h5
theorem sAT {n:Nat} {xs ys:List (List G)} {t t2:s6 Q} {off j a m:Nat} {K:s6 Q→Om} (ht:u6 n xs t off) (ht2:u6 n ys t2 j) (ha:a=xs.length) (hm:m=ys.length) (hb:off+xs.length+ys.length+1≤281474976710656)
  (h:∀ t',u6 n (xs ++ ys) t' off→s4 U (K t') P):s4 U (U.aT t2 m t (U.nAdd off a) j K) P:=fun e=>by
 obtain ⟨t',h1,h2⟩:=e8b (K:=K) ht ht2 hb
 have:=h t' h1 e
 subst e ha hm
 show ∃ v bs,aT t2 ys.length t (off+xs.length) j K=some (v,bs)∧P v bs
 rw [h2];exact this
theorem N8 {n:Nat} {xs:List (List G)} {r:List G} {q:Q} {t:s6 Q} {off a:Nat} {K:s6 Q→Om} (ht:u6 n xs t off) (hr:U=CU→Row r q) (hn:r.length=n) (ha:a=xs.length) (hb:off+xs.length+2≤281474976710656)
  (h:∀ t',u6 n (xs ++ [r]) t' off→s4 U (K t') P):s4 U (U.aT (.node q .nil .nil) 1 t (U.nAdd off a) 0 K) P:=fun e =>
 sAT ht (ys:=[r]) (t2:=.node q .nil .nil) (j:=0) (.cons _ _ _ _ _ hn (hr e).1 (hr e).2 (.nil _ _ _)) ha rfl (by simpa using hb) h e
theorem RG.cel0 {g:G} {q:Q} (h:RG g q):celQ q 0=q:=by cases h <;> rfl
theorem N6 {g:G} {q:Q} (h:RG g q):Row [g] q:=⟨.cons _ _ _ _ (by rw [h.cel0];exact h) (.nil _ _),fun g' e=>by cases e;exact h⟩
theorem Q9 {r:List G} {q:Q} (hn:r.length ≠ 1) (h:u3 r q 0):Row r q:=⟨h,fun g e=>by subst e;exact absurd rfl hn⟩
theorem d0b {n:Nat} {r:List G} {x:Q} (hr:Row r x) (hn:r.length=n):∀ (m:Nat) {xs:List (List G)} {t:s6 Q} {off:Nat} {K:s6 Q→Om},u6 n xs t off→off+xs.length+m+1≤281474976710656 →
  ∃ t',u6 n (xs ++ List.replicate m r) t' off∧zT x m t (off+xs.length) K=K t'
 | 0,xs,t,off,K,h,_=>⟨t,by simpa using h,rfl⟩
 | m+1,xs,t,off,K,h1,h3=>by
  have hs:u6 n (xs ++ [r]) (t.set .no x E0 (off+xs.length)) off:=.of fun k r' e=>by
   by_cases hk:k < xs.length
   ·rw [List.getElem?_append_left hk] at e
    rw [a95 oM]
    exact h1.get e
   ·by_cases hk2:k=xs.length
    ·subst hk2
     simp at e
     subst e
     rw [b80 oM]
     exact ⟨hn,hr⟩
    ·rw [List.getElem?_eq_none (by simp;omega)] at e;cases e
  obtain ⟨t',h4,h5⟩:=d0b hr hn m (K:=K) hs (by simp;omega)
  refine ⟨t',by rw [List.append_assoc] at h4;exact h4,?_⟩
  show cond (Nat.ble (Nat.add (off+xs.length) 2) 281474976710656) (a10 x E0 t (off+xs.length) fun t=>zT x m t (off+xs.length+1) K) none=K t'
  have hb:Nat.ble (Nat.add (off+xs.length) 2) 281474976710656=true:=by
   rw [Nat.ble_eq];show off+xs.length+2≤_;omega
  rw [hb,X1]
  simp only [List.length_append,List.length_cons,List.length_nil] at h5
  exact h5
theorem sZT {n m:Nat} {r:List G} {x:Q} {K:s6 Q→Om} (hr:U=CU→Row r x) (hn:r.length=n) (hm:m≤140737488355328) (h:∀ t',u6 n (List.replicate m r) t' 0→s4 U (K t') P):s4 U (U.zT x m .nil 0 K) P:=fun e=>by
 obtain ⟨t',h1,h2⟩:=d0b (hr e) hn m (K:=K) (u6.nil n .nil 0) (by simp;omega)
 rw [List.nil_append] at h1
 have:=h t' h1 e
 subst e
 show ∃ v bs,zT x m .nil 0 K=some (v,bs)∧P v bs
 have h2:zT x m .nil 0 K=K t':=h2
 rw [h2];exact this
theorem sST {n:Nat} {xs:List (List G)} {r:List G} {x:Q} {t:s6 Q} {off i:Nat} {K:s6 Q→Om} (ht:u6 n xs t off) (hr:U=CU→Row r x) (hn:r.length=n) (hi:i < xs.length) (hb:off+i+2≤281474976710656)
  (h:∀ t',u6 n (xs.set i r) t' off→s4 U (K t') P):s4 U (U.sT t (off+i) x K) P:=fun e=>by
 have hs:u6 n (xs.set i r) (t.set .no x E0 (off+i)) off:=.of fun k r' e'=>by
  by_cases hk:k=i
  ·subst hk
   rw [List.getElem?_set_self oM] at e'
   injection e' with e'
   subst e'
   rw [b80 oM]
   exact ⟨hn,hr e⟩
  ·rw [List.getElem?_set_ne oM] at e'
   rw [a95 oM]
   exact ht.get e'
 have:=h _ hs e
 subst e
 show ∃ v bs,a10 x E0 t (off+i) K=some (v,bs)∧P v bs
 rw [X1];exact this
theorem e3x {n:Nat} {xs:List (List G)} {r:List G} {x:Q} {t:s6 Q} {i:Nat} {K:s6 Q→Om} (ht:u6 n xs t 0) (hr:U=CU→Row r x) (hn:r.length=n) (hi:i < xs.length) (hb:i+2≤281474976710656)
  (h:∀ t',u6 n (xs.set i r) t' 0→s4 U (K t') P):s4 U (U.sT t i x K) P:=fun e=>by
 have h2:=sST (off:=0) (i:=i) (K:=K) ht hr hn hi oM h e
 rw [Nat.zero_add] at h2
 exact h2
inductive R7 (id n:Nat) (xs:List (List G)):V→Prop
 | a (t:s6 Q) (len:Nat):len=xs.length→u6 n xs t 0→R7 id n xs (.slice t n 0 len (.tok id))
 | b:xs=[]→R7 id n xs (.slice .nil 0 0 0 (.tok id))
theorem b8z {id n c:Nat} {xs:List (List G)} {v:V} {K:s6 Q→Nat→Nat→Om} (hv:R7 id (n+1) xs v) (hc:Y6 (.tok id)=c) (h:∀ t,u6 (n+1) xs t 0→s4 U (K t 0 xs.length) P):s4 U (U.uSl (n+1) c v K) P:=by
 cases hv with
 | a t len h1 h2=>subst h1;exact b44 hc (h t h2)
 | b h1=>subst h1;exact b8y hc (h .nil (.nil _ _ _))
theorem b69 {α:Type} {f:α→List G} {id n c:Nat} {ys:List α} {v:V} {K:s6 Q→Nat→Nat→Om} (hv:R7 id (n+1) (ys.map f) v) (hc:Y6 (.tok id)=c) (h:∀ t,u6 (n+1) (ys.map f) t 0→s4 U (K t 0 ys.length) P):s4 U (U.uSl (n+1) c v K) P :=
 b8z hv hc fun t k=>by rw [List.length_map];exact h t k
theorem c5g {e m:Int} {K:Int→Om} (he:e=m) (hr:-9223372036854775808≤m∧m < 9223372036854775808) (h:s4 U (K m) P):s4 U (U.fI (U.wr .i64 e) K) P:=fun e'=>by
 have:=h e';subst e';rw [a2a]
 show ∃ v bs,K (wr .i64 e)=some (v,bs)∧P v bs
 rw [b2c he hr.1 hr.2];exact this
theorem e72 {e:Int} (h1:0≤e) (h2:e < 256):wr .u8 e=e:=by
 rw [a62];exact a63 .u8 _ (by show _ < ((256:Nat):Int);omega) (by show -((0:Nat):Int)≤_;omega)
theorem d73 {a b m:Int} {K:Int→Om} (he:a - b=m) (hr:0≤m∧m < 256) (h:s4 U (K m) P):s4 U (U.fI (U.wr .u8 (U.iSub a b)) K) P:=fun e'=>by
 have:=h e';subst e';rw [a2a]
 show ∃ v bs,K (wr .u8 (iSub a b))=some (v,bs)∧P v bs
 rw [b2u,he,e72 hr.1 hr.2];exact this
theorem d3p {e m:Int} {K:Int→Om} (he:e=m) (hr:0≤m∧m < 256) (h:s4 U (K m) P):s4 U (U.fI (U.wr .u8 e) K) P:=fun e'=>by
 have:=h e';subst e';rw [a2a]
 show ∃ v bs,K (wr .u8 e)=some (v,bs)∧P v bs
 rw [he,e72 hr.1 hr.2];exact this
def bg (b:UInt8):List G:=[.i .u8 b.toNat]
theorem e8i {ys:List UInt8}:∀ {t:s6 Q} {off:Nat} {K:Nat→Om},u6 1 (ys.map bg) t off→bT t ys.length off K=K (C6 ys):=by
 induction ys with
 | nil=>intro t off K _;rfl
 | cons y ys ih =>
  intro t off K h
  cases h with
  | cons _ _ _ _ _ h1 h2 h2' h3 =>
   have h5:=h2' _ rfl
   have h6:t.get off=some (.int .u8 y.toNat):=by
    rw [b7l] at h5
    cases hg:t.get off with
    | none=>rw [hg] at h5;cases h5
    | some q=>rw [hg] at h5;simp at h5;cases h5;rfl
   show (match t.get off with
    | some (.int .u8 n)=>bT t ys.length (off+1) fun c=>fN (Nat.add (Nat.mod (iNat n) 256) (Nat.mul 256 c)) K
    | _=>none)=_
   rw [h6]
   simp only []
   rw [ih h3,c1p]
   have:=y.toNat_lt
   have e:Nat.add (Nat.mod (iNat (y.toNat:Int)) 256) (Nat.mul 256 (C6 ys))=C6 (y :: ys):=by
    rw [G8]
    show y.toNat % 256+256 * C6 ys=y.toNat+256 * C6 ys
    omega
   rw [e]
theorem sBT {ys:List UInt8} {t:s6 Q} {off m:Nat} {K:Nat→Om} (ht:u6 1 (ys.map bg) t off) (hm:m=ys.length) (h:s4 U (K (C6 ys)) P):s4 U (U.bT t m off K) P:=fun e=>by
 have:=h e
 subst e hm
 show ∃ v bs,bT t ys.length off K=some (v,bs)∧P v bs
 rw [e8i ht];exact this
structure Sp where
 ι:Type
 A:ι→List GV
 B:ι→List (List G)
 R:ι→u9
 B':ι→List (List G)
 inj:∀ i j vs bs,t7 (A i) vs→t7 (A j) vs→s5 (B i) bs→s5 (B j) bs→R i=R j∧B' i=B' j
def Ans (fn:FuncId→D8) (g:FuncId) (sp:Sp):Prop:=∀ i vs bs,t7 (sp.A i) vs→s5 (sp.B i) bs→∃ v bs',fn g vs bs=some (v,bs')∧u0 (sp.R i) v∧s5 (sp.B' i) bs'
theorem o7 {fn:FuncId→D8} {g:FuncId} {sp:Sp} (hg:Ans fn g sp) (i:sp.ι) {vs:List V} {bs:List Bx} {K:V→List Bx→Om} {Kp:V→Om} {r:GV} (hr:sp.R i=.ret r) (hv:t7 (sp.A i) vs) (hb:s5 (sp.B i) bs)
  (hk:∀ v bs',RV r v→s5 (sp.B' i) bs'→s4 U (K v bs') P):s4 U (U.bind (fn g vs bs) K Kp) P:=fun e=>by
 obtain ⟨v,bs',h1,h2,h3⟩:=hg i vs bs hv hb
 rw [hr] at h2
 cases h2 with
 | ret _ v h2 =>
  have:=hk v bs' h2 h3 e
  subst e
  rw [h1]
  exact this
def Sp.lt (sp:Sp) (μ:sp.ι→Nat) (n:Nat):Sp where
 ι:={ i:sp.ι // μ i < n }
 A i:=sp.A i.1
 B i:=sp.B i.1
 R i:=sp.R i.1
 B' i:=sp.B' i.1
 inj i j:=sp.inj i.1 j.1
end
end
end Go.Abs
