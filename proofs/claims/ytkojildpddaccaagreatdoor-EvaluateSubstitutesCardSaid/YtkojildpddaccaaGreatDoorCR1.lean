/- Typed data, what stands for it in runs, and the rules by which a function's text is walked over data that are not known. No program in sight. -/
import Derived.Test.YtkojildpddaccaaGreatDoorCQ2
set_option linter.all false
namespace Go.Abs
noncomputable section
open Go.Abs

inductive G where
 | b (x:Bool)
 | i (k:IntKind) (n:Int)
 | s (x:List UInt8)
 | l (xs:List (List G))
 | mp (id:Nat)
 | m (p:List V→Prop)

mutual
/-- A value of one cell stands for this. -/
inductive RG:G→Q→Prop
 | b (x:Bool):RG (.b x) (.bool x)
 | i (k:IntKind) (n:Int):RG (.i k n) (.int k n)
 | s (x:List UInt8) (l c:Nat):l=x.length→c=D0 x→RG (.s x) (.str l c)
 | l (xs:List (List G)) (t:u1 Q) (n off len:Nat):len=xs.length→A5 n xs t off→RG (.l xs) (.slice t n off len)
/-- The elements, n cells each, stand in a tree from a place on. -/
inductive A5:Nat→List (List G)→u1 Q→Nat→Prop
 | nil (n:Nat) (t:u1 Q) (off:Nat):A5 n [] t off
 | cons (n:Nat) (r:List G) (rs:List (List G)) (t:u1 Q) (off:Nat):r.length=n→A7 r (tQ t off) 0→(∀ g,r=[g]→RG g (tQ t off))→A5 n rs t (off+1)→A5 n (r :: rs) t off
/-- The cells stand in a value from a place on. -/
inductive A7:List G→Q→Nat→Prop
 | nil (q:Q) (i:Nat):A7 [] q i
 | cons (g:G) (gs:List G) (q:Q) (i:Nat):RG g (celQ q i)→A7 gs q (i+1)→A7 (g :: gs) q i
end

def Row (r:List G) (q:Q):Prop:=A7 r q 0∧∀ g,r=[g]→RG g q
theorem A7.get {gs:List G}:∀ {q:Q} {i j:Nat} {g:G},A7 gs q i→gs[j]?=some g→RG g (celQ q (i+j)):=by
 induction gs with
 | nil=>intro q i j g h e;simp at e
 | cons x gs ih =>
  intro q i j g h e;cases h with
  | cons _ _ _ _ h1 h2 =>
   cases j with
   | zero=>simp at e;subst e;simpa using h1
   | succ j =>
    have:=ih h2 (j:=j) (by simpa using e);rw [show i+1+j=i+(j+1) by omega] at this;exact this
theorem A7.of {gs:List G}:∀ {q:Q} {i:Nat},(∀ j g,gs[j]?=some g→RG g (celQ q (i+j)))→A7 gs q i:=by
 induction gs with
 | nil=>intro q i _;exact .nil q i
 | cons x gs ih =>
  intro q i h;refine .cons _ _ _ _ (by simpa using h 0 x (by simp)) (ih fun j g e=>?_);have:=h (j+1) g (by simpa using e);rw [show i+1+j=i+(j+1) by omega];exact this
theorem A5.get {n:Nat} {xs:List (List G)}:∀ {t:u1 Q} {off j:Nat} {r:List G},A5 n xs t off→xs[j]?=some r→r.length=n∧Row r (tQ t (off+j)):=by
 induction xs with
 | nil=>intro t off j r h e;simp at e
 | cons x xs ih =>
  intro t off j r h e;cases h with
  | cons _ _ _ _ _ h1 h2 h2' h3 =>
   cases j with
   | zero=>simp at e;subst e;exact ⟨h1,h2,h2'⟩
   | succ j =>
    have:=ih h3 (j:=j) (by simpa using e);rw [show off+1+j=off+(j+1) by omega] at this;exact this
theorem A5.of {n:Nat} {xs:List (List G)}:∀ {t:u1 Q} {off:Nat},(∀ j r,xs[j]?=some r→r.length=n∧Row r (tQ t (off+j)))→A5 n xs t off:=by
 induction xs with
 | nil=>intro t off _;exact .nil n t off
 | cons x xs ih =>
  intro t off h;refine .cons _ _ _ _ _ (h 0 x (by simp)).1 (h 0 x (by simp)).2.1 (h 0 x (by simp)).2.2 (ih fun j r e=>?_);have:=h (j+1) r (by simpa using e);rw [show off+1+j=off+(j+1) by omega];exact this
theorem A5.take {n:Nat} {xs:List (List G)} {t:u1 Q} {off:Nat} (h:A5 n xs t off) (k:Nat):A5 n (xs.take k) t off:=.of fun j r e=>by
 rw [List.getElem?_take] at e;split at e
 ·exact h.get e
 ·cases e
theorem c9h (x:Q) (h:∀ i,celQ x i=Nat.rec (motive:=fun _=>Q) x (fun _ _=>.no) i) (h2:∀ i,subQ x i=Nat.rec (motive:=fun _=>Q) x (fun _ _=>.no) i) (k j:Nat):celQ (subQ x k) j=celQ x (k+j):=by
 rw [h2];cases k with
 | zero=>show celQ x j=celQ x (0+j);rw [Nat.zero_add]
 | succ k =>
  rw [h,show k+1+j=(k+j)+1 by omega];cases j <;> rfl
theorem d5l (x:Q) (k j:Nat):celQ (subQ x k) j=celQ x (k+j):=by
 cases x with
 | agg cs off=>show gL cs (off+k+j)=gL cs (off+(k+j));rw [Nat.add_assoc]
 | aggt t off=>show tQ t (off+k+j)=tQ t (off+(k+j));rw [Nat.add_assoc]
 | _=>exact c9h _ (fun _=>rfl) (fun _=>rfl) k j
theorem A7.drop {gs:List G} {q:Q} (k:Nat) (h:A7 gs q 0):A7 (gs.drop k) (subQ q k) 0:=.of fun j g e=>by
 rw [d5l];rw [List.getElem?_drop] at e;have:=h.get e;rw [show 0+(k+j)=k+(0+j) by omega] at this;exact this
theorem A7.take {gs:List G} {q:Q} {i:Nat} (k:Nat) (h:A7 gs q i):A7 (gs.take k) q i:=.of fun j g e=>by
 rw [List.getElem?_take] at e;split at e
 ·exact h.get e
 ·cases e

mutual
theorem RG.inj:∀ {g g':G} {x:Q},RG g x→RG g' x→g=g'
 | _,_,_,.b x,h=>by cases h;rfl
 | _,_,_,.i k n,h=>by cases h;rfl
 | _,_,_,.s x l c h1 h2,h=>by cases h with | s y _ _ h3 h4=>rw [← E6 x,← h1,← h2,h3,h4,E6]
 | _,_,_,.l xs t n off len h1 h2,h=>by cases h with | l ys _ _ _ _ h3 h4=>rw [A5.inj h2 h4 (h1.symm.trans h3)]
theorem A5.inj:∀ {n:Nat} {xs ys:List (List G)} {t:u1 Q} {off:Nat},A5 n xs t off→A5 n ys t off→xs.length=ys.length→xs=ys
 | _,_,ys,_,_,.nil n t off,h,e=>by cases ys with | nil=>rfl | cons _ _=>simp at e
 | _,_,_,_,_,.cons n r rs t off h1 h2 _ h3,h,e=>by
  cases h with
  | nil=>simp at e
  | cons _ r' rs' _ _ k1 k2 _ k3=>rw [A7.inj h2 k2 (h1.trans k1.symm),A5.inj h3 k3 (by simpa using e)]
theorem A7.inj:∀ {gs gs':List G} {q:Q} {i:Nat},A7 gs q i→A7 gs' q i→gs.length=gs'.length→gs=gs'
 | _,gs',_,_,.nil q i,h,e=>by cases gs' with | nil=>rfl | cons _ _=>simp at e
 | _,_,_,_,.cons g gs q i h1 h2,h,e=>by
  cases h with
  | nil=>simp at e
  | cons g' gs' _ _ k1 k2=>rw [RG.inj h1 k1,A7.inj h2 k2 (by simpa using e)]
end

inductive GV where
 | c (g:G)
 | a (gs:List G)
 | t (vs:List GV)
 | p (id off:Nat)
 | sl (n:Nat) (xs:List (List G))
 | fr (z:Nat) (xs:List (List G))
 | f0 (z:Nat) (xs:List (List G))
 | nilI
 | fl (t:TypeId) (e p:Int)
 | raw (v:V)

mutual
inductive RV:GV→V→Prop
 | b (x:Bool):RV (.c (.b x)) (.bool x)
 | kn (x:Bool):RV (.c (.b x)) (.known x)
 | i (k:IntKind) (n:Int):RV (.c (.i k n)) (.int k n)
 | s (x:List UInt8) (l c:Nat):l=x.length→c=D0 x→RV (.c (.s x)) (.str l c)
 | cl (xs:List (List G)) (t:u1 Q) (n off len:Nat):len=xs.length→A5 n xs t off→RV (.c (.l xs)) (.slice t n off len .no)
 | q (g:G) (x:Q):RG g x→RV (.c g) (.q x)
 | a (gs:List G) (q:Q) (m:Nat):m=gs.length→A7 gs q 0→RV (.a gs) (.a q m)
 | ag (gs:List G) (cs:List V):z7 (gs.map .c) cs→RV (.a gs) (.agg cs)
 | t (gs:List GV) (vs:List V):z7 gs vs→RV (.t gs) (.tuple vs)
 | p (id off:Nat):RV (.p id off) (.ptr id off)
 | sl (n:Nat) (xs:List (List G)) (t:u1 Q) (off len:Nat):len=xs.length→A5 n xs t off→RV (.sl n xs) (.slice t n off len .no)
 | sl0 (n:Nat) (t:u1 Q) (off:Nat):RV (.sl n []) (.slice t 0 off 0 .no)
 | slq (n:Nat) (xs:List (List G)) (x:Q):RG (.l xs) x→(∀ r ∈ xs,r.length=n)→RV (.sl n xs) (.q x)
 | fr (z:Nat) (xs:List (List G)) (t:u1 Q) (off len:Nat):len=xs.length→A5 z xs t off→RV (.fr z xs) (.slice t z off len (.fr z))
 | f0 (z:Nat) (xs:List (List G)) (t:u1 Q) (len:Nat):len=xs.length→A5 z xs t 0→RV (.f0 z xs) (.slice t z 0 len (.fr z))
 | nilI:RV .nilI .nilIface
 | fl (t:TypeId) (e p:Int) (vs:List V):z7 [.c (.i .i64 e),.c (.i .i64 p)] vs→RV (.fl t e p) (.iface t (.agg vs))
 | flq (t:TypeId) (e p:Int) (q:Q):A7 [.i .i64 e,.i .i64 p] q 0→RV (.fl t e p) (.iface t (.a q 2))
 | raw (v:V):RV (.raw v) v
inductive z7:List GV→List V→Prop
 | nil:z7 [] []
 | cons (g:GV) (gs:List GV) (v:V) (vs:List V):RV g v→z7 gs vs→z7 (g :: gs) (v :: vs)
end
theorem z7.length:∀ {gs:List GV} {vs:List V},z7 gs vs→gs.length=vs.length
 | [],_,h=>by cases h;rfl
 | g :: gs,_,h=>by cases h with | cons _ _ _ vs _ h=>simp [h.length]
theorem z7.two {g g':GV} {gs gs':List GV} {vs:List V} (h:z7 (g :: gs) vs) (k:z7 (g' :: gs') vs):∃ v l,RV g v∧RV g' v∧z7 gs l∧z7 gs' l:=by
 cases h with | cons _ _ v l h1 h2=>cases k with | cons _ _ _ _ k1 k2=>exact ⟨v,l,h1,k1,h2,k2⟩
inductive a2f:List (List UInt8 × List UInt8)→List (List G)→List V→Prop
 | nil:a2f [] [] []
 | cons (s:List UInt8 × List UInt8) (g:List G) (k v:V) (ss:List (List UInt8 × List UInt8)) (gs:List (List G)) (l:List V):RV (.a [.s s.1,.s s.2]) k→RV (.a g) v→a2f ss gs l→a2f (s :: ss) (g :: gs) (k :: v :: l)
inductive RCs:List G→List V→Prop
 | nil:RCs [] []
 | c (g:G) (gs:List G) (v:V) (vs:List V):RV (.c g) v→RCs gs vs→RCs (g :: gs) (v :: vs)
 | mp (id:Nat) (gs:List G) (vs:List V):RCs gs vs→RCs (.mp id :: gs) (.mapp id :: vs)
def G.pl:G→Bool
 | .mp _ | .m _=>false
 | _=>true
class NX (gs:List G):Prop where
 out:gs.all G.pl=true
instance:NX []:=⟨rfl⟩
instance {x:Bool} {gs:List G} [h:NX gs]:NX (.b x :: gs):=⟨h.out⟩
instance {k:IntKind} {n:Int} {gs:List G} [h:NX gs]:NX (.i k n :: gs):=⟨h.out⟩
instance {x:List UInt8} {gs:List G} [h:NX gs]:NX (.s x :: gs):=⟨h.out⟩
instance {xs:List (List G)} {gs:List G} [h:NX gs]:NX (.l xs :: gs):=⟨h.out⟩
inductive RB:List G→Bx→Prop
 | opa (gs:List G) (q:Q) (m:Nat):m=gs.length→A7 gs q 0→RB gs (.opa q m)
 | cells (gs:List G) (cs:List V):z7 (gs.map .c) cs→RB gs (.cells cs)
 | cm (gs:List G) (cs:List V):gs.all G.pl=false→RCs gs cs→RB gs (.cells cs)
 | map (gs:List G) (p:List V→Prop) (l:List V):gs=[.m p]→p l→RB gs (.map l)
inductive u0:List (List G)→List Bx→Prop
 | nil:u0 [] []
 | cons (g:List G) (gs:List (List G)) (b:Bx) (bs:List Bx):RB g b→u0 gs bs→u0 (g :: gs) (b :: bs)
theorem z7.k {g:GV} {gs:List GV} {v:V} {vs:List V} (h:RV g v) (t:z7 gs vs):z7 (g :: gs) (v :: vs):=.cons _ _ _ _ h t
theorem u0.k {g:List G} {gs:List (List G)} {b:Bx} {bs:List Bx} (h:RB g b) (t:u0 gs bs):u0 (g :: gs) (b :: bs):=.cons _ _ _ _ h t
theorem A7.k {g:G} {gs:List G} {q:Q} {i:Nat} (h:RG g (celQ q i)) (t:A7 gs q (i+1)):A7 (g :: gs) q i:=.cons _ _ _ _ h t
theorem C4.k {S:_} {M:_} {w:_} {v:Value} {d:D} {vs:List Value} {ds:List D} (h:Rd S M w v d) (t:C4 S M w vs ds):C4 S M w (v :: vs) (d :: ds):=.cons _ _ _ _ h t
inductive z8 where
 | ret (v:GV)
 | pan (v:GV)
inductive A3:z8→K0→Prop
 | ret (g:GV) (v:V):RV g v→A3 (.ret g) (.ret v)
 | pan (g:GV) (v:V):RV g v→A3 (.pan g) (.pan v)

theorem RV.c_inj {g g':G} {v:V} (h:RV (.c g) v) (k:RV (.c g') v):g=g':=by
 cases h with
 | b x=>cases k;rfl
 | kn x=>cases k;rfl
 | i=>cases k;rfl
 | s x l c h1 h2=>cases k with | s y _ _ k1 k2=>rw [← E6 x,← h1,← h2,k1,k2,E6]
 | cl xs t n off len h1 h2=>cases k with | cl ys _ _ _ _ k1 k2=>rw [A5.inj h2 k2 (h1.symm.trans k1)]
 | q _ x h=>cases k with | q _ _ k=>exact h.inj k
theorem z7.c_inj:∀ {gs gs':List G} {vs:List V},z7 (gs.map .c) vs→z7 (gs'.map .c) vs→gs=gs'
 | [],gs',_,h,k=>by
  cases h;cases gs' with
  | nil=>rfl
  | cons=>cases k
 | g :: gs,gs',_,h,k=>by
  cases h with
  | cons _ _ v vs h1 h2 =>
   cases gs' with
   | nil=>cases k
   | cons g' gs'=>cases k with | cons _ _ _ _ k1 k2=>rw [h1.c_inj k1,z7.c_inj h2 k2]
theorem RV.a_inj {gs gs':List G} {v:V} (h:RV (.a gs) v) (k:RV (.a gs') v):gs=gs':=by
 cases h with
 | a _ q m h1 h2=>cases k with | a _ _ _ k1 k2=>exact h2.inj k2 (h1.symm.trans k1)
 | ag _ cs h=>cases k with | ag _ _ k=>exact h.c_inj k
theorem RV.sl_inj {n n':Nat} {xs ys:List (List G)} {v:V} (h:RV (.sl n xs) v) (k:RV (.sl n' ys) v):xs=ys:=by
 cases h with
 | sl _ _ t off len h1 h2 =>
  cases k with
  | sl _ _ _ _ _ k1 k2=>exact A5.inj h2 k2 (h1.symm.trans k1)
  | sl0=>simpa using h1.symm
 | sl0 _ t off =>
  cases k with
  | sl _ _ _ _ _ k1 k2=>exact (List.length_eq_zero_iff.1 k1.symm).symm
  | sl0=>rfl
 | slq _ _ x h _=>cases k with | slq _ _ _ k _=>have:=h.inj k;injection this
theorem z7.rcs:∀ {gs:List G} {cs:List V},z7 (gs.map .c) cs→RCs gs cs
 | [],_,h=>by cases h;exact .nil
 | g :: gs,_,h=>by cases h with | cons _ _ v vs h1 h2=>exact .c _ _ _ _ h1 h2.rcs
theorem RV.no_mapp {g:G} {id:Nat} (h:RV (.c g) (.mapp id)):False:=by cases h
theorem RCs.inj:∀ {gs gs':List G} {cs:List V},RCs gs cs→RCs gs' cs→gs=gs'
 | _,_,_,.nil,k=>by cases k;rfl
 | _,_,_,.c g gs v vs h1 h2,k=>by
  cases k with
  | c g' gs' _ _ k1 k2=>rw [h1.c_inj k1,h2.inj k2]
  | mp id gs' _ k2=>exact h1.no_mapp.elim
 | _,_,_,.mp id gs vs h2,k=>by
  cases k with
  | c g' gs' _ _ k1 k2=>exact k1.no_mapp.elim
  | mp id' gs' _ k2=>rw [h2.inj k2]
theorem RB.injM {gs gs':List G} {b:Bx} (hn:∀ p,gs ≠ [.m p]) (h:RB gs b) (k:RB gs' b):gs=gs':=by
 cases h with
 | opa q m h1 h2=>cases k with | opa _ _ k1 k2=>exact h2.inj k2 (h1.symm.trans k1)
 | cells cs h =>
  cases k with
  | cells _ k=>exact h.c_inj k
  | cm _ _ k=>exact h.rcs.inj k
 | cm cs _ h =>
  cases k with
  | cells _ k=>exact h.inj k.rcs
  | cm _ _ k=>exact h.inj k
 | map p l e h=>exact absurd e (hn p)
theorem RB.inj {gs gs':List G} [hx:NX gs] {b:Bx} (h:RB gs b) (k:RB gs' b):gs=gs':=RB.injM (fun p e=>by have:=hx.out;rw [e] at this;cases this) h k
abbrev KJ':=List V→List Bx→Om
def t6 (U:C3) (M:Om) (P:K0→List Bx→Prop):Prop:=U=CU→∃ v bs,M=some (v,bs)∧P v bs
def M9 (U:C3) (b:Bool) (p:Prop):Prop:=U=CU→(b=true↔p)

section
variable {U:C3} {P:K0→List Bx→Prop}
theorem d2s (x:Q) (K:Q→Om):CU.fQ x K=K x:=b8k x K
theorem T7 (x:Int) (K:Int→Om):CU.fI x K=K x:=e5f x K
theorem b0a (x:Nat) (K:Nat→Om):CU.fN x K=K x:=c4i x K
theorem f2f (x:Bool) (K:Bool→Om):CU.fB x K=K x:=e5e x K
theorem trT:M9 U true True:=fun _=>by simp
theorem trF:M9 U false False:=fun _=>by simp
theorem a32 {b:Bool} {p:Prop} (h:M9 U b p):M9 U (U.bnot b) (¬p):=fun e=>by
 have:=h e;subst e;rw [← this];show bnot b=true↔_;cases b <;> simp [bnot]
theorem a3z {a b:Bool} {p q:Prop} (h:M9 U a p) (k:M9 U b q):M9 U (U.band a b) (p∧q):=fun e=>by
 rw [← h e,← k e];subst e;show band a b=true↔_;cases a <;> cases b <;> simp [band]
theorem a43 {a b:Int}:M9 U (U.iLt a b) (a < b):=fun e=>by subst e;show iLt a b=true↔_;rw [a1c];simp
theorem a42 {a b:Int}:M9 U (U.iLe a b) (a≤b):=fun e=>by subst e;show iLe a b=true↔_;rw [Z2];simp
theorem a41 {a b:Int}:M9 U (U.iEq a b) (a=b):=fun e=>by subst e;show iEq a b=true↔_;rw [U1];simp
theorem a31 {a:Int} {n:Nat}:M9 U (U.iLt a (U.iOfN n)) (a < (n:Int)):=fun e=>by subst e;exact a43 rfl
theorem a30 {a:Int} {n:Nat}:M9 U (U.iLe a (U.iOfN n)) (a≤(n:Int)):=fun e=>by subst e;exact a42 rfl
theorem a1r {a b:Nat}:M9 U (U.nLe a b) (a≤b):=fun e=>by subst e;show Nat.ble a b=true↔_;rw [Nat.ble_eq]
theorem a1j {a k b:Nat}:M9 U (U.nLe (U.nAdd a k) b) (a+k≤b):=fun e=>by subst e;exact a1r rfl
theorem a1k {a k m b:Nat}:M9 U (U.nLe (U.nMul (U.nAdd a k) m) b) ((a+k) * m≤b):=fun e=>by subst e;exact a1r rfl
theorem a1l {a:Int} {m b:Nat}:M9 U (U.nLe (U.nMul (U.iNat a) m) b) (a.toNat * m≤b):=fun e=>by subst e;show Nat.ble (iNat a * m) b=true↔_;rw [I6,Nat.ble_eq]
theorem a1m {a:Int} {b:Nat}:M9 U (U.nLe (U.iNat a) b) (a.toNat≤b):=fun e=>by subst e;show Nat.ble (iNat a) b=true↔_;rw [I6,Nat.ble_eq]
theorem a33 {a b:Nat}:M9 U (U.nEq a b) (a=b):=fun e=>by subst e;show Nat.beq a b=true↔_;rw [Nat.beq_eq]
theorem trS {l c l' c':Nat}:M9 U (U.sEq l c l' c') (s5 l c=s5 l' c'):=fun e=>by subst e;show sEq l c l' c'=true↔_;rw [a9y];simp
theorem a87 {x y:List UInt8}:M9 U (U.sEq x.length (D0 x) y.length (D0 y)) (x=y):=fun e=>by rw [trS e,E6,E6]
theorem a68 {x:List UInt8} {l c:Nat}:M9 U (U.sEq x.length (D0 x) l c) (x=s5 l c):=fun e=>by rw [trS e,E6]
theorem trV {b:Bool}:M9 U b (b=true):=fun _=>Iff.rfl

theorem s9 {v:K0} {bs:List Bx} (h:P v bs):t6 U (some (v,bs)) P:=fun _=>⟨v,bs,rfl,h⟩
theorem P0 {v:K0} {bs:List Bx} (h:U=CU→P v bs):t6 U (some (v,bs)) P:=fun e=>⟨v,bs,rfl,h e⟩
theorem c0l (a b:Int):CU.iEq a b=decide (a=b):=by show iEq a b=_;rw [U1];rfl
theorem c5i (a b:Int):CU.iLt a b=decide (a < b):=by show iLt a b=_;rw [a1c]
theorem e1d (a b:Int):CU.iLe a b=decide (a≤b):=by show iLe a b=_;rw [Z2]
theorem d29 (a:Bool):CU.bnot a=!a:=by cases a <;> rfl
theorem c4c (a b:Bool):CU.band a b=(a && b):=by cases a <;> cases b <;> rfl
theorem cuS (x y:List UInt8):CU.sEq x.length (D0 x) y.length (D0 y)=decide (x=y):=by
 show sEq _ _ _ _=_;rw [a9y,E6,E6];by_cases h:x=y <;> simp [h]
theorem b2m (x:List UInt8) (l c:Nat):CU.sEq x.length (D0 x) l c=decide (x=s5 l c):=by
 show sEq _ _ _ _=_;rw [a9y,E6];by_cases h:x=s5 l c <;> simp [h]
theorem a3x {v:V} {l:List V} {K:V→List V→Om} (h:t6 U (K v l) P):t6 U (U.uCons (v :: l) K) P:=fun e=>by have:=h e;subst e;exact this
theorem Z4 {g:GV} {gs:List GV} {vs:List V} {K:V→List V→Om} (hv:z7 (g :: gs) vs) (h:∀ v l,RV g v→z7 gs l→t6 U (K v l) P):t6 U (U.uCons vs K) P:=by
 cases hv with | cons _ _ v l h1 h2=>exact a3x (h v l h1 h2)
theorem b7j {K:Om} (h:t6 U K P):t6 U (U.uNil [] K) P:=fun e=>by have:=h e;subst e;exact this
theorem b1g {vs:List V} {K:Om} (hv:z7 [] vs) (h:t6 U K P):t6 U (U.uNil vs K) P:=by cases hv;exact b7j h
theorem a9w {v:Bx} {l:List Bx} {K:Bx→List Bx→Om} (h:t6 U (K v l) P):t6 U (U.uConsB (v :: l) K) P:=fun e=>by have:=h e;subst e;exact this
theorem a9x {g:List G} {gs:List (List G)} {vs:List Bx} {K:Bx→List Bx→Om} (hv:u0 (g :: gs) vs) (h:∀ v l,RB g v→u0 gs l→t6 U (K v l) P):t6 U (U.uConsB vs K) P:=by
 cases hv with | cons _ _ v l h1 h2=>exact a9w (h v l h1 h2)
theorem b45 {K:Om} (h:t6 U K P):t6 U (U.uNilB [] K) P:=fun e=>by have:=h e;subst e;exact this
theorem a4q {vs:List Bx} {K:Om} (hv:u0 [] vs) (h:t6 U K P):t6 U (U.uNilB vs K) P:=by cases hv;exact b45 h
theorem sP {id off:Nat} {K:Om} (h:t6 U K P):t6 U (U.uP id off (.ptr id off) K) P:=fun e=>by
 have:=h e;subst e;show ∃ v bs,cond (Nat.beq id id) (cond (Nat.beq off off) K none) none=some (v,bs)∧P v bs;rw [Nat.beq_refl,Nat.beq_refl];exact this
theorem sPR {id off:Nat} {v:V} {K:Om} (hv:RV (.p id off) v) (h:t6 U K P):t6 U (U.uP id off v K) P:=by cases hv;exact sP h
theorem sI {k:IntKind} {n:Int} {v:V} {K:Int→Om} (hv:RV (.c (.i k n)) v) (h:t6 U (K n) P):t6 U (U.uI k v K) P:=fun e=>by
 have:=h e;subst e;cases hv with
 | i=>show ∃ v bs,cond (ikEq k k) (K n) none=some (v,bs)∧P v bs;rw [b26];exact this
 | q _ x hx=>cases hx;show ∃ v bs,cond (ikEq k k) (K n) none=some (v,bs)∧P v bs;rw [b26];exact this
theorem sIV {k:IntKind} {n:Int} {K:Int→Om} (h:t6 U (K n) P):t6 U (U.uI k (.int k n) K) P:=sI (.i k n) h
theorem sB {x:Bool} {v:V} {K:Bool→Om} (hv:RV (.c (.b x)) v) (h:t6 U (K x) P):t6 U (U.uB v K) P:=fun e=>by
 have:=h e;subst e;cases hv with
 | b=>exact this
 | kn=>exact this
 | q _ _ hx=>cases hx;exact this
theorem sBV {x:Bool} {K:Bool→Om} (h:t6 U (K x) P):t6 U (U.uB (.bool x) K) P:=sB (.b x) h
theorem sBK {x:Bool} {K:Bool→Om} (h:t6 U (K x) P):t6 U (U.uB (.known x) K) P:=sB (.kn x) h
theorem sS {x:List UInt8} {v:V} {K:Nat→Nat→Om} (hv:RV (.c (.s x)) v) (h:t6 U (K x.length (D0 x)) P):t6 U (U.uS v K) P:=fun e=>by
 have:=h e;subst e;cases hv with
 | s _ l c h1 h2=>subst h1 h2;exact this
 | q _ _ hx=>cases hx with | s _ l c h1 h2=>subst h1 h2;exact this
theorem sSV {l c:Nat} {K:Nat→Nat→Om} (h:t6 U (K l c) P):t6 U (U.uS (.str l c) K) P:=fun e=>by have:=h e;subst e;exact this
theorem A5.len {n:Nat} {xs:List (List G)} {t:u1 Q} {off:Nat} (h:A5 n xs t off):∀ r ∈ xs,r.length=n:=fun r hr=>by
 obtain ⟨j,hj⟩:=List.getElem?_of_mem hr;exact (h.get hj).1
theorem a83 {n:Nat} {xs:List (List G)} {x:Q} {K:u1 Q→Nat→Nat→Om} (hx:RG (.l xs) x) (hn:∀ r ∈ xs,r.length=n) (h:∀ t off,A5 n xs t off→t6 U (K t off xs.length) P):t6 U (U.cSl n x K) P:=fun e=>by
 subst e;cases hx with
 | l _ t n' off len h1 h2 =>
  subst h1;show ∃ v bs,cond (Nat.beq n n') (K t off xs.length) (cond (Nat.beq xs.length 0) (K .nil 0 0) none)=some (v,bs)∧P v bs;cases xs with
  | nil =>
   cases Nat.beq n n' with
   | true=>exact h t off (.nil _ _ _) rfl
   | false=>exact h .nil 0 (.nil _ _ _) rfl
  | cons r rs =>
   have h3:=hn r List.mem_cons_self;have h4:=h2.len r List.mem_cons_self;have:n=n':=h3.symm.trans h4;subst this;rw [Nat.beq_refl];exact h t off h2 rfl
theorem sSl {n:Nat} {xs:List (List G)} {v:V} {K:u1 Q→Nat→Nat→Om} (hv:RV (.sl (n+1) xs) v) (h:∀ t off,A5 (n+1) xs t off→t6 U (K t off xs.length) P):t6 U (U.uSl (n+1) 0 v K) P:=by
 cases hv with
 | sl _ _ t off len h1 h2 =>
  subst h1;intro e;have:=h t off h2 e;subst e;show ∃ v bs,cond (Nat.beq (n+1) (n+1)) (K t off xs.length) (chk (nEq xs.length 0) (K .nil 0 0))=some (v,bs)∧P v bs;rw [Nat.beq_refl];exact this
 | sl0 _ t off =>
  intro e;have:=h .nil 0 (.nil _ _ _) e;subst e;exact this
 | slq _ _ x hx hn =>
  intro e;have:=a83 (U:=U) (P:=P) (K:=K) hx hn h e;subst e;exact this
theorem h0g {n:Nat} {xs:List (List G)} {v:V} {K:u1 Q→Nat→Nat→Om} (hv:RV (.c (.l xs)) v) (hn:∀ r ∈ xs,r.length=n+1) (h:∀ t off,A5 (n+1) xs t off→t6 U (K t off xs.length) P):t6 U (U.uSl (n+1) 0 v K) P:=by
 cases hv with
 | cl _ t n' off len h1 h2 =>
  by_cases e:n'=n+1
  ·subst e;exact sSl (.sl _ _ _ _ _ h1 h2) h
  ·have ex:xs=[]:=by
    cases xs with
    | nil=>rfl
    | cons r rs=>exact absurd ((A5.len h2 r (by simp)).symm.trans (hn r (by simp))) e
   subst ex;subst h1;intro hU;have:=h .nil 0 (.nil _ _ _) hU;subst hU;cases n' with
   | zero=>exact this
   | succ n' =>
    show ∃ v bs,cond (Nat.beq (n+1) (n'+1)) (K t off 0) (chk (nEq 0 0) (K .nil 0 0))=some (v,bs)∧P v bs;rw [show Nat.beq (n+1) (n'+1)=false from by rw [Bool.eq_false_iff];exact fun hb=>e (Nat.eq_of_beq_eq_true hb).symm];exact this
 | q _ x hx=>exact sSl (.slq _ _ _ hx hn) h
theorem b7k {n c:Nat} {z:Cap} {t:u1 Q} {off len:Nat} {K:u1 Q→Nat→Nat→Om} (hc:a0k z=c) (h:t6 U (K t off len) P):t6 U (U.uSl (n+1) c (.slice t (n+1) off len z) K) P:=fun e=>by
 have:=h e;subst e;show ∃ v bs,cond (Nat.beq (a0k z) c) (cond (Nat.beq (n+1) (n+1)) (K t off len) (chk (nEq len 0) (K .nil 0 0))) none=some (v,bs)∧P v bs;rw [hc,Nat.beq_refl,Nat.beq_refl];exact this
theorem c1p {n c:Nat} {z:Cap} {t:u1 Q} {off:Nat} {K:u1 Q→Nat→Nat→Om} (hc:a0k z=c) (h:t6 U (K .nil 0 0) P):t6 U (U.uSl n c (.slice t 0 off 0 z) K) P:=fun e=>by
 have:=h e;subst e;show ∃ v bs,cond (Nat.beq (a0k z) c) (K .nil 0 0) none=some (v,bs)∧P v bs;rw [hc,Nat.beq_refl];exact this
theorem F1 {α:Type} {f:α→List G} {n:Nat} {ys:List α} {x:Q} {K:u1 Q→Nat→Nat→Om} (hx:RG (.l (ys.map f)) x) (hn:∀ r ∈ ys.map f,r.length=n) (h:∀ t off,A5 n (ys.map f) t off→t6 U (K t off ys.length) P):t6 U (U.cSl n x K) P :=
 a83 hx hn fun t off k=>by rw [List.length_map];exact h t off k
theorem c1o {α:Type} {f:α→List G} {n:Nat} {ys:List α} {v:V} {K:u1 Q→Nat→Nat→Om} (hv:RV (.sl (n+1) (ys.map f)) v) (h:∀ t off,A5 (n+1) (ys.map f) t off→t6 U (K t off ys.length) P):t6 U (U.uSl (n+1) 0 v K) P :=
 sSl hv fun t off k=>by rw [List.length_map];exact h t off k
theorem g4c {g:G} {v:V} (h:RV (.c g) v):∃ x,uA.exQ v=some x∧RG g x:=by
 cases h with
 | b x=>exact ⟨_,rfl,.b x⟩
 | kn x=>exact ⟨_,rfl,.b x⟩
 | i k n=>exact ⟨_,rfl,.i k n⟩
 | s x l c h1 h2=>exact ⟨_,rfl,.s x l c h1 h2⟩
 | cl xs t n off len h1 h2=>exact ⟨_,rfl,.l xs t n off len h1 h2⟩
 | q _ x h=>exact ⟨_,rfl,h⟩
inductive a04:List G→List Q→Prop
 | nil:a04 [] []
 | cons (g:G) (gs:List G) (q:Q) (qs:List Q):RG g q→a04 gs qs→a04 (g :: gs) (q :: qs)
theorem a04.get:∀ {gs:List G} {qs:List Q},a04 gs qs→∀ {j g},gs[j]?=some g→RG g (gL qs j)
 | _,_,.nil,j,g,e=>by simp at e
 | _,_,.cons g gs q qs h1 h2,0,g',e=>by simp at e;subst e;exact h1
 | _,_,.cons g gs q qs h1 h2,j+1,g',e=>a04.get h2 (j:=j) (by simpa using e)
theorem a04.cel {gs:List G} {qs:List Q} (h:a04 gs qs):A7 gs (.agg qs 0) 0:=.of fun j g e=>by
 have:=h.get e;show RG g (gL qs (0+(0+j)));rw [Nat.zero_add,Nat.zero_add];exact this
theorem c6p:∀ {gs:List G} {cs:List V},z7 (gs.map .c) cs→∃ qs,uA.exQs cs=some qs∧a04 gs qs
 | [],_,h=>by cases h;exact ⟨[],rfl,.nil⟩
 | g :: gs,_,h=>by
  cases h with
  | cons _ _ v vs h1 h2 =>
   obtain ⟨x,e1,k1⟩:=g4c h1;obtain ⟨qs,e2,k2⟩:=c6p h2;exact ⟨x :: qs,by simp only [uA.exQs,e1,e2],.cons _ _ _ _ k1 k2⟩
theorem sA {m:Nat} {gs:List G} {q:Q} {K:Q→Om} (h:t6 U (K q) P):t6 U (U.uA m (.a q m) K) P:=fun e=>by
 have:=h e;subst e;show ∃ v bs,cond (Nat.beq m m) (K q) none=some (v,bs)∧P v bs;rw [Nat.beq_refl];exact this
theorem H3 {gs:List G} {v:V} {K:Q→Om} {m:Nat} (hv:RV (.a gs) v) (hm:gs.length=m) (h:∀ q,A7 gs q 0→t6 U (K q) P):t6 U (U.uA m v K) P:=by
 subst hm;cases hv with
 | a _ q m' h1 h2=>subst h1;exact sA (gs:=gs) (h q h2)
 | ag _ cs hv =>
  obtain ⟨qs,e1,k1⟩:=c6p hv;intro e;have:=h _ k1.cel e;subst e;have hl:cs.length=gs.length:=by have:=hv.length;simpa using this.symm
  show ∃ v bs,cond (Nat.beq cs.length gs.length) (match uA.exQs cs with
   | some qs=>K (.agg qs 0)
   | none=>none) none=some (v,bs)∧P v bs
  rw [hl,Nat.beq_refl,e1];exact this
theorem Y8 {gs:List G} [hx:NX gs] {b:Bx} {K:Q→Om} {m:Nat} (hv:RB gs b) (hm:gs.length=m) (h:∀ q,A7 gs q 0→t6 U (K q) P):t6 U (U.uBo m b K) P:=by
 subst hm;cases hv with
 | opa q m' h1 h2 =>
  subst h1;intro e;have:=h q h2 e;subst e;show ∃ v bs,cond (Nat.beq gs.length gs.length) (K q) none=some (v,bs)∧P v bs;rw [Nat.beq_refl];exact this
 | cells cs hv =>
  obtain ⟨qs,e1,k1⟩:=c6p hv;intro e;have:=h _ k1.cel e;subst e;have hl:cs.length=gs.length:=by have:=hv.length;simpa using this.symm
  show ∃ v bs,cond (Nat.beq cs.length gs.length) (match uA.exQs cs with
   | some qs=>K (.agg qs 0)
   | none=>none) none=some (v,bs)∧P v bs
  rw [hl,Nat.beq_refl,e1];exact this
 | cm cs hn _=>have:=hx.out;rw [hn] at this;cases this
 | map p l e _=>have:=hx.out;rw [e] at this;cases this
theorem d94 {gs:List G} {x:Q}:∀ {l:List G} (i:Nat),(∀ j g,l[j]?=some g→gs[i+j]?=some g)→A7 gs x 0→z7 (l.map .c) ((b1q i l.length).map fun i=>.q (celQ x i))
 | [],i,_,_=>.nil
 | g :: l,i,hl,h=>by
  have h1:=h.get (hl 0 g (by simp));rw [Nat.zero_add,Nat.add_zero] at h1;exact .cons _ _ _ _ (.q _ _ h1) (d94 (i+1) (fun j g e=>by rw [show i+1+j=i+(j+1) by omega];exact hl (j+1) g (by simpa using e)) h)
theorem c8h {gs:List G} [hx:NX gs] {b:Bx} {K:List V→Om} (hv:RB gs b) (h:∀ cs,z7 (gs.map .c) cs→t6 U (K cs) P):t6 U (U.uBc b K) P:=by
 cases hv with
 | opa q m h1 h2 =>
  subst h1;intro e;have:=h _ (d94 (l:=gs) 0 (fun j g e=>by rw [Nat.zero_add];exact e) h2) e;subst e;exact this
 | cells cs hv=>intro e;have:=h cs hv e;subst e;exact this
 | cm cs hn _=>have:=hx.out;rw [hn] at this;cases this
 | map p l e _=>have:=hx.out;rw [e] at this;cases this
theorem e24:∀ {gs:List G} {cs:List V},z7 (gs.map .c) cs→gs.all G.pl=true
 | [],_,_=>rfl
 | g :: gs,_,h=>by
  cases h with
  | cons _ _ v vs h1 h2 =>
   rw [List.all_cons,e24 h2,Bool.and_true];cases h1 <;> first | rfl | skip
   rename_i h;cases h <;> rfl
theorem c70:∀ {gs:List G} {q:Q} {i:Nat},A7 gs q i→gs.all G.pl=true
 | _,_,_,.nil _ _=>rfl
 | _,_,_,.cons g gs q i h1 h2=>by
  rw [List.all_cons,c70 h2,Bool.and_true];generalize celQ q i=x at h1;cases h1 <;> rfl
theorem g9t {gs:List G} {b:Bx} {K:List V→Om} (hv:RB gs b) (hn:gs.all G.pl=false) (hm:gs.length ≠ 1) (h:∀ cs,RCs gs cs→t6 U (K cs) P):t6 U (U.uBc b K) P:=by
 cases hv with
 | opa q m h1 h2=>rw [c70 h2] at hn;cases hn
 | cells cs hv=>rw [e24 hv] at hn;cases hn
 | cm cs _ hv=>intro e;have:=h cs hv e;subst e;exact this
 | map p l e _=>rw [e] at hm;exact absurd rfl hm
theorem sMp {id:Nat} {K:Om} (h:t6 U K P):t6 U (U.uMp id (.mapp id) K) P:=fun e=>by
 have:=h e;subst e;show ∃ v bs,cond (Nat.beq id id) K none=some (v,bs)∧P v bs;rw [Nat.beq_refl];exact this
theorem sBm {p:List V→Prop} {b:Bx} {K:List V→Om} (hv:RB [.m p] b) (h:∀ l,p l→t6 U (K l) P):t6 U (U.uBm b K) P:=by
 cases hv with
 | opa q m h1 h2=>have:=c70 h2;cases this
 | cells cs hv=>have:=e24 hv;cases this
 | cm cs _ hv =>
  exfalso;cases hv with
  | c _ _ v vs h1 h2=>cases h1 with | q _ _ h=>cases h
 | map p' l e hm =>
  simp only [List.cons.injEq,G.m.injEq,and_true] at e;subst e;exact fun e=>by have:=h l hm e;subst e;exact this
theorem g9u {l:List V} {K:List V→Om} (h:t6 U (K l) P):t6 U (U.uBm (.map l) K) P:=fun e=>by have:=h e;subst e;exact this
def a0m:List (List UInt8 × List UInt8)→List (List G)→List UInt8 × List UInt8→Option (List G)
 | s :: ss,g :: gs,k=>if k=s then some g else a0m ss gs k
 | _,_,_=>none
theorem c1w {a b:List UInt8} {v:V} (h:RV (.a [.s a,.s b]) v):toD v=.agg [.str a,.str b]:=by
 have hs:∀ (x:List UInt8) (q:Q),RG (.s x) q→den q 0=.str x:=fun x q h=>by
  cases h with | s _ l c h1 h2=>subst h1 h2;simp only [den,E6];rfl
 cases h with
 | a _ q m h1 h2 =>
  cases h2 with
  | cons _ _ _ _ k1 k2 =>
   cases k2 with
   | cons _ _ _ _ k2 k3 =>
    subst h1;have e1:=hs _ _ k1;have e2:=hs _ _ k2;rw [a1t] at e1 e2;simp only [toD,List.length_cons,List.length_nil,C1];rw [e1,e2]
 | ag _ cs h =>
  cases h with
  | cons _ _ v1 _ k1 h =>
   cases h with
   | cons _ _ v2 _ k2 h =>
    cases h with
    | nil =>
    have hc:∀ (x:List UInt8) (v:V),RV (.c (.s x)) v→toD v=.str x:=fun x v h=>by
     cases h with
     | s _ l c h1 h2=>subst h1 h2;simp only [toD,E6]
     | q _ q h=>simp only [toD];exact hs _ _ h
    simp only [toD,Q5,hc _ _ k1,hc _ _ k2]
theorem c0q (a b c d:List UInt8):u9 [.str,.str] [.str a,.str b] [.str c,.str d]=some (decide ((a,b)=(c,d))):=by
 simp only [u9,Option.map_some,Bool.and_true];congr 1;rw [Bool.eq_iff_iff];simp
theorem b3j {s:List UInt8 × List UInt8}:∀ {ss:List (List UInt8 × List UInt8)} {gs:List (List G)} {l:List V},a2f ss gs l →
  (a0m ss gs s=none∧O0 [.str,.str] [.str s.1,.str s.2] (l.map toD)=some none) ∨
  ∃ g p,a0m ss gs s=some g∧O0 [.str,.str] [.str s.1,.str s.2] (l.map toD)=some (some p)∧RV (.a g) (l.getD (2 * p.1+1) .junk)
 | _,_,_,.nil=>.inl ⟨rfl,rfl⟩
 | _,_,_,.cons s' g k v ss gs l h1 h2 h3=>by
  have hk:=c1w h1;have he:=c0q s.1 s.2 s'.1 s'.2;by_cases hs:s=s'
  ·subst hs;refine .inr ⟨g,(0,toD v),by simp only [a0m,if_true],?_,h2⟩;simp only [List.map_cons,hk,O0,he,decide_true]
  ·have hd:decide ((s.1,s.2)=(s'.1,s'.2))=false:=decide_eq_false hs;rw [hd] at he;rcases b3j (s:=s) h3 with ⟨e1,e2⟩ | ⟨g',p,e1,e2,e3⟩
   ·exact .inl ⟨by simp only [a0m,hs,if_false];exact e1,by simp only [List.map_cons,hk,O0,he,e2];rfl⟩
   ·refine .inr ⟨g',(p.1+1,p.2),by simp only [a0m,hs,if_false];exact e1,by simp only [List.map_cons,hk,O0,he,e2];rfl,?_⟩;rw [show 2 * (p.1+1)+1=(2 * p.1+1)+1+1 by omega];exact e3
theorem g42 {g:G} {v:V} (h:RV (.c g) v):∃ x,qOf v=some x∧RG g x:=by
 cases h with
 | b x=>exact ⟨_,rfl,.b x⟩
 | kn x=>exact ⟨_,rfl,.b x⟩
 | i k n=>exact ⟨_,rfl,.i k n⟩
 | s x l c h1 h2=>exact ⟨_,rfl,.s x l c h1 h2⟩
 | cl xs t n off len h1 h2=>exact ⟨_,rfl,.l xs t n off len h1 h2⟩
 | q _ x h=>exact ⟨_,rfl,h⟩
theorem d73:∀ {gs:List G} {cs:List V},z7 (gs.map .c) cs→∃ qs,b3g cs=some qs∧a04 gs qs
 | [],_,h=>by cases h;exact ⟨[],rfl,.nil⟩
 | g :: gs,_,h=>by
  cases h with
  | cons _ _ v vs h1 h2 =>
   obtain ⟨x,e1,k1⟩:=g42 h1;obtain ⟨qs,e2,k2⟩:=d73 h2;exact ⟨x :: qs,by simp only [b3g,e1,e2],.cons _ _ _ _ k1 k2⟩
theorem f46 {gs:List G} {v:V} {m:Nat} (hv:RV (.a gs) v) (hm:gs.length=m):∃ x,A7 gs x 0∧∀ K,mA m v K=K x:=by
 subst hm;cases hv with
 | a _ q m' h1 h2 =>
  subst h1;refine ⟨q,h2,fun K=>?_⟩;show cond (Nat.beq gs.length gs.length) (K q) none=_;rw [Nat.beq_refl];rfl
 | ag _ cs hv =>
  obtain ⟨qs,e1,k1⟩:=d73 hv;refine ⟨_,k1.cel,fun K=>?_⟩;have hl:cs.length=gs.length:=by have:=hv.length;simpa using this.symm
  show cond (Nat.beq cs.length gs.length) (match b3g cs with
   | some qs=>K (.agg qs 0)
   | none=>none) none=_
  rw [hl,Nat.beq_refl,e1];rfl
theorem sML {s:List UInt8 × List UInt8} {ss:List (List UInt8 × List UInt8)} {gs:List (List G)} {l:List V} {key z:V} {m:Nat} {gz:List G} {K:Q→Bool→Om} (hm:a2f ss gs l) (hk:RV (.a [.s s.1,.s s.2]) key) (hz:RV (.a gz) z) (hzl:gz.length=m)
  (hl:∀ g,a0m ss gs s=some g→g.length=m) (h1:∀ g x,a0m ss gs s=some g→A7 g x 0→t6 U (K x true) P) (h2:∀ x,a0m ss gs s=none→A7 gz x 0→t6 U (K x false) P):t6 U (U.mL [.str,.str] l key z m K) P:=fun e=>by
 have hd:=c1w hk;have hs:=c0q s.1 s.2 s.1 s.2;rcases b3j (s:=s) hm with ⟨e1,e2⟩ | ⟨g,p,e1,e2,e3⟩
 ·obtain ⟨x,hx,hK⟩:=f46 hz hzl;have:=h2 x e1 hx e;subst e;show ∃ v bs,mL [.str,.str] l key z m K=some (v,bs)∧P v bs;simp only [mL,hd,hs,Option.isSome_some,cond_true,e2,hK];exact this
 ·obtain ⟨x,hx,hK⟩:=f46 e3 (hl g e1);have:=h1 g x e1 hx e;subst e;show ∃ v bs,mL [.str,.str] l key z m K=some (v,bs)∧P v bs;simp only [mL,hd,hs,Option.isSome_some,cond_true,e2,hK];exact this
theorem a2f.snoc {s:List UInt8 × List UInt8} {g:List G} {k v:V} (hk:RV (.a [.s s.1,.s s.2]) k) (hv:RV (.a g) v):∀ {ss:List (List UInt8 × List UInt8)} {gs:List (List G)} {l:List V},a2f ss gs l→a2f (ss ++ [s]) (gs ++ [g]) (l ++ [k,v])
 | _,_,_,.nil=>.cons _ _ _ _ _ _ _ hk hv .nil
 | _,_,_,.cons s' g' k' v' ss gs l h1 h2 h3=>.cons _ _ _ _ _ _ _ h1 h2 (h3.snoc hk hv)
theorem sMU {s:List UInt8 × List UInt8} {ss:List (List UInt8 × List UInt8)} {gs:List (List G)} {l:List V} {g:List G} {key y:V} {K:List V→Om} (hm:a2f ss gs l) (hk:RV (.a [.s s.1,.s s.2]) key) (hy:RV (.a g) (Q0 M5 y)) (hn:a0m ss gs s=none)
  (h:∀ l',a2f (ss ++ [s]) (gs ++ [g]) l'→t6 U (K l') P):t6 U (U.mU [.str,.str] l key y K) P:=fun e=>by
 have hd:=c1w hk;have hs:=c0q s.1 s.2 s.1 s.2;rcases b3j (s:=s) hm with ⟨e1,e2⟩ | ⟨g,p,e1,e2,e3⟩
 ·have:=h _ (hm.snoc hk hy) e;subst e;show ∃ v bs,mU [.str,.str] l key y K=some (v,bs)∧P v bs;simp only [mU,hd,hs,Option.isSome_some,cond_true,e2];exact this
 ·rw [hn] at e1;cases e1
theorem sTu {gs:List GV} {v:V} {K:List V→Om} (hv:RV (.t gs) v) (h:∀ vs,z7 gs vs→t6 U (K vs) P):t6 U (U.uTu v K) P:=by
 cases hv with | t _ vs hv=>exact fun e=>by have:=h vs hv e;subst e;exact this
theorem sBo {m:Nat} {q:Q} {K:Q→Om} (h:t6 U (K q) P):t6 U (U.uBo m (.opa q m) K) P:=fun e=>by
 have:=h e;subst e;show ∃ v bs,cond (Nat.beq m m) (K q) none=some (v,bs)∧P v bs;rw [Nat.beq_refl];exact this
theorem sBc {cs:List V} {K:List V→Om} (h:t6 U (K cs) P):t6 U (U.uBc (.cells cs) K) P:=fun e=>by have:=h e;subst e;exact this
theorem sBs {id len:Nat} {K:Nat→Om} (h:t6 U (K len) P):t6 U (U.uBs id (.bslice id len) K) P:=fun e=>by
 have:=h e;subst e;show ∃ v bs,cond (Nat.beq id id) (K len) none=some (v,bs)∧P v bs;rw [Nat.beq_refl];exact this
theorem sBr {t:u1 Q} {len:Nat} {K:u1 Q→Nat→Om} (h:t6 U (K t len) P):t6 U (U.uBr (.row t len) K) P:=fun e=>by have:=h e;subst e;exact this
theorem sBt {z l:Nat} {K:Nat→Om} (h:t6 U (K l) P):t6 U (U.uBt z (.tok l z) K) P:=fun e=>by
 have:=h e;subst e;show ∃ v bs,cond (Nat.beq z z) (K l) none=some (v,bs)∧P v bs;rw [Nat.beq_refl];exact this
theorem sCI {k:IntKind} {n:Int} {x:Q} {K:Int→Om} (hx:RG (.i k n) x) (h:t6 U (K n) P):t6 U (U.cI k x K) P:=fun e=>by
 have:=h e;subst e;cases hx;show ∃ v bs,cond (ikEq k k) (K n) none=some (v,bs)∧P v bs;rw [b26];exact this
theorem sCB {b:Bool} {x:Q} {K:Bool→Om} (hx:RG (.b b) x) (h:t6 U (K b) P):t6 U (U.cB x K) P:=fun e=>by have:=h e;subst e;cases hx;exact this
theorem sCS {s:List UInt8} {x:Q} {K:Nat→Nat→Om} (hx:RG (.s s) x) (h:t6 U (K s.length (D0 s)) P):t6 U (U.cS x K) P:=fun e=>by
 have:=h e;subst e;cases hx with | s _ l c h1 h2=>subst h1 h2;exact this
theorem c8j {gs:List G} {q:Q} {i:Nat} {s:List UInt8} {K:Nat→Nat→Om} (hq:A7 gs q 0) (hi:gs[i]?=some (.s s)) (h:t6 U (K s.length (D0 s)) P):t6 U (U.cS (U.celQ q i) K) P:=fun e=>by
 subst e;have:=hq.get hi;rw [Nat.zero_add] at this;exact sCS this h rfl
theorem T3 {gs:List G} {q:Q} {i:Nat} {g:G} {K:Q→Om} (hq:A7 gs q 0) (hi:gs[i]?=some g) (h:∀ x,RG g x→t6 U (K x) P):t6 U (U.fQ (U.celQ q i) K) P:=fun e=>by
 subst e;have:=hq.get hi;rw [Nat.zero_add] at this;have:=h _ this rfl;rw [d2s];exact this
theorem b48 {gs:List G} {q:Q} {i:Nat} {K:Q→Om} (hq:A7 gs q 0) (h:∀ x,A7 (gs.drop i) x 0→t6 U (K x) P):t6 U (U.fQ (U.subQ q i) K) P:=fun e=>by
 subst e;have:=h _ (hq.drop i) rfl;rw [d2s];exact this
theorem a2u {gs:List G} {q:Q} {K:Q→Om} (hq:A7 gs q 0) (h:∀ x,A7 gs x 0→t6 U (K x) P):t6 U (U.fQ (U.subQ q 0) K) P:=b48 hq h
theorem sfT {n:Nat} {xs:List (List G)} {r:List G} {t:u1 Q} {off:Nat} {i:Int} {K:Q→Om} (ht:A5 n xs t off) (hi:xs[i.toNat]?=some r) (h:∀ x,A7 r x 0→t6 U (K x) P):t6 U (U.fQ (U.tQ t (U.nAdd off (U.iNat i))) K) P:=fun e=>by
 subst e;have:=h _ (ht.get hi).2.1 rfl;rw [d2s];show ∃ v bs,K (tQ t (Nat.add off (iNat i)))=some (v,bs)∧P v bs;rw [I6];exact this
theorem d4v {α:Type} {f:α→List G} {n:Nat} {xs:List α} {y:α} {t:u1 Q} {off:Nat} {i:Int} {K:Q→Om} (ht:A5 n (xs.map f) t off) (hi:xs[i.toNat]?=some y) (h:∀ x,A7 (f y) x 0→t6 U (K x) P):t6 U (U.fQ (U.tQ t (U.nAdd off (U.iNat i))) K) P :=
 sfT ht (by rw [List.getElem?_map,hi];rfl) h
theorem c8n {α:Type} {f:α→List G} {n:Nat} {xs:List α} {t:u1 Q} {off:Nat} {i:Nat} {K:Q→Om} (ht:A5 n (xs.map f) t off) (hi:i < xs.length) (h:∀ x,A7 (f xs[i]) x 0→t6 U (K x) P):t6 U (U.fQ (U.tQ t (U.nAdd off (U.iNat (i:Int)))) K) P :=
 d4v ht (by rw [Int.toNat_natCast];exact List.getElem?_eq_getElem hi) h
theorem sfB {x:Bool} {K:Bool→Om} (h:t6 U (K x) P):t6 U (U.fB x K) P:=fun e=>by have:=h e;subst e;rw [f2f];exact this
theorem b9r {n:Nat} {K:Int→Om} (h:t6 U (K n) P):t6 U (U.fI (U.iOfN n) K) P:=fun e=>by have:=h e;subst e;rw [T7];exact this
theorem b3q {a b:Nat} {K:Nat→Om} (h:t6 U (K (a+b)) P):t6 U (U.fN (U.nAdd a b) K) P:=fun e=>by have:=h e;subst e;rw [b0a];exact this
theorem a90 {a:Nat} {b:Int} {K:Nat→Om} (h:t6 U (K (a+b.toNat)) P):t6 U (U.fN (U.nAdd a (U.iNat b)) K) P:=fun e=>by
 have:=h e;subst e;rw [b0a];show ∃ v bs,K (a+iNat b)=some (v,bs)∧P v bs;rw [I6];exact this
theorem a93 {a b:Int} {K:Nat→Om} (h:t6 U (K (a.toNat - b.toNat)) P):t6 U (U.fN (U.nSub (U.iNat a) (U.iNat b)) K) P:=fun e=>by
 have:=h e;subst e;rw [b0a];show ∃ v bs,K (iNat a - iNat b)=some (v,bs)∧P v bs;rw [I6,I6];exact this
theorem b3s {a:Int} {b:Nat} {K:Nat→Om} (h:t6 U (K (a.toNat * b)) P):t6 U (U.fN (U.nMul (U.iNat a) b) K) P:=fun e=>by
 have:=h e;subst e;rw [b0a];show ∃ v bs,K (iNat a * b)=some (v,bs)∧P v bs;rw [I6];exact this
theorem g0p {xs:List (List G)} {g:G} {t:u1 Q} {k:Nat} {K:Q→Om} (ht:A5 1 xs t 0) (hi:xs[k]?=some [g]) (h:∀ x,RG g x→t6 U (K x) P):t6 U (U.fQ (U.tQ t k) K) P:=fun e=>by
 subst e;have:=(ht.get hi).2.2 g rfl;rw [Nat.zero_add] at this;have:=h _ this rfl;rw [d2s];exact this
theorem b9q {b:Int} {K:Nat→Om} (h:t6 U (K b.toNat) P):t6 U (U.fN (U.iNat b) K) P:=fun e=>by
 have:=h e;subst e;rw [b0a];show ∃ v bs,K (iNat b)=some (v,bs)∧P v bs;rw [I6];exact this
theorem b98 {e m:Int} (h:e=m) (h1:-9223372036854775808≤m) (h2:m < 9223372036854775808):wr .i64 e=m:=by
 subst h;rw [a2y];exact a8a .i64 _ (by show _ < ((9223372036854775808:Nat):Int);omega) (by show -((9223372036854775808:Nat):Int)≤_;omega)
theorem b9s {a b:Int} {K:Int→Om} (hr:-9223372036854775808≤a+b∧a+b < 9223372036854775808) (h:t6 U (K (a+b)) P):t6 U (U.fI (U.wr .i64 (U.iAdd a b)) K) P:=fun e=>by
 have:=h e;subst e;rw [T7];show ∃ v bs,K (wr .i64 (iAdd a b))=some (v,bs)∧P v bs;rw [b98 (b4j a b) hr.1 hr.2];exact this
theorem b49 {a b:Int} {K:Int→Om} (hr:-9223372036854775808≤a - b∧a - b < 9223372036854775808) (h:t6 U (K (a - b)) P):t6 U (U.fI (U.wr .i64 (U.iSub a b)) K) P:=fun e=>by
 have:=h e;subst e;rw [T7];show ∃ v bs,K (wr .i64 (iSub a b))=some (v,bs)∧P v bs;rw [b98 (b4k a b) hr.1 hr.2];exact this
theorem g5h {a b:Int} {K:Int→Om} (hr:-9223372036854775808≤a * b∧a * b < 9223372036854775808) (h:t6 U (K (a * b)) P):t6 U (U.fI (U.wr .i64 (U.iMul a b)) K) P:=fun e=>by
 have:=h e;subst e;rw [T7];show ∃ v bs,K (wr .i64 (iMul a b))=some (v,bs)∧P v bs;rw [b98 (c0y a b) hr.1 hr.2];exact this
theorem e55 {a b:Int} {K:Int→Om} (h:t6 U (K (a.tmod b)) P):t6 U (U.fI (U.iRem a b) K) P:=fun e=>by
 have:=h e;subst e;rw [T7];show ∃ v bs,K (iRem a b)=some (v,bs)∧P v bs;rw [c0z];exact this
theorem g0o {n m:Nat} {e M:Int} {K:Int→Om} (he:e=n) (hM:M=m) (h:t6 U (K ((n % m:Nat):Int)) P):t6 U (U.fI (U.iRem e M) K) P:=by
 subst he hM;exact e55 (by rw [Int.ofNat_tmod] at *;exact h)
theorem b47 {x:List UInt8} {i:Int} {K:Int→Om} (hi:i.toNat < x.length) (h:t6 U (K ((x.getD i.toNat 0).toNat:Int)) P):t6 U (U.fI (U.iOfN (U.sIdx (D0 x) (U.iNat i))) K) P:=fun e=>by
 have:=h e;subst e;rw [T7];show ∃ v bs,K ((sIdx (D0 x) (iNat i):Nat):Int)=some (v,bs)∧P v bs;rw [I6,← d2e hi,E6];exact this
theorem B7 {α:Type} {f:α→List G} {n:Nat} (hf:∀ x,(f x).length=n) {xs:List α}:∀ r ∈ xs.map f,r.length=n:=fun r hr=>by
 obtain ⟨x,_,rfl⟩:=List.mem_map.1 hr;exact hf x
theorem rvB {x y:Bool} (h:x=y):RV (.c (.b x)) (.bool y):=h ▸ .b x
theorem T6 {x y:Bool} (h:x=y):RV (.c (.b x)) (.known y):=h ▸ .kn x
theorem rvI {k:IntKind} {x y:Int} (h:x=y):RV (.c (.i k x)) (.int k y):=h ▸ .i k x
theorem b3r {x:List UInt8} {i:Nat} {K:Int→Om} (hi:i < x.length) (h:t6 U (K ((x.getD i 0).toNat:Int)) P):t6 U (U.fI (U.iOfN (U.sIdx (D0 x) (U.iNat (i:Int)))) K) P:=b47 (i:=(i:Int)) (by rw [Int.toNat_natCast];exact hi) (by rw [Int.toNat_natCast];exact h)
theorem g0i {b x:Bool} {K:Bool→Om} (hb:U=CU→b=x) (h:t6 U (K x) P):t6 U (U.fB b K) P:=fun e=>by
 have e1:=hb e;have:=h e;subst e e1;rw [f2f];exact this
theorem e4y (c a b:Bool):CU.bsel c a b=cond c a b:=by cases c <;> rfl
theorem a92 {a b:Bool} {K:Bool→Om} (h:t6 U (K (a != b)) P):t6 U (U.fB (U.bsel a (U.bnot b) b) K) P :=
 g0i (fun e=>by subst e;rw [e4y,d29];cases a <;> cases b <;> rfl) h
theorem a91 {a b:Bool} {K:Bool→Om} (h:t6 U (K (a == b)) P):t6 U (U.fB (U.bsel a b (U.bnot b)) K) P :=
 g0i (fun e=>by subst e;rw [e4y,d29];cases a <;> cases b <;> rfl) h
theorem g0l {c:Bool} {p:Prop} {a b:Int} {K:Int→Om} (hc:M9 U c p) (h:p→t6 U (K a) P) (k:¬p→t6 U (K b) P):t6 U (U.fI (U.isel c a b) K) P:=fun e=>by
 have h1:=hc e;cases c with
 | true=>have:=h (h1.1 rfl) e;subst e;rw [T7];exact this
 | false=>have:=k (fun hp=>by cases h1.2 hp) e;subst e;rw [T7];exact this
theorem g9w {b:Bool} {p:Prop} {x:Om} (ht:M9 U b p) (hp:p) (h:t6 U x P):t6 U (U.chk b x) P:=fun e=>by
 have h1:=(ht e).2 hp;have:=h e;subst e h1;exact this
theorem b7i {b:Bool} {p:Prop} {x y:Om} (ht:M9 U b p) (h:p→t6 U x P) (k:¬p→t6 U y P):t6 U (U.cnd b x y) P:=fun e=>by
 have h1:=ht e;cases b with
 | true=>have:=h (h1.1 rfl) e;subst e;exact this
 | false=>have:=k (fun hp=>by cases h1.2 hp) e;subst e;exact this
theorem b9n {x y:Om} (h:t6 U x P):t6 U (U.cnd true x y) P:=b7i trT (fun _=>h) (fun k=>absurd trivial k)
theorem b9l {x y:Om} (h:t6 U y P):t6 U (U.cnd false x y) P:=b7i trF (fun k=>k.elim) (fun _=>h)
theorem b9m {b:Bool} {x y:Om} (h:t6 U (U.cnd b y x) P):t6 U (U.cnd (U.bnot b) x y) P:=fun e=>by
 have:=h e;subst e;show ∃ v bs,cnd (bnot b) x y=some (v,bs)∧P v bs;rw [a9d];have h2:∃ v bs,cnd b y x=some (v,bs)∧P v bs:=this;rw [a9d] at h2;cases b <;> exact h2
theorem sJn {f:KJ'→Om} {g:KJ'} (h:t6 U (f g) P):t6 U (U.jn f g) P:=fun e=>by have:=h e;subst e;exact this
theorem c8k {f:KJ'→Om} {g:KJ'} (J:List V→List Bx→Prop) (hg:∀ vs bs,J vs bs→t6 U (g vs bs) P) (hf:∀ c:KJ',(∀ vs bs,J vs bs→t6 U (c vs bs) P)→t6 U (f c) P):t6 U (U.jn f g) P:=sJn (hf g hg)
def lpN (n:Nat) (body:(List V→List Bx→Om)→List V→List Bx→Om):List V→List Bx→Om :=
 Nat.rec (motive:=fun _=>List V→List Bx→Om) (fun _ _=>none) (fun _ ih=>body ih) n
theorem g9m:lp=lpN E3:=rfl
theorem g9x {β:Type} {body:KJ'→KJ'} (X6:β→List V→List Bx→Prop) (μ:β→Nat)
  (step:∀ (self:KJ') x vs bs,X6 x vs bs→(∀ y vs' bs',X6 y vs' bs'→μ y < μ x→t6 U (self vs' bs') P)→t6 U (body self vs bs) P):∀ n x vs bs,μ x < n→X6 x vs bs→t6 U (lpN n body vs bs) P:=by
 intro n
 induction n with
 | zero=>intro x vs bs h;omega
 | succ n ih =>
  intro x vs bs hx hi;exact step _ x vs bs hi fun y vs' bs' hy hlt=>ih y vs' bs' oM hy
theorem lpU (e:U=CU):U.lp=lpN E3:=by subst e;exact g9m
theorem I7 {β:Type} {body:KJ'→KJ'} {vs0:List V} {bs0:List Bx} (X6:β→List V→List Bx→Prop) (μ:β→Nat) (x0:β) (h0:X6 x0 vs0 bs0) (hμ:μ x0 < E3)
  (step:∀ (self:KJ') x vs bs,X6 x vs bs→(∀ y vs' bs',X6 y vs' bs'→μ y < μ x→t6 U (self vs' bs') P)→t6 U (body self vs bs) P):t6 U (U.lp body vs0 bs0) P:=fun e=>by
 rw [lpU e];exact g9x X6 μ step E3 x0 vs0 bs0 hμ h0 e
theorem c1r {t:u1 Q} {x:Q} {i:Nat} (h:i+2≤281474976710656):tQ (t.set .no x E8 i) i=x:=by
 rw [b92,u1.get_set _ _ E8 _ _ (show i+2≤281474976710656 from h)];rfl
theorem b1i {t:u1 Q} {x:Q} {i k:Nat} (h:k ≠ i):tQ (t.set .no x E8 i) k=tQ t k:=by
 rw [b92,b92];rcases u1.get_set_ne2 .no x E8 t i k h with h | ⟨h1,h2⟩
 ·rw [h]
 ·rw [h1,h2];rfl
theorem e6r {n:Nat} {t2:u1 Q} {ys:List (List G)}:∀ {j:Nat} {xs:List (List G)} {t:u1 Q} {off:Nat} {K:u1 Q→Om},A5 n xs t off→A5 n ys t2 j→off+xs.length+ys.length+1≤281474976710656 →
  ∃ t',A5 n (xs ++ ys) t' off∧aT t2 ys.length t (off+xs.length) j K=K t':=by
 induction ys with
 | nil=>intro j xs t off K h _ _;exact ⟨t,by simpa using h,rfl⟩
 | cons y ys ih =>
  intro j xs t off K h1 h2 h3;cases h2 with
  | cons _ _ _ _ _ k1 k2 k2' k3 =>
   simp only [List.length_cons] at h3;have hs:A5 n (xs ++ [y]) (t.set .no (tQ t2 j) E8 (off+xs.length)) off:=.of fun k r e=>by
    by_cases hk:k < xs.length
    ·rw [List.getElem?_append_left hk] at e;rw [b1i oM];exact h1.get e
    ·by_cases hk2:k=xs.length
     ·subst hk2;simp at e;subst e;rw [c1r oM];exact ⟨k1,k2,k2'⟩
     ·rw [List.getElem?_eq_none (by simp;omega)] at e;cases e
   obtain ⟨t',h4,h5⟩:=ih (K:=K) hs k3 (by simp;omega);refine ⟨t',by simpa using h4,?_⟩;show cond (Nat.ble (Nat.add (off+xs.length) 2) 281474976710656) (fQ (tQ t2 j) fun e=>a2t e E8 t (off+xs.length) fun t=>aT t2 ys.length t (off+xs.length+1) (j+1) K) none=K t';have hb:Nat.ble (Nat.add (off+xs.length) 2) 281474976710656=true:=by
    rw [Nat.ble_eq];show off+xs.length+2≤_;omega
   rw [hb,b8k,Z8];simp only [List.length_append,List.length_cons,List.length_nil] at h5;exact h5
theorem sAT {n:Nat} {xs ys:List (List G)} {t t2:u1 Q} {off j a m:Nat} {K:u1 Q→Om} (ht:A5 n xs t off) (ht2:A5 n ys t2 j) (ha:a=xs.length) (hm:m=ys.length) (hb:off+xs.length+ys.length+1≤281474976710656)
  (h:∀ t',A5 n (xs ++ ys) t' off→t6 U (K t') P):t6 U (U.aT t2 m t (U.nAdd off a) j K) P:=fun e=>by
 obtain ⟨t',h1,h2⟩:=e6r (K:=K) ht ht2 hb;have:=h t' h1 e;subst e ha hm;show ∃ v bs,aT t2 ys.length t (off+xs.length) j K=some (v,bs)∧P v bs;rw [h2];exact this
theorem S7 {n:Nat} {xs:List (List G)} {r:List G} {q:Q} {t:u1 Q} {off a:Nat} {K:u1 Q→Om} (ht:A5 n xs t off) (hr:U=CU→Row r q) (hn:r.length=n) (ha:a=xs.length) (hb:off+xs.length+2≤281474976710656)
  (h:∀ t',A5 n (xs ++ [r]) t' off→t6 U (K t') P):t6 U (U.aT (.node q .nil .nil) 1 t (U.nAdd off a) 0 K) P:=fun e =>
 sAT ht (ys:=[r]) (t2:=.node q .nil .nil) (j:=0) (.cons _ _ _ _ _ hn (hr e).1 (hr e).2 (.nil _ _ _)) ha rfl (by simpa using hb) h e
theorem RG.cel0 {g:G} {q:Q} (h:RG g q):celQ q 0=q:=by cases h <;> rfl
theorem L0 {g:G} {q:Q} (h:RG g q):Row [g] q:=⟨.cons _ _ _ _ (by rw [h.cel0];exact h) (.nil _ _),fun g' e=>by cases e;exact h⟩
theorem a06 {r:List G} {q:Q} (hn:r.length ≠ 1) (h:A7 r q 0):Row r q:=⟨h,fun g e=>by subst e;exact absurd rfl hn⟩
theorem d2p {n:Nat} {r:List G} {x:Q} (hr:Row r x) (hn:r.length=n):∀ (m:Nat) {xs:List (List G)} {t:u1 Q} {off:Nat} {K:u1 Q→Om},A5 n xs t off→off+xs.length+m+1≤281474976710656 →
  ∃ t',A5 n (xs ++ List.replicate m r) t' off∧zT x m t (off+xs.length) K=K t'
 | 0,xs,t,off,K,h,_=>⟨t,by simpa using h,rfl⟩
 | m+1,xs,t,off,K,h1,h3=>by
  have hs:A5 n (xs ++ [r]) (t.set .no x E8 (off+xs.length)) off:=.of fun k r' e=>by
   by_cases hk:k < xs.length
   ·rw [List.getElem?_append_left hk] at e;rw [b1i oM];exact h1.get e
   ·by_cases hk2:k=xs.length
    ·subst hk2;simp at e;subst e;rw [c1r oM];exact ⟨hn,hr⟩
    ·rw [List.getElem?_eq_none (by simp;omega)] at e;cases e
  obtain ⟨t',h4,h5⟩:=d2p hr hn m (K:=K) hs (by simp;omega);refine ⟨t',by rw [List.append_assoc] at h4;exact h4,?_⟩;show cond (Nat.ble (Nat.add (off+xs.length) 2) 281474976710656) (a2t x E8 t (off+xs.length) fun t=>zT x m t (off+xs.length+1) K) none=K t';have hb:Nat.ble (Nat.add (off+xs.length) 2) 281474976710656=true:=by
   rw [Nat.ble_eq];show off+xs.length+2≤_;omega
  rw [hb,Z8];simp only [List.length_append,List.length_cons,List.length_nil] at h5;exact h5
theorem sZT {n m:Nat} {r:List G} {x:Q} {K:u1 Q→Om} (hr:U=CU→Row r x) (hn:r.length=n) (hm:m≤140737488355328) (h:∀ t',A5 n (List.replicate m r) t' 0→t6 U (K t') P):t6 U (U.zT x m .nil 0 K) P:=fun e=>by
 obtain ⟨t',h1,h2⟩:=d2p (hr e) hn m (K:=K) (A5.nil n .nil 0) (by simp;omega);rw [List.nil_append] at h1;have:=h t' h1 e;subst e;show ∃ v bs,zT x m .nil 0 K=some (v,bs)∧P v bs;have h2:zT x m .nil 0 K=K t':=h2;rw [h2];exact this
theorem sST {n:Nat} {xs:List (List G)} {r:List G} {x:Q} {t:u1 Q} {off i:Nat} {K:u1 Q→Om} (ht:A5 n xs t off) (hr:U=CU→Row r x) (hn:r.length=n) (hi:i < xs.length) (hb:off+i+2≤281474976710656)
  (h:∀ t',A5 n (xs.set i r) t' off→t6 U (K t') P):t6 U (U.sT t (off+i) x K) P:=fun e=>by
 have hs:A5 n (xs.set i r) (t.set .no x E8 (off+i)) off:=.of fun k r' e'=>by
  by_cases hk:k=i
  ·subst hk;rw [List.getElem?_set_self oM] at e';injection e' with e';subst e';rw [c1r oM];exact ⟨hn,hr e⟩
  ·rw [List.getElem?_set_ne oM] at e';rw [b1i oM];exact ht.get e'
 have:=h _ hs e;subst e;show ∃ v bs,a2t x E8 t (off+i) K=some (v,bs)∧P v bs;rw [Z8];exact this
theorem b1h {n:Nat} {xs:List (List G)} {r:List G} {x:Q} {t:u1 Q} {i:Nat} {K:u1 Q→Om} (ht:A5 n xs t 0) (hr:U=CU→Row r x) (hn:r.length=n) (hi:i < xs.length) (hb:i+2≤281474976710656)
  (h:∀ t',A5 n (xs.set i r) t' 0→t6 U (K t') P):t6 U (U.sT t i x K) P:=fun e=>by
 have h2:=sST (off:=0) (i:=i) (K:=K) ht hr hn hi oM h e;rw [Nat.zero_add] at h2;exact h2
inductive S4 (id n:Nat) (xs:List (List G)):V→Prop
 | a (t:u1 Q) (len:Nat):len=xs.length→A5 n xs t 0→S4 id n xs (.slice t n 0 len (.tok id))
 | b:xs=[]→S4 id n xs (.slice .nil 0 0 0 (.tok id))
theorem c1q {id n c:Nat} {xs:List (List G)} {v:V} {K:u1 Q→Nat→Nat→Om} (hv:S4 id (n+1) xs v) (hc:a0k (.tok id)=c) (h:∀ t,A5 (n+1) xs t 0→t6 U (K t 0 xs.length) P):t6 U (U.uSl (n+1) c v K) P:=by
 cases hv with
 | a t len h1 h2=>subst h1;exact b7k hc (h t h2)
 | b h1=>subst h1;exact c1p hc (h .nil (.nil _ _ _))
theorem b9o {α:Type} {f:α→List G} {id n c:Nat} {ys:List α} {v:V} {K:u1 Q→Nat→Nat→Om} (hv:S4 id (n+1) (ys.map f) v) (hc:a0k (.tok id)=c) (h:∀ t,A5 (n+1) (ys.map f) t 0→t6 U (K t 0 ys.length) P):t6 U (U.uSl (n+1) c v K) P :=
 c1q hv hc fun t k=>by rw [List.length_map];exact h t k
theorem a94 {e m:Int} {K:Int→Om} (he:e=m) (hr:-9223372036854775808≤m∧m < 9223372036854775808) (h:t6 U (K m) P):t6 U (U.fI (U.wr .i64 e) K) P:=fun e'=>by
 have:=h e';subst e';rw [T7];show ∃ v bs,K (wr .i64 e)=some (v,bs)∧P v bs;rw [b98 he hr.1 hr.2];exact this
theorem c40 {e:Int} (h1:0≤e) (h2:e < 256):wr .u8 e=e:=by
 rw [a2y];exact a8a .u8 _ (by show _ < ((256:Nat):Int);omega) (by show -((0:Nat):Int)≤_;omega)
theorem d9k {a b m:Int} {K:Int→Om} (he:a - b=m) (hr:0≤m∧m < 256) (h:t6 U (K m) P):t6 U (U.fI (U.wr .u8 (U.iSub a b)) K) P:=fun e'=>by
 have:=h e';subst e';rw [T7];show ∃ v bs,K (wr .u8 (iSub a b))=some (v,bs)∧P v bs;rw [b4k,he,c40 hr.1 hr.2];exact this
theorem e56 {e m:Int} {K:Int→Om} (he:e=m) (hr:0≤m∧m < 256) (h:t6 U (K m) P):t6 U (U.fI (U.wr .u8 e) K) P:=fun e'=>by
 have:=h e';subst e';rw [T7];show ∃ v bs,K (wr .u8 e)=some (v,bs)∧P v bs;rw [he,c40 hr.1 hr.2];exact this
def bg (b:UInt8):List G:=[.i .u8 b.toNat]
theorem e6x {ys:List UInt8}:∀ {t:u1 Q} {off:Nat} {K:Nat→Om},A5 1 (ys.map bg) t off→bT t ys.length off K=K (D0 ys):=by
 induction ys with
 | nil=>intro t off K _;rfl
 | cons y ys ih =>
  intro t off K h;cases h with
  | cons _ _ _ _ _ h1 h2 h2' h3 =>
   have h5:=h2' _ rfl;have h6:t.get off=some (.int .u8 y.toNat):=by
    rw [b92] at h5;cases hg:t.get off with
    | none=>rw [hg] at h5;cases h5
    | some q=>rw [hg] at h5;simp at h5;cases h5;rfl
   show (match t.get off with
    | some (.int .u8 n)=>bT t ys.length (off+1) fun c=>fN (Nat.add (Nat.mod (iNat n) 256) (Nat.mul 256 c)) K
    | _=>none)=_
   rw [h6];simp only [];rw [ih h3,c4i];have:=y.toNat_lt;have e:Nat.add (Nat.mod (iNat (y.toNat:Int)) 256) (Nat.mul 256 (D0 ys))=D0 (y :: ys):=by
    rw [I6];show y.toNat % 256+256 * D0 ys=y.toNat+256 * D0 ys;omega
   rw [e]
theorem sBT {ys:List UInt8} {t:u1 Q} {off m:Nat} {K:Nat→Om} (ht:A5 1 (ys.map bg) t off) (hm:m=ys.length) (h:t6 U (K (D0 ys)) P):t6 U (U.bT t m off K) P:=fun e=>by
 have:=h e;subst e hm;show ∃ v bs,bT t ys.length off K=some (v,bs)∧P v bs;rw [e6x ht];exact this
structure Sp where
 ι:Type
 A:ι→List GV
 B:ι→List (List G)
 R:ι→z8
 B':ι→List (List G)
 inj:∀ i j vs bs,z7 (A i) vs→z7 (A j) vs→u0 (B i) bs→u0 (B j) bs→R i=R j∧B' i=B' j
def Ans (fn:FuncId→F3) (g:FuncId) (sp:Sp):Prop:=∀ i vs bs,z7 (sp.A i) vs→u0 (sp.B i) bs→∃ v bs',fn g vs bs=some (v,bs')∧A3 (sp.R i) v∧u0 (sp.B' i) bs'
theorem s6 {fn:FuncId→F3} {g:FuncId} {sp:Sp} (hg:Ans fn g sp) (i:sp.ι) {vs:List V} {bs:List Bx} {K:V→List Bx→Om} {Kp:V→Om} {r:GV} (hr:sp.R i=.ret r) (hv:z7 (sp.A i) vs) (hb:u0 (sp.B i) bs)
  (hk:∀ v bs',RV r v→u0 (sp.B' i) bs'→t6 U (K v bs') P):t6 U (U.bind (fn g vs bs) K Kp) P:=fun e=>by
 obtain ⟨v,bs',h1,h2,h3⟩:=hg i vs bs hv hb;rw [hr] at h2;cases h2 with
 | ret _ v h2 =>
  have:=hk v bs' h2 h3 e;subst e;rw [h1];exact this
def Sp.lt (sp:Sp) (μ:sp.ι→Nat) (n:Nat):Sp where
 ι:={ i:sp.ι // μ i < n }
 A i:=sp.A i.1
 B i:=sp.B i.1
 R i:=sp.R i.1
 B' i:=sp.B' i.1
 inj i j:=sp.inj i.1 j.1
end
end
end Go.Abs
