/- Data, O6 and states without addresses; how they stand to the model's memory. No program in sight. -/
import Derived.Calls
import Derived.Orders
import Derived.Laws.Sem
import Derived.Below
import Derived.Laws.Tables
import Derived.Laws.CopyRow
import Derived.Laws.StructEq
import Derived.Test.YtgipbdffgfbedaaGreatDoorC0
set_option linter.all false
namespace Go.Abs

inductive V5 where
 | no
 | exact
 | tok (id:Nat)
 | fr (z:Nat)

inductive D where
 | bool (b:Bool)
 | int (k:IntKind) (n:Int)
 | str (s:List UInt8)
 | slice (len:Nat) (cells:List D) (c:V5)
 | agg (cells:List D)
 | tuple (vs:List D)
 | ptr (id off:Nat)
 | cref (cells:List D)
 | bslice (id len:Nat)
 | nilp
 | iface (t:TypeId) (v:D)
 | nilIface
 | func (fn:Fn) (first captured:List D)
 | junk
 | any

instance:Inhabited D:=⟨.junk⟩

def D.one:D→Bool
 | .agg _ | .tuple _ | .junk=>false
 | _=>true

def D.cells:D→List D
 | .agg cs=>cs
 | d=>[d]

abbrev k8:=Nat→Nat→Prop

abbrev Mp:=Nat→Option (Nat × Nat)

def b9u (M:Mp) (c:V5) (base:Option Addr) (len cap:Nat):Prop :=
 match c with
 | .no=>True
 | .exact=>cap=len
 | .tok id=>cap=len∨∃ b,M id=some (b,cap)∧base=some ⟨b,0,none⟩
 | .fr _=>True

def a5y (S:k8) (w:World) (base:Option Addr) (vs:List Value):Prop :=
 vs=[]∨∃ b o,base=some ⟨b,o,none⟩∧∀ i v,vs[i]?=some v→S b (o+i)∧w.cell? ⟨b,o+i,none⟩=some v

def s9:Mp:=fun _=>none

mutual
/-- What lies behind a slice or a pointer that is written no more names no box. -/
inductive Rd (S:k8):Mp→World→Value→D→Prop
 | bool {M:Mp} {w:World} (b:Bool):Rd S M w (.bool b) (.bool b)
 | int {M:Mp} {w:World} (k:IntKind) (n:Int):Rd S M w (.int k n) (.int k n)
 | str {M:Mp} {w:World} (s:ByteArray) (l:List UInt8):s.data.toList=l→Rd S M w (.string s) (.str l)
 | slice {M:Mp} {w:World} (base:Option Addr) (len cap:Nat) (vs:List Value) (ds:List D) (c:V5):a5y S w base vs→p9 S s9 w vs ds→b9u M c base len cap→len≤cap →
   (base=none→cap=0)→Rd S M w (.slice base len cap) (.slice len ds c)
 | agg {M:Mp} {w:World} (vs:Array Value) (ds:List D):p9 S M w vs.toList ds→Rd S M w (.agg vs) (.agg ds)
 | tuple {M:Mp} {w:World} (vs:Array Value) (ds:List D):p9 S M w vs.toList ds→Rd S M w (.tuple vs) (.tuple ds)
 | ptr {M:Mp} {w:World} (id off b c:Nat):M id=some (b,c)→Rd S M w (.pointer (some ⟨b,off,none⟩)) (.ptr id off)
 | cref {M:Mp} {w:World} (b o:Nat) (vs:List Value) (ds:List D):a5y S w (some ⟨b,o,none⟩) vs→p9 S s9 w vs ds→Rd S M w (.pointer (some ⟨b,o,none⟩)) (.cref ds)
 | bslice {M:Mp} {w:World} (id len b c:Nat):M id=some (b,c+1)→Rd S M w (.slice (some ⟨b,0,none⟩) len len) (.bslice id len)
 | nilp {M:Mp} {w:World}:Rd S M w (.pointer none) .nilp
 | iface {M:Mp} {w:World} (t:TypeId) (v:Value) (d:D):Rd S M w v d→Rd S M w (.iface t v) (.iface t d)
 | nilIface {M:Mp} {w:World}:Rd S M w .nilIface .nilIface
 | func {M:Mp} {w:World} (fn:Fn) (first captured:Array Value) (fs cs:List D):p9 S M w first.toList fs→p9 S M w captured.toList cs→Rd S M w (.func fn first captured) (.func fn fs cs)
 | junk {M:Mp} {w:World} (v:Value):Rd S M w v .junk
 | any {M:Mp} {w:World} (v:Value):v.oneCell'=true→Rd S M w v .any
inductive p9 (S:k8):Mp→World→List Value→List D→Prop
 | nil {M:Mp} {w:World}:p9 S M w [] []
 | cons {M:Mp} {w:World} (v:Value) (d:D) (vs:List Value) (ds:List D):Rd S M w v d→p9 S M w vs ds→p9 S M w (v :: vs) (d :: ds)
end

structure N4 (S:k8) (M:Mp) (w:World) (S':k8) (M':Mp) (w':World):Prop where
 cells:∀ b o,S b o→S' b o
 keep:∀ b o,S b o→w'.cell? ⟨b,o,none⟩=w.cell? ⟨b,o,none⟩
 map:∀ i x,M i=some x→M' i=some x

theorem N4.refl (S:k8) (M:Mp) (w:World):N4 S M w S M w:=⟨fun _ _ h=>h,fun _ _ _=>rfl,fun _ _ h=>h⟩
theorem b9u.ext {S S':k8} {M M':Mp} {w w':World} (h:N4 S M w S' M' w') {c:V5} {base:Option Addr} {len cap:Nat} (k:b9u M c base len cap):b9u M' c base len cap:=by
 cases c with
 | no=>trivial
 | exact=>exact k
 | tok id=>exact k.imp (fun h=>h) fun ⟨b,k1,k2⟩=>⟨b,h.map _ _ k1,k2⟩
 | fr z=>trivial
theorem a5y.ext {S S':k8} {M M':Mp} {w w':World} (h:N4 S M w S' M' w') {base:Option Addr} {vs:List Value} (k:a5y S w base vs):a5y S' w' base vs:=by
 rcases k with k | ⟨b,o,hb,k⟩
 ·exact .inl k
 ·exact .inr ⟨b,o,hb,fun i v hv=>⟨h.cells _ _ (k i v hv).1,by rw [h.keep _ _ (k i v hv).1];exact (k i v hv).2⟩⟩

theorem N4.no {S S':k8} {M M':Mp} {w w':World} (h:N4 S M w S' M' w'):N4 S s9 w S' s9 w':=⟨h.cells,h.keep,fun _ _ h=>h⟩

mutual
theorem Rd.ext {S S':k8} {w':World}:∀ {M M':Mp} {w:World} {v:Value} {d:D},N4 S M w S' M' w'→Rd S M w v d→Rd S' M' w' v d
 | _,_,_,_,_,_,.bool b=>.bool b
 | _,_,_,_,_,_,.int k n=>.int k n
 | _,_,_,_,_,_,.str s l e=>.str s l e
 | _,_,_,_,_,h,.slice base len cap vs ds c a r k l z=>.slice base len cap vs ds c (a.ext h) (p9.ext h.no r) (k.ext h) l z
 | _,_,_,_,_,h,.agg vs ds r=>.agg vs ds (p9.ext h r)
 | _,_,_,_,_,h,.tuple vs ds r=>.tuple vs ds (p9.ext h r)
 | _,_,_,_,_,h,.ptr id off b c hi=>.ptr id off b c (h.map _ _ hi)
 | _,_,_,_,_,h,.cref b o vs ds a r=>.cref b o vs ds (a.ext h) (p9.ext h.no r)
 | _,_,_,_,_,h,.bslice id len b c hi=>.bslice id len b c (h.map _ _ hi)
 | _,_,_,_,_,_,.nilp=>.nilp
 | _,_,_,_,_,h,.iface t v d r=>.iface t v d (Rd.ext h r)
 | _,_,_,_,_,_,.nilIface=>.nilIface
 | _,_,_,_,_,h,.func fn f c fs cs r k=>.func fn f c fs cs (p9.ext h r) (p9.ext h k)
 | _,_,_,_,_,_,.junk v=>.junk v
 | _,_,_,_,_,_,.any v h=>.any v h
theorem p9.ext {S S':k8} {w':World}:∀ {M M':Mp} {w:World} {vs:List Value} {ds:List D},N4 S M w S' M' w'→p9 S M w vs ds→p9 S' M' w' vs ds
 | _,_,_,_,_,_,.nil=>.nil
 | _,_,_,_,_,h,.cons v d vs ds r k=>.cons v d vs ds (Rd.ext h r) (p9.ext h k)
end

theorem Rd.of_no {S:k8} {M:Mp} {w:World} {v:Value} {d:D} (h:Rd S s9 w v d):Rd S M w v d:=h.ext ⟨fun _ _ h=>h,fun _ _ _=>rfl,fun _ _ h=>by cases h⟩
theorem p9.of_no {S:k8} {M:Mp} {w:World} {v:List Value} {d:List D} (h:p9 S s9 w v d):p9 S M w v d:=h.ext ⟨fun _ _ h=>h,fun _ _ _=>rfl,fun _ _ h=>by cases h⟩

section
variable {S:k8} {M:Mp} {w:World}
theorem p9.length:∀ {vs:List Value} {ds:List D},p9 S M w vs ds→vs.length=ds.length
 | _,_,.nil=>rfl
 | _,_,.cons _ _ _ _ _ k=>by simp [k.length]
theorem p9.get':∀ {vs:List Value} {ds:List D},p9 S M w vs ds→∀ (i:Nat) (d:D),ds[i]?=some d→∃ v,vs[i]?=some v∧Rd S M w v d
 | _,_,.nil,i,v,h=>by simp at h
 | _,_,.cons x d vs ds r k,0,v,h=>by simp at h;exact ⟨x,rfl,h ▸ r⟩
 | _,_,.cons x d vs ds r k,i+1,v,h=>by simp at h;simpa using k.get' i v h
theorem p9.set:∀ {vs:List Value} {ds:List D},p9 S M w vs ds→∀ (i:Nat) {v:Value} {d:D},Rd S M w v d→p9 S M w (vs.set i v) (ds.set i d)
 | _,_,.nil,_,_,_,_=>.nil
 | _,_,.cons x d vs ds r k,0,v,_,h=>.cons _ _ _ _ h k
 | _,_,.cons x d vs ds r k,i+1,v,_,h=>.cons _ _ _ _ r (k.set i h)
theorem p9.append:∀ {vs vs':List Value} {ds ds':List D},p9 S M w vs ds→p9 S M w vs' ds'→p9 S M w (vs ++ vs') (ds ++ ds')
 | _,_,_,_,.nil,k=>k
 | _,_,_,_,.cons x d vs ds r h,k=>.cons _ _ _ _ r (h.append k)
theorem p9.take:∀ {vs:List Value} {ds:List D},p9 S M w vs ds→∀ n,p9 S M w (vs.take n) (ds.take n)
 | _,_,.nil,n=>by simp;exact .nil
 | _,_,.cons _ _ _ _ r h,0=>.nil
 | _,_,.cons _ _ _ _ r h,n+1=>.cons _ _ _ _ r (h.take n)
theorem p9.drop:∀ {vs:List Value} {ds:List D},p9 S M w vs ds→∀ n,p9 S M w (vs.drop n) (ds.drop n)
 | _,_,.nil,n=>by simp;exact .nil
 | _,_,.cons _ _ _ _ r h,0=>.cons _ _ _ _ r h
 | _,_,.cons _ _ _ _ r h,n+1=>h.drop n
theorem p9.replicate {v:Value} {d:D} (h:Rd S M w v d):∀ n,p9 S M w (List.replicate n v) (List.replicate n d)
 | 0=>.nil
 | n+1=>.cons _ _ _ _ h (p9.replicate h n)
theorem Rd.oneCell {v:Value} {d:D} (h:Rd S M w v d) (hd:d.one=true):v.oneCell'=true:=by
 cases h <;> first | rfl | assumption | simp [D.one] at hd
theorem b9h {v:Value} (h:v.oneCell'=true):v.cells=#[v]:=by cases v <;> first | rfl | cases h
theorem Rd.cells {v:Value} {d:D} (h:Rd S M w v d) (hd:d.one=true∨∃ cs,d=.agg cs):p9 S M w v.cells.toList d.cells:=by
 cases h <;> first
  | exact .cons _ _ _ _ (by constructor <;> assumption) .nil
  | (rename_i h1;rw [b9h h1];exact .cons _ _ _ _ (.any v h1) .nil)
  | assumption
  | (rcases hd with hd | ⟨cs,hd⟩ <;> simp [D.one] at hd)
end

inductive o9 where
 | cells (ds:List D)
 | tok (len size:Nat)
 | dead
 | free

def o9.live:o9→Bool
 | .dead | .free=>false
 | _=>true

def a6p (S:k8) (M:Mp) (w:World) (id:Nat):o9→Prop
 | .cells ds=>∃ b k c e,M id=some (b,k)∧w.heap[b]?=some (.cells c e (0,0))∧p9 S M w c.toList ds∧∀ o,¬S b o
 | .tok len size=>∀ b k,M id=some (b,k)→∃ c e,w.heap[b]?=some (.cells c e (0,0))∧c.size=k * size∧∀ o,len * size≤o→¬S b o
 | .dead=>True
 | .free=>M id=none

structure a6q (S:k8) (M:Mp) (w:World) (h:List o9):Prop where
 box:∀ id b,h[id]?=some b→a6p S M w id b
 out:∀ id,h.length≤id→M id=none
 apart:∀ i j x y b k l,h[i]?=some x→h[j]?=some y→x.live=true→y.live=true→M i=some (b,k)→M j=some (b,l)→i=j

structure Z8 (w:World) (M:Mp) (w':World):Prop where
 os:w'.os=w.os
 tape:w'.tape=w.tape
 output:w'.output=w.output
 size:w.heap.size≤w'.heap.size
 block:∀ k,k < w.heap.size→(∀ i c,M i ≠ some (k,c))→w'.heap[k]?=w.heap[k]?

structure a9k where
 N:Nat
 pred:World→Prop
 stable:∀ w w',pred w→(∀ b,b < N→w'.heap[b]?=w.heap[b]?)→pred w'
 size:∀ w,pred w→N≤w.heap.size

inductive V2 where
 | ret (d:D)
 | pan (d:D)

def k8.within (S:k8) (w:World):Prop:=∀ b o,S b o→b < w.heap.size
def k8.grown (S S':k8) (w:World):Prop:=(∀ b o,S b o→S' b o)∧∀ b o,S' b o→S b o∨w.heap.size≤b

def e7u (S:k8) (w0 w:World) (z:Nat) (base:Option Addr) (len cap:Nat):Prop :=
 cap=len∨∃ b c e,base=some ⟨b,0,none⟩∧w0.heap.size≤b∧w.heap[b]?=some (.cells c e (0,0))∧c.size=cap * z∧∀ o,len * z≤o→¬S b o
def V1 (S:k8) (w0 w:World) (v:Value) (d:D):Prop:=∀ len c z,d=.slice len c (.fr z)→∃ base cap,v=.slice base len cap∧e7u S w0 w z base len cap
def a2y (S:k8) (w0 w:World) (v:Value) (d:D):Prop :=
 V1 S w0 w v d∧∀ vs ds,v=.tuple vs→d=.tuple ds→∀ (i:Nat) (u:Value) (e:D),vs[i]?=some u→ds[i]?=some e→V1 S w0 w u e
def Ends (S:k8) (M:Mp) (w0 w:World) (hs:List (List D)) (e:Ending):V2→Prop
 | .ret d=>a6q S M w (hs.map .cells)∧∃ v,e=.returned v∧Rd S M w v d∧a2y S w0 w v d
 | .pan d=>∃ v,e=.panicked [{ v,recovered:=false }]∧Rd S M w v d

def CM (P:Program) (G:a9k) (f:FuncId) (ds:List D) (hs:List (List D)) (r:V2) (hs':List (List D)):Prop :=
 (∀ args w,(callFunc f args).run P w=.ok (.enter f args) w) ∧
 ∀ (w:World) (S:k8) (M:Mp) (vs:List Value),G.pred w→(∀ i b c,M i=some (b,c)→G.N≤b∧b < w.heap.size∧c=0)→S.within w→a6q S M w (hs.map .cells)→p9 S M w vs ds →
  Calls P f vs.toArray w fun e w'=>Z8 w M w'∧∃ S',S.grown S' w∧S'.within w'∧Ends S' M w w' hs' e r

def C (P:Program) (G:a9k) (f:FuncId) (ds:List D) (r:V2):Prop:=CM P G f ds [] r []

structure St where
 tmps:List D
 heap:List o9

def St.put (s:St) (dst:Option Tmp) (d:D):St :=
 match dst with
 | some t=>{ s with tmps:=s.tmps.set t d }
 | none=>s

def W1:Value→D
 | .bool b=>.bool b
 | .int k n=>.int k n
 | .string s=>.str s.data.toList
 | .pointer none=>.nilp
 | .slice none 0 0=>.slice 0 [] .exact
 | .nilIface=>.nilIface
 | _=>.junk
def ofV:Value→D
 | .agg cs=>.agg (cs.toList.map W1)
 | .tuple cs=>.tuple (cs.toList.map W1)
 | .func fn first captured=>match first.toList,captured.toList with
  | [],[]=>.func fn [] []
  | _,_=>.junk
 | v=>W1 v

def St.eval (s:St):Operand→D
 | .tmp t=>s.tmps.getD t .junk
 | .const v=>ofV v
 | .global _=>.junk
 | .func f=>.func (.func f) [] []

def O0 (f:Nat→Option Nat):D→D
 | .slice l c (.fr z)=>.slice l c (.fr z)
 | .slice l c _=>.slice l c .no
 | .ptr id off=>match f id with
  | some j=>.ptr j off
  | none=>.junk
 | .bslice _ _ | .agg _ | .tuple _ | .iface _ _ | .func _ _ _=>.junk
 | d=>d
def a6k (f:Nat→Option Nat):D→D
 | .func fn fs cs=>.func fn (fs.map (O0 f)) (cs.map (O0 f))
 | d=>O0 f d
def a42 (f:Nat→Option Nat):D→D
 | .agg cs=>.agg (cs.map (a6k f))
 | d=>a6k f d
def renI (f:Nat→Option Nat):D→D
 | .iface t d=>.iface t (a42 f d)
 | d=>a42 f d
def ren (f:Nat→Option Nat):D→D
 | .tuple ds=>.tuple (ds.map (renI f))
 | d=>renI f d
def V0:Nat→Option Nat:=fun _=>none

structure H2 where
 need:Bool
 val:D
 ws:List (Nat × o9)
 rs:List Nat

def r0 (d:D):Option H2:=some ⟨true,d,[],[]⟩
def C8 (b:Bool) (d:D):Option H2:=some ⟨b,d,[],[]⟩
def C1 (s:St) (nid:Nat):Bool:=match s.heap[nid]? with | some .free=>true | _=>false
def a06 (s:St) (nid:Nat) (b:Bool) (d:D) (x:o9):Option H2:=bif C1 s nid then some ⟨b,d,[(nid,x)],[nid]⟩ else none

inductive K3 where
 | int
 | str
 | bool
def K3.is (P:Program) (t:TypeId):K3→Prop
 | .int=>∃ k,P.underlying t=some (.int k)
 | .str=>P.underlying t=some .string
 | .bool=>P.underlying t=some .bool
def c0p (P:Program) (t:TypeId) (ks:List K3):Prop :=
 ∃ fs:Array Field,P.underlying t=some (.struct fs)∧P.stoodInHeld t=false∧P.eqGuardType P.depth t=false∧fs.size=ks.length ∧
  ∀ (i : Nat) (f : Field) (k : K3), fs[i]? = some f → ks[i]? = some k → f.name ≠ "_" ∧ f.offset = i ∧ k.is P f.type

structure Pr where
 P:Program
 G:a9k
 eqs:List (TypeId × List K3)
 eqOk:∀ t ks,(t,ks) ∈ eqs→c0p P t ks
 mixed:P.follows .mixedOrders=true
 tab:List (FuncId × (List D→List (List D)→Option (Bool × V2 × List (List D))))
 tabOk:∀ g F,(g,F) ∈ tab→∀ ds hs r hs',F ds hs=some (true,r,hs')→CM P G g ds hs r hs'

def S4 (P:Program) (t:TypeId):Option (List D):=(P.info? t).bind fun i=>i.zero.map fun v=>v.cells.toList.map W1
def B7 (P:Program) (t:TypeId):Option Nat:=(P.info? t).map (·.size)
def b6b (P:Program) (t:TypeId):Option Nat:=(P.info? t).map (·.bytes)
def a0y (P:Program) (t:TypeId):Option Bool:=(P.underlying t).map fun | .struct _ | .array _ _=>true | _=>false

def K6 (ds:List D) (off:Nat):List D→List D
 | []=>ds
 | v :: vs=>K6 (ds.set off v) (off+1) vs

def D.isAgg:D→Bool
 | .agg _=>true
 | _=>false
def D.ok (d:D):Bool:=d.one || d.isAgg

def a2a (place:Nat→Option (Nat × Nat)) (ds:List D):List (Nat × D)→Option (List D)
 | []=>some ds
 | (i,v) :: rest =>
  match place i with
  | none=>none
  | some (off,size) =>
   bif v.ok && (v.cells.length == size) && Nat.ble (off+size) ds.length then a2a place (K6 ds off v.cells) rest else none

def P4 (P:Program) (t:TypeId) (ds:List D) (off:Nat):Option D :=
 match a0y P t,B7 P t with
 | some true,some n=>bif Nat.ble (off+n) ds.length then some (.agg ((ds.drop off).take n)) else none
 | some false,_=>ds[off]?
 | _,_=>none

def C5:List K3→List D→List D→Option Bool
 | [],[],[]=>some true
 | .int :: ks,.int k a :: xs,.int k' b :: ys=>if k=k' then (C5 ks xs ys).map fun r=>(a == b) && r else none
 | .str :: ks,.str a :: xs,.str b :: ys=>(C5 ks xs ys).map fun r=>(a == b) && r
 | .bool :: ks,.bool a :: xs,.bool b :: ys=>(C5 ks xs ys).map fun r=>(a == b) && r
 | _,_,_=>none

def a6z (t:TypeId):List (TypeId × List K3)→Option (List K3)
 | []=>none
 | x :: xs=>bif Nat.beq x.1 t then some x.2 else a6z t xs

def M8 (X:Pr) (op:BinOp) (t:TypeId):D→D→Option H2
 | .int k a,.int k' b =>
  if k=k' then
   match op with
   | .add=>r0 (.int k (k.wrap (a+b)))
   | .sub=>r0 (.int k (k.wrap (a - b)))
   | .mul=>r0 (.int k (k.wrap (a * b)))
   | .quo=>C8 (b != 0) (.int k (k.wrap (a.tdiv b)))
   | .rem=>C8 (b != 0) (.int k (a.tmod b))
   | .eql=>r0 (.bool (a == b))
   | .neq=>r0 (.bool (a != b))
   | .lss=>r0 (.bool (decide (a < b)))
   | .leq=>r0 (.bool (decide (a≤b)))
   | .gtr=>r0 (.bool (decide (a > b)))
   | .geq=>r0 (.bool (decide (a ≥ b)))
   | .shr=>C8 (decide (b=1∧0≤a)) (.int k (a.tdiv 2))
   | _=>none
  else none
 | .str a,.str b =>
  match op with
  | .add=>C8 (decide (a.length+b.length≤9223372036854775807)) (.str (a ++ b))
  | .eql=>r0 (.bool (a == b))
  | .neq=>r0 (.bool !(a == b))
  | .lss=>r0 (.bool (Op.bytesLess a b))
  | _=>none
 | .bool a,.bool b =>
  match op,X.P.underlying t with
  | .eql,some .bool=>r0 (.bool (a == b))
  | .neq,some .bool=>r0 (.bool !(a == b))
  | _,_=>none
 | .agg xs,.agg ys =>
  match a6z t X.eqs with
  | some ks=>match op,C5 ks xs ys with
   | .eql,some b=>r0 (.bool b)
   | .neq,some b=>r0 (.bool !b)
   | _,_=>none
  | none=>none
 | _,_=>none

def a2o:List D→Option (List UInt8)
 | []=>some []
 | .int .u8 n :: ds=>(a2o ds).map (UInt8.ofNat n.toNat :: ·)
 | _=>none

def a4e:List D→Bool
 | []=>true
 | .int .u8 _ :: ds=>a4e ds
 | _=>false
def a4l:List D→List UInt8
 | []=>[]
 | .int _ n :: ds=>UInt8.ofNat n.toNat :: a4l ds
 | _ :: ds=>a4l ds
theorem b7z:∀ {ds:List D},a4e ds=true→a2o ds=some (a4l ds)
 | [],_=>rfl
 | d :: ds,h=>by
  unfold a4e at h
  split at h
  ·rename_i h0;cases h0
  ·rename_i h0;cases h0;simp [a2o,a4l,b7z h]
  ·cases h

def b09 (P:Program) (src dst:TypeId) (x:D):Option H2 :=
 match P.underlying src,P.underlying dst,x with
 | some _,some (.int k),.int _ n=>r0 (.int k (k.wrap n))
 | some (.int _),some .string,.int _ n=>r0 (.str (Utf8.encode n).data.toList)
 | some .string,some .string,.str s=>r0 (.str s)
 | some (.slice e),some .string,.slice len ds _ =>
  match P.underlying e with
  | some (.int .u8)=>C8 (Nat.beq ds.length len && a4e ds) (.str (a4l ds))
  | _=>none
 | _,_,_=>none

def J5 (s:St) (dflt:Int):Option Operand→Option Int
 | none=>some dflt
 | some x=>match s.eval x with
  | .int _ n=>some n
  | _=>none

def a4p (P:Program) (s:St) (t:TypeId) (x:D) (lo hi mx:Option Operand):Option H2 :=
 match P.underlying t,x,mx with
 | some .string,.str l,none =>
  match J5 s 0 lo,J5 s l.length hi with
  | some a,some b=>C8 (decide (0≤a∧a≤b∧b≤l.length)) (.str ((l.take b.toNat).drop a.toNat))
  | _,_=>none
 | some (.slice e),.slice len ds _,none =>
  match J5 s 0 lo,J5 s len hi,B7 P e with
  | some a,some b,some n=>C8 (decide (0≤a∧a≤b∧b≤len)) (.slice (b.toNat - a.toNat) ((ds.take (b.toNat * n)).drop (a.toNat * n)) .no)
  | _,_,_=>none
 | some (.slice e),.slice len ds _,some m =>
  match J5 s 0 lo,hi,s.eval m,B7 P e with
  | some a,some h,.int _ c,some n =>
   match s.eval h with
   | .int _ b=>C8 (decide (0≤a∧a≤b∧b≤len∧b=c)) (.slice (b.toNat - a.toNat) ((ds.take (b.toNat * n)).drop (a.toNat * n)) .exact)
   | _=>none
  | _,_,_,_=>none
 | _,_,_=>none

def G2:Nat:=140737488355328

def a1x (P:Program) (s:St) (nid:Nat) (t:TypeId) (x y:D):Option H2 :=
 match P.underlying t,x,y with
 | some (.slice e),.slice len ds c,.slice m es _ =>
  match B7 P e,b6b P e,S4 P e with
  | some n,some b,some z =>
   bif Nat.beq z.length n && Nat.blt 0 n && C1 s nid then
    let need:=decide ((len+m) * b≤G2∧len+m≤G2∧ds.length=len * n∧es.length=m * n) && es.all D.one
    match c with
    | .exact=>some ⟨need,.slice (len+m) (ds ++ es) (.tok nid),[(nid,.tok (len+m) n)],[nid]⟩
    | .tok id =>
     match s.heap[id]? with
     | some (.tok l k)=>some ⟨need && Nat.beq l len && Nat.beq k n,.slice (len+m) (ds ++ es) (.tok nid),[(id,.dead),(nid,.tok (len+m) n)],[id,nid]⟩
     | _=>none
    | _=>none
   else none
  | _,_,_=>none
 | _,_,_=>none

def a2j (z:List D) (n:Nat):List D:=(List.range n).map fun i=>z.getD (i % z.length) .junk

def d2g:Operand→Operand→Bool
 | .tmp i,.tmp j=>Nat.beq i j
 | _,_=>false
def b1a (P:Program) (s:St) (nid:Nat) (t:TypeId) (same:Bool) (l c:D):Option H2 :=
 match P.underlying t,l,c with
 | some (.slice e),.int _ a,.int _ b =>
  match B7 P e,b6b P e,S4 P e with
  | some n,some by_,some z =>
   bif Nat.beq z.length n && Nat.blt 0 n then
    match same with
    | false=>a06 s nid (decide (a=0∧0≤b∧b.toNat * by_≤G2∧b.toNat≤G2)) (.slice 0 [] (.tok nid)) (.tok 0 n)
    | true=>a06 s nid (decide (0≤a∧a=b∧a.toNat * by_≤G2∧a.toNat≤G2)) (.bslice nid a.toNat) (.cells (a2j z (a.toNat * n)))
   else none
  | _,_,_=>none
 | _,_,_=>none

def n9 (X:Pr) (s:St) (nid:Nat):Op→Option H2
 | .move x | .assign x=>r0 (s.eval x)
 | .pick c a b=>match s.eval c with
  | .bool t=>r0 (cond t (s.eval a) (s.eval b))
  | _=>none
 | .alloc t=>match S4 X.P t with
  | some z=>a06 s nid true (.ptr nid 0) (.cells z)
  | none=>none
 | .box _ x=>bif (s.eval x).ok then a06 s nid true (.ptr nid 0) (.cells (s.eval x).cells) else none
 | .build t parts =>
  match X.P.underlying t,S4 X.P t with
  | some (.struct fs),some z =>
   match a2a (fun i=>(fs[i]?).bind fun f=>(B7 X.P f.type).map fun n=>(f.offset,n)) z (parts.toList.map fun p=>(p.1,s.eval p.2)) with
   | some ds=>C8 (fs.all fun f=>(B7 X.P f.type).isSome) (.agg ds)
   | none=>none
  | _,_=>none
 | .buildSlice t len parts =>
  match X.P.underlying t with
  | some (.slice e) =>
   match B7 X.P e,S4 X.P e with
   | some n,some z =>
    match a2a (fun i=>some (i * n,n)) (a2j z (len * n)) (parts.toList.map fun p=>(p.1,s.eval p.2)) with
    | some ds=>C8 (Nat.ble (len * n) 16777216) (.slice len (ds.map (renI V0)) .exact)
    | none=>none
   | _,_=>none
  | _=>none
 | .load t a=>match s.eval a with
  | .ptr id off=>match s.heap[id]? with
   | some (.cells ds)=>(P4 X.P t ds off).map fun d=>⟨true,d,[],[id]⟩
   | _=>none
  | .cref ds=>(P4 X.P t ds 0).map fun d=>⟨true,d,[],[]⟩
  | _=>none
 | .store t a x=>match s.eval a with
  | .ptr id off=>match s.heap[id]?,B7 X.P t with
   | some (.cells ds),some n =>
    let v:=s.eval x
    bif v.ok && Nat.beq v.cells.length n && v.cells.all D.one && Nat.ble (off+n) ds.length then some ⟨true,.tuple [],[(id,.cells (K6 ds off v.cells))],[id]⟩ else none
   | _,_=>none
  | _=>none
 | .nilCheck x=>match s.eval x with
  | .ptr id off=>r0 (.ptr id off)
  | .cref ds=>r0 (.cref ds)
  | .func (.func f) a b=>r0 (.func (.func f) a b)
  | _=>none
 | .binOp op t x y _=>M8 X op t (s.eval x) (s.eval y)
 | .unOp op _ x=>match op,s.eval x with
  | .not,.bool b=>r0 (.bool !b)
  | .neg,.int k n=>r0 (.int k (k.wrap (0 - n)))
  | _,_=>none
 | .convert src dst x=>b09 X.P src dst (s.eval x)
 | .makeInterface t x=>match X.P.underlying t with
  | some (.interface _)=>none
  | some _=>r0 (.iface t (s.eval x))
  | none=>none
 | .makeFunc fn first captured=>r0 (.func fn (first.toList.map s.eval) (captured.toList.map s.eval))
 | .makeSlice t l c=>b1a X.P s nid t (d2g l c) (s.eval l) (s.eval c)
 | .slice t x lo hi mx=>a4p X.P s t (s.eval x) lo hi mx
 | .fieldAddr t x f=>match X.P.underlying t with
  | some (.struct fs)=>match fs[f]? with
   | some fd=>match B7 X.P fd.type with
    | some (_+1)=>match s.eval x with
     | .ptr id off=>r0 (.ptr id (off+fd.offset))
     | .cref ds=>r0 (.cref (ds.drop fd.offset))
     | _=>none
    | _=>none
   | none=>none
  | _=>none
 | .field t x f=>match X.P.underlying t with
  | some (.struct fs)=>match fs[f]?,s.eval x with
   | some fd,.agg ds=>(P4 X.P fd.type ds fd.offset).bind r0
   | _,_=>none
  | _=>none
 | .indexAddr t x i=>match X.P.underlying t,s.eval x,s.eval i with
  | some (.slice e),.slice len ds _,.int _ k=>(B7 X.P e).bind fun n=>C8 (decide (0≤k∧k < len∧len * n≤ds.length∧0 < n)) (.cref ((ds.drop (k.toNat * n)).take n))
  | some (.slice e),.bslice id len,.int _ k=>(B7 X.P e).bind fun n=>C8 (decide (0≤k∧k < len)) (.ptr id (k.toNat * n))
  | _,_,_=>none
 | .index t x i=>match X.P.underlying t,s.eval x,s.eval i with
  | some .string,.str l,.int _ k=>C8 (decide (0≤k∧k < l.length)) (.int .u8 ((l.getD k.toNat 0).toNat:Int))
  | _,_,_=>none
 | .extract x i=>match s.eval x with
  | .tuple vs=>match vs[i]? with
   | some v=>r0 v
   | none=>none
  | _=>none
 | .call { callee:=.builtin b,args,argTypes } =>
  match b,args.toList,argTypes.toList with
  | .len,[x],[t]=>match X.P.underlying t,s.eval x with
   | some .string,.str l=>r0 (.int .i64 l.length)
   | some (.slice _),.slice n _ _=>r0 (.int .i64 n)
   | some (.slice _),.bslice _ n=>r0 (.int .i64 n)
   | _,_=>none
  | .max,[x,y],_=>match s.eval x,s.eval y with
   | .int k a,.int _ b=>r0 (.int k (if b > a then b else a))
   | _,_=>none
  | .min,[x,y],_=>match s.eval x,s.eval y with
   | .int k a,.int _ b=>r0 (.int k (if b < a then b else a))
   | _,_=>none
  | .append,[x,y],[t,u]=>bif Nat.beq t u then a1x X.P s nid t (s.eval x) (s.eval y) else none
  | _,_,_=>none
 | _=>none

structure m8 (X:Pr) (dfs:List Deferred) (w0:World) (S0:k8) (M0:Mp) (S:k8) (M:Mp) (w:World) (a:Act) (s:St):Prop where
 env:p9 S M w a.tmps.toList s.tmps
 heap:a6q S M w s.heap
 defers:a.defers=dfs
 within:S.within w
 grown:S0.grown S w0
 keep:Z8 w0 M0 w
 map:∀ i x,M0 i=some x→M i=some x
 own:∀ i b c,M i=some (b,c)→(∃ j k,M0 j=some (b,k))∨w0.heap.size≤b
 glob:X.G.pred w
 gN:∀ i b c,M i=some (b,c)→X.G.N≤b
 mlt:∀ i b c,M i=some (b,c)→b < w.heap.size
 g0:X.G.N≤w0.heap.size
 tnew:∀ id l n b k,s.heap[id]?=some (.tok l n)→M id=some (b,k)→w0.heap.size≤b
 bnew:∀ id b c,M id=some (b,c+1)→w0.heap.size≤b

theorem a9q {w w':World} {b o:Nat} (h:w'.heap[b]?=w.heap[b]?):w'.cell? ⟨b,o,none⟩=w.cell? ⟨b,o,none⟩:=by
 unfold World.cell?;rw [h]

theorem N4.of_blocks {S:k8} {M:Mp} {w w':World} (h:∀ b o,S b o→w'.heap[b]?=w.heap[b]?):N4 S M w S M w' :=
 ⟨fun _ _ h=>h,fun b o hs=>a9q (h b o hs),fun _ _ h=>h⟩

theorem a6p.ext {S:k8} {M:Mp} {w w':World} {id:Nat} {x:o9} (e:N4 S M w S M w') (hb:∀ b k,M id=some (b,k)→x.live=true→w'.heap[b]?=w.heap[b]?) (h:a6p S M w id x):a6p S M w' id x:=by
 cases x with
 | cells ds=>obtain ⟨b,k,c,t,h1,h2,h3,h4⟩:=h;exact ⟨b,k,c,t,h1,(hb b k h1 rfl).trans h2,h3.ext e,h4⟩
 | tok len size=>intro b k h1;obtain ⟨c,t,h2,h3,h4⟩:=h b k h1;exact ⟨c,t,(hb b k h1 rfl).trans h2,h3,h4⟩
 | dead=>trivial
 | free=>exact h

theorem Z8.refl (w:World) (M:Mp):Z8 w M w:=⟨rfl,rfl,rfl,Nat.le_refl _,fun _ _ _=>rfl⟩

section
variable {X:Pr} {dfs:List Deferred} {w0:World} {S0:k8} {M0:Mp} {S:k8} {M:Mp} {w:World} {a:Act} {s:St}

theorem m8.world (h:m8 X dfs w0 S0 M0 S M w a s) {w':World} (hos:w'.os=w.os) (ht:w'.tape=w.tape) (ho:w'.output=w.output) (hs:w.heap.size≤w'.heap.size)
  (hb:∀ b,b < w.heap.size→w'.heap[b]?=w.heap[b]?):m8 X dfs w0 S0 M0 S M w' a s:=by
 have e:N4 S M w S M w':=.of_blocks fun b o hS=>hb b (h.within b o hS)
 refine ⟨h.env.ext e,⟨fun id b hid=>(h.heap.box id b hid).ext e fun b k hm _=>hb b (h.mlt _ _ _ hm),h.heap.out,h.heap.apart⟩,h.defers,fun b o hS=>Nat.lt_of_lt_of_le (h.within b o hS) hs,h.grown,
  ⟨hos.trans h.keep.os,ht.trans h.keep.tape,ho.trans h.keep.output,Nat.le_trans h.keep.size hs,fun k hk hm=>(hb k (Nat.lt_of_lt_of_le hk h.keep.size)).trans (h.keep.block k hk hm)⟩,
  h.map,h.own,?_,h.gN,fun i b c hm=>Nat.lt_of_lt_of_le (h.mlt i b c hm) hs,h.g0,h.tnew,h.bnew⟩
 exact X.G.stable w w' h.glob fun b hb'=>hb b (Nat.lt_of_lt_of_le hb' (X.G.size w h.glob))

theorem m8.push (h:m8 X dfs w0 S0 M0 S M w a s) (o:Obj):m8 X dfs w0 S0 M0 S M { w with heap:=w.heap.push o } a s :=
 h.world rfl rfl rfl (by simp) fun b hb=>by simp [Array.getElem?_push];omega

theorem m8.drew (h:m8 X dfs w0 S0 M0 S M w a s) (n:Nat):m8 X dfs w0 S0 M0 S M { w with drawn:=n } a s :=
 h.world rfl rfl rfl (Nat.le_refl _) fun _ _=>rfl

theorem m8.protect (h:m8 X dfs w0 S0 M0 S M w a s) (T:k8) (hT:∀ b o,T b o→w0.heap.size≤b∧b < w.heap.size)
  (hc:∀ id ds b k,s.heap[id]?=some (.cells ds)→M id=some (b,k)→∀ o,¬T b o)
  (ht:∀ id l n b k,s.heap[id]?=some (.tok l n)→M id=some (b,k)→∀ o,l * n≤o→¬T b o):m8 X dfs w0 S0 M0 (fun b o=>S b o∨T b o) M w a s:=by
 have e:N4 S M w (fun b o=>S b o∨T b o) M w:=⟨fun _ _ h=>.inl h,fun _ _ _=>rfl,fun _ _ h=>h⟩
 refine ⟨h.env.ext e,⟨fun id x hid=>?_,h.heap.out,h.heap.apart⟩,h.defers,fun b o hS=>hS.elim (h.within b o) fun k=>(hT b o k).2,
  ⟨fun b o hS=>.inl (h.grown.1 b o hS),fun b o hS=>hS.elim (h.grown.2 b o) fun k=>.inr (hT b o k).1⟩,h.keep,h.map,h.own,h.glob,h.gN,h.mlt,h.g0,h.tnew,h.bnew⟩
 have hb:=h.heap.box id x hid
 cases x with
 | cells ds=>obtain ⟨b,k,c,t,h1,h2,h3,h4⟩:=hb;exact ⟨b,k,c,t,h1,h2,h3.ext e,fun o ho=>ho.elim (h4 o) (hc id ds b k hid h1 o)⟩
 | tok len size=>intro b k h1;obtain ⟨c,t,h2,h3,h4⟩:=hb b k h1;exact ⟨c,t,h2,h3,fun o hl ho=>ho.elim (h4 o hl) (ht id len size b k hid h1 o hl)⟩
 | dead=>trivial
 | free=>exact hb

def upd (M:Mp) (i:Nat) (x:Nat × Nat):Mp:=fun j=>if j=i then some x else M j
theorem K4 (M:Mp) (i:Nat) (x:Nat × Nat):upd M i x i=some x:=by simp [upd]
theorem a7n (M:Mp) {i j:Nat} (x:Nat × Nat) (h:j ≠ i):upd M i x j=M j:=by simp [upd,h]

theorem m8.take (h:m8 X dfs w0 S0 M0 S M w a s) {nid:Nat} (hf:s.heap[nid]?=some .free) {b k:Nat} (hb:w0.heap.size≤b) (hbw:b < w.heap.size)
  (hno:∀ i x c,s.heap[i]?=some x→x.live=true→M i ≠ some (b,c)) {x:o9} (hx:a6p S (upd M nid (b,k)) w nid x) :
  N4 S M w S (upd M nid (b,k)) w∧m8 X dfs w0 S0 M0 S (upd M nid (b,k)) w a { s with heap:=s.heap.set nid x }:=by
 have hm:M nid=none:=h.heap.box nid _ hf
 have hlt:nid < s.heap.length:=(List.getElem?_eq_some_iff.1 hf).1
 have hmap:∀ i y,M i=some y→upd M nid (b,k) i=some y:=fun i y hi=>by
  rw [a7n];exact hi;intro e;rw [e,hm] at hi;cases hi
 have e:N4 S M w S (upd M nid (b,k)) w:=⟨fun _ _ h=>h,fun _ _ _=>rfl,hmap⟩
 have hback:∀ i c,i ≠ nid→upd M nid (b,k) i=some c→M i=some c:=fun i c hi hc=>by rwa [a7n _ _ hi] at hc
 refine ⟨e,⟨h.env.ext e,⟨fun id y hid=>?_,fun id hid=>?_,fun i j y z b' k' l' hi hj hy hz hmi hmj=>?_⟩,h.defers,h.within,h.grown,h.keep,fun i y hi=>hmap i y (h.map i y hi),fun i b' c hi=>?_,h.glob,fun i b' c hi=>?_,fun i b' c hi=>?_,h.g0,fun i l n b' k' hi hm'=>?_,fun i b' c hi=>?_⟩⟩
 ·by_cases hi:id=nid
  ·subst hi
   rw [List.getElem?_set_self hlt] at hid
   injection hid with hid
   rw [← hid];exact hx
  ·rw [List.getElem?_set_ne (fun e=>hi e.symm)] at hid
   have hb':=h.heap.box id y hid
   cases y with
   | cells ds=>obtain ⟨b',k',c,t,h1,h2,h3,h4⟩:=hb';exact ⟨b',k',c,t,hmap _ _ h1,h2,h3.ext e,h4⟩
   | tok len size=>intro b' k' h1;exact hb' b' k' (hback _ _ hi h1)
   | dead=>trivial
   | free=>show upd M nid (b,k) id=none;rw [a7n _ _ hi];exact hb'
 ·rw [a7n]
  ·exact h.heap.out id (by simpa using hid)
  ·intro e;rw [e] at hid;simp at hid;omega
 ·by_cases hi':i=nid
  ·subst hi'
   by_cases hj':j=i
   ·exact hj'.symm
   ·rw [K4] at hmi
    injection hmi with hmi;injection hmi with hmi
    rw [List.getElem?_set_ne (fun e=>hj' e.symm)] at hj
    exact absurd (hmi ▸ hback _ _ hj' hmj) (hno j z l' hj hz)
  ·by_cases hj':j=nid
   ·subst hj'
    rw [K4] at hmj
    injection hmj with hmj;injection hmj with hmj
    rw [List.getElem?_set_ne (fun e=>hi' e.symm)] at hi
    exact absurd (hmj ▸ hback _ _ hi' hmi) (hno i y k' hi hy)
   ·rw [List.getElem?_set_ne (fun e=>hi' e.symm)] at hi
    rw [List.getElem?_set_ne (fun e=>hj' e.symm)] at hj
    exact h.heap.apart i j y z b' k' l' hi hj hy hz (hback _ _ hi' hmi) (hback _ _ hj' hmj)
 ·by_cases hi':i=nid
  ·subst hi';rw [K4] at hi;injection hi with hi;injection hi with hi;exact .inr (hi ▸ hb)
  ·exact h.own i b' c (hback _ _ hi' hi)
 ·by_cases hi':i=nid
  ·subst hi';rw [K4] at hi;injection hi with hi;injection hi with hi
   exact hi ▸ Nat.le_trans h.g0 hb
  ·exact h.gN i b' c (hback _ _ hi' hi)
 ·by_cases hi':i=nid
  ·subst hi';rw [K4] at hi;injection hi with hi;injection hi with hi;exact hi ▸ hbw
  ·exact h.mlt i b' c (hback _ _ hi' hi)
 ·by_cases hi':i=nid
  ·subst hi';rw [K4] at hm';injection hm' with hm';injection hm' with hm';exact hm' ▸ hb
  ·rw [List.getElem?_set_ne (fun e=>hi' e.symm)] at hi;exact h.tnew i l n b' k' hi (hback _ _ hi' hm')
 ·by_cases hi':i=nid
  ·subst hi';rw [K4] at hi;injection hi with hi;injection hi with hi;exact hi ▸ hb
  ·exact h.bnew i b' c (hback _ _ hi' hi)

theorem m8.row (h:m8 X dfs w0 S0 M0 S M w a s) {id b k:Nat} {y:o9} (hid:s.heap[id]?=some y) (hy:y.live=true) (hm:M id=some (b,k)) {c c':Array Value} {t:TypeId} (hc:w.heap[b]?=some (.cells c t (0,0)))
  (hk:∀ o,S b o→c'[o]?=c[o]?) (x:o9) (hx:a6p S M (w.setRow b c') id x) (hl:x.live=true→y.live=true) (hxt:∀ l n,x=.tok l n→w0.heap.size≤b) :
  N4 S M w S M (w.setRow b c')∧m8 X dfs w0 S0 M0 S M (w.setRow b c') a { s with heap:=s.heap.set id x }:=by
 have hlt:id < s.heap.length:=(List.getElem?_eq_some_iff.1 hid).1
 have e:N4 S M w S M (w.setRow b c'):=by
  refine ⟨fun _ _ h=>h,fun b' o hS=>?_,fun _ _ h=>h⟩
  by_cases hb:b'=b
  ·subst hb
   rw [cell_setRow_same w b' o c c' t (0,0) hc,hk o hS]
   unfold World.cell?;rw [hc];rfl
  ·exact cell_setRow_other w b c' _ hb
 have hoth:∀ j z b' k',j ≠ id→s.heap[j]?=some z→z.live=true→M j=some (b',k')→(w.setRow b c').heap[b']?=w.heap[b']?:=fun j z b' k' hj hz hl' hmj =>
  setRow_other w b b' c' fun e=>hj (h.heap.apart j id z y b k' k hz hid hl' hy (e ▸ hmj) hm)
 refine ⟨e,⟨h.env.ext e,⟨fun j z hj=>?_,fun j hj=>h.heap.out j (by simpa using hj),fun i j u v b' k' l' hi hj hu hv hmi hmj=>?_⟩,h.defers,fun b' o hS=>by rw [size_setRow];exact h.within b' o hS,h.grown,?_,h.map,h.own,?_,h.gN,fun i b' c hi=>by rw [size_setRow];exact h.mlt i b' c hi,h.g0,fun i l n b' k' hi hm'=>?_,h.bnew⟩⟩
 ·by_cases hi:j=id
  ·subst hi
   rw [List.getElem?_set_self hlt] at hj
   injection hj with hj
   exact hj ▸ hx
  ·rw [List.getElem?_set_ne (fun e=>hi e.symm)] at hj
   exact (h.heap.box j z hj).ext e fun b' k' hmj hl'=>hoth j z b' k' hi hj hl' hmj
 ·have fix:∀ (i:Nat) (u:o9),(s.heap.set id x)[i]?=some u→u.live=true→∃ u':o9,s.heap[i]?=some u'∧u'.live=true:=by
   intro i u hi hu
   by_cases hii:i=id
   ·subst hii
    rw [List.getElem?_set_self hlt] at hi
    injection hi with hi
    exact ⟨y,hid,hl (hi ▸ hu)⟩
   ·rw [List.getElem?_set_ne (fun e=>hii e.symm)] at hi;exact ⟨u,hi,hu⟩
  obtain ⟨u',hi',hu'⟩:=fix i u hi hu
  obtain ⟨v',hj',hv'⟩:=fix j v hj hv
  exact h.heap.apart i j u' v' b' k' l' hi' hj' hu' hv' hmi hmj
 ·refine ⟨h.keep.os,h.keep.tape,h.keep.output,by rw [size_setRow];exact h.keep.size,fun q hq hM=>?_⟩
  rw [setRow_other,h.keep.block q hq hM]
  intro e
  rcases h.own id b k hm with ⟨j,k',hj⟩ | hge
  ·exact hM j k' (e ▸ hj)
  ·omega
 ·refine X.G.stable w _ h.glob fun q hq=>setRow_other w b q c' fun e=>?_
  have:=h.gN id b k hm
  omega
 ·by_cases hi':i=id
  ·subst hi'
   rw [List.getElem?_set_self hlt] at hi
   injection hi with hi
   rw [hm] at hm';injection hm' with hm';injection hm' with hm'
   exact hm' ▸ hxt l n hi
  ·rw [List.getElem?_set_ne (fun e=>hi' e.symm)] at hi;exact h.tnew i l n b' k' hi hm'

theorem m8.kill (h:m8 X dfs w0 S0 M0 S M w a s) {id:Nat} {y:o9} (hid:s.heap[id]?=some y) (_hy:y.live=true):m8 X dfs w0 S0 M0 S M w a { s with heap:=s.heap.set id .dead }:=by
 have hlt:id < s.heap.length:=(List.getElem?_eq_some_iff.1 hid).1
 refine ⟨h.env,⟨fun j z hj=>?_,fun j hj=>h.heap.out j (by simpa using hj),fun i j u v b' k' l' hi hj hu hv hmi hmj=>?_⟩,h.defers,h.within,h.grown,h.keep,h.map,h.own,h.glob,h.gN,h.mlt,h.g0,fun i l n b' k' hi hm'=>?_,h.bnew⟩
 ·by_cases hi:j=id
  ·subst hi
   rw [List.getElem?_set_self hlt] at hj
   injection hj with hj
   subst hj;trivial
  ·rw [List.getElem?_set_ne (fun e=>hi e.symm)] at hj
   exact h.heap.box j z hj
 ·have fix:∀ (i:Nat) (u:o9),(s.heap.set id o9.dead)[i]?=some u→u.live=true→s.heap[i]?=some u:=by
   intro i u hi hu
   by_cases hii:i=id
   ·subst hii
    rw [List.getElem?_set_self hlt] at hi
    injection hi with hi
    rw [← hi] at hu;cases hu
   ·rw [List.getElem?_set_ne (fun e=>hii e.symm)] at hi;exact hi
  exact h.heap.apart i j u v b' k' l' (fix i u hi hu) (fix j v hj hv) hu hv hmi hmj
 ·by_cases hi':i=id
  ·subst hi'
   rw [List.getElem?_set_self hlt] at hi
   injection hi with hi;cases hi
  ·rw [List.getElem?_set_ne (fun e=>hi' e.symm)] at hi;exact h.tnew i l n b' k' hi hm'

theorem m8.blank (h:m8 X dfs w0 S0 M0 S M w a s) {nid l n:Nat} (hf:s.heap[nid]?=some .free):m8 X dfs w0 S0 M0 S M w a { s with heap:=s.heap.set nid (.tok l n) }:=by
 have hlt:nid < s.heap.length:=(List.getElem?_eq_some_iff.1 hf).1
 have hm:M nid=none:=h.heap.box nid _ hf
 refine ⟨h.env,⟨fun j z hj=>?_,fun j hj=>h.heap.out j (by simpa using hj),fun i j u v b' k' l' hi hj hu hv hmi hmj=>?_⟩,h.defers,h.within,h.grown,h.keep,h.map,h.own,h.glob,h.gN,h.mlt,h.g0,fun i l' n' b' k' hi hm'=>?_,h.bnew⟩
 ·by_cases hi:j=nid
  ·subst hi
   rw [List.getElem?_set_self hlt] at hj
   injection hj with hj
   subst hj
   intro b k hb;rw [hm] at hb;cases hb
  ·rw [List.getElem?_set_ne (fun e=>hi e.symm)] at hj
   exact h.heap.box j z hj
 ·have fix:∀ (i:Nat) (u:o9) (x:Nat × Nat),(s.heap.set nid (o9.tok l n))[i]?=some u→M i=some x→s.heap[i]?=some u:=by
   intro i u x hi hx
   by_cases hii:i=nid
   ·subst hii;rw [hm] at hx;cases hx
   ·rw [List.getElem?_set_ne (fun e=>hii e.symm)] at hi;exact hi
  exact h.heap.apart i j u v b' k' l' (fix i u _ hi hmi) (fix j v _ hj hmj) hu hv hmi hmj
 ·by_cases hi':i=nid
  ·subst hi';rw [hm] at hm';cases hm'
  ·rw [List.getElem?_set_ne (fun e=>hi' e.symm)] at hi;exact h.tnew i l' n' b' k' hi hm'

theorem m8.put (h:m8 X dfs w0 S0 M0 S M w a s) (dst:Option Tmp) {v:Value} {d:D} (hv:Rd S M w v d):m8 X dfs w0 S0 M0 S M w (a.put dst v) (s.put dst d):=by
 cases dst with
 | none=>exact h
 | some t =>
  refine ⟨?_,h.heap,h.defers,h.within,h.grown,h.keep,h.map,h.own,h.glob,h.gN,h.mlt,h.g0,h.tnew,h.bnew⟩
  show p9 S M w (a.tmps.setIfInBounds t v).toList (s.tmps.set t d)
  rw [Array.toList_setIfInBounds]
  exact h.env.set t hv

theorem b66 (v:Value):Rd S M w v (W1 v):=by
 unfold W1
 split
 ·exact .bool _
 ·exact .int _ _
 ·exact .str _ _ rfl
 ·exact .nilp
 ·exact .slice none 0 0 [] [] .exact (.inl rfl) .nil rfl (Nat.le_refl _) (fun _=>rfl)
 ·exact .nilIface
 ·exact .junk _
theorem a40:∀ (vs:List Value),p9 S M w vs (vs.map W1)
 | []=>.nil
 | v :: vs=>.cons _ _ _ _ (b66 v) (a40 vs)
theorem e6g (v:Value):Rd S M w v (ofV v):=by
 unfold ofV
 split
 ·exact .agg _ _ (a40 _)
 ·exact .tuple _ _ (a40 _)
 ·split
  ·rename_i h1 h2
   exact .func _ _ _ [] [] (by rw [h1];exact .nil) (by rw [h2];exact .nil)
  ·exact .junk _
 ·exact b66 _

def O5 (f:Nat→Option Nat) (M M':Mp):Prop:=∀ i j b c,f i=some j→M i=some (b,c)→∃ c',M' j=some (b,c')
theorem O5.no (M M':Mp):O5 V0 M M':=fun _ _ _ _ h=>by cases h
theorem b67 {f:Nat→Option Nat} {M':Mp} (hf:O5 f M M') {v:Value} {d:D} (h:Rd S M w v d):Rd S M' w v (O0 f d):=by
 cases h with
 | bool b=>exact .bool b
 | int k n=>exact .int k n
 | str s l e=>exact .str s l e
 | slice base len cap vs ds c a r k l z =>
  cases c with
  | no=>exact .slice _ _ _ _ _ _ a r trivial l z
  | exact=>exact .slice _ _ _ _ _ _ a r trivial l z
  | tok id=>exact .slice _ _ _ _ _ _ a r trivial l z
  | fr k=>exact .slice _ _ _ _ _ _ a r trivial l z
 | agg vs ds r=>exact .junk _
 | tuple vs ds r=>exact .junk _
 | ptr id off b c hi =>
  show Rd S M' w _ (match f id with | some j=>D.ptr j off | none=>.junk)
  cases hj:f id with
  | none=>exact .junk _
  | some j=>obtain ⟨c',hc'⟩:=hf id j b c hj hi;exact .ptr j off b c' hc'
 | cref b o vs ds a r=>exact .cref b o vs ds a r
 | bslice id len b c hi=>exact .junk _
 | nilp=>exact .nilp
 | iface t v d r=>exact .junk _
 | nilIface=>exact .nilIface
 | func fn f c fs cs r k=>exact .junk _
 | junk v=>exact .junk v
 | any v h=>exact .any v h
theorem E5 {M':Mp} {g:D→D} (hg:∀ v d,Rd S M w v d→Rd S M' w v (g d)):∀ {vs:List Value} {ds:List D},p9 S M w vs ds→p9 S M' w vs (ds.map g)
 | _,_,.nil=>.nil
 | _,_,.cons v d vs ds r k=>.cons _ _ _ _ (hg v d r) (E5 hg k)
theorem c6w {f:Nat→Option Nat} {M':Mp} (hf:O5 f M M') {v:Value} {d:D} (h:Rd S M w v d):Rd S M' w v (a6k f d):=by
 unfold a6k
 split
 ·cases h with
  | func fn first captured fs cs r k=>exact .func _ _ _ _ _ (E5 (fun _ _=>b67 hf) r) (E5 (fun _ _=>b67 hf) k)
 ·exact b67 hf h
theorem b68 {f:Nat→Option Nat} {M':Mp} (hf:O5 f M M') {v:Value} {d:D} (h:Rd S M w v d):Rd S M' w v (a42 f d):=by
 unfold a42
 split
 ·cases h with
  | agg vs ds r=>exact .agg _ _ (E5 (fun _ _=>c6w hf) r)
 ·exact c6w hf h
theorem U6 {f:Nat→Option Nat} {M':Mp} (hf:O5 f M M') {v:Value} {d:D} (h:Rd S M w v d):Rd S M' w v (renI f d):=by
 unfold renI
 split
 ·cases h with
  | iface t v d r=>exact .iface _ _ _ (b68 hf r)
 ·exact b68 hf h
theorem b5e {f:Nat→Option Nat} {M':Mp} (hf:O5 f M M') {v:Value} {d:D} (h:Rd S M w v d):Rd S M' w v (ren f d):=by
 unfold ren
 split
 ·cases h with
  | tuple vs ds r=>exact .tuple _ _ (E5 (fun _ _=>U6 hf) r)
 ·exact U6 hf h

theorem m8.eval (h:m8 X dfs w0 S0 M0 S M w a s) (x:Operand):Rd S M w (a.eval x) (s.eval x):=by
 cases x with
 | tmp t =>
  show Rd S M w (a.tmps.getD t undef) (s.tmps.getD t .junk)
  cases hd:s.tmps[t]? with
  | none=>rw [List.getD_eq_getElem?_getD,hd];exact .junk _
  | some d =>
   obtain ⟨v,hv,hr⟩:=h.env.get' t d hd
   rw [List.getD_eq_getElem?_getD,hd]
   have:a.tmps.getD t undef=v:=by
    simp at hv
    simp [Array.getD_eq_getD_getElem?,hv]
   rw [this];exact hr
 | const v=>exact e6g v
 | global g=>exact .junk _
 | func f=>exact .func _ _ _ [] [] .nil .nil
end
def St.lay (s:St) (ws:List (Nat × o9)):St:={ s with heap:=ws.foldl (fun h x=>h.set x.1 x.2) s.heap }

def H5 (X:Pr) (dfs:List Deferred) (w0:World) (S0:k8) (M0:Mp) (w:World) (a:Act) (s:St) (r:Result Next) (out:H2):Prop :=
 ∃ nx v S' M' w',r=.ok nx w'∧(nx=.value v∨(nx=.skip∧v=undef))∧m8 X dfs w0 S0 M0 S' M' w' a (s.lay out.ws)∧Rd S' M' w' v out.val

section
variable {X:Pr} {dfs:List Deferred} {w0:World} {S0:k8} {M0:Mp} {S:k8} {M:Mp} {w:World} {a:Act} {s:St}

theorem l8 (h:m8 X dfs w0 S0 M0 S M w a s) {r:Result Next} {v:Value} {d:D} {b:Bool} {rs:List Nat} (hr:r=.ok (.value v) w) (hv:Rd S M w v d):H5 X dfs w0 S0 M0 w a s r ⟨b,d,[],rs⟩ :=
 ⟨_,v,S,M,w,hr,.inl rfl,h,hv⟩

theorem u9 {d:D} {out:H2} (h:r0 d=some out):out=⟨true,d,[],[]⟩:=by injection h with h;exact h.symm
theorem G0 {b:Bool} {d:D} {out:H2} (h:C8 b d=some out):out=⟨b,d,[],[]⟩:=by injection h with h;exact h.symm
theorem a2r {nid:Nat} {b:Bool} {d:D} {x:o9} {out:H2} (h:a06 s nid b d x=some out):s.heap[nid]?=some .free∧out=⟨b,d,[(nid,x)],[nid]⟩:=by
 unfold a06 at h
 cases hf:C1 s nid with
 | false=>rw [hf] at h;cases h
 | true =>
  rw [hf] at h
  injection h with h
  refine ⟨?_,h.symm⟩
  unfold C1 at hf
  split at hf
  ·assumption
  ·cases hf

theorem Z9 (b o n:Nat):(⟨b,o,none⟩:Addr).add n=⟨b,o+n,none⟩:=by
 unfold Addr.add;split
 ·rename_i h;rw [h];rfl
 ·rfl

theorem b21 (h:m8 X dfs w0 S0 M0 S M w a s) {nid:Nat} (hf:s.heap[nid]?=some .free) {c:Array Value} {t:TypeId} {ds:List D} (hc:p9 S M w c.toList ds) (k:Nat) {r:Result Next} {b:Bool} {rs:List Nat} {d:D} {u:Value} (hu:∀ M',M' nid=some (w.heap.size,k)→Rd S M' { w with heap:=w.heap.push (.cells c t) } u d)
  (hr:r=.ok (.value u) { w with heap:=w.heap.push (.cells c t) }):H5 X dfs w0 S0 M0 w a s r ⟨b,d,[(nid,.cells ds)],rs⟩:=by
 have h1:=h.push (.cells c t)
 have e:N4 S M w S M { w with heap:=w.heap.push (.cells c t) }:=.of_blocks fun b o hS=>by
  have:=h.within b o hS;simp [Array.getElem?_push];omega
 have hn:w.heap[w.heap.size]?=none:=by simp
 obtain ⟨_,h2⟩:=h1.take (k:=k) hf (b:=w.heap.size) h.keep.size (by simp) (fun i x c hi hl hm=>by have:=h.mlt i _ _ hm;omega) (x:=.cells ds)
  (by
   refine ⟨w.heap.size,k,c,t,K4 _ _ _,by simp,?_,fun o hS=>by have:=h.within _ o hS;omega⟩
   exact (hc.ext e).ext ⟨fun _ _ h=>h,fun _ _ _=>rfl,fun i y hi=>by
    rw [a7n];exact hi;intro e;rw [e] at hi;have:=h.heap.box nid _ hf;rw [this] at hi;cases hi⟩)
 exact ⟨_,_,S,_,_,hr,.inl rfl,h2,hu _ (K4 _ _ _)⟩

theorem a9d {P:Program} {t:TypeId} {i:TypeInfo} (h:P.info? t=some i) (w:World):(typeInfo t).run P w=.ok i w:=by simp [typeInfo,h]
theorem F9 {P:Program} {t:TypeId} {n:Nat} (h:B7 P t=some n) (w:World):(sizeOf t).run P w=.ok n w:=by
 unfold B7 at h
 cases hi:P.info? t with
 | none=>rw [hi] at h;cases h
 | some i=>rw [hi] at h;injection h with h;simp [sizeOf,a9d hi,h]
theorem b8w {P:Program} {t:TypeId} {n:Nat} (h:b6b P t=some n):∃ i,P.info? t=some i∧i.bytes=n:=by
 unfold b6b at h
 cases hi:P.info? t with
 | none=>rw [hi] at h;cases h
 | some i=>rw [hi] at h;injection h with h;exact ⟨i,rfl,h⟩
theorem W4 {P:Program} {t:TypeId} {b:Bool} (h:a0y P t=some b) (w:World):(isAgg t).run P w=.ok b w:=by
 unfold a0y at h
 cases hi:P.underlying t with
 | none=>rw [hi] at h;cases h
 | some d =>
  rw [hi] at h
  injection h with h
  simp only [isAgg,Sem.run_bind,run_underlying hi,Result.andThen_ok]
  rw [← h]
  cases d <;> rfl
theorem b3m {P:Program} {t:TypeId} {z:List D} (h:S4 P t=some z):∃ v:Value,(∀ w,(zeroValue t).run P w=.ok v w)∧z=v.cells.toList.map W1:=by
 unfold S4 at h
 cases hi:P.info? t with
 | none=>rw [hi] at h;cases h
 | some i =>
  rw [hi] at h
  simp only [Option.bind_some] at h
  cases hz:i.zero with
  | none=>rw [hz] at h;cases h
  | some v =>
   rw [hz] at h
   injection h with h
   exact ⟨v,fun w=>by simp [zeroValue,a9d hi,hz],h.symm⟩

theorem d2b {P:Program} {b o n:Nat} {c:Array Value} {t:TypeId} {fr:Nat × Nat} (hb:w.heap[b]?=some (.cells c t fr)) (hn:o+n≤c.size) :
  (loadCells ⟨b,o,none⟩ n).run P w=.ok ((c.toList.drop o).take n).toArray w:=by
 have:=run_loadCells_list (P:=P) w ⟨b,o,none⟩ ((c.toList.drop o).take n) (fun j v hj=>by
  rw [Z9]
  unfold World.cell?
  rw [hb]
  simp only [Option.isSome_none,Bool.false_eq_true,if_false]
  have hj':j < n:=by
   rcases Nat.lt_or_ge j n with h | h
   ·exact h
   ·rw [List.getElem?_take,if_neg oM] at hj;cases hj
  rw [List.getElem?_take_of_lt hj',List.getElem?_drop] at hj
  simpa using hj)
 have hl:((c.toList.drop o).take n).length=n:=by simp;omega
 rw [hl] at this
 exact this

theorem c27 {P:Program} {b o:Nat} {vs:List Value} (hs:a5y S w (some ⟨b,o,none⟩) vs) (j n:Nat) (hn:j+n≤vs.length) :
  (loadCells ⟨b,o+j,none⟩ n).run P w=.ok ((vs.drop j).take n).toArray w:=by
 have:=run_loadCells_list (P:=P) w ⟨b,o+j,none⟩ ((vs.drop j).take n) (fun i v hj=>by
  rw [Z9]
  have hj':i < n:=by
   rcases Nat.lt_or_ge i n with h | h
   ·exact h
   ·rw [List.getElem?_take,if_neg oM] at hj;cases hj
  rw [List.getElem?_take_of_lt hj',List.getElem?_drop] at hj
  rcases hs with hs | ⟨b',o',he,hs⟩
  ·rw [hs] at hj;simp at hj
  ·injection he with he
   injection he with h1 h2
   subst h1 h2
   have:=(hs (j+i) v hj).2
   rw [← this]
   simp [Nat.add_assoc])
 have hl:((vs.drop j).take n).length=n:=by simp;omega
 rw [hl] at this
 exact this

theorem b5f {P:Program} {t:TypeId} {ds:List D} {off:Nat} {d:D} (h:P4 P t ds off=some d) {b:Nat} {c:Array Value} {ty:TypeId} {fr:Nat × Nat} (hb:w.heap[b]?=some (.cells c ty fr))
  (hr:p9 S M w c.toList ds):∃ v,(loadVar t ⟨b,off,none⟩).run P w=.ok v w∧Rd S M w v d:=by
 unfold P4 at h
 have hlen:c.size=ds.length:=by have:=hr.length;simpa using this
 cases hag:a0y P t with
 | none=>rw [hag] at h;cases hs:B7 P t <;> rw [hs] at h <;> cases h
 | some ag =>
  cases ag with
  | true =>
   cases hs:B7 P t with
   | none=>rw [hag,hs] at h;cases h
   | some n =>
    rw [hag,hs] at h
    simp only [] at h
    cases hle:Nat.ble (off+n) ds.length with
    | false=>rw [hle] at h;cases h
    | true =>
     rw [hle] at h
     injection h with h
     have hle':off+n≤ds.length:=Nat.le_of_ble_eq_true hle
     refine ⟨.agg ((c.toList.drop off).take n).toArray,?_,h ▸ .agg _ _ ((hr.drop off).take n)⟩
     simp [loadVar,W4 hag,F9 hs,d2b (P:=P) hb (by omega:off+n≤c.size)]
  | false =>
   rw [hag] at h
   simp only [] at h
   obtain ⟨v,hv,hd⟩:=hr.get' off d h
   refine ⟨v,?_,hd⟩
   have hc:w.cell? ⟨b,off,none⟩=some v:=by unfold World.cell?;rw [hb];simpa using hv
   simp [loadVar,W4 hag,hc]

theorem c42 {P:Program} {t:TypeId} {ds:List D} {d:D} (h:P4 P t ds 0=some d) {b o:Nat} {vs:List Value} (hs:a5y S w (some ⟨b,o,none⟩) vs)
  (hr0:p9 S s9 w vs ds):∃ v,(loadVar t ⟨b,o,none⟩).run P w=.ok v w∧Rd S M w v d:=by
 unfold P4 at h
 have hr:p9 S M w vs ds:=hr0.of_no
 have hlen:=hr.length
 cases hag:a0y P t with
 | none=>rw [hag] at h;cases hs:B7 P t <;> rw [hs] at h <;> cases h
 | some ag =>
  cases ag with
  | true =>
   cases hz:B7 P t with
   | none=>rw [hag,hz] at h;cases h
   | some n =>
    rw [hag,hz] at h
    simp only [] at h
    cases hle:Nat.ble (0+n) ds.length with
    | false=>rw [hle] at h;cases h
    | true =>
     rw [hle] at h
     injection h with h
     have hle':0+n≤ds.length:=Nat.le_of_ble_eq_true hle
     refine ⟨.agg ((vs.drop 0).take n).toArray,?_,h ▸ .agg _ _ ((hr.drop 0).take n)⟩
     have:=c27 (P:=P) hs 0 n oM
     simp only [Nat.add_zero] at this
     simp [loadVar,W4 hag,F9 hz,this]
  | false =>
   rw [hag] at h
   simp only [] at h
   obtain ⟨v,hv,hd⟩:=hr.get' 0 d h
   refine ⟨v,?_,hd⟩
   have hc:w.cell? ⟨b,o,none⟩=some v:=by
    rcases hs with hs | ⟨b',o',he,hs⟩
    ·rw [hs] at hv;simp at hv
    ·injection he with he
     injection he with h1 h2
     subst h1 h2
     exact (hs 0 v hv).2
   simp [loadVar,W4 hag,hc]
end
section
variable {X:Pr} {dfs:List Deferred} {w0:World} {S0:k8} {M0:Mp} {S:k8} {M:Mp} {w:World} {a:Act} {s:St}

theorem m8.at_ (h:m8 X dfs w0 S0 M0 S M w a s) {x:Operand} {d:D} (e:s.eval x=d):Rd S M w (a.eval x) d:=e ▸ h.eval x

theorem d9u (h:m8 X dfs w0 S0 M0 S M w a s) {nid:Nat} {o:Oper} {out:H2} (c x y:Operand) (he:o.op=.pick c x y) (ho:n9 X s nid o.op=some out):H5 X dfs w0 S0 M0 w a s ((execOp a.eval o).run X.P w) out:=by
 rw [he] at ho
 simp only [n9] at ho
 split at ho
 ·rename_i t ht
  rw [u9 ho]
  have h1:=h.at_ ht
  generalize hc:a.eval c=vc at h1
  cases h1
  refine l8 h (v:=if t then a.eval x else a.eval y) ?_ ?_
  ·simp only [execOp,he,hc];cases t <;> simp [asBool]
  ·cases t
   ·exact h.eval y
   ·exact h.eval x
 ·cases ho

theorem c6r (h:m8 X dfs w0 S0 M0 S M w a s) {nid:Nat} {o:Oper} {out:H2} (x:Operand) (he:o.op=.move x∨o.op=.assign x) (ho:n9 X s nid o.op=some out):H5 X dfs w0 S0 M0 w a s ((execOp a.eval o).run X.P w) out:=by
 rcases he with he | he <;> rw [he] at ho <;> simp only [n9] at ho <;> rw [u9 ho] <;> exact l8 h (by simp [execOp,he]) (h.eval x)

theorem d48 (h:m8 X dfs w0 S0 M0 S M w a s) {nid:Nat} {o:Oper} {out:H2} (t:TypeId) (he:o.op=.alloc t) (ho:n9 X s nid o.op=some out):H5 X dfs w0 S0 M0 w a s ((execOp a.eval o).run X.P w) out:=by
 rw [he] at ho
 simp only [n9] at ho
 split at ho
 ·rename_i z hz
  obtain ⟨hf,rfl⟩:=a2r ho
  obtain ⟨v,hv,rfl⟩:=b3m hz
  exact b21 h hf (c:=v.cells) (t:=t) (a40 _) 0 (fun _ hm=>.ptr nid 0 _ 0 hm) (by simp [execOp,he,Instr.alloc,hv,newVar,newRow])
 ·cases ho

theorem e3a (h:m8 X dfs w0 S0 M0 S M w a s) {nid:Nat} {o:Oper} {out:H2} (t:TypeId) (x:Operand) (he:o.op=.box t x) (ho:n9 X s nid o.op=some out):H5 X dfs w0 S0 M0 w a s ((execOp a.eval o).run X.P w) out:=by
 rw [he] at ho
 simp only [n9] at ho
 cases hk:(s.eval x).ok with
 | false=>rw [hk] at ho;cases ho
 | true =>
  rw [hk] at ho
  obtain ⟨hf,rfl⟩:=a2r ho
  have hk':(s.eval x).one=true∨∃ cs,s.eval x=.agg cs:=by
   unfold D.ok at hk
   rw [Bool.or_eq_true] at hk
   refine hk.imp (fun h=>h) fun h=>?_
   unfold D.isAgg at h
   split at h
   ·exact ⟨_,aS⟩
   ·cases h
  exact b21 h hf (c:=(a.eval x).cells) (t:=t) ((h.eval x).cells hk') 0 (fun _ hm=>.ptr nid 0 _ 0 hm) (by simp [execOp,he,Instr.box,newVar,newRow])

theorem d9t (h:m8 X dfs w0 S0 M0 S M w a s) {nid:Nat} {o:Oper} {out:H2} (t:TypeId) (x:Operand) (he:o.op=.load t x) (ho:n9 X s nid o.op=some out):H5 X dfs w0 S0 M0 w a s ((execOp a.eval o).run X.P w) out:=by
 rw [he] at ho
 simp only [n9] at ho
 split at ho
 ·rename_i id off hx
  split at ho
  ·rename_i ds hd
   obtain ⟨d,hr,rfl⟩:=Option.map_eq_some_iff.1 ho
   have h1:=h.at_ hx
   obtain ⟨b,k,c,e,hm,hc,hrd,_⟩:=h.heap.box _ _ hd
   generalize hv:a.eval x=va at h1
   cases h1 with
   | ptr _ _ b' c' hm' =>
    rw [hm] at hm'
    injection hm' with hm'
    injection hm' with hb _
    subst hb
    obtain ⟨v,hrun,hvd⟩:=b5f hr hc hrd
    exact l8 h (by simp [execOp,he,hv,Instr.loadAt,Instr.sureAddr,hrun]) hvd
  ·cases ho
 ·rename_i ds hx
  obtain ⟨d,hr,rfl⟩:=Option.map_eq_some_iff.1 ho
  have h1:=h.at_ hx
  generalize hv:a.eval x=va at h1
  cases h1 with
  | cref b o' vs _ hs hrd =>
   obtain ⟨v,hrun,hvd⟩:=c42 hr hs hrd
   exact l8 h (by simp [execOp,he,hv,Instr.loadAt,Instr.sureAddr,hrun]) hvd
 ·cases ho

theorem a6i:∀ {vs us:List Value} {ds es:List D} (off:Nat),p9 S M w vs ds→p9 S M w us es→off+us.length≤vs.length→p9 S M w (vs.take off ++ us ++ vs.drop (off+us.length)) (K6 ds off es)
 | vs,_,ds,_,off,hv,.nil,_=>by simp only [List.append_nil,List.length_nil,Nat.add_zero,List.take_append_drop];exact hv
 | vs,_,ds,_,off,hv,.cons u e us es hu hr,hl=>by
  have:=a6i (off+1) (hv.set off hu) hr (by simp at hl ⊢;omega)
  simp only [K6]
  have hlt:off < vs.length:=by simp at hl;omega
  have e1:(vs.set off u).take (off+1)=vs.take off ++ [u]:=by
   rw [List.take_succ_eq_append_getElem (by simpa using hlt)]
   simp [List.take_set_of_le]
  have e2:(vs.set off u).drop (off+1+us.length)=vs.drop (off+(us.length+1)):=by
   rw [List.drop_set_of_lt oM];congr 1;omega
  rw [e1,e2] at this
  simpa using this

theorem c2j {d:D} (hk:d.ok=true):d.one=true∨∃ cs,d=.agg cs:=by
 unfold D.ok at hk
 rw [Bool.or_eq_true] at hk
 refine hk.imp (fun h=>h) fun h=>?_
 unfold D.isAgg at h
 split at h
 ·exact ⟨_,rfl⟩
 ·cases h

theorem b69:∀ {vs:List Value} {ds:List D},p9 S M w vs ds→ds.all D.one=true→∀ v ∈ vs,v.oneCell'=true
 | _,_,.nil,_,v,hv=>by cases hv
 | _,_,.cons u e us es hu hr,ha,v,hv=>by
  simp only [List.all_cons,Bool.and_eq_true] at ha
  rcases List.mem_cons.1 hv with rfl | hv
  ·exact hu.oneCell ha.1
  ·exact b69 hr ha.2 v hv

theorem d5e (h:m8 X dfs w0 S0 M0 S M w a s) {nid:Nat} {o:Oper} {out:H2} (t:TypeId) (x y:Operand) (he:o.op=.store t x y) (ho:n9 X s nid o.op=some out):H5 X dfs w0 S0 M0 w a s ((execOp a.eval o).run X.P w) out:=by
 rw [he] at ho
 simp only [n9] at ho
 split at ho
 ·rename_i id off hx
  split at ho
  ·rename_i ds n hd hn
   generalize hcd:((s.eval y).ok && Nat.beq (s.eval y).cells.length n && (s.eval y).cells.all D.one && Nat.ble (off+n) ds.length)=cd at ho
   cases cd with
   | false=>cases ho
   | true =>
    injection ho with ho
    subst ho
    simp only [Bool.and_eq_true] at hcd
    obtain ⟨⟨⟨k1,k2⟩,k3⟩,k4⟩:=hcd
    have k2':(s.eval y).cells.length=n:=Nat.eq_of_beq_eq_true k2
    have k4':off+n≤ds.length:=Nat.le_of_ble_eq_true k4
    have h1:=h.at_ hx
    obtain ⟨b,k,c,e,hm,hc,hrd,hnS⟩:=h.heap.box _ _ hd
    generalize hv:a.eval x=va at h1
    cases h1 with
    | ptr _ _ b' c' hm' =>
     rw [hm] at hm'
     injection hm' with hm'
     injection hm' with hb _
     subst hb
     have hcells:=(h.eval y).cells (c2j k1)
     have hl:(a.eval y).cells.toList.length=n:=hcells.length.trans k2'
     have hcl:c.toList.length=ds.length:=hrd.length
     have hst:=run_storeCells_at (P:=X.P) b off e (a.eval y).cells.toList 0 c w hc (by simp at hcl hl ⊢;omega) (b69 hcells k3)
     have hnew:=a6i (w:=w) off hrd hcells oM
     simp only [Nat.add_zero] at hst
     obtain ⟨ex,h2⟩:=h.row hd rfl hm hc (c':=(c.toList.take off ++ (a.eval y).cells.toList ++ c.toList.drop (off+(a.eval y).cells.toList.length)).toArray) (fun o hS=>absurd hS (hnS o)) (.cells (K6 ds off (s.eval y).cells))
      ⟨b,k,_,e,hm,setRow_heap w b c _ e (0,0) hc,by
       refine p9.ext ?_ hnew
       exact ⟨fun _ _ h=>h,fun b' o' hS=>cell_setRow_other w b _ _ (fun eb=>hnS o' (eb ▸ hS)),fun _ _ h=>h⟩,hnS⟩ (fun _=>rfl) (fun _ _ e=>by cases e)
     refine ⟨.skip,undef,S,M,_,?_,.inr ⟨rfl,rfl⟩,h2,.tuple _ [] .nil⟩
     have hsz:(a.eval y).cells.size=n:=by simpa using hl
     simp [execOp,he,hv,Instr.storeAt,Instr.sureAddr,storeVar,F9 hn,hsz,hst]
  ·cases ho
 ·cases ho
end
section
variable {X:Pr} {dfs:List Deferred} {w0:World} {S0:k8} {M0:Mp} {S:k8} {M:Mp} {w:World} {a:Act} {s:St}

theorem c4x (h:m8 X dfs w0 S0 M0 S M w a s) {nid:Nat} {o:Oper} {out:H2} (x:Operand) (he:o.op=.nilCheck x) (ho:n9 X s nid o.op=some out):H5 X dfs w0 S0 M0 w a s ((execOp a.eval o).run X.P w) out:=by
 rw [he] at ho
 simp only [n9] at ho
 split at ho <;> first | cases ho | skip
 all_goals
  rename_i hx
  have h1:=h.at_ hx
  have h2:=h1
  generalize hv:a.eval x=va at h1 h2
  exact l8 h (v:=va) (by cases h1 <;> simp [execOp,he,hv]) h2

theorem d9w (h:m8 X dfs w0 S0 M0 S M w a s) {nid:Nat} {o:Oper} {out:H2} (op:UnOp) (t:TypeId) (x:Operand) (he:o.op=.unOp op t x) (ho:n9 X s nid o.op=some out):H5 X dfs w0 S0 M0 w a s ((execOp a.eval o).run X.P w) out:=by
 rw [he] at ho
 simp only [n9] at ho
 split at ho <;> first | cases ho | skip
 all_goals
  rename_i hx
  have h1:=h.at_ hx
  generalize hv:a.eval x=va at h1
  cases h1
 ·exact l8 h (by simp [execOp,he,hv,Op.unary]) (.bool _)
 ·exact l8 h (by simp [execOp,he,hv,Op.unary,Op.intArith]) (.int _ _)

theorem b3b (h:m8 X dfs w0 S0 M0 S M w a s) {nid:Nat} {o:Oper} {out:H2} (t:TypeId) (x:Operand) (he:o.op=.makeInterface t x) (ho:n9 X s nid o.op=some out):H5 X dfs w0 S0 M0 w a s ((execOp a.eval o).run X.P w) out:=by
 rw [he] at ho
 simp only [n9] at ho
 split at ho
 ·cases ho
 ·rename_i d hnot hu
  rw [u9 ho]
  refine l8 h (v:=.iface t (a.eval x)) ?_ (.iface _ _ _ (h.eval x))
  simp only [execOp,he,Instr.makeInterface,Sem.run_bind,run_underlying hu,Result.andThen_ok]
  cases d <;> first | rfl | exact absurd hu (hnot _)
 ·cases ho

theorem b1l (h:m8 X dfs w0 S0 M0 S M w a s):∀ (xs:List Operand),p9 S M w (xs.map a.eval) (xs.map s.eval)
 | []=>.nil
 | x :: xs=>.cons _ _ _ _ (h.eval x) (b1l h xs)

theorem c4w (h:m8 X dfs w0 S0 M0 S M w a s) {nid:Nat} {o:Oper} {out:H2} (fn:Fn) (f c:Array Operand) (he:o.op=.makeFunc fn f c) (ho:n9 X s nid o.op=some out):H5 X dfs w0 S0 M0 w a s ((execOp a.eval o).run X.P w) out:=by
 rw [he] at ho
 simp only [n9] at ho
 rw [u9 ho]
 exact l8 h (v:=.func fn (f.map a.eval) (c.map a.eval)) (by simp [execOp,he,Instr.makeFunc]) (.func _ _ _ _ _ (by rw [Array.toList_map];exact b1l h _) (by rw [Array.toList_map];exact b1l h _))

theorem c8s (h:m8 X dfs w0 S0 M0 S M w a s) {nid:Nat} {o:Oper} {out:H2} (x:Operand) (i:Nat) (he:o.op=.extract x i) (ho:n9 X s nid o.op=some out):H5 X dfs w0 S0 M0 w a s ((execOp a.eval o).run X.P w) out:=by
 rw [he] at ho
 simp only [n9] at ho
 split at ho
 ·rename_i vs hx
  split at ho
  ·rename_i d hd
   rw [u9 ho]
   have h1:=h.at_ hx
   generalize hv:a.eval x=va at h1
   cases h1 with
   | tuple us _ hr =>
    obtain ⟨u,hu,hrd⟩:=hr.get' i d hd
    have hu':us[i]?=some u:=by simpa using hu
    exact l8 h (v:=u) (by simp [execOp,he,hv,Instr.extract,hu']) hrd
  ·cases ho
 ·cases ho

theorem d5c (h:m8 X dfs w0 S0 M0 S M w a s) {nid:Nat} {o:Oper} {out:H2} (t:TypeId) (x y:Operand) (he:o.op=.index t x y) (ho:n9 X s nid o.op=some out) (hn:out.need=true):H5 X dfs w0 S0 M0 w a s ((execOp a.eval o).run X.P w) out:=by
 rw [he] at ho
 simp only [n9] at ho
 split at ho
 ·rename_i l k n hu hx hy
  rw [G0 ho] at hn ⊢
  have hn':0≤n∧n < l.length:=by simpa using hn
  have h1:=h.at_ hx
  have h2:=h.at_ hy
  generalize hv:a.eval x=va at h1
  generalize hv2:a.eval y=vb at h2
  cases h1 with
  | str b _ hb =>
   cases h2
   have hlen:b.data.size=l.length:=by rw [← hb];simp
   have hb2:b[n.toNat]?=some (l.getD n.toNat 0):=by
    have h3:n.toNat < l.length:=oM
    rw [List.getD_eq_getElem?_getD,List.getElem?_eq_getElem h3]
    simp only [← hb]
    have h4:n.toNat < b.size:=by rw [show b.size=b.data.size from rfl];omega
    rw [getElem?_pos b n.toNat h4]
    rfl
   refine l8 h (v:=.int .u8 ((l.getD n.toNat 0).toNat:Int)) ?_ (.int _ _)
   simp [execOp,he,hv,hv2,Instr.index,asIntOf,run_underlying hu,hn'.1,hb2]
 ·cases ho

theorem d5b (h:m8 X dfs w0 S0 M0 S M w a s) {nid:Nat} {o:Oper} {out:H2} (t:TypeId) (x:Operand) (f:Nat) (he:o.op=.field t x f) (ho:n9 X s nid o.op=some out):H5 X dfs w0 S0 M0 w a s ((execOp a.eval o).run X.P w) out:=by
 rw [he] at ho
 simp only [n9] at ho
 split at ho
 ·rename_i fs hu
  split at ho
  ·rename_i fd ds hf hx
   obtain ⟨d,hr,ho⟩:=Option.bind_eq_some_iff.1 ho
   rw [u9 ho]
   have h1:=h.at_ hx
   generalize hv:a.eval x=va at h1
   cases h1 with
   | agg us _ hrd =>
    have hl:us.size=ds.length:=by simpa using hrd.length
    suffices ∃ v,(part fd.type us fd.offset).run X.P w=.ok v w∧Rd S M w v d by
     obtain ⟨v,h1,h2⟩:=this
     exact l8 h (v:=v) (by simp [execOp,he,hv,Instr.field,run_underlying hu,hf,asAgg,h1]) h2
    unfold P4 at hr
    cases hag:a0y X.P fd.type with
    | none=>rw [hag] at hr;cases hs:B7 X.P fd.type <;> rw [hs] at hr <;> cases hr
    | some ag =>
     cases ag with
     | true =>
      cases hz:B7 X.P fd.type with
      | none=>rw [hag,hz] at hr;cases hr
      | some n =>
       rw [hag,hz] at hr
       simp only [] at hr
       cases hle:Nat.ble (fd.offset+n) ds.length with
       | false=>rw [hle] at hr;cases hr
       | true =>
        rw [hle] at hr
        injection hr with hr
        refine ⟨.agg (us.extract fd.offset (fd.offset+n)),by simp [part,W4 hag,F9 hz],hr ▸ .agg _ _ ?_⟩
        have:=(hrd.drop fd.offset).take n
        simpa [Array.toList_extract,List.extract_eq_take_drop] using this
     | false =>
      rw [hag] at hr
      simp only [] at hr
      obtain ⟨v,hv',hd⟩:=hrd.get' fd.offset d hr
      have hv'':us[fd.offset]?=some v:=by simpa using hv'
      exact ⟨v,by simp [part,W4 hag,hv''],hd⟩
  ·cases ho
 ·cases ho

theorem c2m (h:m8 X dfs w0 S0 M0 S M w a s) {nid:Nat} {o:Oper} {out:H2} (t:TypeId) (x:Operand) (f:Nat) (he:o.op=.fieldAddr t x f) (ho:n9 X s nid o.op=some out):H5 X dfs w0 S0 M0 w a s ((execOp a.eval o).run X.P w) out:=by
 rw [he] at ho
 simp only [n9] at ho
 split at ho
 ·rename_i fs hu
  split at ho
  ·rename_i fd hf
   split at ho
   ·rename_i n hz
    have hrun:∀ (b o':Nat),(fieldPlace ⟨b,o',none⟩ fd).run X.P w=.ok ⟨b,o'+fd.offset,none⟩ w:=fun b o'=>by
     simp [fieldPlace,F9 hz,Z9]
    split at ho
    ·rename_i id off hx
     rw [u9 ho]
     have h1:=h.at_ hx
     generalize hv:a.eval x=va at h1
     cases h1 with
     | ptr _ _ b c hm=>exact l8 h (v:=.pointer (some ⟨b,off+fd.offset,none⟩)) (by simp [execOp,he,hv,Instr.fieldAt,run_underlying hu,hf,Instr.sureAddr,hrun]) (.ptr _ _ b c hm)
    ·rename_i ds hx
     rw [u9 ho]
     have h1:=h.at_ hx
     generalize hv:a.eval x=va at h1
     cases h1 with
     | cref b o' vs _ hs hrd =>
      refine l8 h (v:=.pointer (some ⟨b,o'+fd.offset,none⟩)) (by simp [execOp,he,hv,Instr.fieldAt,run_underlying hu,hf,Instr.sureAddr,hrun]) (.cref _ _ (vs.drop fd.offset) _ ?_ (hrd.drop _))
      rcases hs with hs | ⟨b',o'',hb,hs⟩
      ·exact .inl (by rw [hs];simp)
      ·injection hb with hb
       injection hb with e1 e2
       subst e1 e2
       refine .inr ⟨b,o'+fd.offset,rfl,fun i v hi=>?_⟩
       rw [List.getElem?_drop] at hi
       rw [Nat.add_assoc]
       exact hs _ _ hi
    ·cases ho
   ·cases ho
  ·cases ho
 ·cases ho

theorem c2n (h:m8 X dfs w0 S0 M0 S M w a s) {nid:Nat} {o:Oper} {out:H2} (t:TypeId) (x y:Operand) (he:o.op=.indexAddr t x y) (ho:n9 X s nid o.op=some out) (hn:out.need=true):H5 X dfs w0 S0 M0 w a s ((execOp a.eval o).run X.P w) out:=by
 rw [he] at ho
 simp only [n9] at ho
 split at ho
 ·rename_i e len ds c k i hu hx hy
  obtain ⟨n,hz,ho⟩:=Option.bind_eq_some_iff.1 ho
  rw [G0 ho] at hn ⊢
  have hn':0≤i∧i < len∧len * n≤ds.length∧0 < n:=by simpa using hn
  have h1:=h.at_ hx
  have h2:=h.at_ hy
  generalize hv:a.eval x=va at h1
  generalize hv2:a.eval y=vb at h2
  cases h2
  cases h1 with
  | slice base _ cap vs _ _ hs hr hc hl hb0 =>
   have hlen:=hr.length
   have hpos:0 < ds.length:=Nat.lt_of_lt_of_le (Nat.mul_pos oM hn'.2.2.2) hn'.2.2.1
   rcases hs with hs | ⟨b,o',hb,hs⟩
   ·rw [hs] at hlen;simp at hlen;omega
   ·subst hb
    refine l8 h (v:=.pointer (some ⟨b,o'+i.toNat * n,none⟩)) ?_ (.cref _ _ ((vs.drop (i.toNat * n)).take n) _ (.inr ⟨b,_,rfl,fun j v hj=>?_⟩) ((hr.drop _).take _))
    ·simp [execOp,he,hv,hv2,Instr.indexAt,asIntOf,run_underlying hu,hn'.1,hn'.2.1,F9 hz,Z9]
    ·rw [List.getElem?_take] at hj
     split at hj
     ·rw [List.getElem?_drop] at hj
      rw [Nat.add_assoc]
      exact hs _ _ hj
     ·cases hj
 ·rename_i e id len k i hu hx hy
  obtain ⟨n,hz,ho⟩:=Option.bind_eq_some_iff.1 ho
  rw [G0 ho] at hn ⊢
  have hn':0≤i∧i < len:=by simpa using hn
  have h1:=h.at_ hx
  have h2:=h.at_ hy
  generalize hv:a.eval x=va at h1
  generalize hv2:a.eval y=vb at h2
  cases h2
  cases h1 with
  | bslice _ _ b c hm =>
   refine l8 h (v:=.pointer (some ⟨b,i.toNat * n,none⟩)) ?_ (.ptr _ _ b (c+1) hm)
   simp [execOp,he,hv,hv2,Instr.indexAt,asIntOf,run_underlying hu,hn'.1,hn'.2,F9 hz,Z9]
 ·cases ho
end
end Go.Abs
