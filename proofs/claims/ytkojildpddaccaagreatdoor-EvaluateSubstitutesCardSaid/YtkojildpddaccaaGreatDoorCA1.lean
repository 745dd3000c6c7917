/- Data, T0 and states without addresses; how they stand to the model's memory. No program in sight. -/
import Derived.Calls
import Derived.Orders
import Derived.Laws.Sem
import Derived.Below
import Derived.Laws.Tables
import Derived.Laws.CopyRow
import Derived.Laws.StructEq
import Derived.Test.YtkojildpddaccaaGreatDoorC0
set_option linter.all false
namespace Go.Abs

inductive Cap where
 | no
 | exact
 | tok (id:Nat)
 | fr (z:Nat)

inductive D where
 | bool (b:Bool)
 | int (k:IntKind) (n:Int)
 | str (s:List UInt8)
 | slice (len:Nat) (cells:List D) (c:Cap)
 | agg (cells:List D)
 | tuple (vs:List D)
 | ptr (id off:Nat)
 | cref (cells:List D)
 | bslice (id len:Nat)
 | mapp (id:Nat)
 | nilp
 | iface (t:TypeId) (v:D)
 | nilIface
 | func (fn:Fn) (first captured:List D)
 | junk
 | any

instance:Inhabited D:=⟨.junk⟩

def D.one:D→Bool
 | .agg _ | .tuple _ | .junk=>false
 | _=>true

def D.cells:D→List D
 | .agg cs=>cs
 | d=>[d]

abbrev B6:=Nat→Nat→Prop

abbrev Mp:=Nat→Option (Nat × Nat)

def c39 (M:Mp) (c:Cap) (base:Option Addr) (len cap:Nat):Prop :=
 match c with
 | .no=>True
 | .exact=>cap=len
 | .tok id=>cap=len∨∃ b,M id=some (b,cap)∧base=some ⟨b,0,none⟩
 | .fr _=>True

def a8f (S:B6) (w:World) (base:Option Addr) (vs:List Value):Prop :=
 vs=[]∨∃ b o,base=some ⟨b,o,none⟩∧∀ i v,vs[i]?=some v→S b (o+i)∧w.cell? ⟨b,o+i,none⟩=some v

def H4:Mp:=fun _=>none

mutual
/-- What lies behind a slice or a pointer that is written no more names no box. -/
inductive Rd (S:B6):Mp→World→Value→D→Prop
 | bool {M:Mp} {w:World} (b:Bool):Rd S M w (.bool b) (.bool b)
 | int {M:Mp} {w:World} (k:IntKind) (n:Int):Rd S M w (.int k n) (.int k n)
 | str {M:Mp} {w:World} (s:ByteArray) (l:List UInt8):s.data.toList=l→Rd S M w (.string s) (.str l)
 | slice {M:Mp} {w:World} (base:Option Addr) (len cap:Nat) (vs:List Value) (ds:List D) (c:Cap):a8f S w base vs→C4 S H4 w vs ds→c39 M c base len cap→len≤cap →
   (base=none→cap=0)→Rd S M w (.slice base len cap) (.slice len ds c)
 | agg {M:Mp} {w:World} (vs:Array Value) (ds:List D):C4 S M w vs.toList ds→Rd S M w (.agg vs) (.agg ds)
 | tuple {M:Mp} {w:World} (vs:Array Value) (ds:List D):C4 S M w vs.toList ds→Rd S M w (.tuple vs) (.tuple ds)
 | ptr {M:Mp} {w:World} (id off b c:Nat):M id=some (b,c)→Rd S M w (.pointer (some ⟨b,off,none⟩)) (.ptr id off)
 | cref {M:Mp} {w:World} (b o:Nat) (vs:List Value) (ds:List D):a8f S w (some ⟨b,o,none⟩) vs→C4 S H4 w vs ds→Rd S M w (.pointer (some ⟨b,o,none⟩)) (.cref ds)
 | bslice {M:Mp} {w:World} (id len b c:Nat):M id=some (b,c+1)→Rd S M w (.slice (some ⟨b,0,none⟩) len len) (.bslice id len)
 | mapp {M:Mp} {w:World} (id b c:Nat):M id=some (b,c)→Rd S M w (.map (some b)) (.mapp id)
 | nilp {M:Mp} {w:World}:Rd S M w (.pointer none) .nilp
 | iface {M:Mp} {w:World} (t:TypeId) (v:Value) (d:D):Rd S M w v d→Rd S M w (.iface t v) (.iface t d)
 | nilIface {M:Mp} {w:World}:Rd S M w .nilIface .nilIface
 | func {M:Mp} {w:World} (fn:Fn) (first captured:Array Value) (fs cs:List D):C4 S M w first.toList fs→C4 S M w captured.toList cs→Rd S M w (.func fn first captured) (.func fn fs cs)
 | junk {M:Mp} {w:World} (v:Value):Rd S M w v .junk
 | any {M:Mp} {w:World} (v:Value):v.oneCell'=true→Rd S M w v .any
inductive C4 (S:B6):Mp→World→List Value→List D→Prop
 | nil {M:Mp} {w:World}:C4 S M w [] []
 | cons {M:Mp} {w:World} (v:Value) (d:D) (vs:List Value) (ds:List D):Rd S M w v d→C4 S M w vs ds→C4 S M w (v :: vs) (d :: ds)
end

structure Q7 (S:B6) (M:Mp) (w:World) (S':B6) (M':Mp) (w':World):Prop where
 cells:∀ b o,S b o→S' b o
 keep:∀ b o,S b o→w'.cell? ⟨b,o,none⟩=w.cell? ⟨b,o,none⟩
 map:∀ i x,M i=some x→M' i=some x

theorem Q7.refl (S:B6) (M:Mp) (w:World):Q7 S M w S M w:=⟨fun _ _ h=>h,fun _ _ _=>rfl,fun _ _ h=>h⟩
theorem c39.ext {S S':B6} {M M':Mp} {w w':World} (h:Q7 S M w S' M' w') {c:Cap} {base:Option Addr} {len cap:Nat} (k:c39 M c base len cap):c39 M' c base len cap:=by
 cases c with
 | no=>trivial
 | exact=>exact k
 | tok id=>exact k.imp (fun h=>h) fun ⟨b,k1,k2⟩=>⟨b,h.map _ _ k1,k2⟩
 | fr z=>trivial
theorem a8f.ext {S S':B6} {M M':Mp} {w w':World} (h:Q7 S M w S' M' w') {base:Option Addr} {vs:List Value} (k:a8f S w base vs):a8f S' w' base vs:=by
 rcases k with k | ⟨b,o,hb,k⟩
 ·exact .inl k
 ·exact .inr ⟨b,o,hb,fun i v hv=>⟨h.cells _ _ (k i v hv).1,by rw [h.keep _ _ (k i v hv).1];exact (k i v hv).2⟩⟩

theorem Q7.no {S S':B6} {M M':Mp} {w w':World} (h:Q7 S M w S' M' w'):Q7 S H4 w S' H4 w':=⟨h.cells,h.keep,fun _ _ h=>h⟩

mutual
theorem Rd.ext {S S':B6} {w':World}:∀ {M M':Mp} {w:World} {v:Value} {d:D},Q7 S M w S' M' w'→Rd S M w v d→Rd S' M' w' v d
 | _,_,_,_,_,_,.bool b=>.bool b
 | _,_,_,_,_,_,.int k n=>.int k n
 | _,_,_,_,_,_,.str s l e=>.str s l e
 | _,_,_,_,_,h,.slice base len cap vs ds c a r k l z=>.slice base len cap vs ds c (a.ext h) (C4.ext h.no r) (k.ext h) l z
 | _,_,_,_,_,h,.agg vs ds r=>.agg vs ds (C4.ext h r)
 | _,_,_,_,_,h,.tuple vs ds r=>.tuple vs ds (C4.ext h r)
 | _,_,_,_,_,h,.ptr id off b c hi=>.ptr id off b c (h.map _ _ hi)
 | _,_,_,_,_,h,.cref b o vs ds a r=>.cref b o vs ds (a.ext h) (C4.ext h.no r)
 | _,_,_,_,_,h,.bslice id len b c hi=>.bslice id len b c (h.map _ _ hi)
 | _,_,_,_,_,h,.mapp id b c hi=>.mapp id b c (h.map _ _ hi)
 | _,_,_,_,_,_,.nilp=>.nilp
 | _,_,_,_,_,h,.iface t v d r=>.iface t v d (Rd.ext h r)
 | _,_,_,_,_,_,.nilIface=>.nilIface
 | _,_,_,_,_,h,.func fn f c fs cs r k=>.func fn f c fs cs (C4.ext h r) (C4.ext h k)
 | _,_,_,_,_,_,.junk v=>.junk v
 | _,_,_,_,_,_,.any v h=>.any v h
theorem C4.ext {S S':B6} {w':World}:∀ {M M':Mp} {w:World} {vs:List Value} {ds:List D},Q7 S M w S' M' w'→C4 S M w vs ds→C4 S' M' w' vs ds
 | _,_,_,_,_,_,.nil=>.nil
 | _,_,_,_,_,h,.cons v d vs ds r k=>.cons v d vs ds (Rd.ext h r) (C4.ext h k)
end

theorem Rd.of_no {S:B6} {M:Mp} {w:World} {v:Value} {d:D} (h:Rd S H4 w v d):Rd S M w v d:=h.ext ⟨fun _ _ h=>h,fun _ _ _=>rfl,fun _ _ h=>by cases h⟩
theorem C4.of_no {S:B6} {M:Mp} {w:World} {v:List Value} {d:List D} (h:C4 S H4 w v d):C4 S M w v d:=h.ext ⟨fun _ _ h=>h,fun _ _ _=>rfl,fun _ _ h=>by cases h⟩

section
variable {S:B6} {M:Mp} {w:World}
theorem C4.length:∀ {vs:List Value} {ds:List D},C4 S M w vs ds→vs.length=ds.length
 | _,_,.nil=>rfl
 | _,_,.cons _ _ _ _ _ k=>by simp [k.length]
theorem C4.get':∀ {vs:List Value} {ds:List D},C4 S M w vs ds→∀ (i:Nat) (d:D),ds[i]?=some d→∃ v,vs[i]?=some v∧Rd S M w v d
 | _,_,.nil,i,v,h=>by simp at h
 | _,_,.cons x d vs ds r k,0,v,h=>by simp at h;exact ⟨x,rfl,h ▸ r⟩
 | _,_,.cons x d vs ds r k,i+1,v,h=>by simp at h;simpa using k.get' i v h
theorem C4.set:∀ {vs:List Value} {ds:List D},C4 S M w vs ds→∀ (i:Nat) {v:Value} {d:D},Rd S M w v d→C4 S M w (vs.set i v) (ds.set i d)
 | _,_,.nil,_,_,_,_=>.nil
 | _,_,.cons x d vs ds r k,0,v,_,h=>.cons _ _ _ _ h k
 | _,_,.cons x d vs ds r k,i+1,v,_,h=>.cons _ _ _ _ r (k.set i h)
theorem C4.append:∀ {vs vs':List Value} {ds ds':List D},C4 S M w vs ds→C4 S M w vs' ds'→C4 S M w (vs ++ vs') (ds ++ ds')
 | _,_,_,_,.nil,k=>k
 | _,_,_,_,.cons x d vs ds r h,k=>.cons _ _ _ _ r (h.append k)
theorem C4.take:∀ {vs:List Value} {ds:List D},C4 S M w vs ds→∀ n,C4 S M w (vs.take n) (ds.take n)
 | _,_,.nil,n=>by simp;exact .nil
 | _,_,.cons _ _ _ _ r h,0=>.nil
 | _,_,.cons _ _ _ _ r h,n+1=>.cons _ _ _ _ r (h.take n)
theorem C4.drop:∀ {vs:List Value} {ds:List D},C4 S M w vs ds→∀ n,C4 S M w (vs.drop n) (ds.drop n)
 | _,_,.nil,n=>by simp;exact .nil
 | _,_,.cons _ _ _ _ r h,0=>.cons _ _ _ _ r h
 | _,_,.cons _ _ _ _ r h,n+1=>h.drop n
theorem C4.replicate {v:Value} {d:D} (h:Rd S M w v d):∀ n,C4 S M w (List.replicate n v) (List.replicate n d)
 | 0=>.nil
 | n+1=>.cons _ _ _ _ h (C4.replicate h n)
theorem Rd.oneCell {v:Value} {d:D} (h:Rd S M w v d) (hd:d.one=true):v.oneCell'=true:=by
 cases h <;> first | rfl | assumption | simp [D.one] at hd
theorem c3x {v:Value} (h:v.oneCell'=true):v.cells=#[v]:=by cases v <;> first | rfl | cases h
theorem Rd.cells {v:Value} {d:D} (h:Rd S M w v d) (hd:d.one=true∨∃ cs,d=.agg cs):C4 S M w v.cells.toList d.cells:=by
 cases h <;> first
  | exact .cons _ _ _ _ (by constructor <;> assumption) .nil
  | (rename_i h1;rw [c3x h1];exact .cons _ _ _ _ (.any v h1) .nil)
  | assumption
  | (rcases hd with hd | ⟨cs,hd⟩ <;> simp [D.one] at hd)
end

inductive C5 where
 | cells (ds:List D)
 | tok (len size:Nat)
 | map (kvs:List D)
 | dead
 | free

def C5.live:C5→Bool
 | .dead | .free=>false
 | _=>true

def a3t:List MapEntry→List Value
 | []=>[]
 | e :: es=>e.key :: e.val :: a3t es

def a2d (S:B6) (M:Mp) (w:World) (id:Nat):C5→Prop
 | .cells ds=>∃ b k c e,M id=some (b,k)∧w.heap[b]?=some (.cells c e (0,0))∧C4 S M w c.toList ds∧∀ o,¬S b o
 | .tok len size=>∀ b k,M id=some (b,k)→∃ c e,w.heap[b]?=some (.cells c e (0,0))∧c.size=k * size∧∀ o,len * size≤o→¬S b o
 | .map kvs=>∃ b k es clock,M id=some (b,k)∧w.heap[b]?=some (.map es clock)∧C4 S H4 w (a3t es.toList) kvs
 | .dead=>True
 | .free=>M id=none

structure a89 (S:B6) (M:Mp) (w:World) (h:List C5):Prop where
 box:∀ id b,h[id]?=some b→a2d S M w id b
 out:∀ id,h.length≤id→M id=none
 apart:∀ i j x y b k l,h[i]?=some x→h[j]?=some y→x.live=true→y.live=true→M i=some (b,k)→M j=some (b,l)→i=j

structure a29 (w:World) (M:Mp) (w':World):Prop where
 os:w'.os=w.os
 tape:w'.tape=w.tape
 output:w'.output=w.output
 size:w.heap.size≤w'.heap.size
 block:∀ k,k < w.heap.size→(∀ i c,M i ≠ some (k,c))→w'.heap[k]?=w.heap[k]?

structure c0e where
 N:Nat
 pred:World→Prop
 stable:∀ w w',pred w→(∀ b,b < N→w'.heap[b]?=w.heap[b]?)→pred w'
 size:∀ w,pred w→N≤w.heap.size

inductive Res where
 | ret (d:D)
 | pan (d:D)

def B6.within (S:B6) (w:World):Prop:=∀ b o,S b o→b < w.heap.size
def B6.grown (S S':B6) (w:World):Prop:=(∀ b o,S b o→S' b o)∧∀ b o,S' b o→S b o∨w.heap.size≤b

def g1p (S:B6) (w0 w:World) (z:Nat) (base:Option Addr) (len cap:Nat):Prop :=
 cap=len∨∃ b c e,base=some ⟨b,0,none⟩∧w0.heap.size≤b∧w.heap[b]?=some (.cells c e (0,0))∧c.size=cap * z∧∀ o,len * z≤o→¬S b o
def a0c (S:B6) (w0 w:World) (v:Value) (d:D):Prop:=∀ len c z,d=.slice len c (.fr z)→∃ base cap,v=.slice base len cap∧g1p S w0 w z base len cap
def a8e (S:B6) (w0 w:World) (v:Value) (d:D):Prop :=
 a0c S w0 w v d∧∀ vs ds,v=.tuple vs→d=.tuple ds→∀ (i:Nat) (u:Value) (e:D),vs[i]?=some u→ds[i]?=some e→a0c S w0 w u e
def H8:List D→C5
 | [.tuple kvs]=>.map kvs
 | ds=>.cells ds
def c0d (S:B6) (M:Mp) (w0 w:World) (hs:List (List D)) (e:Ending):Res→Prop
 | .ret d=>a89 S M w (hs.map H8)∧∃ v,e=.returned v∧Rd S M w v d∧a8e S w0 w v d
 | .pan d=>∃ v,e=.panicked [{ v,recovered:=false }]∧Rd S M w v d

def CM (P:Program) (G:c0e) (f:FuncId) (ds:List D) (hs:List (List D)) (r:Res) (hs':List (List D)):Prop :=
 (∀ args w,(callFunc f args).run P w=.ok (.enter f args) w) ∧
 ∀ (w:World) (S:B6) (M:Mp) (vs:List Value),G.pred w→(∀ i b c,M i=some (b,c)→G.N≤b∧b < w.heap.size∧c=0)→S.within w→a89 S M w (hs.map H8)→C4 S M w vs ds →
  Calls P f vs.toArray w fun e w'=>a29 w M w'∧∃ S',S.grown S' w∧S'.within w'∧c0d S' M w w' hs' e r

def C (P:Program) (G:c0e) (f:FuncId) (ds:List D) (r:Res):Prop:=CM P G f ds [] r []

structure St where
 tmps:List D
 heap:List C5

def St.put (s:St) (dst:Option Tmp) (d:D):St :=
 match dst with
 | some t=>{ s with tmps:=s.tmps.set t d }
 | none=>s

def a0r:Value→D
 | .bool b=>.bool b
 | .int k n=>.int k n
 | .string s=>.str s.data.toList
 | .pointer none=>.nilp
 | .slice none 0 0=>.slice 0 [] .exact
 | .nilIface=>.nilIface
 | _=>.junk
def ofV:Value→D
 | .agg cs=>.agg (cs.toList.map a0r)
 | .tuple cs=>.tuple (cs.toList.map a0r)
 | .func fn first captured=>match first.toList,captured.toList with
  | [],[]=>.func fn [] []
  | _,_=>.junk
 | v=>a0r v

def St.eval (s:St):Operand→D
 | .tmp t=>s.tmps.getD t .junk
 | .const v=>ofV v
 | .global _=>.junk
 | .func f=>.func (.func f) [] []

def Q4 (f:Nat→Option Nat):D→D
 | .slice l c (.fr z)=>.slice l c (.fr z)
 | .slice l c _=>.slice l c .no
 | .ptr id off=>match f id with
  | some j=>.ptr j off
  | none=>.junk
 | .mapp id=>match f id with
  | some j=>.mapp j
  | none=>.junk
 | .bslice _ _ | .agg _ | .tuple _ | .iface _ _ | .func _ _ _=>.junk
 | d=>d
def a82 (f:Nat→Option Nat):D→D
 | .func fn fs cs=>.func fn (fs.map (Q4 f)) (cs.map (Q4 f))
 | d=>Q4 f d
def a6z (f:Nat→Option Nat):D→D
 | .agg cs=>.agg (cs.map (a82 f))
 | d=>a82 f d
def renI (f:Nat→Option Nat):D→D
 | .iface t d=>.iface t (a6z f d)
 | d=>a6z f d
def ren (f:Nat→Option Nat):D→D
 | .tuple ds=>.tuple (ds.map (renI f))
 | d=>renI f d
def M5:Nat→Option Nat:=fun _=>none

structure J3 where
 need:Bool
 val:D
 ws:List (Nat × C5)
 rs:List Nat

def C9 (d:D):Option J3:=some ⟨true,d,[],[]⟩
def H5 (b:Bool) (d:D):Option J3:=some ⟨b,d,[],[]⟩
def G4 (s:St) (nid:Nat):Bool:=match s.heap[nid]? with | some .free=>true | _=>false
def Y1 (s:St) (nid:Nat) (b:Bool) (d:D) (x:C5):Option J3:=bif G4 s nid then some ⟨b,d,[(nid,x)],[nid]⟩ else none

inductive K3 where
 | int
 | str
 | bool
def K3.is (P:Program) (t:TypeId):K3→Prop
 | .int=>∃ k,P.underlying t=some (.int k)
 | .str=>P.underlying t=some .string
 | .bool=>P.underlying t=some .bool
def a6g (P:Program) (t:TypeId) (ks:List K3):Prop :=
 ∃ fs:Array Field,P.underlying t=some (.struct fs)∧P.stoodInHeld t=false∧P.eqGuardType P.depth t=false∧fs.size=ks.length ∧
  ∀ (i : Nat) (f : Field) (k : K3), fs[i]? = some f → ks[i]? = some k → f.name ≠ "_" ∧ f.offset = i ∧ k.is P f.type

structure Pr where
 P:Program
 G:c0e
 eqs:List (TypeId × List K3)
 eqOk:∀ t ks,(t,ks) ∈ eqs→a6g P t ks
 mixed:P.follows .mixedOrders=true
 tab:List (FuncId × (List D→List (List D)→Option (Bool × Res × List (List D))))
 tabOk:∀ g F,(g,F) ∈ tab→∀ ds hs r hs',F ds hs=some (true,r,hs')→CM P G g ds hs r hs'

def X5 (P:Program) (t:TypeId):Option (List D):=(P.info? t).bind fun i=>i.zero.map fun v=>v.cells.toList.map a0r
def szOf (P:Program) (t:TypeId):Option Nat:=(P.info? t).map (·.size)
def c0i (P:Program) (t:TypeId):Option Nat:=(P.info? t).map (·.bytes)
def aggOf (P:Program) (t:TypeId):Option Bool:=(P.underlying t).map fun | .struct _ | .array _ _=>true | _=>false

def O6 (ds:List D) (off:Nat):List D→List D
 | []=>ds
 | v :: vs=>O6 (ds.set off v) (off+1) vs

def D.isAgg:D→Bool
 | .agg _=>true
 | _=>false
def D.ok (d:D):Bool:=d.one || d.isAgg

def a3s (place:Nat→Option (Nat × Nat)) (ds:List D):List (Nat × D)→Option (List D)
 | []=>some ds
 | (i,v) :: rest =>
  match place i with
  | none=>none
  | some (off,size) =>
   bif v.ok && (v.cells.length == size) && Nat.ble (off+size) ds.length then a3s place (O6 ds off v.cells) rest else none

def U4 (P:Program) (t:TypeId) (ds:List D) (off:Nat):Option D :=
 match aggOf P t,szOf P t with
 | some true,some n=>bif Nat.ble (off+n) ds.length then some (.agg ((ds.drop off).take n)) else none
 | some false,_=>ds[off]?
 | _,_=>none

def u9:List K3→List D→List D→Option Bool
 | [],[],[]=>some true
 | .int :: ks,.int k a :: xs,.int k' b :: ys=>if k=k' then (u9 ks xs ys).map fun r=>(a == b) && r else none
 | .str :: ks,.str a :: xs,.str b :: ys=>(u9 ks xs ys).map fun r=>(a == b) && r
 | .bool :: ks,.bool a :: xs,.bool b :: ys=>(u9 ks xs ys).map fun r=>(a == b) && r
 | _,_,_=>none

def a1a (t:TypeId):List (TypeId × List K3)→Option (List K3)
 | []=>none
 | x :: xs=>bif Nat.beq x.1 t then some x.2 else a1a t xs

def R0 (X:Pr) (op:BinOp) (t:TypeId):D→D→Option J3
 | .int k a,.int k' b =>
  if k=k' then
   match op with
   | .add=>C9 (.int k (k.wrap (a+b)))
   | .sub=>C9 (.int k (k.wrap (a - b)))
   | .mul=>C9 (.int k (k.wrap (a * b)))
   | .quo=>H5 (b != 0) (.int k (k.wrap (a.tdiv b)))
   | .rem=>H5 (b != 0) (.int k (a.tmod b))
   | .eql=>C9 (.bool (a == b))
   | .neq=>C9 (.bool (a != b))
   | .lss=>C9 (.bool (decide (a < b)))
   | .leq=>C9 (.bool (decide (a≤b)))
   | .gtr=>C9 (.bool (decide (a > b)))
   | .geq=>C9 (.bool (decide (a ≥ b)))
   | .shr=>H5 (decide (b=1∧0≤a)) (.int k (a.tdiv 2))
   | _=>none
  else none
 | .str a,.str b =>
  match op with
  | .add=>H5 (decide (a.length+b.length≤9223372036854775807)) (.str (a ++ b))
  | .eql=>C9 (.bool (a == b))
  | .neq=>C9 (.bool !(a == b))
  | .lss=>C9 (.bool (Op.bytesLess a b))
  | _=>none
 | .bool a,.bool b =>
  match op,X.P.underlying t with
  | .eql,some .bool=>C9 (.bool (a == b))
  | .neq,some .bool=>C9 (.bool !(a == b))
  | _,_=>none
 | .agg xs,.agg ys =>
  match a1a t X.eqs with
  | some ks=>match op,u9 ks xs ys with
   | .eql,some b=>C9 (.bool b)
   | .neq,some b=>C9 (.bool !b)
   | _,_=>none
  | none=>none
 | _,_=>none

def a4e:List D→Option (List UInt8)
 | []=>some []
 | .int .u8 n :: ds=>(a4e ds).map (UInt8.ofNat n.toNat :: ·)
 | _=>none

def a56:List D→Bool
 | []=>true
 | .int .u8 _ :: ds=>a56 ds
 | _=>false
def a6k:List D→List UInt8
 | []=>[]
 | .int _ n :: ds=>UInt8.ofNat n.toNat :: a6k ds
 | _ :: ds=>a6k ds
theorem c2h:∀ {ds:List D},a56 ds=true→a4e ds=some (a6k ds)
 | [],_=>rfl
 | d :: ds,h=>by
  unfold a56 at h;split at h
  ·rename_i h0;cases h0
  ·rename_i h0;cases h0;simp [a4e,a6k,c2h h]
  ·cases h

def b4a (P:Program) (src dst:TypeId) (x:D):Option J3 :=
 match P.underlying src,P.underlying dst,x with
 | some _,some (.int k),.int _ n=>C9 (.int k (k.wrap n))
 | some (.int _),some .string,.int _ n=>C9 (.str (Utf8.encode n).data.toList)
 | some .string,some .string,.str s=>C9 (.str s)
 | some (.slice e),some .string,.slice len ds _ =>
  match P.underlying e with
  | some (.int .u8)=>H5 (Nat.beq ds.length len && a56 ds) (.str (a6k ds))
  | _=>none
 | _,_,_=>none

def O1 (s:St) (dflt:Int):Option Operand→Option Int
 | none=>some dflt
 | some x=>match s.eval x with
  | .int _ n=>some n
  | _=>none

def a6n (P:Program) (s:St) (t:TypeId) (x:D) (lo hi mx:Option Operand):Option J3 :=
 match P.underlying t,x,mx with
 | some .string,.str l,none =>
  match O1 s 0 lo,O1 s l.length hi with
  | some a,some b=>H5 (decide (0≤a∧a≤b∧b≤l.length)) (.str ((l.take b.toNat).drop a.toNat))
  | _,_=>none
 | some (.slice e),.slice len ds _,none =>
  match O1 s 0 lo,O1 s len hi,szOf P e with
  | some a,some b,some n=>H5 (decide (0≤a∧a≤b∧b≤len)) (.slice (b.toNat - a.toNat) ((ds.take (b.toNat * n)).drop (a.toNat * n)) .no)
  | _,_,_=>none
 | some (.slice e),.slice len ds _,some m =>
  match O1 s 0 lo,hi,s.eval m,szOf P e with
  | some a,some h,.int _ c,some n =>
   match s.eval h with
   | .int _ b=>H5 (decide (0≤a∧a≤b∧b≤len∧b=c)) (.slice (b.toNat - a.toNat) ((ds.take (b.toNat * n)).drop (a.toNat * n)) .exact)
   | _=>none
  | _,_,_,_=>none
 | _,_,_=>none

def J6:Nat:=140737488355328

def a3d (P:Program) (s:St) (nid:Nat) (t:TypeId) (x y:D):Option J3 :=
 match P.underlying t,x,y with
 | some (.slice e),.slice len ds c,.slice m es _ =>
  match szOf P e,c0i P e,X5 P e with
  | some n,some b,some z =>
   bif Nat.beq z.length n && Nat.blt 0 n && G4 s nid then
    let need:=decide ((len+m) * b≤J6∧len+m≤J6∧ds.length=len * n∧es.length=m * n) && es.all D.one
    match c with
    | .exact=>some ⟨need,.slice (len+m) (ds ++ es) (.tok nid),[(nid,.tok (len+m) n)],[nid]⟩
    | .tok id =>
     match s.heap[id]? with
     | some (.tok l k)=>some ⟨need && Nat.beq l len && Nat.beq k n,.slice (len+m) (ds ++ es) (.tok nid),[(id,.dead),(nid,.tok (len+m) n)],[id,nid]⟩
     | _=>none
    | _=>none
   else none
  | _,_,_=>none
 | _,_,_=>none

def a35 (z:List D) (n:Nat):List D:=(List.range n).map fun i=>z.getD (i % z.length) .junk

def d9e:Operand→Operand→Bool
 | .tmp i,.tmp j=>Nat.beq i j
 | _,_=>false
def b4b (P:Program) (s:St) (nid:Nat) (t:TypeId) (same:Bool) (l c:D):Option J3 :=
 match P.underlying t,l,c with
 | some (.slice e),.int _ a,.int _ b =>
  match szOf P e,c0i P e,X5 P e with
  | some n,some by_,some z =>
   bif Nat.beq z.length n && Nat.blt 0 n then
    match same with
    | false=>Y1 s nid (decide (a=0∧0≤b∧b.toNat * by_≤J6∧b.toNat≤J6)) (.slice 0 [] (.tok nid)) (.tok 0 n)
    | true=>Y1 s nid (decide (0≤a∧a=b∧a.toNat * by_≤J6∧a.toNat≤J6)) (.bslice nid a.toNat) (.cells (a35 z (a.toNat * n)))
   else none
  | _,_,_=>none
 | _,_,_=>none

def O0 (ks:List K3) (key:List D):List D→Option (Option (Nat × D))
 | .agg k :: v :: kvs=>match u9 ks key k with
  | none=>none
  | some true=>some (some (0,v))
  | some false=>(O0 ks key kvs).map fun o=>o.map fun p=>(p.1+1,p.2)
 | []=>some none
 | _=>none
def c0b (P:Program) (t:TypeId):Option D:=(P.info? t).bind fun i=>i.zero.map fun v=>renI M5 (ofV v)
def a9e (X:Pr) (s:St) (t:TypeId) (ok:Bool):D→D→Option J3
 | .mapp id,.agg key=>match X.P.underlying t with
  | some (.map k e)=>match a1a k X.eqs,s.heap[id]? with
   | some ks,some (.map kvs)=>bif (u9 ks key key).isSome then
     match O0 ks key kvs with
     | some (some p)=>some ⟨true,cond ok (.tuple [p.2,.bool true]) p.2,[],[id]⟩
     | some none=>match c0b X.P e with
      | some z=>some ⟨true,cond ok (.tuple [z,.bool false]) z,[],[id]⟩
      | none=>none
     | none=>none
    else none
   | _,_=>none
  | _=>none
 | _,_=>none
def b46 (v:D):Nat→List D→List D
 | 0,k :: _ :: kvs=>k :: v :: kvs
 | n+1,k :: w :: kvs=>k :: w :: b46 v n kvs
 | _,l=>l
def a9f (X:Pr) (s:St) (t:TypeId) (v:D):D→D→Option J3
 | .mapp id,.agg key=>match X.P.underlying t with
  | some (.map k _)=>match a1a k X.eqs,s.heap[id]? with
   | some ks,some (.map kvs)=>bif (u9 ks key key).isSome then
     match O0 ks key kvs with
     | some (some p)=>some ⟨true,.tuple [],[(id,.map (b46 (renI M5 v) p.1 kvs))],[id]⟩
     | some none=>some ⟨true,.tuple [],[(id,.map (kvs ++ [.agg key,renI M5 v]))],[id]⟩
     | none=>none
    else none
   | _,_=>none
  | _=>none
 | _,_=>none

def B5 (X:Pr) (s:St) (nid:Nat):Op→Option J3
 | .move x | .assign x=>C9 (s.eval x)
 | .pick c a b=>match s.eval c with
  | .bool t=>C9 (cond t (s.eval a) (s.eval b))
  | _=>none
 | .alloc t=>match X5 X.P t with
  | some z=>Y1 s nid true (.ptr nid 0) (.cells z)
  | none=>none
 | .box _ x=>bif (s.eval x).ok then Y1 s nid true (.ptr nid 0) (.cells (s.eval x).cells) else none
 | .build t parts =>
  match X.P.underlying t,X5 X.P t with
  | some (.struct fs),some z =>
   match a3s (fun i=>(fs[i]?).bind fun f=>(szOf X.P f.type).map fun n=>(f.offset,n)) z (parts.toList.map fun p=>(p.1,s.eval p.2)) with
   | some ds=>H5 (fs.all fun f=>(szOf X.P f.type).isSome) (.agg ds)
   | none=>none
  | _,_=>none
 | .buildSlice t len parts =>
  match X.P.underlying t with
  | some (.slice e) =>
   match szOf X.P e,X5 X.P e with
   | some n,some z =>
    match a3s (fun i=>some (i * n,n)) (a35 z (len * n)) (parts.toList.map fun p=>(p.1,s.eval p.2)) with
    | some ds=>H5 (Nat.ble (len * n) 16777216) (.slice len (ds.map (renI M5)) .exact)
    | none=>none
   | _,_=>none
  | _=>none
 | .load t a=>match s.eval a with
  | .ptr id off=>match s.heap[id]? with
   | some (.cells ds)=>(U4 X.P t ds off).map fun d=>⟨true,d,[],[id]⟩
   | _=>none
  | .cref ds=>(U4 X.P t ds 0).map fun d=>⟨true,d,[],[]⟩
  | _=>none
 | .store t a x=>match s.eval a with
  | .ptr id off=>match s.heap[id]?,szOf X.P t with
   | some (.cells ds),some n =>
    let v:=s.eval x
    bif v.ok && Nat.beq v.cells.length n && v.cells.all D.one && Nat.ble (off+n) ds.length then some ⟨true,.tuple [],[(id,.cells (O6 ds off v.cells))],[id]⟩ else none
   | _,_=>none
  | _=>none
 | .nilCheck x=>match s.eval x with
  | .ptr id off=>C9 (.ptr id off)
  | .cref ds=>C9 (.cref ds)
  | .func (.func f) a b=>C9 (.func (.func f) a b)
  | _=>none
 | .binOp op t x y _=>R0 X op t (s.eval x) (s.eval y)
 | .unOp op _ x=>match op,s.eval x with
  | .not,.bool b=>C9 (.bool !b)
  | .neg,.int k n=>C9 (.int k (k.wrap (0 - n)))
  | _,_=>none
 | .convert src dst x=>b4a X.P src dst (s.eval x)
 | .makeInterface t x=>match X.P.underlying t with
  | some (.interface _)=>none
  | some _=>C9 (.iface t (s.eval x))
  | none=>none
 | .makeFunc fn first captured=>C9 (.func fn (first.toList.map s.eval) (captured.toList.map s.eval))
 | .makeSlice t l c=>b4b X.P s nid t (d9e l c) (s.eval l) (s.eval c)
 | .slice t x lo hi mx=>a6n X.P s t (s.eval x) lo hi mx
 | .fieldAddr t x f=>match X.P.underlying t with
  | some (.struct fs)=>match fs[f]? with
   | some fd=>match szOf X.P fd.type with
    | some (_+1)=>match s.eval x with
     | .ptr id off=>C9 (.ptr id (off+fd.offset))
     | .cref ds=>C9 (.cref (ds.drop fd.offset))
     | _=>none
    | _=>none
   | none=>none
  | _=>none
 | .field t x f=>match X.P.underlying t with
  | some (.struct fs)=>match fs[f]?,s.eval x with
   | some fd,.agg ds=>(U4 X.P fd.type ds fd.offset).bind C9
   | _,_=>none
  | _=>none
 | .indexAddr t x i=>match X.P.underlying t,s.eval x,s.eval i with
  | some (.slice e),.slice len ds _,.int _ k=>(szOf X.P e).bind fun n=>H5 (decide (0≤k∧k < len∧len * n≤ds.length∧0 < n)) (.cref ((ds.drop (k.toNat * n)).take n))
  | some (.slice e),.bslice id len,.int _ k=>(szOf X.P e).bind fun n=>H5 (decide (0≤k∧k < len)) (.ptr id (k.toNat * n))
  | _,_,_=>none
 | .index t x i=>match X.P.underlying t,s.eval x,s.eval i with
  | some .string,.str l,.int _ k=>H5 (decide (0≤k∧k < l.length)) (.int .u8 ((l.getD k.toNat 0).toNat:Int))
  | _,_,_=>none
 | .makeMap t none=>match X.P.underlying t with
  | some (.map _ _)=>Y1 s nid true (.mapp nid) (.map [])
  | _=>none
 | .lookup t x k ok=>a9e X s t ok (s.eval x) (s.eval k)
 | .mapUpdate t m k v=>a9f X s t (s.eval v) (s.eval m) (s.eval k)
 | .extract x i=>match s.eval x with
  | .tuple vs=>match vs[i]? with
   | some v=>C9 v
   | none=>none
  | _=>none
 | .call { callee:=.builtin b,args,argTypes } =>
  match b,args.toList,argTypes.toList with
  | .len,[x],[t]=>match X.P.underlying t,s.eval x with
   | some .string,.str l=>C9 (.int .i64 l.length)
   | some (.slice _),.slice n _ _=>C9 (.int .i64 n)
   | some (.slice _),.bslice _ n=>C9 (.int .i64 n)
   | _,_=>none
  | .max,[x,y],_=>match s.eval x,s.eval y with
   | .int k a,.int _ b=>C9 (.int k (if b > a then b else a))
   | _,_=>none
  | .min,[x,y],_=>match s.eval x,s.eval y with
   | .int k a,.int _ b=>C9 (.int k (if b < a then b else a))
   | _,_=>none
  | .append,[x,y],[t,u]=>bif Nat.beq t u then a3d X.P s nid t (s.eval x) (s.eval y) else none
  | _,_,_=>none
 | _=>none

structure A9 (X:Pr) (dfs:List Deferred) (w0:World) (S0:B6) (M0:Mp) (S:B6) (M:Mp) (w:World) (a:Act) (s:St):Prop where
 env:C4 S M w a.tmps.toList s.tmps
 heap:a89 S M w s.heap
 defers:a.defers=dfs
 within:S.within w
 grown:S0.grown S w0
 keep:a29 w0 M0 w
 map:∀ i x,M0 i=some x→M i=some x
 own:∀ i b c,M i=some (b,c)→(∃ j k,M0 j=some (b,k))∨w0.heap.size≤b
 glob:X.G.pred w
 gN:∀ i b c,M i=some (b,c)→X.G.N≤b
 mlt:∀ i b c,M i=some (b,c)→b < w.heap.size
 g0:X.G.N≤w0.heap.size
 tnew:∀ id l n b k,s.heap[id]?=some (.tok l n)→M id=some (b,k)→w0.heap.size≤b
 bnew:∀ id b c,M id=some (b,c+1)→w0.heap.size≤b

theorem a6l {w w':World} {b o:Nat} (h:w'.heap[b]?=w.heap[b]?):w'.cell? ⟨b,o,none⟩=w.cell? ⟨b,o,none⟩:=by
 unfold World.cell?;rw [h]

theorem Q7.of_blocks {S:B6} {M:Mp} {w w':World} (h:∀ b o,S b o→w'.heap[b]?=w.heap[b]?):Q7 S M w S M w' :=
 ⟨fun _ _ h=>h,fun b o hs=>a6l (h b o hs),fun _ _ h=>h⟩

theorem a2d.ext {S:B6} {M:Mp} {w w':World} {id:Nat} {x:C5} (e:Q7 S M w S M w') (hb:∀ b k,M id=some (b,k)→x.live=true→w'.heap[b]?=w.heap[b]?) (h:a2d S M w id x):a2d S M w' id x:=by
 cases x with
 | cells ds=>obtain ⟨b,k,c,t,h1,h2,h3,h4⟩:=h;exact ⟨b,k,c,t,h1,(hb b k h1 rfl).trans h2,h3.ext e,h4⟩
 | tok len size=>intro b k h1;obtain ⟨c,t,h2,h3,h4⟩:=h b k h1;exact ⟨c,t,(hb b k h1 rfl).trans h2,h3,h4⟩
 | map kvs=>obtain ⟨b,k,es,cl,h1,h2,h3⟩:=h;exact ⟨b,k,es,cl,h1,(hb b k h1 rfl).trans h2,h3.ext e.no⟩
 | dead=>trivial
 | free=>exact h

theorem a29.refl (w:World) (M:Mp):a29 w M w:=⟨rfl,rfl,rfl,Nat.le_refl _,fun _ _ _=>rfl⟩

section
variable {X:Pr} {dfs:List Deferred} {w0:World} {S0:B6} {M0:Mp} {S:B6} {M:Mp} {w:World} {a:Act} {s:St}

theorem A9.world (h:A9 X dfs w0 S0 M0 S M w a s) {w':World} (hos:w'.os=w.os) (ht:w'.tape=w.tape) (ho:w'.output=w.output) (hs:w.heap.size≤w'.heap.size)
  (hb:∀ b,b < w.heap.size→w'.heap[b]?=w.heap[b]?):A9 X dfs w0 S0 M0 S M w' a s:=by
 have e:Q7 S M w S M w':=.of_blocks fun b o hS=>hb b (h.within b o hS);refine ⟨h.env.ext e,⟨fun id b hid=>(h.heap.box id b hid).ext e fun b k hm _=>hb b (h.mlt _ _ _ hm),h.heap.out,h.heap.apart⟩,h.defers,fun b o hS=>Nat.lt_of_lt_of_le (h.within b o hS) hs,h.grown,
  ⟨hos.trans h.keep.os,ht.trans h.keep.tape,ho.trans h.keep.output,Nat.le_trans h.keep.size hs,fun k hk hm=>(hb k (Nat.lt_of_lt_of_le hk h.keep.size)).trans (h.keep.block k hk hm)⟩,
  h.map,h.own,?_,h.gN,fun i b c hm=>Nat.lt_of_lt_of_le (h.mlt i b c hm) hs,h.g0,h.tnew,h.bnew⟩
 exact X.G.stable w w' h.glob fun b hb'=>hb b (Nat.lt_of_lt_of_le hb' (X.G.size w h.glob))

theorem A9.push (h:A9 X dfs w0 S0 M0 S M w a s) (o:Obj):A9 X dfs w0 S0 M0 S M { w with heap:=w.heap.push o } a s :=
 h.world rfl rfl rfl (by simp) fun b hb=>by simp [Array.getElem?_push];omega

theorem A9.drew (h:A9 X dfs w0 S0 M0 S M w a s) (n:Nat):A9 X dfs w0 S0 M0 S M { w with drawn:=n } a s :=
 h.world rfl rfl rfl (Nat.le_refl _) fun _ _=>rfl

theorem A9.protect (h:A9 X dfs w0 S0 M0 S M w a s) (T:B6) (hT:∀ b o,T b o→w0.heap.size≤b∧b < w.heap.size)
  (hc:∀ id ds b k,s.heap[id]?=some (.cells ds)→M id=some (b,k)→∀ o,¬T b o)
  (ht:∀ id l n b k,s.heap[id]?=some (.tok l n)→M id=some (b,k)→∀ o,l * n≤o→¬T b o):A9 X dfs w0 S0 M0 (fun b o=>S b o∨T b o) M w a s:=by
 have e:Q7 S M w (fun b o=>S b o∨T b o) M w:=⟨fun _ _ h=>.inl h,fun _ _ _=>rfl,fun _ _ h=>h⟩;refine ⟨h.env.ext e,⟨fun id x hid=>?_,h.heap.out,h.heap.apart⟩,h.defers,fun b o hS=>hS.elim (h.within b o) fun k=>(hT b o k).2,
  ⟨fun b o hS=>.inl (h.grown.1 b o hS),fun b o hS=>hS.elim (h.grown.2 b o) fun k=>.inr (hT b o k).1⟩,h.keep,h.map,h.own,h.glob,h.gN,h.mlt,h.g0,h.tnew,h.bnew⟩
 have hb:=h.heap.box id x hid;cases x with
 | cells ds=>obtain ⟨b,k,c,t,h1,h2,h3,h4⟩:=hb;exact ⟨b,k,c,t,h1,h2,h3.ext e,fun o ho=>ho.elim (h4 o) (hc id ds b k hid h1 o)⟩
 | tok len size=>intro b k h1;obtain ⟨c,t,h2,h3,h4⟩:=hb b k h1;exact ⟨c,t,h2,h3,fun o hl ho=>ho.elim (h4 o hl) (ht id len size b k hid h1 o hl)⟩
 | map kvs=>obtain ⟨b,k,es,cl,h1,h2,h3⟩:=hb;exact ⟨b,k,es,cl,h1,h2,h3.ext e.no⟩
 | dead=>trivial
 | free=>exact hb

def upd (M:Mp) (i:Nat) (x:Nat × Nat):Mp:=fun j=>if j=i then some x else M j
theorem L5 (M:Mp) (i:Nat) (x:Nat × Nat):upd M i x i=some x:=by simp [upd]
theorem a96 (M:Mp) {i j:Nat} (x:Nat × Nat) (h:j ≠ i):upd M i x j=M j:=by simp [upd,h]

theorem A9.take (h:A9 X dfs w0 S0 M0 S M w a s) {nid:Nat} (hf:s.heap[nid]?=some .free) {b k:Nat} (hb:w0.heap.size≤b) (hbw:b < w.heap.size)
  (hno:∀ i x c,s.heap[i]?=some x→x.live=true→M i ≠ some (b,c)) {x:C5} (hx:a2d S (upd M nid (b,k)) w nid x) :
  Q7 S M w S (upd M nid (b,k)) w∧A9 X dfs w0 S0 M0 S (upd M nid (b,k)) w a { s with heap:=s.heap.set nid x }:=by
 have hm:M nid=none:=h.heap.box nid _ hf;have hlt:nid < s.heap.length:=(List.getElem?_eq_some_iff.1 hf).1;have hmap:∀ i y,M i=some y→upd M nid (b,k) i=some y:=fun i y hi=>by
  rw [a96];exact hi;intro e;rw [e,hm] at hi;cases hi
 have e:Q7 S M w S (upd M nid (b,k)) w:=⟨fun _ _ h=>h,fun _ _ _=>rfl,hmap⟩;have hback:∀ i c,i ≠ nid→upd M nid (b,k) i=some c→M i=some c:=fun i c hi hc=>by rwa [a96 _ _ hi] at hc
 refine ⟨e,⟨h.env.ext e,⟨fun id y hid=>?_,fun id hid=>?_,fun i j y z b' k' l' hi hj hy hz hmi hmj=>?_⟩,h.defers,h.within,h.grown,h.keep,fun i y hi=>hmap i y (h.map i y hi),fun i b' c hi=>?_,h.glob,fun i b' c hi=>?_,fun i b' c hi=>?_,h.g0,fun i l n b' k' hi hm'=>?_,fun i b' c hi=>?_⟩⟩
 ·by_cases hi:id=nid
  ·subst hi;rw [List.getElem?_set_self hlt] at hid;injection hid with hid;rw [← hid];exact hx
  ·rw [List.getElem?_set_ne (fun e=>hi e.symm)] at hid;have hb':=h.heap.box id y hid;cases y with
   | cells ds=>obtain ⟨b',k',c,t,h1,h2,h3,h4⟩:=hb';exact ⟨b',k',c,t,hmap _ _ h1,h2,h3.ext e,h4⟩
   | tok len size=>intro b' k' h1;exact hb' b' k' (hback _ _ hi h1)
   | map kvs=>obtain ⟨b',k',es,cl,h1,h2,h3⟩:=hb';exact ⟨b',k',es,cl,hmap _ _ h1,h2,h3⟩
   | dead=>trivial
   | free=>show upd M nid (b,k) id=none;rw [a96 _ _ hi];exact hb'
 ·rw [a96]
  ·exact h.heap.out id (by simpa using hid)
  ·intro e;rw [e] at hid;simp at hid;omega
 ·by_cases hi':i=nid
  ·subst hi';by_cases hj':j=i
   ·exact hj'.symm
   ·rw [L5] at hmi;injection hmi with hmi;injection hmi with hmi;rw [List.getElem?_set_ne (fun e=>hj' e.symm)] at hj;exact absurd (hmi ▸ hback _ _ hj' hmj) (hno j z l' hj hz)
  ·by_cases hj':j=nid
   ·subst hj';rw [L5] at hmj;injection hmj with hmj;injection hmj with hmj;rw [List.getElem?_set_ne (fun e=>hi' e.symm)] at hi;exact absurd (hmj ▸ hback _ _ hi' hmi) (hno i y k' hi hy)
   ·rw [List.getElem?_set_ne (fun e=>hi' e.symm)] at hi;rw [List.getElem?_set_ne (fun e=>hj' e.symm)] at hj;exact h.heap.apart i j y z b' k' l' hi hj hy hz (hback _ _ hi' hmi) (hback _ _ hj' hmj)
 ·by_cases hi':i=nid
  ·subst hi';rw [L5] at hi;injection hi with hi;injection hi with hi;exact .inr (hi ▸ hb)
  ·exact h.own i b' c (hback _ _ hi' hi)
 ·by_cases hi':i=nid
  ·subst hi';rw [L5] at hi;injection hi with hi;injection hi with hi;exact hi ▸ Nat.le_trans h.g0 hb
  ·exact h.gN i b' c (hback _ _ hi' hi)
 ·by_cases hi':i=nid
  ·subst hi';rw [L5] at hi;injection hi with hi;injection hi with hi;exact hi ▸ hbw
  ·exact h.mlt i b' c (hback _ _ hi' hi)
 ·by_cases hi':i=nid
  ·subst hi';rw [L5] at hm';injection hm' with hm';injection hm' with hm';exact hm' ▸ hb
  ·rw [List.getElem?_set_ne (fun e=>hi' e.symm)] at hi;exact h.tnew i l n b' k' hi (hback _ _ hi' hm')
 ·by_cases hi':i=nid
  ·subst hi';rw [L5] at hi;injection hi with hi;injection hi with hi;exact hi ▸ hb
  ·exact h.bnew i b' c (hback _ _ hi' hi)

theorem A9.row (h:A9 X dfs w0 S0 M0 S M w a s) {id b k:Nat} {y:C5} (hid:s.heap[id]?=some y) (hy:y.live=true) (hm:M id=some (b,k)) {c c':Array Value} {t:TypeId} (hc:w.heap[b]?=some (.cells c t (0,0)))
  (hk:∀ o,S b o→c'[o]?=c[o]?) (x:C5) (hx:a2d S M (w.setRow b c') id x) (hl:x.live=true→y.live=true) (hxt:∀ l n,x=.tok l n→w0.heap.size≤b) :
  Q7 S M w S M (w.setRow b c')∧A9 X dfs w0 S0 M0 S M (w.setRow b c') a { s with heap:=s.heap.set id x }:=by
 have hlt:id < s.heap.length:=(List.getElem?_eq_some_iff.1 hid).1;have e:Q7 S M w S M (w.setRow b c'):=by
  refine ⟨fun _ _ h=>h,fun b' o hS=>?_,fun _ _ h=>h⟩;by_cases hb:b'=b
  ·subst hb;rw [cell_setRow_same w b' o c c' t (0,0) hc,hk o hS];unfold World.cell?;rw [hc];rfl
  ·exact cell_setRow_other w b c' _ hb
 have hoth:∀ j z b' k',j ≠ id→s.heap[j]?=some z→z.live=true→M j=some (b',k')→(w.setRow b c').heap[b']?=w.heap[b']?:=fun j z b' k' hj hz hl' hmj =>
  setRow_other w b b' c' fun e=>hj (h.heap.apart j id z y b k' k hz hid hl' hy (e ▸ hmj) hm)
 refine ⟨e,⟨h.env.ext e,⟨fun j z hj=>?_,fun j hj=>h.heap.out j (by simpa using hj),fun i j u v b' k' l' hi hj hu hv hmi hmj=>?_⟩,h.defers,fun b' o hS=>by rw [size_setRow];exact h.within b' o hS,h.grown,?_,h.map,h.own,?_,h.gN,fun i b' c hi=>by rw [size_setRow];exact h.mlt i b' c hi,h.g0,fun i l n b' k' hi hm'=>?_,h.bnew⟩⟩
 ·by_cases hi:j=id
  ·subst hi;rw [List.getElem?_set_self hlt] at hj;injection hj with hj;exact hj ▸ hx
  ·rw [List.getElem?_set_ne (fun e=>hi e.symm)] at hj;exact (h.heap.box j z hj).ext e fun b' k' hmj hl'=>hoth j z b' k' hi hj hl' hmj
 ·have fix:∀ (i:Nat) (u:C5),(s.heap.set id x)[i]?=some u→u.live=true→∃ u':C5,s.heap[i]?=some u'∧u'.live=true:=by
   intro i u hi hu;by_cases hii:i=id
   ·subst hii;rw [List.getElem?_set_self hlt] at hi;injection hi with hi;exact ⟨y,hid,hl (hi ▸ hu)⟩
   ·rw [List.getElem?_set_ne (fun e=>hii e.symm)] at hi;exact ⟨u,hi,hu⟩
  obtain ⟨u',hi',hu'⟩:=fix i u hi hu;obtain ⟨v',hj',hv'⟩:=fix j v hj hv;exact h.heap.apart i j u' v' b' k' l' hi' hj' hu' hv' hmi hmj
 ·refine ⟨h.keep.os,h.keep.tape,h.keep.output,by rw [size_setRow];exact h.keep.size,fun q hq hM=>?_⟩;rw [setRow_other,h.keep.block q hq hM];intro e;rcases h.own id b k hm with ⟨j,k',hj⟩ | hge
  ·exact hM j k' (e ▸ hj)
  ·omega
 ·refine X.G.stable w _ h.glob fun q hq=>setRow_other w b q c' fun e=>?_;have:=h.gN id b k hm;omega
 ·by_cases hi':i=id
  ·subst hi';rw [List.getElem?_set_self hlt] at hi;injection hi with hi;rw [hm] at hm';injection hm' with hm';injection hm' with hm';exact hm' ▸ hxt l n hi
  ·rw [List.getElem?_set_ne (fun e=>hi' e.symm)] at hi;exact h.tnew i l n b' k' hi hm'

theorem A9.kill (h:A9 X dfs w0 S0 M0 S M w a s) {id:Nat} {y:C5} (hid:s.heap[id]?=some y) (_hy:y.live=true):A9 X dfs w0 S0 M0 S M w a { s with heap:=s.heap.set id .dead }:=by
 have hlt:id < s.heap.length:=(List.getElem?_eq_some_iff.1 hid).1;refine ⟨h.env,⟨fun j z hj=>?_,fun j hj=>h.heap.out j (by simpa using hj),fun i j u v b' k' l' hi hj hu hv hmi hmj=>?_⟩,h.defers,h.within,h.grown,h.keep,h.map,h.own,h.glob,h.gN,h.mlt,h.g0,fun i l n b' k' hi hm'=>?_,h.bnew⟩
 ·by_cases hi:j=id
  ·subst hi;rw [List.getElem?_set_self hlt] at hj;injection hj with hj;subst hj;trivial
  ·rw [List.getElem?_set_ne (fun e=>hi e.symm)] at hj;exact h.heap.box j z hj
 ·have fix:∀ (i:Nat) (u:C5),(s.heap.set id C5.dead)[i]?=some u→u.live=true→s.heap[i]?=some u:=by
   intro i u hi hu;by_cases hii:i=id
   ·subst hii;rw [List.getElem?_set_self hlt] at hi;injection hi with hi;rw [← hi] at hu;cases hu
   ·rw [List.getElem?_set_ne (fun e=>hii e.symm)] at hi;exact hi
  exact h.heap.apart i j u v b' k' l' (fix i u hi hu) (fix j v hj hv) hu hv hmi hmj
 ·by_cases hi':i=id
  ·subst hi';rw [List.getElem?_set_self hlt] at hi;injection hi with hi;cases hi
  ·rw [List.getElem?_set_ne (fun e=>hi' e.symm)] at hi;exact h.tnew i l n b' k' hi hm'

theorem A9.blank (h:A9 X dfs w0 S0 M0 S M w a s) {nid l n:Nat} (hf:s.heap[nid]?=some .free):A9 X dfs w0 S0 M0 S M w a { s with heap:=s.heap.set nid (.tok l n) }:=by
 have hlt:nid < s.heap.length:=(List.getElem?_eq_some_iff.1 hf).1;have hm:M nid=none:=h.heap.box nid _ hf;refine ⟨h.env,⟨fun j z hj=>?_,fun j hj=>h.heap.out j (by simpa using hj),fun i j u v b' k' l' hi hj hu hv hmi hmj=>?_⟩,h.defers,h.within,h.grown,h.keep,h.map,h.own,h.glob,h.gN,h.mlt,h.g0,fun i l' n' b' k' hi hm'=>?_,h.bnew⟩
 ·by_cases hi:j=nid
  ·subst hi;rw [List.getElem?_set_self hlt] at hj;injection hj with hj;subst hj;intro b k hb;rw [hm] at hb;cases hb
  ·rw [List.getElem?_set_ne (fun e=>hi e.symm)] at hj;exact h.heap.box j z hj
 ·have fix:∀ (i:Nat) (u:C5) (x:Nat × Nat),(s.heap.set nid (C5.tok l n))[i]?=some u→M i=some x→s.heap[i]?=some u:=by
   intro i u x hi hx;by_cases hii:i=nid
   ·subst hii;rw [hm] at hx;cases hx
   ·rw [List.getElem?_set_ne (fun e=>hii e.symm)] at hi;exact hi
  exact h.heap.apart i j u v b' k' l' (fix i u _ hi hmi) (fix j v _ hj hmj) hu hv hmi hmj
 ·by_cases hi':i=nid
  ·subst hi';rw [hm] at hm';cases hm'
  ·rw [List.getElem?_set_ne (fun e=>hi' e.symm)] at hi;exact h.tnew i l' n' b' k' hi hm'

theorem A9.put (h:A9 X dfs w0 S0 M0 S M w a s) (dst:Option Tmp) {v:Value} {d:D} (hv:Rd S M w v d):A9 X dfs w0 S0 M0 S M w (a.put dst v) (s.put dst d):=by
 cases dst with
 | none=>exact h
 | some t =>
  refine ⟨?_,h.heap,h.defers,h.within,h.grown,h.keep,h.map,h.own,h.glob,h.gN,h.mlt,h.g0,h.tnew,h.bnew⟩;show C4 S M w (a.tmps.setIfInBounds t v).toList (s.tmps.set t d);rw [Array.toList_setIfInBounds];exact h.env.set t hv

theorem c1g (v:Value):Rd S M w v (a0r v):=by
 unfold a0r;split
 ·exact .bool _
 ·exact .int _ _
 ·exact .str _ _ rfl
 ·exact .nilp
 ·exact .slice none 0 0 [] [] .exact (.inl rfl) .nil rfl (Nat.le_refl _) (fun _=>rfl)
 ·exact .nilIface
 ·exact .junk _
theorem a6x:∀ (vs:List Value),C4 S M w vs (vs.map a0r)
 | []=>.nil
 | v :: vs=>.cons _ _ _ _ (c1g v) (a6x vs)
theorem c77 (v:Value):Rd S M w v (ofV v):=by
 unfold ofV;split
 ·exact .agg _ _ (a6x _)
 ·exact .tuple _ _ (a6x _)
 ·split
  ·rename_i h1 h2;exact .func _ _ _ [] [] (by rw [h1];exact .nil) (by rw [h2];exact .nil)
  ·exact .junk _
 ·exact c1g _

def N2 (f:Nat→Option Nat) (M M':Mp):Prop:=∀ i j b c,f i=some j→M i=some (b,c)→∃ c',M' j=some (b,c')
theorem N2.no (M M':Mp):N2 M5 M M':=fun _ _ _ _ h=>by cases h
theorem c1h {f:Nat→Option Nat} {M':Mp} (hf:N2 f M M') {v:Value} {d:D} (h:Rd S M w v d):Rd S M' w v (Q4 f d):=by
 cases h with
 | bool b=>exact .bool b
 | int k n=>exact .int k n
 | str s l e=>exact .str s l e
 | slice base len cap vs ds c a r k l z =>
  cases c with
  | no=>exact .slice _ _ _ _ _ _ a r trivial l z
  | exact=>exact .slice _ _ _ _ _ _ a r trivial l z
  | tok id=>exact .slice _ _ _ _ _ _ a r trivial l z
  | fr k=>exact .slice _ _ _ _ _ _ a r trivial l z
 | agg vs ds r=>exact .junk _
 | tuple vs ds r=>exact .junk _
 | ptr id off b c hi =>
  show Rd S M' w _ (match f id with | some j=>D.ptr j off | none=>.junk);cases hj:f id with
  | none=>exact .junk _
  | some j=>obtain ⟨c',hc'⟩:=hf id j b c hj hi;exact .ptr j off b c' hc'
 | cref b o vs ds a r=>exact .cref b o vs ds a r
 | mapp id b c hi =>
  show Rd S M' w _ (match f id with | some j=>D.mapp j | none=>.junk);cases hj:f id with
  | none=>exact .junk _
  | some j=>obtain ⟨c',hc'⟩:=hf id j b c hj hi;exact .mapp j b c' hc'
 | bslice id len b c hi=>exact .junk _
 | nilp=>exact .nilp
 | iface t v d r=>exact .junk _
 | nilIface=>exact .nilIface
 | func fn f c fs cs r k=>exact .junk _
 | junk v=>exact .junk v
 | any v h=>exact .any v h
theorem L3 {M':Mp} {g:D→D} (hg:∀ v d,Rd S M w v d→Rd S M' w v (g d)):∀ {vs:List Value} {ds:List D},C4 S M w vs ds→C4 S M' w vs (ds.map g)
 | _,_,.nil=>.nil
 | _,_,.cons v d vs ds r k=>.cons _ _ _ _ (hg v d r) (L3 hg k)
theorem d14 {f:Nat→Option Nat} {M':Mp} (hf:N2 f M M') {v:Value} {d:D} (h:Rd S M w v d):Rd S M' w v (a82 f d):=by
 unfold a82;split
 ·cases h with
  | func fn first captured fs cs r k=>exact .func _ _ _ _ _ (L3 (fun _ _=>c1h hf) r) (L3 (fun _ _=>c1h hf) k)
 ·exact c1h hf h
theorem c1i {f:Nat→Option Nat} {M':Mp} (hf:N2 f M M') {v:Value} {d:D} (h:Rd S M w v d):Rd S M' w v (a6z f d):=by
 unfold a6z;split
 ·cases h with
  | agg vs ds r=>exact .agg _ _ (L3 (fun _ _=>d14 hf) r)
 ·exact d14 hf h
theorem X1 {f:Nat→Option Nat} {M':Mp} (hf:N2 f M M') {v:Value} {d:D} (h:Rd S M w v d):Rd S M' w v (renI f d):=by
 unfold renI;split
 ·cases h with
  | iface t v d r=>exact .iface _ _ _ (c1i hf r)
 ·exact c1i hf h
theorem b9e {f:Nat→Option Nat} {M':Mp} (hf:N2 f M M') {v:Value} {d:D} (h:Rd S M w v d):Rd S M' w v (ren f d):=by
 unfold ren;split
 ·cases h with
  | tuple vs ds r=>exact .tuple _ _ (L3 (fun _ _=>X1 hf) r)
 ·exact X1 hf h

theorem A9.eval (h:A9 X dfs w0 S0 M0 S M w a s) (x:Operand):Rd S M w (a.eval x) (s.eval x):=by
 cases x with
 | tmp t =>
  show Rd S M w (a.tmps.getD t undef) (s.tmps.getD t .junk);cases hd:s.tmps[t]? with
  | none=>rw [List.getD_eq_getElem?_getD,hd];exact .junk _
  | some d =>
   obtain ⟨v,hv,hr⟩:=h.env.get' t d hd;rw [List.getD_eq_getElem?_getD,hd];have:a.tmps.getD t undef=v:=by
    simp at hv;simp [Array.getD_eq_getD_getElem?,hv]
   rw [this];exact hr
 | const v=>exact c77 v
 | global g=>exact .junk _
 | func f=>exact .func _ _ _ [] [] .nil .nil
end
def St.lay (s:St) (ws:List (Nat × C5)):St:={ s with heap:=ws.foldl (fun h x=>h.set x.1 x.2) s.heap }

def J9 (X:Pr) (dfs:List Deferred) (w0:World) (S0:B6) (M0:Mp) (w:World) (a:Act) (s:St) (r:Result Next) (out:J3):Prop :=
 ∃ nx v S' M' w',r=.ok nx w'∧(nx=.value v∨(nx=.skip∧v=undef))∧A9 X dfs w0 S0 M0 S' M' w' a (s.lay out.ws)∧Rd S' M' w' v out.val

section
variable {X:Pr} {dfs:List Deferred} {w0:World} {S0:B6} {M0:Mp} {S:B6} {M:Mp} {w:World} {a:Act} {s:St}

theorem A4 (h:A9 X dfs w0 S0 M0 S M w a s) {r:Result Next} {v:Value} {d:D} {b:Bool} {rs:List Nat} (hr:r=.ok (.value v) w) (hv:Rd S M w v d):J9 X dfs w0 S0 M0 w a s r ⟨b,d,[],rs⟩ :=
 ⟨_,v,S,M,w,hr,.inl rfl,h,hv⟩

theorem E2 {d:D} {out:J3} (h:C9 d=some out):out=⟨true,d,[],[]⟩:=by injection h with h;exact h.symm
theorem J5 {b:Bool} {d:D} {out:J3} (h:H5 b d=some out):out=⟨b,d,[],[]⟩:=by injection h with h;exact h.symm
theorem a17 {nid:Nat} {b:Bool} {d:D} {x:C5} {out:J3} (h:Y1 s nid b d x=some out):s.heap[nid]?=some .free∧out=⟨b,d,[(nid,x)],[nid]⟩:=by
 unfold Y1 at h;cases hf:G4 s nid with
 | false=>rw [hf] at h;cases h
 | true =>
  rw [hf] at h;injection h with h;refine ⟨?_,h.symm⟩;unfold G4 at hf;split at hf
  ·assumption
  ·cases hf

theorem a1s (b o n:Nat):(⟨b,o,none⟩:Addr).add n=⟨b,o+n,none⟩:=by
 unfold Addr.add;split
 ·rename_i h;rw [h];rfl
 ·rfl

theorem b6l (h:A9 X dfs w0 S0 M0 S M w a s) {nid:Nat} (hf:s.heap[nid]?=some .free) {c:Array Value} {t:TypeId} {ds:List D} (hc:C4 S M w c.toList ds) (k:Nat) {r:Result Next} {b:Bool} {rs:List Nat} {d:D} {u:Value} (hu:∀ M',M' nid=some (w.heap.size,k)→Rd S M' { w with heap:=w.heap.push (.cells c t) } u d)
  (hr:r=.ok (.value u) { w with heap:=w.heap.push (.cells c t) }):J9 X dfs w0 S0 M0 w a s r ⟨b,d,[(nid,.cells ds)],rs⟩:=by
 have h1:=h.push (.cells c t);have e:Q7 S M w S M { w with heap:=w.heap.push (.cells c t) }:=.of_blocks fun b o hS=>by
  have:=h.within b o hS;simp [Array.getElem?_push];omega
 have hn:w.heap[w.heap.size]?=none:=by simp
 obtain ⟨_,h2⟩:=h1.take (k:=k) hf (b:=w.heap.size) h.keep.size (by simp) (fun i x c hi hl hm=>by have:=h.mlt i _ _ hm;omega) (x:=.cells ds)
  (by
   refine ⟨w.heap.size,k,c,t,L5 _ _ _,by simp,?_,fun o hS=>by have:=h.within _ o hS;omega⟩;exact (hc.ext e).ext ⟨fun _ _ h=>h,fun _ _ _=>rfl,fun i y hi=>by
    rw [a96];exact hi;intro e;rw [e] at hi;have:=h.heap.box nid _ hf;rw [this] at hi;cases hi⟩)
 exact ⟨_,_,S,_,_,hr,.inl rfl,h2,hu _ (L5 _ _ _)⟩

theorem run_typeInfo' {P:Program} {t:TypeId} {i:TypeInfo} (h:P.info? t=some i) (w:World):(typeInfo t).run P w=.ok i w:=by simp [typeInfo,h]
theorem run_sizeOf' {P:Program} {t:TypeId} {n:Nat} (h:szOf P t=some n) (w:World):(sizeOf t).run P w=.ok n w:=by
 unfold szOf at h;cases hi:P.info? t with
 | none=>rw [hi] at h;cases h
 | some i=>rw [hi] at h;injection h with h;simp [sizeOf,run_typeInfo' hi,h]
theorem c3g {P:Program} {t:TypeId} {n:Nat} (h:c0i P t=some n):∃ i,P.info? t=some i∧i.bytes=n:=by
 unfold c0i at h;cases hi:P.info? t with
 | none=>rw [hi] at h;cases h
 | some i=>rw [hi] at h;injection h with h;exact ⟨i,rfl,h⟩
theorem run_isAgg {P:Program} {t:TypeId} {b:Bool} (h:aggOf P t=some b) (w:World):(isAgg t).run P w=.ok b w:=by
 unfold aggOf at h;cases hi:P.underlying t with
 | none=>rw [hi] at h;cases h
 | some d =>
  rw [hi] at h;injection h with h;simp only [isAgg,Sem.run_bind,run_underlying hi,Result.andThen_ok];rw [← h];cases d <;> rfl
theorem b7h {P:Program} {t:TypeId} {z:List D} (h:X5 P t=some z):∃ v:Value,(∀ w,(zeroValue t).run P w=.ok v w)∧z=v.cells.toList.map a0r:=by
 unfold X5 at h;cases hi:P.info? t with
 | none=>rw [hi] at h;cases h
 | some i =>
  rw [hi] at h;simp only [Option.bind_some] at h;cases hz:i.zero with
  | none=>rw [hz] at h;cases h
  | some v =>
   rw [hz] at h;injection h with h;exact ⟨v,fun w=>by simp [zeroValue,run_typeInfo' hi,hz],h.symm⟩

theorem d8v {P:Program} {b o n:Nat} {c:Array Value} {t:TypeId} {fr:Nat × Nat} (hb:w.heap[b]?=some (.cells c t fr)) (hn:o+n≤c.size) :
  (loadCells ⟨b,o,none⟩ n).run P w=.ok ((c.toList.drop o).take n).toArray w:=by
 have:=run_loadCells_list (P:=P) w ⟨b,o,none⟩ ((c.toList.drop o).take n) (fun j v hj=>by
  rw [a1s];unfold World.cell?;rw [hb];simp only [Option.isSome_none,Bool.false_eq_true,if_false];have hj':j < n:=by
   rcases Nat.lt_or_ge j n with h | h
   ·exact h
   ·rw [List.getElem?_take,if_neg oM] at hj;cases hj
  rw [List.getElem?_take_of_lt hj',List.getElem?_drop] at hj;simpa using hj)
 have hl:((c.toList.drop o).take n).length=n:=by simp;omega
 rw [hl] at this;exact this

theorem c8g {P:Program} {b o:Nat} {vs:List Value} (hs:a8f S w (some ⟨b,o,none⟩) vs) (j n:Nat) (hn:j+n≤vs.length) :
  (loadCells ⟨b,o+j,none⟩ n).run P w=.ok ((vs.drop j).take n).toArray w:=by
 have:=run_loadCells_list (P:=P) w ⟨b,o+j,none⟩ ((vs.drop j).take n) (fun i v hj=>by
  rw [a1s];have hj':i < n:=by
   rcases Nat.lt_or_ge i n with h | h
   ·exact h
   ·rw [List.getElem?_take,if_neg oM] at hj;cases hj
  rw [List.getElem?_take_of_lt hj',List.getElem?_drop] at hj;rcases hs with hs | ⟨b',o',he,hs⟩
  ·rw [hs] at hj;simp at hj
  ·injection he with he;injection he with h1 h2;subst h1 h2;have:=(hs (j+i) v hj).2;rw [← this];simp [Nat.add_assoc])
 have hl:((vs.drop j).take n).length=n:=by simp;omega
 rw [hl] at this;exact this

theorem b9f {P:Program} {t:TypeId} {ds:List D} {off:Nat} {d:D} (h:U4 P t ds off=some d) {b:Nat} {c:Array Value} {ty:TypeId} {fr:Nat × Nat} (hb:w.heap[b]?=some (.cells c ty fr))
  (hr:C4 S M w c.toList ds):∃ v,(loadVar t ⟨b,off,none⟩).run P w=.ok v w∧Rd S M w v d:=by
 unfold U4 at h;have hlen:c.size=ds.length:=by have:=hr.length;simpa using this
 cases hag:aggOf P t with
 | none=>rw [hag] at h;cases hs:szOf P t <;> rw [hs] at h <;> cases h
 | some ag =>
  cases ag with
  | true =>
   cases hs:szOf P t with
   | none=>rw [hag,hs] at h;cases h
   | some n =>
    rw [hag,hs] at h;simp only [] at h;cases hle:Nat.ble (off+n) ds.length with
    | false=>rw [hle] at h;cases h
    | true =>
     rw [hle] at h;injection h with h;have hle':off+n≤ds.length:=Nat.le_of_ble_eq_true hle;refine ⟨.agg ((c.toList.drop off).take n).toArray,?_,h ▸ .agg _ _ ((hr.drop off).take n)⟩;simp [loadVar,run_isAgg hag,run_sizeOf' hs,d8v (P:=P) hb (by omega:off+n≤c.size)]
  | false =>
   rw [hag] at h;simp only [] at h;obtain ⟨v,hv,hd⟩:=hr.get' off d h;refine ⟨v,?_,hd⟩;have hc:w.cell? ⟨b,off,none⟩=some v:=by unfold World.cell?;rw [hb];simpa using hv
   simp [loadVar,run_isAgg hag,hc]

theorem c93 {P:Program} {t:TypeId} {ds:List D} {d:D} (h:U4 P t ds 0=some d) {b o:Nat} {vs:List Value} (hs:a8f S w (some ⟨b,o,none⟩) vs)
  (hr0:C4 S H4 w vs ds):∃ v,(loadVar t ⟨b,o,none⟩).run P w=.ok v w∧Rd S M w v d:=by
 unfold U4 at h;have hr:C4 S M w vs ds:=hr0.of_no;have hlen:=hr.length;cases hag:aggOf P t with
 | none=>rw [hag] at h;cases hs:szOf P t <;> rw [hs] at h <;> cases h
 | some ag =>
  cases ag with
  | true =>
   cases hz:szOf P t with
   | none=>rw [hag,hz] at h;cases h
   | some n =>
    rw [hag,hz] at h;simp only [] at h;cases hle:Nat.ble (0+n) ds.length with
    | false=>rw [hle] at h;cases h
    | true =>
     rw [hle] at h;injection h with h;have hle':0+n≤ds.length:=Nat.le_of_ble_eq_true hle;refine ⟨.agg ((vs.drop 0).take n).toArray,?_,h ▸ .agg _ _ ((hr.drop 0).take n)⟩;have:=c8g (P:=P) hs 0 n oM;simp only [Nat.add_zero] at this;simp [loadVar,run_isAgg hag,run_sizeOf' hz,this]
  | false =>
   rw [hag] at h;simp only [] at h;obtain ⟨v,hv,hd⟩:=hr.get' 0 d h;refine ⟨v,?_,hd⟩;have hc:w.cell? ⟨b,o,none⟩=some v:=by
    rcases hs with hs | ⟨b',o',he,hs⟩
    ·rw [hs] at hv;simp at hv
    ·injection he with he;injection he with h1 h2;subst h1 h2;exact (hs 0 v hv).2
   simp [loadVar,run_isAgg hag,hc]
end
section
variable {X:Pr} {dfs:List Deferred} {w0:World} {S0:B6} {M0:Mp} {S:B6} {M:Mp} {w:World} {a:Act} {s:St}

theorem A9.at_ (h:A9 X dfs w0 S0 M0 S M w a s) {x:Operand} {d:D} (e:s.eval x=d):Rd S M w (a.eval x) d:=e ▸ h.eval x

theorem e8j (h:A9 X dfs w0 S0 M0 S M w a s) {nid:Nat} {o:Oper} {out:J3} (c x y:Operand) (he:o.op=.pick c x y) (ho:B5 X s nid o.op=some out):J9 X dfs w0 S0 M0 w a s ((execOp a.eval o).run X.P w) out:=by
 rw [he] at ho;simp only [B5] at ho;split at ho
 ·rename_i t ht;rw [E2 ho];have h1:=h.at_ ht;generalize hc:a.eval c=vc at h1;cases h1;refine A4 h (v:=if t then a.eval x else a.eval y) ?_ ?_
  ·simp only [execOp,he,hc];cases t <;> simp [asBool]
  ·cases t
   ·exact h.eval y
   ·exact h.eval x
 ·cases ho

theorem d1l (h:A9 X dfs w0 S0 M0 S M w a s) {nid:Nat} {o:Oper} {out:J3} (x:Operand) (he:o.op=.move x∨o.op=.assign x) (ho:B5 X s nid o.op=some out):J9 X dfs w0 S0 M0 w a s ((execOp a.eval o).run X.P w) out:=by
 rcases he with he | he <;> rw [he] at ho <;> simp only [B5] at ho <;> rw [E2 ho] <;> exact A4 h (by simp [execOp,he]) (h.eval x)

theorem e2s (h:A9 X dfs w0 S0 M0 S M w a s) {nid:Nat} {o:Oper} {out:J3} (t:TypeId) (he:o.op=.alloc t) (ho:B5 X s nid o.op=some out):J9 X dfs w0 S0 M0 w a s ((execOp a.eval o).run X.P w) out:=by
 rw [he] at ho;simp only [B5] at ho;split at ho
 ·rename_i z hz;obtain ⟨hf,rfl⟩:=a17 ho;obtain ⟨v,hv,rfl⟩:=b7h hz;exact b6l h hf (c:=v.cells) (t:=t) (a6x _) 0 (fun _ hm=>.ptr nid 0 _ 0 hm) (by simp [execOp,he,Instr.alloc,hv,newVar,newRow])
 ·cases ho

theorem f5k (h:A9 X dfs w0 S0 M0 S M w a s) {nid:Nat} {o:Oper} {out:J3} (t:TypeId) (x:Operand) (he:o.op=.box t x) (ho:B5 X s nid o.op=some out):J9 X dfs w0 S0 M0 w a s ((execOp a.eval o).run X.P w) out:=by
 rw [he] at ho;simp only [B5] at ho;cases hk:(s.eval x).ok with
 | false=>rw [hk] at ho;cases ho
 | true =>
  rw [hk] at ho;obtain ⟨hf,rfl⟩:=a17 ho;have hk':(s.eval x).one=true∨∃ cs,s.eval x=.agg cs:=by
   unfold D.ok at hk;rw [Bool.or_eq_true] at hk;refine hk.imp (fun h=>h) fun h=>?_;unfold D.isAgg at h;split at h
   ·exact ⟨_,aS⟩
   ·cases h
  exact b6l h hf (c:=(a.eval x).cells) (t:=t) ((h.eval x).cells hk') 0 (fun _ hm=>.ptr nid 0 _ 0 hm) (by simp [execOp,he,Instr.box,newVar,newRow])

theorem e8i (h:A9 X dfs w0 S0 M0 S M w a s) {nid:Nat} {o:Oper} {out:J3} (t:TypeId) (x:Operand) (he:o.op=.load t x) (ho:B5 X s nid o.op=some out):J9 X dfs w0 S0 M0 w a s ((execOp a.eval o).run X.P w) out:=by
 rw [he] at ho;simp only [B5] at ho;split at ho
 ·rename_i id off hx;split at ho
  ·rename_i ds hd;obtain ⟨d,hr,rfl⟩:=Option.map_eq_some_iff.1 ho;have h1:=h.at_ hx;obtain ⟨b,k,c,e,hm,hc,hrd,_⟩:=h.heap.box _ _ hd;generalize hv:a.eval x=va at h1;cases h1 with
   | ptr _ _ b' c' hm' =>
    rw [hm] at hm';injection hm' with hm';injection hm' with hb _;subst hb;obtain ⟨v,hrun,hvd⟩:=b9f hr hc hrd;exact A4 h (by simp [execOp,he,hv,Instr.loadAt,Instr.sureAddr,hrun]) hvd
  ·cases ho
 ·rename_i ds hx;obtain ⟨d,hr,rfl⟩:=Option.map_eq_some_iff.1 ho;have h1:=h.at_ hx;generalize hv:a.eval x=va at h1;cases h1 with
  | cref b o' vs _ hs hrd =>
   obtain ⟨v,hrun,hvd⟩:=c93 hr hs hrd;exact A4 h (by simp [execOp,he,hv,Instr.loadAt,Instr.sureAddr,hrun]) hvd
 ·cases ho

theorem a8z:∀ {vs us:List Value} {ds es:List D} (off:Nat),C4 S M w vs ds→C4 S M w us es→off+us.length≤vs.length→C4 S M w (vs.take off ++ us ++ vs.drop (off+us.length)) (O6 ds off es)
 | vs,_,ds,_,off,hv,.nil,_=>by simp only [List.append_nil,List.length_nil,Nat.add_zero,List.take_append_drop];exact hv
 | vs,_,ds,_,off,hv,.cons u e us es hu hr,hl=>by
  have:=a8z (off+1) (hv.set off hu) hr (by simp at hl ⊢;omega);simp only [O6];have hlt:off < vs.length:=by simp at hl;omega
  have e1:(vs.set off u).take (off+1)=vs.take off ++ [u]:=by
   rw [List.take_succ_eq_append_getElem (by simpa using hlt)];simp [List.take_set_of_le]
  have e2:(vs.set off u).drop (off+1+us.length)=vs.drop (off+(us.length+1)):=by
   rw [List.drop_set_of_lt oM];congr 1;omega
  rw [e1,e2] at this;simpa using this

theorem c7n {d:D} (hk:d.ok=true):d.one=true∨∃ cs,d=.agg cs:=by
 unfold D.ok at hk;rw [Bool.or_eq_true] at hk;refine hk.imp (fun h=>h) fun h=>?_;unfold D.isAgg at h;split at h
 ·exact ⟨_,rfl⟩
 ·cases h

theorem c1j:∀ {vs:List Value} {ds:List D},C4 S M w vs ds→ds.all D.one=true→∀ v ∈ vs,v.oneCell'=true
 | _,_,.nil,_,v,hv=>by cases hv
 | _,_,.cons u e us es hu hr,ha,v,hv=>by
  simp only [List.all_cons,Bool.and_eq_true] at ha;rcases List.mem_cons.1 hv with rfl | hv
  ·exact hu.oneCell ha.1
  ·exact c1j hr ha.2 v hv

theorem e2y (h:A9 X dfs w0 S0 M0 S M w a s) {nid:Nat} {o:Oper} {out:J3} (t:TypeId) (x y:Operand) (he:o.op=.store t x y) (ho:B5 X s nid o.op=some out):J9 X dfs w0 S0 M0 w a s ((execOp a.eval o).run X.P w) out:=by
 rw [he] at ho;simp only [B5] at ho;split at ho
 ·rename_i id off hx;split at ho
  ·rename_i ds n hd hn;generalize hcd:((s.eval y).ok && Nat.beq (s.eval y).cells.length n && (s.eval y).cells.all D.one && Nat.ble (off+n) ds.length)=cd at ho;cases cd with
   | false=>cases ho
   | true =>
    injection ho with ho;subst ho;simp only [Bool.and_eq_true] at hcd;obtain ⟨⟨⟨k1,k2⟩,k3⟩,k4⟩:=hcd;have k2':(s.eval y).cells.length=n:=Nat.eq_of_beq_eq_true k2;have k4':off+n≤ds.length:=Nat.le_of_ble_eq_true k4;have h1:=h.at_ hx;obtain ⟨b,k,c,e,hm,hc,hrd,hnS⟩:=h.heap.box _ _ hd;generalize hv:a.eval x=va at h1;cases h1 with
    | ptr _ _ b' c' hm' =>
     rw [hm] at hm';injection hm' with hm';injection hm' with hb _;subst hb;have hcells:=(h.eval y).cells (c7n k1);have hl:(a.eval y).cells.toList.length=n:=hcells.length.trans k2';have hcl:c.toList.length=ds.length:=hrd.length;have hst:=run_storeCells_at (P:=X.P) b off e (a.eval y).cells.toList 0 c w hc (by simp at hcl hl ⊢;omega) (c1j hcells k3);have hnew:=a8z (w:=w) off hrd hcells oM;simp only [Nat.add_zero] at hst;obtain ⟨ex,h2⟩:=h.row hd rfl hm hc (c':=(c.toList.take off ++ (a.eval y).cells.toList ++ c.toList.drop (off+(a.eval y).cells.toList.length)).toArray) (fun o hS=>absurd hS (hnS o)) (.cells (O6 ds off (s.eval y).cells))
      ⟨b,k,_,e,hm,setRow_heap w b c _ e (0,0) hc,by
       refine C4.ext ?_ hnew;exact ⟨fun _ _ h=>h,fun b' o' hS=>cell_setRow_other w b _ _ (fun eb=>hnS o' (eb ▸ hS)),fun _ _ h=>h⟩,hnS⟩ (fun _=>rfl) (fun _ _ e=>by cases e)
     refine ⟨.skip,undef,S,M,_,?_,.inr ⟨rfl,rfl⟩,h2,.tuple _ [] .nil⟩;have hsz:(a.eval y).cells.size=n:=by simpa using hl
     simp [execOp,he,hv,Instr.storeAt,Instr.sureAddr,storeVar,run_sizeOf' hn,hsz,hst]
  ·cases ho
 ·cases ho
end
section
variable {X:Pr} {dfs:List Deferred} {w0:World} {S0:B6} {M0:Mp} {S:B6} {M:Mp} {w:World} {a:Act} {s:St}

theorem c90 (h:A9 X dfs w0 S0 M0 S M w a s) {nid:Nat} {o:Oper} {out:J3} (x:Operand) (he:o.op=.nilCheck x) (ho:B5 X s nid o.op=some out):J9 X dfs w0 S0 M0 w a s ((execOp a.eval o).run X.P w) out:=by
 rw [he] at ho;simp only [B5] at ho;split at ho <;> first | cases ho | skip
 all_goals
  rename_i hx;have h1:=h.at_ hx;have h2:=h1;generalize hv:a.eval x=va at h1 h2;exact A4 h (v:=va) (by cases h1 <;> simp [execOp,he,hv]) h2

theorem e8k (h:A9 X dfs w0 S0 M0 S M w a s) {nid:Nat} {o:Oper} {out:J3} (op:UnOp) (t:TypeId) (x:Operand) (he:o.op=.unOp op t x) (ho:B5 X s nid o.op=some out):J9 X dfs w0 S0 M0 w a s ((execOp a.eval o).run X.P w) out:=by
 rw [he] at ho;simp only [B5] at ho;split at ho <;> first | cases ho | skip
 all_goals
  rename_i hx;have h1:=h.at_ hx;generalize hv:a.eval x=va at h1;cases h1
 ·exact A4 h (by simp [execOp,he,hv,Op.unary]) (.bool _)
 ·exact A4 h (by simp [execOp,he,hv,Op.unary,Op.intArith]) (.int _ _)

theorem b66 (h:A9 X dfs w0 S0 M0 S M w a s) {nid:Nat} {o:Oper} {out:J3} (t:TypeId) (x:Operand) (he:o.op=.makeInterface t x) (ho:B5 X s nid o.op=some out):J9 X dfs w0 S0 M0 w a s ((execOp a.eval o).run X.P w) out:=by
 rw [he] at ho;simp only [B5] at ho;split at ho
 ·cases ho
 ·rename_i d hnot hu;rw [E2 ho];refine A4 h (v:=.iface t (a.eval x)) ?_ (.iface _ _ _ (h.eval x));simp only [execOp,he,Instr.makeInterface,Sem.run_bind,run_underlying hu,Result.andThen_ok];cases d <;> first | rfl | exact absurd hu (hnot _)
 ·cases ho

theorem b4z (h:A9 X dfs w0 S0 M0 S M w a s):∀ (xs:List Operand),C4 S M w (xs.map a.eval) (xs.map s.eval)
 | []=>.nil
 | x :: xs=>.cons _ _ _ _ (h.eval x) (b4z h xs)

theorem c9z (h:A9 X dfs w0 S0 M0 S M w a s) {nid:Nat} {o:Oper} {out:J3} (fn:Fn) (f c:Array Operand) (he:o.op=.makeFunc fn f c) (ho:B5 X s nid o.op=some out):J9 X dfs w0 S0 M0 w a s ((execOp a.eval o).run X.P w) out:=by
 rw [he] at ho;simp only [B5] at ho;rw [E2 ho];exact A4 h (v:=.func fn (f.map a.eval) (c.map a.eval)) (by simp [execOp,he,Instr.makeFunc]) (.func _ _ _ _ _ (by rw [Array.toList_map];exact b4z h _) (by rw [Array.toList_map];exact b4z h _))

theorem d4h (h:A9 X dfs w0 S0 M0 S M w a s) {nid:Nat} {o:Oper} {out:J3} (x:Operand) (i:Nat) (he:o.op=.extract x i) (ho:B5 X s nid o.op=some out):J9 X dfs w0 S0 M0 w a s ((execOp a.eval o).run X.P w) out:=by
 rw [he] at ho;simp only [B5] at ho;split at ho
 ·rename_i vs hx;split at ho
  ·rename_i d hd;rw [E2 ho];have h1:=h.at_ hx;generalize hv:a.eval x=va at h1;cases h1 with
   | tuple us _ hr =>
    obtain ⟨u,hu,hrd⟩:=hr.get' i d hd;have hu':us[i]?=some u:=by simpa using hu
    exact A4 h (v:=u) (by simp [execOp,he,hv,Instr.extract,hu']) hrd
  ·cases ho
 ·cases ho

theorem e2w (h:A9 X dfs w0 S0 M0 S M w a s) {nid:Nat} {o:Oper} {out:J3} (t:TypeId) (x y:Operand) (he:o.op=.index t x y) (ho:B5 X s nid o.op=some out) (hn:out.need=true):J9 X dfs w0 S0 M0 w a s ((execOp a.eval o).run X.P w) out:=by
 rw [he] at ho;simp only [B5] at ho;split at ho
 ·rename_i l k n hu hx hy;rw [J5 ho] at hn ⊢;have hn':0≤n∧n < l.length:=by simpa using hn
  have h1:=h.at_ hx;have h2:=h.at_ hy;generalize hv:a.eval x=va at h1;generalize hv2:a.eval y=vb at h2;cases h1 with
  | str b _ hb =>
   cases h2;have hlen:b.data.size=l.length:=by rw [← hb];simp
   have hb2:b[n.toNat]?=some (l.getD n.toNat 0):=by
    have h3:n.toNat < l.length:=oM;rw [List.getD_eq_getElem?_getD,List.getElem?_eq_getElem h3];simp only [← hb];have h4:n.toNat < b.size:=by rw [show b.size=b.data.size from rfl];omega
    rw [getElem?_pos b n.toNat h4];rfl
   refine A4 h (v:=.int .u8 ((l.getD n.toNat 0).toNat:Int)) ?_ (.int _ _);simp [execOp,he,hv,hv2,Instr.index,asIntOf,run_underlying hu,hn'.1,hb2]
 ·cases ho

theorem e2v (h:A9 X dfs w0 S0 M0 S M w a s) {nid:Nat} {o:Oper} {out:J3} (t:TypeId) (x:Operand) (f:Nat) (he:o.op=.field t x f) (ho:B5 X s nid o.op=some out):J9 X dfs w0 S0 M0 w a s ((execOp a.eval o).run X.P w) out:=by
 rw [he] at ho;simp only [B5] at ho;split at ho
 ·rename_i fs hu;split at ho
  ·rename_i fd ds hf hx;obtain ⟨d,hr,ho⟩:=Option.bind_eq_some_iff.1 ho;rw [E2 ho];have h1:=h.at_ hx;generalize hv:a.eval x=va at h1;cases h1 with
   | agg us _ hrd =>
    have hl:us.size=ds.length:=by simpa using hrd.length
    suffices ∃ v,(part fd.type us fd.offset).run X.P w=.ok v w∧Rd S M w v d by
     obtain ⟨v,h1,h2⟩:=this;exact A4 h (v:=v) (by simp [execOp,he,hv,Instr.field,run_underlying hu,hf,asAgg,h1]) h2
    unfold U4 at hr;cases hag:aggOf X.P fd.type with
    | none=>rw [hag] at hr;cases hs:szOf X.P fd.type <;> rw [hs] at hr <;> cases hr
    | some ag =>
     cases ag with
     | true =>
      cases hz:szOf X.P fd.type with
      | none=>rw [hag,hz] at hr;cases hr
      | some n =>
       rw [hag,hz] at hr;simp only [] at hr;cases hle:Nat.ble (fd.offset+n) ds.length with
       | false=>rw [hle] at hr;cases hr
       | true =>
        rw [hle] at hr;injection hr with hr;refine ⟨.agg (us.extract fd.offset (fd.offset+n)),by simp [part,run_isAgg hag,run_sizeOf' hz],hr ▸ .agg _ _ ?_⟩;have:=(hrd.drop fd.offset).take n;simpa [Array.toList_extract,List.extract_eq_take_drop] using this
     | false =>
      rw [hag] at hr;simp only [] at hr;obtain ⟨v,hv',hd⟩:=hrd.get' fd.offset d hr;have hv'':us[fd.offset]?=some v:=by simpa using hv'
      exact ⟨v,by simp [part,run_isAgg hag,hv''],hd⟩
  ·cases ho
 ·cases ho

theorem c7s (h:A9 X dfs w0 S0 M0 S M w a s) {nid:Nat} {o:Oper} {out:J3} (t:TypeId) (x:Operand) (f:Nat) (he:o.op=.fieldAddr t x f) (ho:B5 X s nid o.op=some out):J9 X dfs w0 S0 M0 w a s ((execOp a.eval o).run X.P w) out:=by
 rw [he] at ho;simp only [B5] at ho;split at ho
 ·rename_i fs hu;split at ho
  ·rename_i fd hf;split at ho
   ·rename_i n hz;have hrun:∀ (b o':Nat),(fieldPlace ⟨b,o',none⟩ fd).run X.P w=.ok ⟨b,o'+fd.offset,none⟩ w:=fun b o'=>by
     simp [fieldPlace,run_sizeOf' hz,a1s]
    split at ho
    ·rename_i id off hx;rw [E2 ho];have h1:=h.at_ hx;generalize hv:a.eval x=va at h1;cases h1 with
     | ptr _ _ b c hm=>exact A4 h (v:=.pointer (some ⟨b,off+fd.offset,none⟩)) (by simp [execOp,he,hv,Instr.fieldAt,run_underlying hu,hf,Instr.sureAddr,hrun]) (.ptr _ _ b c hm)
    ·rename_i ds hx;rw [E2 ho];have h1:=h.at_ hx;generalize hv:a.eval x=va at h1;cases h1 with
     | cref b o' vs _ hs hrd =>
      refine A4 h (v:=.pointer (some ⟨b,o'+fd.offset,none⟩)) (by simp [execOp,he,hv,Instr.fieldAt,run_underlying hu,hf,Instr.sureAddr,hrun]) (.cref _ _ (vs.drop fd.offset) _ ?_ (hrd.drop _));rcases hs with hs | ⟨b',o'',hb,hs⟩
      ·exact .inl (by rw [hs];simp)
      ·injection hb with hb;injection hb with e1 e2;subst e1 e2;refine .inr ⟨b,o'+fd.offset,rfl,fun i v hi=>?_⟩;rw [List.getElem?_drop] at hi;rw [Nat.add_assoc];exact hs _ _ hi
    ·cases ho
   ·cases ho
  ·cases ho
 ·cases ho

theorem c7t (h:A9 X dfs w0 S0 M0 S M w a s) {nid:Nat} {o:Oper} {out:J3} (t:TypeId) (x y:Operand) (he:o.op=.indexAddr t x y) (ho:B5 X s nid o.op=some out) (hn:out.need=true):J9 X dfs w0 S0 M0 w a s ((execOp a.eval o).run X.P w) out:=by
 rw [he] at ho;simp only [B5] at ho;split at ho
 ·rename_i e len ds c k i hu hx hy;obtain ⟨n,hz,ho⟩:=Option.bind_eq_some_iff.1 ho;rw [J5 ho] at hn ⊢;have hn':0≤i∧i < len∧len * n≤ds.length∧0 < n:=by simpa using hn
  have h1:=h.at_ hx;have h2:=h.at_ hy;generalize hv:a.eval x=va at h1;generalize hv2:a.eval y=vb at h2;cases h2;cases h1 with
  | slice base _ cap vs _ _ hs hr hc hl hb0 =>
   have hlen:=hr.length;have hpos:0 < ds.length:=Nat.lt_of_lt_of_le (Nat.mul_pos oM hn'.2.2.2) hn'.2.2.1;rcases hs with hs | ⟨b,o',hb,hs⟩
   ·rw [hs] at hlen;simp at hlen;omega
   ·subst hb;refine A4 h (v:=.pointer (some ⟨b,o'+i.toNat * n,none⟩)) ?_ (.cref _ _ ((vs.drop (i.toNat * n)).take n) _ (.inr ⟨b,_,rfl,fun j v hj=>?_⟩) ((hr.drop _).take _))
    ·simp [execOp,he,hv,hv2,Instr.indexAt,asIntOf,run_underlying hu,hn'.1,hn'.2.1,run_sizeOf' hz,a1s]
    ·rw [List.getElem?_take] at hj;split at hj
     ·rw [List.getElem?_drop] at hj;rw [Nat.add_assoc];exact hs _ _ hj
     ·cases hj
 ·rename_i e id len k i hu hx hy;obtain ⟨n,hz,ho⟩:=Option.bind_eq_some_iff.1 ho;rw [J5 ho] at hn ⊢;have hn':0≤i∧i < len:=by simpa using hn
  have h1:=h.at_ hx;have h2:=h.at_ hy;generalize hv:a.eval x=va at h1;generalize hv2:a.eval y=vb at h2;cases h2;cases h1 with
  | bslice _ _ b c hm =>
   refine A4 h (v:=.pointer (some ⟨b,i.toNat * n,none⟩)) ?_ (.ptr _ _ b (c+1) hm);simp [execOp,he,hv,hv2,Instr.indexAt,asIntOf,run_underlying hu,hn'.1,hn'.2,run_sizeOf' hz,a1s]
 ·cases ho
end
end Go.Abs
