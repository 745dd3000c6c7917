/- Numbers from Go's integers; the arithmetic that the built-in world M6. c2i is a hypothesis until the shelf's a0n is joined. -/
import Derived.Test.YtffaodopiifbkaaGreatDoorKRA
import Derived.Test.YtffaodopiifbkaaGreatDoorKTB
set_option linter.all false
namespace Go.Proofs.YtffaodopiifbkaaGreatDoor
open Go.Abs LQ
set_option maxRecDepth 100000
set_option maxHeartbeats 4000000
noncomputable section
def spI (g:Int→GV):Sp where
 ι:={ n:Int // -1000000000 < n∧n < 1000000000 }
 A n:=[.c (.i .i64 n.1)]
 B _:=[]
 R n:=.ret (g n.1)
 B' _:=[]
 inj i j vs bs h k _ _:=by
  obtain ⟨_,_,h1,k1,h,k⟩:=h.two k
  rw [(G.i.inj (h1.c_inj k1)).2];exact ⟨rfl,rfl⟩
abbrev c2i:=j5 111 (spI fun n=>.c (.s (f8 n)))
theorem c2j (hI:c2i):j5 71 (spI fun n=>.c (.s (f8 n))):=k8 (fun fn h=>e9l h) [(111,_)] (.cons hI .nil) fun U fn hfn ⟨n,hn⟩ vs bs hv hb=>by
 have hi:=hfn 111 _ rfl
 change j6 [.c (.i .i64 n)] vs at hv
 change g9 [] bs at hb
 show g8 U _ fun v bs'=>j7 (.ret (.c (.s (f8 n)))) v∧g9 [] bs'
 unfold r71
 (refine Zz ?_;intros)
 refine f5 hi ⟨n,hn⟩ (r:=.c (.s (f8 n))) rfl j4 .nil fun _ _ _ _=>?_
 (refine Zz ?_;intros)
 exact i6 ⟨.ret _ _ j4,.nil⟩
theorem c27 (n:Int):qn n 1=(n,1):=by
 unfold qn
 rw [if_neg dE]
 refine Prod.ext ?_ ?_
 ·show (if (n < 0)=((1:Int) < 0) then (1:Int) else -1) * ((n.natAbs / Nat.gcd n.natAbs 1:Nat):Int)=n
  rw [Nat.gcd_one_right,Nat.div_one]
  by_cases h:n < 0
  ·rw [if_neg (fun e=>absurd (e.mp h) dE)];omega
  ·rw [if_pos (propext ⟨fun k=>absurd k h,fun k=>absurd k dE⟩)];omega
 ·show (1:Int).natAbs / Nat.gcd n.natAbs 1=1
  rw [Nat.gcd_one_right];rfl
theorem a1a {n k:Nat} (h:n < 10 ^ k):(i7 n).length≤k:=by
 by_cases h0:n=0
 ·subst h0;rw [u3];simp
 ·have h1:=a7q n h0
  have h2:10 ^ ((i7 n).length - 1) < 10 ^ k:=Nat.lt_of_le_of_lt h1 h
  have h3:=(Nat.pow_lt_pow_iff_right (by decide:1 < 10)).1 h2
  omega
theorem a3d {n:Int} (h:-1000000000 < n∧n < 1000000000):(f8 n).length≤11:=by
 have h1:=c5l n
 have h2:=a1a (n:=n.natAbs) (k:=9) oM
 omega
theorem c84:f6 [49]=1:=by
 show f6 P5=1
 rw [← a6i];exact y9 1
theorem a2g (n:Nat):f8 (n:Int)=f7 n:=by
 unfold f8
 rw [if_neg oM,Int.natAbs_natCast]
theorem f7j (hI:c2i):j5 70 (spI fun n=>.a (O.num n 1).g):=k8 (fun fn h=>f2g h) [(71,_),(48,_)] (.cons (c2j hI) (.cons b1h .nil)) fun U fn hfn ⟨n,hn⟩ vs bs hv hb=>by
 have hi:=hfn 71 _ rfl
 have hr:=hfn 48 _ rfl
 change j6 [.c (.i .i64 n)] vs at hv
 change g9 [] bs at hb
 have hl:=a3d hn
 show g8 U _ fun v bs'=>j7 (.ret (.a (O.num n 1).g)) v∧g9 [] bs'
 unfold r70
 (refine Zz ?_;intros)
 refine f5 hi ⟨n,hn⟩ (r:=.c (.s (f8 n))) rfl j4 .nil fun _ _ _ _=>?_
 (refine Zz ?_;intros)
 refine f5 hr ⟨(f8 n,[49]),show (f8 n).length < 9000 by omega,show ([49]:f4).length < 9000 by decide⟩ (r:=.a (O.num n 1).g) (by show n5.ret (.a (a9x (qn (f6 (f8 n)) (f6 [49]))).g)=_;rw [o8,c84,c27];rfl) (.k j4 (.k (.s _ _ _ rfl rfl) .nil)) .nil fun _ _ _ _=>?_
 (refine Zz ?_;intros)
 exact i6 ⟨.ret _ _ oV,.nil⟩
end
end Go.Proofs.YtffaodopiifbkaaGreatDoor
namespace Go.Abs
noncomputable section
def one (f:G→Q→Bool) (r:List G) (q:Q):Bool:=match r with | [g]=>f g q | _=>true
def a4f (f:G→Q→Bool) (n:Nat) (t:j0 Q):List (List G)→Nat→Bool
 | [],_=>true
 | r :: rs,off=>Nat.beq r.length n && ((chkCel f (tQ t off) r 0) && (one f r (tQ t off) && a4f f n t rs (off+1)))
where chkCel (f:G→Q→Bool) (q:Q):List G→Nat→Bool
 | [],_=>true
 | g :: gs,i=>f g (celQ q i) && chkCel f q gs (i+1)
def d7i:Nat→G→Q→Bool
 | 0,_,_=>false
 | f+1,g,q=>match g,q with
  | .b x,.bool y=>x == y
  | .i k n,.int k' n'=>decide (k=k') && decide (n=n')
  | .s x,.str l c=>Nat.beq l x.length && Nat.beq c (j9 x)
  | .l xs,.slice t n off len=>Nat.beq len xs.length && a4f (d7i f) n t xs off
  | _,_=>false
theorem b9z {f:G→Q→Bool} (h:∀ g q,f g q=true→RG g q) {q:Q}:∀ {gs:List G} {i:Nat},a4f.chkCel f q gs i=true→u1 gs q i
 | [],_,_=>.nil _ _
 | g :: gs,i,e=>by
  rw [a4f.chkCel,Bool.and_eq_true] at e
  exact .k (h _ _ e.1) (b9z h e.2)
theorem a3s {f:G→Q→Bool} (h:∀ g q,f g q=true→RG g q) {n:Nat} {t:j0 Q}:∀ {xs:List (List G)} {off:Nat},a4f f n t xs off=true→m8 n xs t off
 | [],_,_=>.nil _ _ _
 | r :: rs,off,e=>by
  rw [a4f,Bool.and_eq_true,Bool.and_eq_true,Bool.and_eq_true] at e
  obtain ⟨e1,e2,e3,e4⟩:=e
  refine .cons _ _ _ _ _ (Nat.eq_of_beq_eq_true e1) (b9z h e2) (fun g k=>?_) (a3s h e4)
  subst k
  exact h _ _ e3
theorem b6y:∀ (f:Nat) (g:G) (q:Q),d7i f g q=true→RG g q
 | 0,_,_,e=>by cases e
 | f+1,g,q,e=>by
  unfold d7i at e
  split at e
  ·have:=eq_of_beq e;subst this;exact .b _
  ·rw [Bool.and_eq_true] at e
   have e1:=of_decide_eq_true e.1
   have e2:=of_decide_eq_true e.2
   subst e1 e2;exact .i _ _
  ·rw [Bool.and_eq_true] at e
   exact .s _ _ _ (Nat.eq_of_beq_eq_true e.1) (Nat.eq_of_beq_eq_true e.2)
  ·rw [Bool.and_eq_true] at e
   exact .l _ _ _ _ _ (Nat.eq_of_beq_eq_true e.1) (a3s (b6y f) e.2)
  ·cases e
end
end Go.Abs
namespace Go.Proofs.YtffaodopiifbkaaGreatDoor
open Go.Abs LQ
set_option maxRecDepth 100000
set_option maxHeartbeats 4000000
noncomputable section
def W1:List f4:=[k7 1 97,k7 1 98,k7 3 7303014,k7 8 7308604895909930095,k7 1 49,k7 3 7961720,k7 1 46,k7 4 858731053,k7 1 35]
def Q3 (n:Int):Sy :=
 if n % 13 < 9 then (L0,W1.getD (n % 13).toNat []) else
 if n % 13=9 then (s7,k7 3 7104878) else
 if n % 13=10 then (s7,k7 1 116) else
 if n % 13=11 then (s7,k7 3 7496035) else (s7,k7 5 435745158513)
def s1 (s:f4):List G:=[.s s]
def e0z (g:Int→GV):Sp where
 ι:=Int
 A n:=[.c (.i .i64 n)]
 B _:=[]
 R n:=.ret (g n)
 B' _:=[]
 inj i j vs bs h k _ _:=by
  obtain ⟨_,_,h1,k1,h,k⟩:=h.two k
  rw [(G.i.inj (h1.c_inj k1)).2];exact ⟨rfl,rfl⟩
theorem e6t:j5 31 (e0z fun n=>.a (sg (Q3 n))):=k8 (fun fn h=>f2j h) [(29,_),(58,_),(47,_)] (.cons d9w (.cons f3e (.cons b43 .nil))) fun U fn hfn (n:Int) vs bs hv hb=>by
 have hM:=hfn 29 _ rfl
 have hU:=hfn 58 _ rfl
 have hL:=hfn 47 _ rfl
 change j6 [.c (.i .i64 n)] vs at hv
 change g9 [] bs at hb
 show g8 U _ fun v bs'=>j7 (.ret (.a (sg (Q3 n)))) v∧g9 [] bs'
 unfold r31
 (refine Zz ?_;intros)
 refine f5 hM ⟨(n,13),show 0 < 13 by decide,show 13 < 1000000 by decide⟩ (r:=.c (.i .i64 (n % 13))) rfl (.k (.i _ _) (.k (a84 (by show ((9:Nat):Int)+4=((13:Nat):Int);decide)) .nil)) .nil fun _ _ _ _=>?_
 have h1:0≤n % 13:=Int.emod_nonneg _ dE
 have h2:n % 13 < 13:=Int.emod_lt_of_pos _ dE
 unfold Q3
 generalize n % 13=z at *
 obtain ⟨k,rfl⟩:∃ k:Nat,z=k:=⟨z.toNat,oM⟩
 (refine Zz ?_;with_reducible repeat' first|intro _|apply aI)
 ·rw [if_pos oM,Int.toNat_natCast]
  have hk:k < W1.length:=by show k < 9;omega
  refine sfT (xs:=W1.map s1) (r:=s1 (W1.getD k [])) (n:=1) (a3s (b6y 2) (by rfl)) (by rw [Int.toNat_natCast,List.getElem?_map,List.getElem?_eq_getElem hk];simp [List.getD,List.getElem?_eq_getElem hk]) fun _ _=>?_
  unfold s1 at *
  (refine Zz ?_;intros)
  refine f5 hU (W1.getD k []) (r:=.a (sg (L0,W1.getD k []))) rfl (.k (.q _ _ aS) .nil) .nil fun _ _ _ _=>?_
  (refine Zz ?_;intros)
  exact i6 ⟨.ret _ _ (.a _ _ _ rfl aS),.nil⟩
 ·rw [if_neg oM,if_pos oM]
  refine f5 hL (k7 3 7104878) (r:=.a (sg (s7,k7 3 7104878))) rfl (.k (.s _ _ _ rfl rfl) .nil) .nil fun _ _ _ _=>?_
  (refine Zz ?_;intros)
  exact i6 ⟨.ret _ _ (.a _ _ _ rfl aS),.nil⟩
 ·rw [if_neg oM,if_neg oM,if_pos oM]
  refine f5 hL (k7 1 116) (r:=.a (sg (s7,k7 1 116))) rfl (.k (.s _ _ _ rfl rfl) .nil) .nil fun _ _ _ _=>?_
  (refine Zz ?_;intros)
  exact i6 ⟨.ret _ _ (.a _ _ _ rfl aS),.nil⟩
 ·rw [if_neg oM,if_neg oM,if_neg oM,if_pos oM]
  refine f5 hL (k7 3 7496035) (r:=.a (sg (s7,k7 3 7496035))) rfl (.k (.s _ _ _ rfl rfl) .nil) .nil fun _ _ _ _=>?_
  (refine Zz ?_;intros)
  exact i6 ⟨.ret _ _ (.a _ _ _ rfl aS),.nil⟩
 ·rw [if_neg oM,if_neg oM,if_neg oM,if_neg oM]
  refine f5 hL (k7 5 435745158513) (r:=.a (sg (s7,k7 5 435745158513))) rfl (.k (.s _ _ _ rfl rfl) .nil) .nil fun _ _ _ _=>?_
  (refine Zz ?_;intros)
  exact i6 ⟨.ret _ _ (.a _ _ _ rfl aS),.nil⟩
def atR (r:Raw):O :=
 if r.k % 8=0∨r.k % 8=1 then .num (r.n % 2001 - 1000) 1 else
 if r.k % 8=2 then a9x (qn (r.n % 41 - 20) (1+r.s.length)) else
 if r.k % 8=3 then .sy (Q3 r.n) else .tx r.s
mutual
def D0:Raw→O
 | .mk k n s l=>if k % 8 < 5 then atR (.mk k n s l) else
  if k % 8=5 then .co ((K8 l).getD 0 (.num (-1000) 1)) ((K8 l).getD 1 (.num (-1000) 1)) else P6 (K8 l)
def K8:List Raw→List O
 | []=>[]
 | x :: xs=>D0 x :: K8 xs
end
theorem b33:∀ l:List Raw,K8 l=l.map D0
 | []=>rfl
 | x :: xs=>by rw [K8,b33 xs];rfl
theorem d4c:D0 Raw.zero=.num (-1000) 1:=by
 show D0 (.mk 0 0 [] [])=_
 rw [D0,if_pos dE,atR,if_pos (.inl dE)]
 rfl
theorem b6t (l:List Raw) (i:Nat):(K8 l).getD i (.num (-1000) 1)=D0 (l.getD i Raw.zero):=by
 rw [b33,← d4c]
 simp only [List.getD,List.getElem?_map]
 cases l[i]? <;> rfl
theorem e5m (r:Raw):D0 r=if r.k % 8 < 5 then atR r else if r.k % 8=5 then .co (D0 (r.part 0)) (D0 (r.part 1)) else P6 (r.l.map D0):=by
 cases r with
 | mk k n s l =>
  rw [D0,b6t,b6t,b33]
  rfl
def muR (r:Raw):Nat:=if r.k % 8 < 5 then 2 * r.nodes - 1 else 2 * r.nodes
theorem d3y (r:Raw):muR r≤2 * r.nodes:=by unfold muR;split <;> omega
theorem d78:Raw.zero.okR:=⟨dE,dE,trivial⟩
theorem c62 {r:Raw} (h:r.okR) (i:Nat):(r.part i).okR:=by
 unfold Raw.part
 have h:=((Raw.okR_eq r).1 h).2.2
 by_cases hi:i < r.l.length
 ·rw [show r.l.getD i Raw.zero=r.l[i] by simp [List.getD,List.getElem?_eq_getElem hi]]
  exact Raw.okR_mem h (List.getElem_mem hi)
 ·rw [show r.l.getD i Raw.zero=Raw.zero by simp [List.getD,List.getElem?_eq_none (by omega:r.l.length≤i)]]
  exact d78
theorem c7y {r:Raw} (h:¬r.k % 8 < 5) (i:Nat):muR (r.part i) < muR r:=by
 unfold Raw.part
 have e:muR r=2 * r.nodes:=if_neg h
 have hn:=Raw.nodes_eq r
 by_cases hi:i < r.l.length
 ·rw [show r.l.getD i Raw.zero=r.l[i] by simp [List.getD,List.getElem?_eq_getElem hi]]
  have h1:=Raw.nodes_mem (List.getElem_mem hi)
  have h2:=d3y r.l[i]
  omega
 ·rw [show r.l.getD i Raw.zero=Raw.zero by simp [List.getD,List.getElem?_eq_none (by omega:r.l.length≤i)]]
  have:muR Raw.zero=1:=dE
  omega
theorem e7p {r:Raw} (h:¬r.k % 8 < 5) {x:Raw} (hx:x ∈ r.l):muR x < muR r:=by
 have e:muR r=2 * r.nodes:=if_neg h
 have hn:=Raw.nodes_eq r
 have h1:=Raw.nodes_mem hx
 have h2:=d3y x
 omega
def e0a:Sp where
 ι:={ r:Raw // r.okR }
 A r:=[.a r.1.g]
 B _:=[]
 R r:=.ret (.a (D0 r.1).g)
 B' _:=[]
 inj i j vs bs h k _ _:=by
  obtain ⟨_,_,h1,k1,h,k⟩:=h.two k
  rw [Raw.g_inj (h1.a_inj k1)];exact ⟨rfl,rfl⟩
theorem e2m (hItoa:c2i):j5 37 e0a:=Q0 (fun r=>muR r.1) fun z ih=>k8 (fun fn h=>e6q h) [(37,e0a.lt (fun r=>muR r.1) z),(29,_),(31,_),(74,_),(71,_),(70,_),(48,_),(43,_),(72,_),(73,_),(46,_)] (.cons ih (.cons d9w (.cons e6t (.cons f5z (.cons (c2j hItoa) (.cons (f7j hItoa) (.cons b1h (.cons b13 (.cons e9j (.cons e0c (.cons e0t .nil))))))))))) fun U fn hfn ⟨⟨r,hr⟩,hz⟩ vs bs hv hb=>by
 have hO:=hfn 37 _ rfl
 have hM:=hfn 29 _ rfl
 have hS:=hfn 31 _ rfl
 have hP:=hfn 74 _ rfl
 have hF:=hfn 71 _ rfl
 have hI:=hfn 70 _ rfl
 have hR:=hfn 48 _ rfl
 have hY:=hfn 43 _ rfl
 have hT:=hfn 72 _ rfl
 have hC:=hfn 73 _ rfl
 have hL:=hfn 46 _ rfl
 change j6 [.a r.g] vs at hv
 change g9 [] bs at hb
 have hz:muR r < z+1:=hz
 have hok:=(Raw.okR_eq r).1 hr
 show g8 U _ fun v bs'=>j7 (.ret (.a (D0 r).g)) v∧g9 [] bs'
 rw [e5m]
 have h1:0≤r.k % 8:=Int.emod_nonneg _ dE
 have h2:r.k % 8 < 8:=Int.emod_lt_of_pos _ dE
 unfold r37
 (refine Zz ?_;intros)
 refine N2 aS (Raw.g_len _) fun _ _=>?_
 have hcel:=(‹u1 r.g _ 0›)
 rw [Raw.g_eq] at hcel
 (refine Zz ?_;intros)
 refine f5 hM ⟨(r.k,8),show 0 < 8 by decide,show 8 < 1000000 by decide⟩ (r:=.c (.i .i64 (r.k % 8))) rfl (.k (.q _ _ aS) (.k (a84 rfl) .nil)) .nil fun _ _ _ _=>?_
 (refine Zz ?_;with_reducible repeat' first|intro _|apply aI)
 ·refine f5 hM ⟨(r.n,2001),show 0 < 2001 by decide,show 2001 < 1000000 by decide⟩ (r:=.c (.i .i64 (r.n % 2001))) rfl (.k (.q _ _ aS) (.k (a84 rfl) .nil)) .nil fun _ _ _ _=>?_
  have b1:0≤r.n % 2001:=Int.emod_nonneg _ dE
  have b2:r.n % 2001 < 2001:=Int.emod_lt_of_pos _ dE
  (refine Zz ?_;intros)
  refine f5 hI ⟨r.n % 2001 - 1000,oM,oM⟩ (r:=.a (O.num (r.n % 2001 - 1000) 1).g) rfl (.k (.i _ _) .nil) .nil fun _ _ _ _=>?_
  (refine Zz ?_;intros)
  rw [if_pos oM,atR,if_pos oM]
  exact i6 ⟨.ret _ _ oV,.nil⟩
 ·refine f5 hM ⟨(r.n,2001),show 0 < 2001 by decide,show 2001 < 1000000 by decide⟩ (r:=.c (.i .i64 (r.n % 2001))) rfl (.k (.q _ _ aS) (.k (a84 rfl) .nil)) .nil fun _ _ _ _=>?_
  have b1:0≤r.n % 2001:=Int.emod_nonneg _ dE
  have b2:r.n % 2001 < 2001:=Int.emod_lt_of_pos _ dE
  (refine Zz ?_;intros)
  refine f5 hI ⟨r.n % 2001 - 1000,oM,oM⟩ (r:=.a (O.num (r.n % 2001 - 1000) 1).g) rfl (.k (.i _ _) .nil) .nil fun _ _ _ _=>?_
  (refine Zz ?_;intros)
  rw [if_pos oM,atR,if_pos oM]
  exact i6 ⟨.ret _ _ oV,.nil⟩
 ·refine f5 hM ⟨(r.n,41),show 0 < 41 by decide,show 41 < 1000000 by decide⟩ (r:=.c (.i .i64 (r.n % 41))) rfl (.k (.q _ _ aS) (.k (a84 rfl) .nil)) .nil fun _ _ _ _=>?_
  have b1:0≤r.n % 41:=Int.emod_nonneg _ dE
  have b2:r.n % 41 < 41:=Int.emod_lt_of_pos _ dE
  have b3:=hok.1
  have c1:-1000000000 < r.n % 41 - 20∧r.n % 41 - 20 < 1000000000:=⟨oM,oM⟩
  have c2:-1000000000 < 1+(r.s.length:Int)∧1+(r.s.length:Int) < 1000000000:=⟨oM,oM⟩
  have l1:=a3d c1
  have l2:=a3d c2
  (refine Zz ?_;intros)
  refine f5 hF ⟨r.n % 41 - 20,c1⟩ (r:=.c (.s (f8 (r.n % 41 - 20)))) rfl (.k (.i _ _) .nil) .nil fun _ _ _ _=>?_
  (refine Zz ?_;intros)
  refine f5 hF ⟨1+(r.s.length:Int),c2⟩ (r:=.c (.s (f8 (1+(r.s.length:Int))))) rfl (.k (.i _ _) .nil) .nil fun _ _ _ _=>?_
  (refine Zz ?_;intros)
  refine f5 hR ⟨(f8 (r.n % 41 - 20),f8 (1+(r.s.length:Int))),Nat.lt_of_le_of_lt l1 dE,Nat.lt_of_le_of_lt l2 dE⟩ (r:=.a (a9x (qn (r.n % 41 - 20) (1+(r.s.length:Int)))).g) (by show n5.ret (.a (a9x (qn (f6 (f8 (r.n % 41 - 20))) (f6 (f8 (1+(r.s.length:Int)))))).g)=_;rw [o8,o8]) (.k (.s _ _ _ rfl rfl) (.k (.s _ _ _ rfl rfl) .nil)) .nil fun _ _ _ _=>?_
  (refine Zz ?_;intros)
  rw [if_pos oM,atR,if_neg oM,if_pos oM]
  exact i6 ⟨.ret _ _ oV,.nil⟩
 ·refine f5 hS r.n (r:=.a (sg (Q3 r.n))) rfl (.k (.q _ _ aS) .nil) .nil fun _ _ _ _=>?_
  (refine Zz ?_;intros)
  refine f5 hY (Q3 r.n) (r:=.a (O.sy (Q3 r.n)).g) rfl (.k (.a _ _ _ rfl aS) .nil) .nil fun _ _ _ _=>?_
  (refine Zz ?_;intros)
  rw [if_pos oM,atR,if_neg oM,if_neg oM,if_pos oM]
  exact i6 ⟨.ret _ _ oV,.nil⟩
 ·refine f5 hT r.s (r:=.a (O.tx r.s).g) rfl (.k (.q _ _ aS) .nil) .nil fun _ _ _ _=>?_
  (refine Zz ?_;intros)
  rw [if_pos oM,atR,if_neg oM,if_neg oM,if_neg oM]
  exact i6 ⟨.ret _ _ oV,.nil⟩
 ·rw [if_neg oM,if_pos aS]
  have hm0:=c7y (r:=r) oM 0
  have hm1:=c7y (r:=r) oM 1
  refine f5 hP ⟨(r,0),show 0≤1000 by decide⟩ (r:=.a (r.part 0).g) rfl (.k (.a _ _ _ (Raw.g_len _).symm (by rw [Raw.g_eq];assumption)) (.k (a84 rfl) .nil)) .nil fun _ _ _ _=>?_
  (refine Zz ?_;intros)
  refine N2 aS (Raw.g_len _) fun _ _=>?_
  (refine Zz ?_;intros)
  refine f5 hO ⟨⟨r.part 0,c62 hr 0⟩,show muR (r.part 0) < z by omega⟩ (r:=.a (D0 (r.part 0)).g) rfl (.k (.a _ _ _ (Raw.g_len _).symm aS) .nil) .nil fun _ _ _ _=>?_
  (refine Zz ?_;intros)
  refine oR fun _ _=>?_
  (refine Zz ?_;intros)
  refine f5 hP ⟨(r,1),show 1≤1000 by decide⟩ (r:=.a (r.part 1).g) rfl (.k (.a _ _ _ (Raw.g_len _).symm (by rw [Raw.g_eq];assumption)) (.k (a84 rfl) .nil)) .nil fun _ _ _ _=>?_
  (refine Zz ?_;intros)
  refine N2 aS (Raw.g_len _) fun _ _=>?_
  (refine Zz ?_;intros)
  refine f5 hO ⟨⟨r.part 1,c62 hr 1⟩,show muR (r.part 1) < z by omega⟩ (r:=.a (D0 (r.part 1)).g) rfl (.k (.a _ _ _ (Raw.g_len _).symm aS) .nil) .nil fun _ _ _ _=>?_
  (refine Zz ?_;intros)
  refine oR fun _ _=>?_
  (refine Zz ?_;intros)
  refine f5 hC (D0 (r.part 0),D0 (r.part 1)) (r:=.a (O.co (D0 (r.part 0)) (D0 (r.part 1))).g) rfl (.k oV oA) .nil fun _ _ _ _=>?_
  (refine Zz ?_;intros)
  exact i6 ⟨.ret _ _ oV,.nil⟩
 ·rw [if_neg oM,if_neg aS]
  have hl6:=hok.2.1
  refine D3 (fun (i:Nat) vs bs=>∃ (q:Q) (v:V) (acc:List O),vs=[.ptr 0 0,.ptr 1 0,.int .i64 i,v]∧bs=[.opa q 4,.cells [.int .i64 0,.str 0 0,.str 0 0,.str 0 0,.str 0 0,.str 0 0,.slice .nil 0 0 0 .exact],.tok acc.length 7]∧a0m 2 7 (acc.map O.g) v∧u1 [.i .i64 r.k,.i .i64 r.n,.s r.s,.l (r.l.map Raw.g)] q 0∧acc=(r.l.take i).map D0∧acc.length=i∧i≤r.l.length) (fun i=>r.l.length - i) 0
   ⟨_,_,[],rfl,rfl,.b rfl,aS,rfl,rfl,oM⟩ (by simp only [v8];omega) ?_
  rintro self i _ _ ⟨q,v,acc,rfl,rfl,htk,hq,hacc,hlen,hi⟩ ih
  (refine Zz ?_;intros)
  refine C0 aS (u2 Raw.g_len) fun _ _ _=>?_
  (refine Zz ?_;with_reducible repeat' first|intro _|apply aI)
  ·refine C0 aS (u2 Raw.g_len) fun _ _ _=>?_
   (refine Zz ?_;intros)
   have hiw:i < r.l.length:=oM
   have hmm:=e7p (r:=r) oM (List.getElem_mem hiw)
   refine f5 hO ⟨⟨r.l[i],Raw.okR_mem hok.2.2 (List.getElem_mem hiw)⟩,show muR r.l[i] < z by omega⟩ (r:=.a (D0 r.l[i]).g) rfl (.k (.a _ _ _ (Raw.g_len _).symm aS) .nil) .nil fun _ _ _ _=>?_
   (refine Zz ?_;intros)
   refine oR fun _ _=>?_
   (refine Zz ?_;intros)
   refine S3 aS (r:=(D0 r.l[i]).g) (fun _=>a4r (by rw [O.g_len];decide) aS) (O.g_len _) (by simp) (by simp only [List.length_map];omega) fun _ _=>?_
   (refine Zz ?_;intros)
   exact ih (i+1) _ _ ⟨_,_,acc ++ [D0 r.l[i]],rfl,(by rw [List.length_append];rfl),.a _ _ (by simp) (by rw [List.map_append];assumption),hq,(by rw [hacc,List.take_add_one,List.getElem?_eq_getElem hiw,List.map_append];rfl),by simp [hlen],oM⟩ oM
  ·have e9:acc=r.l.map D0:=by rw [hacc,List.take_of_length_le oM]
   refine f5 hL ⟨acc,oM⟩ (r:=.a (P6 acc).g) rfl (.k (.sl _ _ _ _ _ (by simp) aS) .nil) .nil fun _ _ _ _=>?_
   (refine Zz ?_;intros)
   refine oR fun _ _=>?_
   (refine Zz ?_;intros)
   rw [← e9]
   exact i6 ⟨.ret _ _ oV,.nil⟩
def ok (o:O):Prop:=o.size≤3000∧o.fm=true
theorem d2u (n:Int) (h:-1000000000 < n∧n < 1000000000):ok (.num n 1):=by
 refine ⟨by show 1≤3000;decide,decide_eq_true ⟨?_,?_,?_⟩⟩
 ·rw [X1,o8,y9]
  show (f8 (qn n 1).1,f7 (qn n 1).2)=_
  rw [c27]
 ·unfold A5
  rw [o8]
  have:=a1a (n:=n.natAbs) (k:=9) oM
  omega
 ·unfold A5
  rw [y9,Int.natAbs_natCast]
  have:=a1a (n:=1) (k:=1) dE
  omega
theorem d2d:m7 s7=true:=by
 unfold m7
 rw [Y6 (i:=0) dE dE,Y6 (i:=1) dE dE,Y6 (i:=2) dE dE,Y6 (i:=3) dE dE,b2a dE]
 decide
theorem c6m {s:f4} (h:1≤s.length∧s.length≤40):ok (.sy (s7,s)):=by
 refine ⟨by show 1≤3000;decide,?_⟩
 show named _=true
 unfold named
 rw [d2d,decide_eq_true h];rfl
theorem e9m:ok z8:=c6m dE
def szL:List O→Nat
 | []=>1
 | a :: l=>1+a.size+szL l
theorem d31:∀ os:List O,(P6 os).size=szL os
 | []=>rfl
 | a :: l=>by show 1+a.size+(P6 l).size=_;rw [d31 l];rfl
theorem d20:∀ os:List O,(P6 os).fm=true↔∀ x ∈ os,x.fm=true
 | []=>⟨fun _ x h=>absurd h (by simp),fun _=>e9m.2⟩
 | a :: l=>by
  have e:(P6 (a :: l)).fm=(a.fm && (P6 l).fm):=rfl
  rw [e,Bool.and_eq_true,d20 l]
  simp
theorem f3c (x y:Int):qn (qn x y).1 ((qn x y).2:Nat)=qn x y:=by
 by_cases hy:y=0
 ·have e:qn x y=(0,1):=by unfold qn;rw [if_pos hy]
  rw [e]
  exact c27 0
 have e:qn x y=((if (x < 0)=(y < 0) then 1 else -1) * ((x.natAbs / Nat.gcd x.natAbs y.natAbs:Nat):Int),y.natAbs / Nat.gcd x.natAbs y.natAbs):=by unfold qn;rw [if_neg hy]
 have hg:0 < Nat.gcd x.natAbs y.natAbs:=Nat.gcd_pos_of_pos_right _ oM
 have h1:Nat.gcd (x.natAbs / Nat.gcd x.natAbs y.natAbs) (y.natAbs / Nat.gcd x.natAbs y.natAbs)=1:=by
  rw [Nat.gcd_div (Nat.gcd_dvd_left _ _) (Nat.gcd_dvd_right _ _),Nat.div_self hg]
 have hd:0 < y.natAbs / Nat.gcd x.natAbs y.natAbs:=Nat.div_pos (Nat.le_of_dvd oM (Nat.gcd_dvd_right _ _)) hg
 rw [e]
 simp only
 generalize x.natAbs / Nat.gcd x.natAbs y.natAbs=a at *
 generalize y.natAbs / Nat.gcd x.natAbs y.natAbs=b at *
 have hs:∃ n:Int,(if (x < 0)=(y < 0) then (1:Int) else -1) * (a:Int)=n∧n.natAbs=a:=by
  by_cases hc:(x < 0)=(y < 0)
  ·exact ⟨a,by rw [if_pos hc];omega,oM⟩
  ·exact ⟨-(a:Int),by rw [if_neg hc];omega,oM⟩
 obtain ⟨n,e1,e2⟩:=hs
 rw [e1]
 unfold qn
 rw [if_neg oM,Int.natAbs_natCast,e2,h1,Nat.div_one,Nat.div_one]
 refine Prod.ext ?_ rfl
 show (if (n < 0)=((b:Int) < 0) then (1:Int) else -1) * (a:Int)=n
 by_cases hn:n < 0
 ·rw [if_neg (fun e=>absurd (e.mp hn) oM)];omega
 ·rw [if_pos (propext ⟨fun k=>absurd k hn,fun k=>absurd k oM⟩)];omega
theorem f4y {x y:Int} (hx:x.natAbs < 1000000000) (hy:y.natAbs < 1000000000):(a9x (qn x y)).fm=true:=by
 have hq:=f3c x y
 have b1:(qn x y).1.natAbs < 1000000000∧(qn x y).2 < 1000000000:=by
  unfold qn
  split
  ·exact ⟨dE,dE⟩
  ·have d1:=Nat.div_le_self x.natAbs (Nat.gcd x.natAbs y.natAbs)
   have d2:=Nat.div_le_self y.natAbs (Nat.gcd x.natAbs y.natAbs)
   refine ⟨?_,Nat.lt_of_le_of_lt d2 hy⟩
   simp only
   generalize x.natAbs / Nat.gcd x.natAbs y.natAbs=a at *
   split
   ·omega
   ·omega
 generalize qn x y=q at *
 obtain ⟨n,d⟩:=q
 have b2:n.natAbs < 1000000000:=b1.1
 have b3:d < 1000000000:=b1.2
 refine decide_eq_true ⟨?_,?_,?_⟩
 ·rw [X1,o8,y9,hq]
 ·unfold A5
  rw [o8]
  have:=a1a (n:=n.natAbs) (k:=9) b2
  show max 1 (i7 n.natAbs).length≤100
  omega
 ·unfold A5
  rw [y9,Int.natAbs_natCast]
  have:=a1a (n:=d) (k:=9) b3
  show max 1 (i7 d).length≤100
  omega
theorem d9t:m7 L0=true:=by
 unfold m7
 rw [Y6 (i:=0) dE dE,Y6 (i:=1) dE dE,Y6 (i:=2) dE dE,Y6 (i:=3) dE dE,b2a dE]
 decide
theorem c5q:∀ k,k < 9→1≤(W1.getD k []).length∧(W1.getD k []).length≤40:=dE
theorem b61 (n:Int):named (Q3 n)=true:=by
 have h1:0≤n % 13:=Int.emod_nonneg _ dE
 unfold Q3
 split
 ·unfold named
  have:=c5q (n % 13).toNat oM
  rw [d9t,decide_eq_true this];rfl
 ·repeat' split
  all_goals exact (c6m dE).2
theorem f1n {r:Raw} (h:r.s.length≤12):(atR r).fm=true:=by
 unfold atR
 have h1:0≤r.n % 2001:=Int.emod_nonneg _ dE
 have h2:r.n % 2001 < 2001:=Int.emod_lt_of_pos _ dE
 have h3:0≤r.n % 41:=Int.emod_nonneg _ dE
 have h4:r.n % 41 < 41:=Int.emod_lt_of_pos _ dE
 split
 ·exact (d2u _ ⟨oM,oM⟩).2
 ·split
  ·exact f4y oM oM
  ·split
   ·exact b61 _
   ·exact decide_eq_true (by show r.s.length≤200;omega)
theorem d9k (r:Raw):(atR r).size=1:=by
 unfold atR
 repeat' split
 all_goals rfl
mutual
theorem a7j:∀ r:Raw,(D0 r).size+1≤4 * r.nodes
 | .mk k n s l=>by
  have h:=c33 l
  have hn:(Raw.mk k n s l).nodes=1+Raw.nodesL l:=rfl
  rw [D0]
  split
  ·rw [d9k];omega
  ·split
   ·have h2:=d2v l
    show 1+((K8 l).getD 0 (.num (-1000) 1)).size+((K8 l).getD 1 (.num (-1000) 1)).size+1≤_
    omega
   ·rw [d31];omega
theorem c33:∀ l:List Raw,szL (K8 l)≤1+4 * Raw.nodesL l
 | []=>by show 1≤_;omega
 | x :: xs=>by
  have h1:=a7j x
  have h2:=c33 xs
  show 1+(D0 x).size+szL (K8 xs)≤1+4 * (x.nodes+Raw.nodesL xs)
  omega
theorem d2v:∀ l:List Raw,((K8 l).getD 0 (.num (-1000) 1)).size+((K8 l).getD 1 (.num (-1000) 1)).size≤2+4 * Raw.nodesL l
 | []=>by show 1+1≤_;omega
 | [x]=>by
  have h1:=a7j x
  show (D0 x).size+1≤2+4 * (x.nodes+0)
  omega
 | x :: y :: l=>by
  have h1:=a7j x
  have h2:=a7j y
  show (D0 x).size+(D0 y).size≤2+4 * (x.nodes+(y.nodes+Raw.nodesL l))
  omega
end
mutual
theorem c71:∀ {r:Raw},r.okR→(D0 r).fm=true
 | .mk k n s l,h=>by
  have hl:=c3j (l:=l) h.2.2
  rw [D0]
  split
  ·exact f1n (r:=.mk k n s l) h.1
  ·split
   ·have hz:(O.num (-1000) 1).fm=true:=(d2u (-1000) dE).2
    have hg:∀ i,((K8 l).getD i (.num (-1000) 1)).fm=true:=fun i=>by
     by_cases hi:i < (K8 l).length
     ·rw [show (K8 l).getD i (.num (-1000) 1)=(K8 l)[i] by simp [List.getD,List.getElem?_eq_getElem hi]]
      exact hl _ (List.getElem_mem hi)
     ·rw [show (K8 l).getD i (.num (-1000) 1)=.num (-1000) 1 by simp [List.getD,List.getElem?_eq_none (by omega:(K8 l).length≤i)]]
      exact hz
    show (_ && _)=true
    rw [hg,hg];rfl
   ·exact (d20 _).2 hl
theorem c3j:∀ {l:List Raw},Raw.okRL l→∀ x ∈ K8 l,x.fm=true
 | [],_,x,h=>by cases h
 | y :: l,h,x,hx=>by
  cases hx with
  | head=>exact c71 h.1
  | tail _ hx=>exact c3j h.2 x hx
end
theorem e34 {r:Raw} {m:Nat} (h:r.few m=true):(D0 r).size+1≤4 * m∧(D0 r).fm=true:=by
 have h:=Raw.few_ok h
 have:=a7j r
 exact ⟨oM,c71 h.1⟩
end
end Go.Proofs.YtffaodopiifbkaaGreatDoor
namespace Go.Proofs.YtffaodopiifbkaaGreatDoor
open Go.Abs LQ Go.RowKit Go.Lib Go.Sort
set_option maxRecDepth 100000
set_option maxHeartbeats 4000000
noncomputable section
theorem Q9:∀ n:Nat,Lib.decDigits n=f7 n:=by
 intro n
 induction n using Nat.strongRecOn with
 | _ n ih =>
  unfold Lib.decDigits
  by_cases h:n < 10
  ·simp only [h,dite_true,if_true]
   by_cases h0:n=0
   ·subst h0;rfl
   ·unfold f7
    rw [if_neg h0,C9 h0,show n / 10=0 by omega,u3,Nat.mod_eq_of_lt h]
    rfl
  ·simp only [h,dite_false,if_false]
   rw [ih (n / 10) oM]
   have h1:¬n / 10=0:=oM
   have h0:¬n=0:=oM
   unfold f7
   rw [if_neg h1,if_neg h0,C9 h0,List.reverse_cons,List.map_append]
   rfl
theorem c12 (n:Int):Lib.itoa n=f8 n:=by
 unfold Lib.itoa f8
 split
 ·rw [Q9];rfl
 ·rw [Q9,show n.toNat=n.natAbs by omega]
theorem e2h:c2i:=fun ⟨n,hn⟩ vs bs hv hb=>by
 change j6 [.c (.i .i64 n)] vs at hv
 cases hb
 refine ⟨.ret (.str (f8 n).length (j9 (f8 n))),[],fun hok=>?_,.ret _ _ (.s _ _ _ rfl rfl),.nil⟩
 have hx:vs.map toD=[D.int .i64 n]:=by
  cases hv with
  | cons _ _ v _ h1 h2 =>
   cases h2
   cases h1 with
   | i=>rfl
   | q _ x h=>cases h;rfl
 rw [hx]
 show CM X0.P X0.G _ _ [] (.ret (.str (k7 (f8 n).length (j9 (f8 n))))) []
 rw [x5]
 refine H0 (d:=.str (f8 n)) Tryz.call111 fun w S M us hg hwi hr=>?_
 cases hr with
 | cons _ _ _ _ r1 r2 =>
 cases r2
 cases r1
 refine (Any.strconv_Itoa Tryz.laysM171 n oM oM w (d1e hg)).mono ?_
 rintro e w' ⟨rfl,k,os,rfl⟩
 have hb:Below w.heap.size w (grow (w.drewN k) os):=⟨rfl,rfl,rfl,by show w.heap.size≤(w.heap ++ os).size;rw [Array.size_append];omega,fun j hj=>by show (w.heap ++ os)[j]?=w.heap[j]?;exact Array.getElem?_append_left hj⟩
 exact ⟨hb,_,S,rfl,⟨fun _ _ h=>h,fun _ _ h=>.inl h⟩,N7 hwi hb,.str _ _ (by rw [c12]),N5 (fun _ _ _ h=>by cases h) (fun _ h=>by cases h)⟩
end
end Go.Proofs.YtffaodopiifbkaaGreatDoor
namespace Go.Proofs.YtffaodopiifbkaaGreatDoor
open Go.Abs LQ
noncomputable section
open Classical
def szA (L:List Pk) (cur:f4):O→Nat
 | .co a d=>szA L cur a+szA L cur d
 | o=>(M5 L cur o).length
def lv:O→Nat
 | .co a d=>lv a+lv d
 | _=>1
theorem e89 (o:O):0 < lv o:=by induction o <;> simp [lv] <;> omega
theorem e3i (o:O):o.size+1=2 * lv o:=by induction o <;> simp [lv,O.size] <;> omega
section
variable {L:List Pk} {cur:f4}
theorem b3o:∀ o:O,(pT L cur o).1.length+4≤szA L cur o+5 * lv o∧(pT L cur o).2.1.length+1≤szA L cur o+5 * lv o
 | .co a d=>by
  have h1:=(b3o a).1
  have h2:=(b3o d).2
  have h3:=c4k (L:=L) (cur:=cur) a d
  have e:(pT L cur (.co a d)).2.1.length=1+((pT L cur a).1.length+(pT L cur d).2.1.length):=by simp only [pT,List.length_cons,List.length_append];omega
  simp only [szA,lv]
  rw [e] at h3 ⊢
  omega
 | .num n d=>by
  have e:(pT L cur (.num n d)).2.1=32 :: 46 :: 32 :: (M5 L cur (.num n d) ++ [41]):=by simp [pT,z8]
  rw [e]
  refine ⟨?_,?_⟩
  ·show (M5 L cur (.num n d)).length+4≤(M5 L cur (.num n d)).length+5 * 1;omega
  ·show _≤(M5 L cur (.num n d)).length+5 * 1;simp
 | .tx n=>by
  have e:(pT L cur (.tx n)).2.1=32 :: 46 :: 32 :: (M5 L cur (.tx n) ++ [41]):=by simp [pT,z8]
  rw [e]
  refine ⟨?_,?_⟩
  ·show (M5 L cur (.tx n)).length+4≤(M5 L cur (.tx n)).length+5 * 1;omega
  ·show _≤(M5 L cur (.tx n)).length+5 * 1;simp
 | .no=>by
  have e:(pT L cur .no).2.1=32 :: 46 :: 32 :: (M5 L cur .no ++ [41]):=by simp [pT,z8]
  rw [e]
  refine ⟨?_,?_⟩
  ·show (M5 L cur .no).length+4≤(M5 L cur .no).length+5 * 1;omega
  ·show _≤(M5 L cur .no).length+5 * 1;simp
 | .sy n=>by
  refine ⟨?_,?_⟩
  ·show (M5 L cur (.sy n)).length+4≤(M5 L cur (.sy n)).length+5 * 1;omega
  ·show _≤(M5 L cur (.sy n)).length+5 * 1
   simp only [pT]
   split <;> simp
end
end
end Go.Proofs.YtffaodopiifbkaaGreatDoor
