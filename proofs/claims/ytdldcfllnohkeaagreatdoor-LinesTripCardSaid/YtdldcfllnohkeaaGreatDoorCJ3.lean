/- Numbers from Go's integers; the arithmetic that the built-in world Q7. c41 is a hypothesis until the shelf's a1x is joined. -/
import Derived.Test.YtdldcfllnohkeaaGreatDoorCRA
import Derived.Test.YtdldcfllnohkeaaGreatDoorCTB
set_option linter.all false
namespace Go.Proofs.YtdldcfllnohkeaaGreatDoor
open Go.Abs LQ
set_option maxRecDepth 100000
set_option maxHeartbeats 4000000
noncomputable section
def spI (g:Int→GV):Sp where
 ι:={ n:Int // -1000000000 < n∧n < 1000000000 }
 A n:=[.c (.i .i64 n.1)]
 B _:=[]
 R n:=.ret (g n.1)
 B' _:=[]
 inj i j vs bs h k _ _:=by
  obtain ⟨_,_,h1,k1,h,k⟩:=h.two k
  rw [(G.i.inj (h1.c_inj k1)).2];exact ⟨rfl,rfl⟩
abbrev c41:=k9 67 (spI fun n=>.c (.s (j3 n)))
theorem c59 (hI:c41):k9 35 (spI fun n=>.c (.s (j3 n))):=n9 (fun fn h=>f3i h) [(67,_)] (.cons hI .nil) fun U fn hfn ⟨n,hn⟩ vs bs hv hb=>by
 have hi:=hfn 67 _ rfl
 change l7 [.c (.i .i64 n)] vs at hv
 change RBs [] bs at hb
 show j5 U _ fun v bs'=>l8 (.ret (.c (.s (j3 n)))) v∧RBs [] bs'
 unfold r35
 (refine Zz ?_;intros)
 refine j4 hi ⟨n,hn⟩ (r:=.c (.s (j3 n))) rfl l5 .nil fun _ _ _ _=>?_
 (refine Zz ?_;intros)
 exact j9 ⟨.ret _ _ l5,.nil⟩
theorem c7t (n:Int):qn n 1=(n,1):=by
 unfold qn
 rw [if_neg dE]
 refine Prod.ext ?_ ?_
 ·show (if (n < 0)=((1:Int) < 0) then (1:Int) else -1) * ((n.natAbs / Nat.gcd n.natAbs 1:Nat):Int)=n
  rw [Nat.gcd_one_right,Nat.div_one]
  by_cases h:n < 0
  ·rw [if_neg (fun e=>absurd (e.mp h) dE)];omega
  ·rw [if_pos (propext ⟨fun k=>absurd k h,fun k=>absurd k dE⟩)];omega
 ·show (1:Int).natAbs / Nat.gcd n.natAbs 1=1
  rw [Nat.gcd_one_right];rfl
theorem a2t {n k:Nat} (h:n < 10 ^ k):(j7 n).length≤k:=by
 by_cases h0:n=0
 ·subst h0;rw [y9];simp
 ·have h1:=a6m n h0
  have h2:10 ^ ((j7 n).length - 1) < 10 ^ k:=Nat.lt_of_le_of_lt h1 h
  have h3:=(Nat.pow_lt_pow_iff_right (by decide:1 < 10)).1 h2
  omega
theorem a5i {n:Int} (h:-1000000000 < n∧n < 1000000000):(j3 n).length≤11:=by
 have h1:=c97 n
 have h2:=a2t (n:=n.natAbs) (k:=9) oM
 omega
theorem d3g:j0 [49]=1:=by
 show j0 Q3=1
 rw [← a9g];exact B4 1
theorem Z8 (n:Nat):j3 (n:Int)=i7 n:=by
 unfold j3
 rw [if_neg oM,Int.natAbs_natCast]
theorem g1o (hI:c41):k9 34 (spI fun n=>.a (O.num n 1).g):=n9 (fun fn h=>f3g h) [(35,_),(22,_)] (.cons (c59 hI) (.cons b2t .nil)) fun U fn hfn ⟨n,hn⟩ vs bs hv hb=>by
 have hi:=hfn 35 _ rfl
 have hr:=hfn 22 _ rfl
 change l7 [.c (.i .i64 n)] vs at hv
 change RBs [] bs at hb
 have hl:=a5i hn
 show j5 U _ fun v bs'=>l8 (.ret (.a (O.num n 1).g)) v∧RBs [] bs'
 unfold r34
 (refine Zz ?_;intros)
 refine j4 hi ⟨n,hn⟩ (r:=.c (.s (j3 n))) rfl l5 .nil fun _ _ _ _=>?_
 (refine Zz ?_;intros)
 refine j4 hr ⟨(j3 n,[49]),show (j3 n).length < 9000 by omega,show ([49]:i6).length < 9000 by decide⟩ (r:=.a (O.num n 1).g) (by show r7.ret (.a (a30 (qn (j0 (j3 n)) (j0 [49]))).g)=_;rw [s7,d3g,c7t];rfl) (.k l5 (.k (.s _ _ _ rfl rfl) .nil)) .nil fun _ _ _ _=>?_
 (refine Zz ?_;intros)
 exact j9 ⟨.ret _ _ oV,.nil⟩
end
end Go.Proofs.YtdldcfllnohkeaaGreatDoor
namespace Go.Abs
noncomputable section
def one (f:G→Q→Bool) (r:List G) (q:Q):Bool:=match r with | [g]=>f g q | _=>true
def a6l (f:G→Q→Bool) (n:Nat) (t:j8 Q):List (List G)→Nat→Bool
 | [],_=>true
 | r :: rs,off=>Nat.beq r.length n && ((chkCel f (tQ t off) r 0) && (one f r (tQ t off) && a6l f n t rs (off+1)))
where chkCel (f:G→Q→Bool) (q:Q):List G→Nat→Bool
 | [],_=>true
 | g :: gs,i=>f g (celQ q i) && chkCel f q gs (i+1)
def d9t:Nat→G→Q→Bool
 | 0,_,_=>false
 | f+1,g,q=>match g,q with
  | .b x,.bool y=>x == y
  | .i k n,.int k' n'=>decide (k=k') && decide (n=n')
  | .s x,.str l c=>Nat.beq l x.length && Nat.beq c (n7 x)
  | .l xs,.slice t n off len=>Nat.beq len xs.length && a6l (d9t f) n t xs off
  | _,_=>false
theorem c1y {f:G→Q→Bool} (h:∀ g q,f g q=true→RG g q) {q:Q}:∀ {gs:List G} {i:Nat},a6l.chkCel f q gs i=true→A6 gs q i
 | [],_,_=>.nil _ _
 | g :: gs,i,e=>by
  rw [a6l.chkCel,Bool.and_eq_true] at e
  exact .k (h _ _ e.1) (c1y h e.2)
theorem b0j {f:G→Q→Bool} (h:∀ g q,f g q=true→RG g q) {n:Nat} {t:j8 Q}:∀ {xs:List (List G)} {off:Nat},a6l f n t xs off=true→p9 n xs t off
 | [],_,_=>.nil _ _ _
 | r :: rs,off,e=>by
  rw [a6l,Bool.and_eq_true,Bool.and_eq_true,Bool.and_eq_true] at e
  obtain ⟨e1,e2,e3,e4⟩:=e
  refine .cons _ _ _ _ _ (Nat.eq_of_beq_eq_true e1) (c1y h e2) (fun g k=>?_) (b0j h e4)
  subst k
  exact h _ _ e3
theorem d0p:∀ (f:Nat) (g:G) (q:Q),d9t f g q=true→RG g q
 | 0,_,_,e=>by cases e
 | f+1,g,q,e=>by
  unfold d9t at e
  split at e
  ·have:=eq_of_beq e;subst this;exact .b _
  ·rw [Bool.and_eq_true] at e
   have e1:=of_decide_eq_true e.1
   have e2:=of_decide_eq_true e.2
   subst e1 e2;exact .i _ _
  ·rw [Bool.and_eq_true] at e
   exact .s _ _ _ (Nat.eq_of_beq_eq_true e.1) (Nat.eq_of_beq_eq_true e.2)
  ·rw [Bool.and_eq_true] at e
   exact .l _ _ _ _ _ (Nat.eq_of_beq_eq_true e.1) (b0j (d0p f) e.2)
  ·cases e
end
end Go.Abs
namespace Go.Proofs.YtdldcfllnohkeaaGreatDoor
open Go.Abs LQ
set_option maxRecDepth 100000
set_option maxHeartbeats 4000000
noncomputable section
def Y3:List i6:=[m8 1 97,m8 1 98,m8 3 7303014,m8 8 7308604895909930095,m8 1 49,m8 3 7961720,m8 1 46,m8 4 858731053,m8 1 35]
def a2c (n:Int):Sy :=
 if n % 13 < 9 then (D4,Y3.getD (n % 13).toNat []) else
 if n % 13=9 then (x7,m8 3 7104878) else
 if n % 13=10 then (x7,m8 1 116) else
 if n % 13=11 then (x7,m8 3 7496035) else (x7,m8 5 435745158513)
def s1 (s:i6):List G:=[.s s]
def f9s (g:Int→GV):Sp where
 ι:=Int
 A n:=[.c (.i .i64 n)]
 B _:=[]
 R n:=.ret (g n)
 B' _:=[]
 inj i j vs bs h k _ _:=by
  obtain ⟨_,_,h1,k1,h,k⟩:=h.two k
  rw [(G.i.inj (h1.c_inj k1)).2];exact ⟨rfl,rfl⟩
theorem g1r:k9 36 (f9s fun n=>.a (sg (a2c n))):=n9 (fun fn h=>f3k h) [(33,_),(68,_),(21,_)] (.cons f00 (.cons f9c (.cons c4g .nil))) fun U fn hfn (n:Int) vs bs hv hb=>by
 have hM:=hfn 33 _ rfl
 have hU:=hfn 68 _ rfl
 have hL:=hfn 21 _ rfl
 change l7 [.c (.i .i64 n)] vs at hv
 change RBs [] bs at hb
 show j5 U _ fun v bs'=>l8 (.ret (.a (sg (a2c n)))) v∧RBs [] bs'
 unfold r36
 (refine Zz ?_;intros)
 refine j4 hM ⟨(n,13),show 0 < 13 by decide,show 13 < 1000000 by decide⟩ (r:=.c (.i .i64 (n % 13))) rfl (.k (.i _ _) (.k (b6v (by show ((9:Nat):Int)+4=((13:Nat):Int);decide)) .nil)) .nil fun _ _ _ _=>?_
 have h1:0≤n % 13:=Int.emod_nonneg _ dE
 have h2:n % 13 < 13:=Int.emod_lt_of_pos _ dE
 unfold a2c
 generalize n % 13=z at *
 obtain ⟨k,rfl⟩:∃ k:Nat,z=k:=⟨z.toNat,oM⟩
 (refine Zz ?_;with_reducible repeat' first|intro _|apply aI)
 ·rw [if_pos oM,Int.toNat_natCast]
  have hk:k < Y3.length:=by show k < 9;omega
  refine sfT (xs:=Y3.map s1) (r:=s1 (Y3.getD k [])) (n:=1) (b0j (d0p 2) (by rfl)) (by rw [Int.toNat_natCast,List.getElem?_map,List.getElem?_eq_getElem hk];simp [List.getD,List.getElem?_eq_getElem hk]) fun _ _=>?_
  unfold s1 at *
  (refine Zz ?_;intros)
  refine j4 hU (Y3.getD k []) (r:=.a (sg (D4,Y3.getD k []))) rfl (.k (.q _ _ aS) .nil) .nil fun _ _ _ _=>?_
  (refine Zz ?_;intros)
  exact j9 ⟨.ret _ _ (.a _ _ _ rfl aS),.nil⟩
 ·rw [if_neg oM,if_pos oM]
  refine j4 hL (m8 3 7104878) (r:=.a (sg (x7,m8 3 7104878))) rfl (.k (.s _ _ _ rfl rfl) .nil) .nil fun _ _ _ _=>?_
  (refine Zz ?_;intros)
  exact j9 ⟨.ret _ _ (.a _ _ _ rfl aS),.nil⟩
 ·rw [if_neg oM,if_neg oM,if_pos oM]
  refine j4 hL (m8 1 116) (r:=.a (sg (x7,m8 1 116))) rfl (.k (.s _ _ _ rfl rfl) .nil) .nil fun _ _ _ _=>?_
  (refine Zz ?_;intros)
  exact j9 ⟨.ret _ _ (.a _ _ _ rfl aS),.nil⟩
 ·rw [if_neg oM,if_neg oM,if_neg oM,if_pos oM]
  refine j4 hL (m8 3 7496035) (r:=.a (sg (x7,m8 3 7496035))) rfl (.k (.s _ _ _ rfl rfl) .nil) .nil fun _ _ _ _=>?_
  (refine Zz ?_;intros)
  exact j9 ⟨.ret _ _ (.a _ _ _ rfl aS),.nil⟩
 ·rw [if_neg oM,if_neg oM,if_neg oM,if_neg oM]
  refine j4 hL (m8 5 435745158513) (r:=.a (sg (x7,m8 5 435745158513))) rfl (.k (.s _ _ _ rfl rfl) .nil) .nil fun _ _ _ _=>?_
  (refine Zz ?_;intros)
  exact j9 ⟨.ret _ _ (.a _ _ _ rfl aS),.nil⟩
def atR (r:Raw):O :=
 if r.k % 8=0∨r.k % 8=1 then .num (r.n % 2001 - 1000) 1 else
 if r.k % 8=2 then a30 (qn (r.n % 41 - 20) (1+r.s.length)) else
 if r.k % 8=3 then .sy (a2c r.n) else .tx r.s
mutual
def z7:Raw→O
 | .mk k n s l=>if k % 8 < 5 then atR (.mk k n s l) else
  if k % 8=5 then .co ((E3 l).getD 0 (.num (-1000) 1)) ((E3 l).getD 1 (.num (-1000) 1)) else F1 (E3 l)
def E3:List Raw→List O
 | []=>[]
 | x :: xs=>z7 x :: E3 xs
end
theorem b6g:∀ l:List Raw,E3 l=l.map z7
 | []=>rfl
 | x :: xs=>by rw [E3,b6g xs];rfl
theorem d7k:z7 Raw.zero=.num (-1000) 1:=by
 show z7 (.mk 0 0 [] [])=_
 rw [z7,if_pos dE,atR,if_pos (.inl dE)]
 rfl
theorem b8c (l:List Raw) (i:Nat):(E3 l).getD i (.num (-1000) 1)=z7 (l.getD i Raw.zero):=by
 rw [b6g,← d7k]
 simp only [List.getD,List.getElem?_map]
 cases l[i]? <;> rfl
theorem e7d (r:Raw):z7 r=if r.k % 8 < 5 then atR r else if r.k % 8=5 then .co (z7 (r.part 0)) (z7 (r.part 1)) else F1 (r.l.map z7):=by
 cases r with
 | mk k n s l =>
  rw [z7,b8c,b8c,b6g]
  rfl
def muR (r:Raw):Nat:=if r.k % 8 < 5 then 2 * r.nodes - 1 else 2 * r.nodes
theorem d7j (r:Raw):muR r≤2 * r.nodes:=by unfold muR;split <;> omega
theorem e00:Raw.zero.okR:=⟨dE,dE,trivial⟩
theorem d17 {r:Raw} (h:r.okR) (i:Nat):(r.part i).okR:=by
 unfold Raw.part
 have h:=((Raw.okR_eq r).1 h).2.2
 by_cases hi:i < r.l.length
 ·rw [show r.l.getD i Raw.zero=r.l[i] by simp [List.getD,List.getElem?_eq_getElem hi]]
  exact Raw.okR_mem h (List.getElem_mem hi)
 ·rw [show r.l.getD i Raw.zero=Raw.zero by simp [List.getD,List.getElem?_eq_none (by omega:r.l.length≤i)]]
  exact e00
theorem d16 {r:Raw} (h:¬r.k % 8 < 5) (i:Nat):muR (r.part i) < muR r:=by
 unfold Raw.part
 have e:muR r=2 * r.nodes:=if_neg h
 have hn:=Raw.nodes_eq r
 by_cases hi:i < r.l.length
 ·rw [show r.l.getD i Raw.zero=r.l[i] by simp [List.getD,List.getElem?_eq_getElem hi]]
  have h1:=Raw.nodes_mem (List.getElem_mem hi)
  have h2:=d7j r.l[i]
  omega
 ·rw [show r.l.getD i Raw.zero=Raw.zero by simp [List.getD,List.getElem?_eq_none (by omega:r.l.length≤i)]]
  have:muR Raw.zero=1:=dE
  omega
theorem f1g {r:Raw} (h:¬r.k % 8 < 5) {x:Raw} (hx:x ∈ r.l):muR x < muR r:=by
 have e:muR r=2 * r.nodes:=if_neg h
 have hn:=Raw.nodes_eq r
 have h1:=Raw.nodes_mem hx
 have h2:=d7j x
 omega
def e5o:Sp where
 ι:={ r:Raw // r.okR }
 A r:=[.a r.1.g]
 B _:=[]
 R r:=.ret (.a (z7 r.1).g)
 B' _:=[]
 inj i j vs bs h k _ _:=by
  obtain ⟨_,_,h1,k1,h,k⟩:=h.two k
  rw [Raw.g_inj (h1.a_inj k1)];exact ⟨rfl,rfl⟩
theorem e6u (hItoa:c41):k9 12 e5o:=a3x (fun r=>muR r.1) fun z ih=>n9 (fun fn h=>f2e h) [(12,e5o.lt (fun r=>muR r.1) z),(33,_),(36,_),(39,_),(35,_),(34,_),(22,_),(20,_),(37,_),(38,_),(19,_)] (.cons ih (.cons f00 (.cons g1r (.cons f87 (.cons (c59 hItoa) (.cons (g1o hItoa) (.cons b2t (.cons c0k (.cons f1a (.cons e4k (.cons e4m .nil))))))))))) fun U fn hfn ⟨⟨r,hr⟩,hz⟩ vs bs hv hb=>by
 have hO:=hfn 12 _ rfl
 have hM:=hfn 33 _ rfl
 have hS:=hfn 36 _ rfl
 have hP:=hfn 39 _ rfl
 have hF:=hfn 35 _ rfl
 have hI:=hfn 34 _ rfl
 have hR:=hfn 22 _ rfl
 have hY:=hfn 20 _ rfl
 have hT:=hfn 37 _ rfl
 have hC:=hfn 38 _ rfl
 have hL:=hfn 19 _ rfl
 change l7 [.a r.g] vs at hv
 change RBs [] bs at hb
 have hz:muR r < z+1:=hz
 have hok:=(Raw.okR_eq r).1 hr
 show j5 U _ fun v bs'=>l8 (.ret (.a (z7 r).g)) v∧RBs [] bs'
 rw [e7d]
 have h1:0≤r.k % 8:=Int.emod_nonneg _ dE
 have h2:r.k % 8 < 8:=Int.emod_lt_of_pos _ dE
 unfold r12
 (refine Zz ?_;intros)
 refine M5 aS (Raw.g_len _) fun _ _=>?_
 have hcel:=(‹A6 r.g _ 0›)
 rw [Raw.g_eq] at hcel
 (refine Zz ?_;intros)
 refine j4 hM ⟨(r.k,8),show 0 < 8 by decide,show 8 < 1000000 by decide⟩ (r:=.c (.i .i64 (r.k % 8))) rfl (.k (.q _ _ aS) (.k (b6v rfl) .nil)) .nil fun _ _ _ _=>?_
 (refine Zz ?_;with_reducible repeat' first|intro _|apply aI)
 ·refine j4 hM ⟨(r.n,2001),show 0 < 2001 by decide,show 2001 < 1000000 by decide⟩ (r:=.c (.i .i64 (r.n % 2001))) rfl (.k (.q _ _ aS) (.k (b6v rfl) .nil)) .nil fun _ _ _ _=>?_
  have b1:0≤r.n % 2001:=Int.emod_nonneg _ dE
  have b2:r.n % 2001 < 2001:=Int.emod_lt_of_pos _ dE
  (refine Zz ?_;intros)
  refine j4 hI ⟨r.n % 2001 - 1000,oM,oM⟩ (r:=.a (O.num (r.n % 2001 - 1000) 1).g) rfl (.k (.i _ _) .nil) .nil fun _ _ _ _=>?_
  (refine Zz ?_;intros)
  rw [if_pos oM,atR,if_pos oM]
  exact j9 ⟨.ret _ _ oV,.nil⟩
 ·refine j4 hM ⟨(r.n,2001),show 0 < 2001 by decide,show 2001 < 1000000 by decide⟩ (r:=.c (.i .i64 (r.n % 2001))) rfl (.k (.q _ _ aS) (.k (b6v rfl) .nil)) .nil fun _ _ _ _=>?_
  have b1:0≤r.n % 2001:=Int.emod_nonneg _ dE
  have b2:r.n % 2001 < 2001:=Int.emod_lt_of_pos _ dE
  (refine Zz ?_;intros)
  refine j4 hI ⟨r.n % 2001 - 1000,oM,oM⟩ (r:=.a (O.num (r.n % 2001 - 1000) 1).g) rfl (.k (.i _ _) .nil) .nil fun _ _ _ _=>?_
  (refine Zz ?_;intros)
  rw [if_pos oM,atR,if_pos oM]
  exact j9 ⟨.ret _ _ oV,.nil⟩
 ·refine j4 hM ⟨(r.n,41),show 0 < 41 by decide,show 41 < 1000000 by decide⟩ (r:=.c (.i .i64 (r.n % 41))) rfl (.k (.q _ _ aS) (.k (b6v rfl) .nil)) .nil fun _ _ _ _=>?_
  have b1:0≤r.n % 41:=Int.emod_nonneg _ dE
  have b2:r.n % 41 < 41:=Int.emod_lt_of_pos _ dE
  have b3:=hok.1
  have c1:-1000000000 < r.n % 41 - 20∧r.n % 41 - 20 < 1000000000:=⟨oM,oM⟩
  have c2:-1000000000 < 1+(r.s.length:Int)∧1+(r.s.length:Int) < 1000000000:=⟨oM,oM⟩
  have l1:=a5i c1
  have l2:=a5i c2
  (refine Zz ?_;intros)
  refine j4 hF ⟨r.n % 41 - 20,c1⟩ (r:=.c (.s (j3 (r.n % 41 - 20)))) rfl (.k (.i _ _) .nil) .nil fun _ _ _ _=>?_
  (refine Zz ?_;intros)
  refine j4 hF ⟨1+(r.s.length:Int),c2⟩ (r:=.c (.s (j3 (1+(r.s.length:Int))))) rfl (.k (.i _ _) .nil) .nil fun _ _ _ _=>?_
  (refine Zz ?_;intros)
  refine j4 hR ⟨(j3 (r.n % 41 - 20),j3 (1+(r.s.length:Int))),Nat.lt_of_le_of_lt l1 dE,Nat.lt_of_le_of_lt l2 dE⟩ (r:=.a (a30 (qn (r.n % 41 - 20) (1+(r.s.length:Int)))).g) (by show r7.ret (.a (a30 (qn (j0 (j3 (r.n % 41 - 20))) (j0 (j3 (1+(r.s.length:Int)))))).g)=_;rw [s7,s7]) (.k (.s _ _ _ rfl rfl) (.k (.s _ _ _ rfl rfl) .nil)) .nil fun _ _ _ _=>?_
  (refine Zz ?_;intros)
  rw [if_pos oM,atR,if_neg oM,if_pos oM]
  exact j9 ⟨.ret _ _ oV,.nil⟩
 ·refine j4 hS r.n (r:=.a (sg (a2c r.n))) rfl (.k (.q _ _ aS) .nil) .nil fun _ _ _ _=>?_
  (refine Zz ?_;intros)
  refine j4 hY (a2c r.n) (r:=.a (O.sy (a2c r.n)).g) rfl (.k (.a _ _ _ rfl aS) .nil) .nil fun _ _ _ _=>?_
  (refine Zz ?_;intros)
  rw [if_pos oM,atR,if_neg oM,if_neg oM,if_pos oM]
  exact j9 ⟨.ret _ _ oV,.nil⟩
 ·refine j4 hT r.s (r:=.a (O.tx r.s).g) rfl (.k (.q _ _ aS) .nil) .nil fun _ _ _ _=>?_
  (refine Zz ?_;intros)
  rw [if_pos oM,atR,if_neg oM,if_neg oM,if_neg oM]
  exact j9 ⟨.ret _ _ oV,.nil⟩
 ·rw [if_neg oM,if_pos aS]
  have hm0:=d16 (r:=r) oM 0
  have hm1:=d16 (r:=r) oM 1
  refine j4 hP ⟨(r,0),show 0≤1000 by decide⟩ (r:=.a (r.part 0).g) rfl (.k (.a _ _ _ (Raw.g_len _).symm (by rw [Raw.g_eq];assumption)) (.k (b6v rfl) .nil)) .nil fun _ _ _ _=>?_
  (refine Zz ?_;intros)
  refine M5 aS (Raw.g_len _) fun _ _=>?_
  (refine Zz ?_;intros)
  refine j4 hO ⟨⟨r.part 0,d17 hr 0⟩,show muR (r.part 0) < z by omega⟩ (r:=.a (z7 (r.part 0)).g) rfl (.k (.a _ _ _ (Raw.g_len _).symm aS) .nil) .nil fun _ _ _ _=>?_
  (refine Zz ?_;intros)
  refine oR fun _ _=>?_
  (refine Zz ?_;intros)
  refine j4 hP ⟨(r,1),show 1≤1000 by decide⟩ (r:=.a (r.part 1).g) rfl (.k (.a _ _ _ (Raw.g_len _).symm (by rw [Raw.g_eq];assumption)) (.k (b6v rfl) .nil)) .nil fun _ _ _ _=>?_
  (refine Zz ?_;intros)
  refine M5 aS (Raw.g_len _) fun _ _=>?_
  (refine Zz ?_;intros)
  refine j4 hO ⟨⟨r.part 1,d17 hr 1⟩,show muR (r.part 1) < z by omega⟩ (r:=.a (z7 (r.part 1)).g) rfl (.k (.a _ _ _ (Raw.g_len _).symm aS) .nil) .nil fun _ _ _ _=>?_
  (refine Zz ?_;intros)
  refine oR fun _ _=>?_
  (refine Zz ?_;intros)
  refine j4 hC (z7 (r.part 0),z7 (r.part 1)) (r:=.a (O.co (z7 (r.part 0)) (z7 (r.part 1))).g) rfl (.k oV oA) .nil fun _ _ _ _=>?_
  (refine Zz ?_;intros)
  exact j9 ⟨.ret _ _ oV,.nil⟩
 ·rw [if_neg oM,if_neg aS]
  have hl6:=hok.2.1
  refine H2 (fun (i:Nat) vs bs=>∃ (q:Q) (v:V) (acc:List O),vs=[.ptr 0 0,.ptr 1 0,.int .i64 i,v]∧bs=[.opa q 4,.cells [.int .i64 0,.str 0 0,.str 0 0,.str 0 0,.str 0 0,.str 0 0,.slice .nil 0 0 0 .exact],.tok acc.length 7]∧a1e 2 7 (acc.map O.g) v∧A6 [.i .i64 r.k,.i .i64 r.n,.s r.s,.l (r.l.map Raw.g)] q 0∧acc=(r.l.take i).map z7∧acc.length=i∧i≤r.l.length) (fun i=>r.l.length - i) 0
   ⟨_,_,[],rfl,rfl,.b rfl,aS,rfl,rfl,oM⟩ (by simp only [C4];omega) ?_
  rintro self i _ _ ⟨q,v,acc,rfl,rfl,htk,hq,hacc,hlen,hi⟩ ih
  (refine Zz ?_;intros)
  refine E8 aS (A0 Raw.g_len) fun _ _ _=>?_
  (refine Zz ?_;with_reducible repeat' first|intro _|apply aI)
  ·refine E8 aS (A0 Raw.g_len) fun _ _ _=>?_
   (refine Zz ?_;intros)
   have hiw:i < r.l.length:=oM
   have hmm:=f1g (r:=r) oM (List.getElem_mem hiw)
   refine j4 hO ⟨⟨r.l[i],Raw.okR_mem hok.2.2 (List.getElem_mem hiw)⟩,show muR r.l[i] < z by omega⟩ (r:=.a (z7 r.l[i]).g) rfl (.k (.a _ _ _ (Raw.g_len _).symm aS) .nil) .nil fun _ _ _ _=>?_
   (refine Zz ?_;intros)
   refine oR fun _ _=>?_
   (refine Zz ?_;intros)
   refine a2b aS (r:=(z7 r.l[i]).g) (fun _=>a1h (by rw [O.g_len];decide) aS) (O.g_len _) (by simp) (by simp only [List.length_map];omega) fun _ _=>?_
   (refine Zz ?_;intros)
   exact ih (i+1) _ _ ⟨_,_,acc ++ [z7 r.l[i]],rfl,(by rw [List.length_append];rfl),.a _ _ (by simp) (by rw [List.map_append];assumption),hq,(by rw [hacc,List.take_add_one,List.getElem?_eq_getElem hiw,List.map_append];rfl),by simp [hlen],oM⟩ oM
  ·have e9:acc=r.l.map z7:=by rw [hacc,List.take_of_length_le oM]
   refine j4 hL ⟨acc,oM⟩ (r:=.a (F1 acc).g) rfl (.k (.sl _ _ _ _ _ (by simp) aS) .nil) .nil fun _ _ _ _=>?_
   (refine Zz ?_;intros)
   refine oR fun _ _=>?_
   (refine Zz ?_;intros)
   rw [← e9]
   exact j9 ⟨.ret _ _ oV,.nil⟩
def ok (o:O):Prop:=o.size≤3000∧o.fm=true
theorem d7o (n:Int) (h:-1000000000 < n∧n < 1000000000):ok (.num n 1):=by
 refine ⟨by show 1≤3000;decide,decide_eq_true ⟨?_,?_,?_⟩⟩
 ·rw [U4,s7,B4]
  show (j3 (qn n 1).1,i7 (qn n 1).2)=_
  rw [c7t]
 ·unfold G8
  rw [s7]
  have:=a2t (n:=n.natAbs) (k:=9) oM
  omega
 ·unfold G8
  rw [B4,Int.natAbs_natCast]
  have:=a2t (n:=1) (k:=1) dE
  omega
theorem d7x:t6 x7=true:=by
 unfold t6
 rw [a1n (i:=0) dE dE,a1n (i:=1) dE dE,a1n (i:=2) dE dE,a1n (i:=3) dE dE,b4c dE]
 decide
theorem d12 {s:i6} (h:1≤s.length∧s.length≤40):ok (.sy (x7,s)):=by
 refine ⟨by show 1≤3000;decide,?_⟩
 show named _=true
 unfold named
 rw [d7x,decide_eq_true h];rfl
theorem f1r:ok B3:=d12 dE
def szL:List O→Nat
 | []=>1
 | a :: l=>1+a.size+szL l
theorem d8t:∀ os:List O,(F1 os).size=szL os
 | []=>rfl
 | a :: l=>by show 1+a.size+(F1 l).size=_;rw [d8t l];rfl
theorem d6n:∀ os:List O,(F1 os).fm=true↔∀ x ∈ os,x.fm=true
 | []=>⟨fun _ x h=>absurd h (by simp),fun _=>f1r.2⟩
 | a :: l=>by
  have e:(F1 (a :: l)).fm=(a.fm && (F1 l).fm):=rfl
  rw [e,Bool.and_eq_true,d6n l]
  simp
theorem f9f (x y:Int):qn (qn x y).1 ((qn x y).2:Nat)=qn x y:=by
 by_cases hy:y=0
 ·have e:qn x y=(0,1):=by unfold qn;rw [if_pos hy]
  rw [e]
  exact c7t 0
 have e:qn x y=((if (x < 0)=(y < 0) then 1 else -1) * ((x.natAbs / Nat.gcd x.natAbs y.natAbs:Nat):Int),y.natAbs / Nat.gcd x.natAbs y.natAbs):=by unfold qn;rw [if_neg hy]
 have hg:0 < Nat.gcd x.natAbs y.natAbs:=Nat.gcd_pos_of_pos_right _ oM
 have h1:Nat.gcd (x.natAbs / Nat.gcd x.natAbs y.natAbs) (y.natAbs / Nat.gcd x.natAbs y.natAbs)=1:=by
  rw [Nat.gcd_div (Nat.gcd_dvd_left _ _) (Nat.gcd_dvd_right _ _),Nat.div_self hg]
 have hd:0 < y.natAbs / Nat.gcd x.natAbs y.natAbs:=Nat.div_pos (Nat.le_of_dvd oM (Nat.gcd_dvd_right _ _)) hg
 rw [e]
 simp only
 generalize x.natAbs / Nat.gcd x.natAbs y.natAbs=a at *
 generalize y.natAbs / Nat.gcd x.natAbs y.natAbs=b at *
 have hs:∃ n:Int,(if (x < 0)=(y < 0) then (1:Int) else -1) * (a:Int)=n∧n.natAbs=a:=by
  by_cases hc:(x < 0)=(y < 0)
  ·exact ⟨a,by rw [if_pos hc];omega,oM⟩
  ·exact ⟨-(a:Int),by rw [if_neg hc];omega,oM⟩
 obtain ⟨n,e1,e2⟩:=hs
 rw [e1]
 unfold qn
 rw [if_neg oM,Int.natAbs_natCast,e2,h1,Nat.div_one,Nat.div_one]
 refine Prod.ext ?_ rfl
 show (if (n < 0)=((b:Int) < 0) then (1:Int) else -1) * (a:Int)=n
 by_cases hn:n < 0
 ·rw [if_neg (fun e=>absurd (e.mp hn) oM)];omega
 ·rw [if_pos (propext ⟨fun k=>absurd k hn,fun k=>absurd k oM⟩)];omega
theorem f8w {x y:Int} (hx:x.natAbs < 1000000000) (hy:y.natAbs < 1000000000):(a30 (qn x y)).fm=true:=by
 have hq:=f9f x y
 have b1:(qn x y).1.natAbs < 1000000000∧(qn x y).2 < 1000000000:=by
  unfold qn
  split
  ·exact ⟨dE,dE⟩
  ·have d1:=Nat.div_le_self x.natAbs (Nat.gcd x.natAbs y.natAbs)
   have d2:=Nat.div_le_self y.natAbs (Nat.gcd x.natAbs y.natAbs)
   refine ⟨?_,Nat.lt_of_le_of_lt d2 hy⟩
   simp only
   generalize x.natAbs / Nat.gcd x.natAbs y.natAbs=a at *
   split
   ·omega
   ·omega
 generalize qn x y=q at *
 obtain ⟨n,d⟩:=q
 have b2:n.natAbs < 1000000000:=b1.1
 have b3:d < 1000000000:=b1.2
 refine decide_eq_true ⟨?_,?_,?_⟩
 ·rw [U4,s7,B4,hq]
 ·unfold G8
  rw [s7]
  have:=a2t (n:=n.natAbs) (k:=9) b2
  show max 1 (j7 n.natAbs).length≤100
  omega
 ·unfold G8
  rw [B4,Int.natAbs_natCast]
  have:=a2t (n:=d) (k:=9) b3
  show max 1 (j7 d).length≤100
  omega
theorem e1c:t6 D4=true:=by
 unfold t6
 rw [a1n (i:=0) dE dE,a1n (i:=1) dE dE,a1n (i:=2) dE dE,a1n (i:=3) dE dE,b4c dE]
 decide
theorem c98:∀ k,k < 9→1≤(Y3.getD k []).length∧(Y3.getD k []).length≤40:=dE
theorem e9m (n:Int):named (a2c n)=true:=by
 have h1:0≤n % 13:=Int.emod_nonneg _ dE
 unfold a2c
 split
 ·unfold named
  have:=c98 (n % 13).toNat oM
  rw [e1c,decide_eq_true this];rfl
 ·repeat' split
  all_goals exact (d12 dE).2
theorem f0g {r:Raw} (h:r.s.length≤12):(atR r).fm=true:=by
 unfold atR
 have h1:0≤r.n % 2001:=Int.emod_nonneg _ dE
 have h2:r.n % 2001 < 2001:=Int.emod_lt_of_pos _ dE
 have h3:0≤r.n % 41:=Int.emod_nonneg _ dE
 have h4:r.n % 41 < 41:=Int.emod_lt_of_pos _ dE
 split
 ·exact (d7o _ ⟨oM,oM⟩).2
 ·split
  ·exact f8w oM oM
  ·split
   ·exact e9m _
   ·exact decide_eq_true (by show r.s.length≤200;omega)
theorem d9n (r:Raw):(atR r).size=1:=by
 unfold atR
 repeat' split
 all_goals rfl
mutual
theorem a90:∀ r:Raw,(z7 r).size+1≤4 * r.nodes
 | .mk k n s l=>by
  have h:=c7c l
  have hn:(Raw.mk k n s l).nodes=1+Raw.nodesL l:=rfl
  rw [z7]
  split
  ·rw [d9n];omega
  ·split
   ·have h2:=d7l l
    show 1+((E3 l).getD 0 (.num (-1000) 1)).size+((E3 l).getD 1 (.num (-1000) 1)).size+1≤_
    omega
   ·rw [d8t];omega
theorem c7c:∀ l:List Raw,szL (E3 l)≤1+4 * Raw.nodesL l
 | []=>by show 1≤_;omega
 | x :: xs=>by
  have h1:=a90 x
  have h2:=c7c xs
  show 1+(z7 x).size+szL (E3 xs)≤1+4 * (x.nodes+Raw.nodesL xs)
  omega
theorem d7l:∀ l:List Raw,((E3 l).getD 0 (.num (-1000) 1)).size+((E3 l).getD 1 (.num (-1000) 1)).size≤2+4 * Raw.nodesL l
 | []=>by show 1+1≤_;omega
 | [x]=>by
  have h1:=a90 x
  show (z7 x).size+1≤2+4 * (x.nodes+0)
  omega
 | x :: y :: l=>by
  have h1:=a90 x
  have h2:=a90 y
  show (z7 x).size+(z7 y).size≤2+4 * (x.nodes+(y.nodes+Raw.nodesL l))
  omega
end
mutual
theorem d10:∀ {r:Raw},r.okR→(z7 r).fm=true
 | .mk k n s l,h=>by
  have hl:=c7b (l:=l) h.2.2
  rw [z7]
  split
  ·exact f0g (r:=.mk k n s l) h.1
  ·split
   ·have hz:(O.num (-1000) 1).fm=true:=(d7o (-1000) dE).2
    have hg:∀ i,((E3 l).getD i (.num (-1000) 1)).fm=true:=fun i=>by
     by_cases hi:i < (E3 l).length
     ·rw [show (E3 l).getD i (.num (-1000) 1)=(E3 l)[i] by simp [List.getD,List.getElem?_eq_getElem hi]]
      exact hl _ (List.getElem_mem hi)
     ·rw [show (E3 l).getD i (.num (-1000) 1)=.num (-1000) 1 by simp [List.getD,List.getElem?_eq_none (by omega:(E3 l).length≤i)]]
      exact hz
    show (_ && _)=true
    rw [hg,hg];rfl
   ·exact (d6n _).2 hl
theorem c7b:∀ {l:List Raw},Raw.okRL l→∀ x ∈ E3 l,x.fm=true
 | [],_,x,h=>by cases h
 | y :: l,h,x,hx=>by
  cases hx with
  | head=>exact d10 h.1
  | tail _ hx=>exact c7b h.2 x hx
end
theorem d04 {r:Raw} {m:Nat} (h:r.few m=true):(z7 r).size+1≤4 * m∧(z7 r).fm=true:=by
 have h:=Raw.few_ok h
 have:=a90 r
 exact ⟨oM,d10 h.1⟩
end
end Go.Proofs.YtdldcfllnohkeaaGreatDoor
namespace Go.Proofs.YtdldcfllnohkeaaGreatDoor
open Go.Abs LQ Go.RowKit Go.Lib Go.Sort
set_option maxRecDepth 100000
set_option maxHeartbeats 4000000
noncomputable section
theorem V5:∀ n:Nat,Lib.decDigits n=i7 n:=by
 intro n
 induction n using Nat.strongRecOn with
 | _ n ih =>
  unfold Lib.decDigits
  by_cases h:n < 10
  ·simp only [h,dite_true,if_true]
   by_cases h0:n=0
   ·subst h0;rfl
   ·unfold i7
    rw [if_neg h0,F4 h0,show n / 10=0 by omega,y9,Nat.mod_eq_of_lt h]
    rfl
  ·simp only [h,dite_false,if_false]
   rw [ih (n / 10) oM]
   have h1:¬n / 10=0:=oM
   have h0:¬n=0:=oM
   unfold i7
   rw [if_neg h1,if_neg h0,F4 h0,List.reverse_cons,List.map_append]
   rfl
theorem c55 (n:Int):Lib.itoa n=j3 n:=by
 unfold Lib.itoa j3
 split
 ·rw [V5];rfl
 ·rw [V5,show n.toNat=n.natAbs by omega]
theorem e6i:c41:=fun ⟨n,hn⟩ vs bs hv hb=>by
 change l7 [.c (.i .i64 n)] vs at hv
 cases hb
 refine ⟨.ret (.str (j3 n).length (n7 (j3 n))),[],fun hok=>?_,.ret _ _ (.s _ _ _ rfl rfl),.nil⟩
 have hx:vs.map toD=[D.int .i64 n]:=by
  cases hv with
  | cons _ _ v _ h1 h2 =>
   cases h2
   cases h1 with
   | i=>rfl
   | q _ x h=>cases h;rfl
 rw [hx]
 show CM X0.P X0.G _ _ [] (.ret (.str (m8 (j3 n).length (n7 (j3 n))))) []
 rw [C2]
 refine L5 (d:=.str (j3 n)) Tryz.call67 fun w S M us hg hwi hr=>?_
 cases hr with
 | cons _ _ _ _ r1 r2 =>
 cases r2
 cases r1
 refine (Any.strconv_Itoa Tryz.laysM171 n oM oM w (d70 hg)).mono ?_
 rintro e w' ⟨rfl,k,os,rfl⟩
 have hb:Below w.heap.size w (grow (w.drewN k) os):=⟨rfl,rfl,rfl,by show w.heap.size≤(w.heap ++ os).size;rw [Array.size_append];omega,fun j hj=>by show (w.heap ++ os)[j]?=w.heap[j]?;exact Array.getElem?_append_left hj⟩
 exact ⟨hb,_,S,rfl,⟨fun _ _ h=>h,fun _ _ h=>.inl h⟩,S8 hwi hb,.str _ _ (by rw [c55]),P6 (fun _ _ _ h=>by cases h) (fun _ h=>by cases h)⟩
end
end Go.Proofs.YtdldcfllnohkeaaGreatDoor
namespace Go.Proofs.YtdldcfllnohkeaaGreatDoor
open Go.Abs LQ
noncomputable section
open Classical
def Y7 (L:List Pk) (cur:i6):O→Nat
 | .co a d=>Y7 L cur a+Y7 L cur d
 | o=>(J1 L cur o).length
def lv:O→Nat
 | .co a d=>lv a+lv d
 | _=>1
theorem d7a (o:O):0 < lv o:=by induction o <;> simp [lv] <;> omega
theorem c0s (o:O):o.size+1=2 * lv o:=by induction o <;> simp [lv,O.size] <;> omega
section
variable {L:List Pk} {cur:i6}
theorem a7s:∀ o:O,(pT L cur o).1.length+4≤Y7 L cur o+5 * lv o∧(pT L cur o).2.1.length+1≤Y7 L cur o+5 * lv o
 | .co a d=>by
  have h1:=(a7s a).1
  have h2:=(a7s d).2
  have h3:=c8o (L:=L) (cur:=cur) a d
  have e:(pT L cur (.co a d)).2.1.length=1+((pT L cur a).1.length+(pT L cur d).2.1.length):=by simp only [pT,List.length_cons,List.length_append];omega
  simp only [Y7,lv]
  rw [e] at h3 ⊢
  omega
 | .num n d=>by
  have e:(pT L cur (.num n d)).2.1=32 :: 46 :: 32 :: (J1 L cur (.num n d) ++ [41]):=by simp [pT,B3]
  rw [e]
  refine ⟨?_,?_⟩
  ·show (J1 L cur (.num n d)).length+4≤(J1 L cur (.num n d)).length+5 * 1;omega
  ·show _≤(J1 L cur (.num n d)).length+5 * 1;simp
 | .tx n=>by
  have e:(pT L cur (.tx n)).2.1=32 :: 46 :: 32 :: (J1 L cur (.tx n) ++ [41]):=by simp [pT,B3]
  rw [e]
  refine ⟨?_,?_⟩
  ·show (J1 L cur (.tx n)).length+4≤(J1 L cur (.tx n)).length+5 * 1;omega
  ·show _≤(J1 L cur (.tx n)).length+5 * 1;simp
 | .no=>by
  have e:(pT L cur .no).2.1=32 :: 46 :: 32 :: (J1 L cur .no ++ [41]):=by simp [pT,B3]
  rw [e]
  refine ⟨?_,?_⟩
  ·show (J1 L cur .no).length+4≤(J1 L cur .no).length+5 * 1;omega
  ·show _≤(J1 L cur .no).length+5 * 1;simp
 | .sy n=>by
  refine ⟨?_,?_⟩
  ·show (J1 L cur (.sy n)).length+4≤(J1 L cur (.sy n)).length+5 * 1;omega
  ·show _≤(J1 L cur (.sy n)).length+5 * 1
   simp only [pT]
   split <;> simp
theorem d99 (a b:List i6):(C3 (a ++ b)).length=(C3 a).length+(C3 b).length:=by simp [C3]
theorem X2 (a:i6) (b:List i6):(C3 (a :: b)).length=a.length+1+(C3 b).length:=by simp [C3];omega
theorem d3p (a:List i6):(C3 (a.map (32 :: ·))).length=(C3 a).length+a.length:=by
 induction a with
 | nil=>rfl
 | cons x a ih=>rw [List.map_cons,X2,X2,ih];simp;omega
theorem d6p (a:List i6):(C3 (J8 a)).length=(C3 a).length+a.length:=by
 cases a with
 | nil=>rfl
 | cons x a=>rw [J8,X2,X2,d3p];simp;omega
theorem b7u:∀ (a:List i6),(C3 (Q0 a)).length≤(C3 a).length+1
 | []=>by simp [Q0]
 | [l]=>by simp [Q0,C3]
 | l :: m :: r=>by
  have:=b7u (m :: r)
  show (C3 (l :: Q0 (m :: r))).length≤_
  rw [X2,X2];omega
theorem a14 (a:List i6):(J8 a).length=a.length:=by cases a <;> simp [J8]
theorem b2c:∀ (a:List i6),(Q0 a).length=a.length
 | []=>rfl
 | [l]=>rfl
 | l :: m :: r=>by simp [Q0,b2c (m :: r)]
theorem c54:∀ {l:List O} {o:O},w9 o=some l→(l.map lv).sum+1=lv o∧(l.map (Y7 L cur)).sum≤Y7 L cur o∧(∀ x ∈ l,(dO x).1≤(dO o).2)
 | [],o,h=>by rw [b2s h];exact ⟨rfl,Nat.zero_le _,fun x hx=>by cases hx⟩
 | a :: l,o,h=>by
  obtain ⟨d,rfl,hd⟩:=J7 h
  obtain ⟨h1,h2,h3⟩:=c54 hd
  simp only [List.map_cons,List.sum_cons,lv,Y7,dO]
  refine ⟨oM,oM,fun x hx=>?_⟩
  rcases List.mem_cons.1 hx with rfl | hx
  ·omega
  ·have:=h3 x hx;omega
theorem c2k {n:Nat}:∀ {o:O} {w:Int},o.size≤n→(D6 L cur n o w).length≤lv o∧(C3 (D6 L cur n o w)).length≤Y7 L cur o+6 * lv o+lv o * (dO o).1:=by
 induction n with
 | zero=>intro o w h;have:=O.size_pos o;omega
 | succ n ih =>
  intro o w h
  have hone:([A4 L cur o]:List i6).length≤lv o∧(C3 [A4 L cur o]).length≤Y7 L cur o+6 * lv o+lv o * (dO o).1:=by
   have:=(a7s (L:=L) (cur:=cur) o).1
   have hp:=d7a o
   refine ⟨by simp;omega,?_⟩
   rw [X2]
   show (pT L cur o).1.length+1+0≤_
   omega
  rw [D6]
  split
  ·rename_i l hl
   split
   ·exact hone
   ·rename_i hcn
    cases l with
    | nil=>exact absurd (.inr (.inl (by simp))) hcn
    | cons a l =>
     obtain ⟨i1,i2,i3⟩:=c54 (L:=L) (cur:=cur) hl
     obtain ⟨d,ho,hd⟩:=J7 hl
     have hdo:(dO o).1=1+(dO o).2:=by rw [ho];rfl
     have hsz:=M6 hl
     have hall:∀ m:List O,(∀ x ∈ m,x ∈ a :: l)→(m.flatMap fun x=>D6 L cur n x (w - 1)).length≤(m.map lv).sum∧(C3 (m.flatMap fun x=>D6 L cur n x (w - 1))).length≤(m.map (Y7 L cur)).sum+6 * (m.map lv).sum+(m.map lv).sum * (dO o).2:=by
      intro m
      induction m with
      | nil=>intro _;exact ⟨Nat.le_refl _,Nat.zero_le _⟩
      | cons x m ihm =>
       intro hm
       have hx:=hm x (by simp)
       have h1:=ih (o:=x) (w:=w - 1) (by have:=hsz x hx;omega)
       have h2:=ihm fun y hy=>hm y (by simp [hy])
       simp only [List.flatMap_cons,List.map_cons,List.sum_cons,List.length_append,d99]
       have h3:=Nat.mul_le_mul_left (lv x) (i3 x hx)
       rw [Nat.add_mul]
       omega
     obtain ⟨g1,g2⟩:=hall (a :: l) fun _ hx=>hx
     generalize ((a :: l).flatMap fun x=>D6 L cur n x (w - 1))=Z at *
     refine ⟨by rw [b2c,a14];omega,?_⟩
     have k1:=b7u (J8 Z)
     rw [d6p] at k1
     rw [hdo]
     generalize hS:((a :: l).map lv).sum=S at *
     have e:lv o * (1+(dO o).2)=S * (dO o).2+S+1+(dO o).2:=by
      rw [← i1,Nat.mul_add,Nat.mul_one,Nat.add_mul,Nat.one_mul];omega
     rw [e]
     omega
  ·exact hone
end
theorem d6g {m:Nat} (h:m < 10000):(i7 m).length≤4:=by
 have h1:=b1c m
 by_cases h0:m=0
 ·subst h0;rw [y9] at h1;simp at h1;omega
 ·have h2:=a6m m h0
  have h3:10 ^ ((j7 m).length - 1) < 10 ^ 4:=oM
  have:=(Nat.pow_lt_pow_iff_right (by decide:1 < 10)).1 h3
  omega
theorem c65 {L:List Pk} {cur:i6} {n:Int} {d:Nat} (h:n.natAbs < 10000) (h2:d < 10000):(J1 L cur (.num n d)).length≤26:=by
 have h1:=c64 n d
 have l3:(j3 n).length≤1+(i7 n.natAbs).length:=by
  rw [I8,List.length_append]
  have:(LQ.sgn n).length≤1:=by unfold LQ.sgn;split <;> simp
  omega
 have:=d6g h
 have:=d6g h2
 show (a0f n d).length≤_
 omega
theorem e1k (x y:Int) (hx:x.natAbs < 10000) (hy:y.natAbs < 10000):(qn x y).1.natAbs < 10000∧(qn x y).2 < 10000:=by
 unfold qn
 split
 ·exact ⟨dE,dE⟩
 ·have d1:=Nat.div_le_self x.natAbs (Nat.gcd x.natAbs y.natAbs)
  have d2:=Nat.div_le_self y.natAbs (Nat.gcd x.natAbs y.natAbs)
  refine ⟨?_,Nat.lt_of_le_of_lt d2 hy⟩
  simp only
  generalize x.natAbs / Nat.gcd x.natAbs y.natAbs=a at *
  split
  ·omega
  ·omega
theorem d5a:∀ k,k < 9→(Y3.getD k []).length≤8:=dE
theorem e3k (L:List Pk) (cur:i6) (n:Int):(J1 L cur (.sy (a2c n))).length≤26:=by
 have h:=b6d L cur (a2c n)
 have h1:0≤n % 13:=Int.emod_nonneg _ dE
 have:(a2c n).1.length≤4∧(a2c n).2.length≤8:=by
  unfold a2c
  split
  ·have:=d5a (n % 13).toNat oM
   exact ⟨by show 4≤4;omega,this⟩
  ·repeat' split
   all_goals exact ⟨dE,dE⟩
 show (O7 L cur (a2c n)).1.length≤26
 omega
theorem f0e (L:List Pk) (cur:i6) {r:Raw} (h:r.s.length≤12):Y7 L cur (atR r)≤26 * lv (atR r):=by
 have h1:0≤r.n % 2001:=Int.emod_nonneg _ dE
 have h2:r.n % 2001 < 2001:=Int.emod_lt_of_pos _ dE
 have h3:0≤r.n % 41:=Int.emod_nonneg _ dE
 have h4:r.n % 41 < 41:=Int.emod_lt_of_pos _ dE
 unfold atR
 split
 ·exact c65 (L:=L) (cur:=cur) oM oM
 ·split
  ·have:=e1k (r.n % 41 - 20) (1+r.s.length) oM oM
   exact c65 (L:=L) (cur:=cur) this.1 this.2
  ·split
   ·exact e3k L cur r.n
   ·have:=b97 34 r.s
    show (H4 34 r.s).length≤26
    omega
theorem f1l (L:List Pk) (cur:i6):Y7 L cur B3≤26 * lv B3:=by
 have:=b6d L cur (x7,[110,105,108])
 show (O7 L cur (x7,[110,105,108])).1.length≤26
 have e:(x7,([110,105,108]:i6)).1.length+2 * (x7,([110,105,108]:i6)).2.length+4=14:=rfl
 omega
theorem d1p (L:List Pk) (cur:i6):∀ {l:List O},(∀ x ∈ l,Y7 L cur x≤26 * lv x)→Y7 L cur (F1 l)≤26 * lv (F1 l)
 | [],_=>f1l L cur
 | x :: l,h=>by
  have h1:=h x (by simp)
  have h2:=d1p L cur (l:=l) fun y hy=>h y (by simp [hy])
  show Y7 L cur x+Y7 L cur (F1 l)≤26 * (lv x+lv (F1 l))
  omega
mutual
theorem d1y (L:List Pk) (cur:i6):∀ {r:Raw},r.okR→Y7 L cur (z7 r)≤26 * lv (z7 r)
 | .mk k n s l,h=>by
  have hl:=c69 L cur (l:=l) h.2.2
  rw [z7]
  split
  ·exact f0e L cur (r:=.mk k n s l) h.1
  ·split
   ·have hz:Y7 L cur (O.num (-1000) 1)≤26 * lv (O.num (-1000) 1):=c65 (L:=L) (cur:=cur) dE dE
    have hg:∀ i,Y7 L cur ((E3 l).getD i (.num (-1000) 1))≤26 * lv ((E3 l).getD i (.num (-1000) 1)):=fun i=>by
     by_cases hi:i < (E3 l).length
     ·rw [show (E3 l).getD i (.num (-1000) 1)=(E3 l)[i] by simp [List.getD,List.getElem?_eq_getElem hi]]
      exact hl _ (List.getElem_mem hi)
     ·rw [show (E3 l).getD i (.num (-1000) 1)=.num (-1000) 1 by simp [List.getD,List.getElem?_eq_none (by omega:(E3 l).length≤i)]]
      exact hz
    have h0:=hg 0
    have h1:=hg 1
    show Y7 L cur _+Y7 L cur _≤26 * (lv _+lv _)
    omega
   ·exact d1p L cur hl
theorem c69 (L:List Pk) (cur:i6):∀ {l:List Raw},Raw.okRL l→∀ x ∈ E3 l,Y7 L cur x≤26 * lv x
 | [],_,x,h=>by cases h
 | y :: l,h,x,hx=>by
  cases hx with
  | head=>exact d1y L cur h.1
  | tail _ hx=>exact c69 L cur h.2 x hx
end
theorem d0s {b:Nat}:∀ {l:List O},(∀ x ∈ l,(dO x).1≤b)→(dO (F1 l)).1≤1+b∧(dO (F1 l)).2≤b
 | [],_=>⟨Nat.zero_le _,Nat.zero_le _⟩
 | x :: l,h=>by
  have h1:=h x (by simp)
  have h2:=(d0s (l:=l) fun y hy=>h y (by simp [hy])).2
  show 1+max (dO x).1 (dO (F1 l)).2≤_∧max (dO x).1 (dO (F1 l)).2≤_
  omega
theorem f0f (r:Raw):(dO (atR r)).1=0:=by
 unfold atR
 repeat' split
 all_goals rfl
mutual
theorem d1z:∀ r:Raw,(dO (z7 r)).1≤r.nodes
 | .mk k n s l=>by
  have hl:=c7a l
  have hn:(Raw.mk k n s l).nodes=1+Raw.nodesL l:=rfl
  rw [z7,hn]
  split
  ·rw [f0f];omega
  ·split
   ·have hg:∀ i,(dO ((E3 l).getD i (.num (-1000) 1))).1≤Raw.nodesL l:=fun i=>by
     by_cases hi:i < (E3 l).length
     ·rw [show (E3 l).getD i (.num (-1000) 1)=(E3 l)[i] by simp [List.getD,List.getElem?_eq_getElem hi]]
      exact hl _ (List.getElem_mem hi)
     ·rw [show (E3 l).getD i (.num (-1000) 1)=.num (-1000) 1 by simp [List.getD,List.getElem?_eq_none (by omega:(E3 l).length≤i)]]
      exact Nat.zero_le _
    have h0:=hg 0
    have h1:=hg 1
    have h2:=f8q ((E3 l).getD 1 (.num (-1000) 1))
    show 1+max _ _≤_
    omega
   ·exact (d0s hl).1
theorem c7a:∀ l:List Raw,∀ x ∈ E3 l,(dO x).1≤Raw.nodesL l
 | [],x,h=>by cases h
 | y :: l,x,hx=>by
  have e:Raw.nodesL (y :: l)=y.nodes+Raw.nodesL l:=rfl
  rw [e]
  cases hx with
  | head=>have:=d1z y;omega
  | tail _ hx=>have:=c7a l x hx;omega
end
theorem e3v {L:List Pk} {cur:i6} {r:Raw} {w:Int} (h:r.few 40=true):(A4 L cur (z7 r)).length≤6000∧(C3 (D6 L cur (z7 r).size (z7 r) w)).length≤6000∧(z7 r).size≤3000∧(dO (z7 r)).1≤201:=by
 have h9:=Raw.few_ok h
 have h1:=(d04 h).1
 have h2:=c0s (z7 r)
 have h3:=d1y L cur h9.1
 have h4:=(a7s (L:=L) (cur:=cur) (z7 r)).1
 have h5:=(c2k (L:=L) (cur:=cur) (o:=z7 r) (w:=w) (Nat.le_refl _)).2
 have h6:=d1z r
 have h8:lv (z7 r)≤80:=oM
 have h7:=Nat.mul_le_mul h8 (show (dO (z7 r)).1≤40 by omega)
 refine ⟨by show (pT L cur (z7 r)).1.length≤_;omega,oM,oM,oM⟩
end
end Go.Proofs.YtdldcfllnohkeaaGreatDoor
