/- Numbers from Go's integers; the arithmetic that the built-in world N7. c18 is a hypothesis until the shelf's a0r is joined. -/
import Derived.Test.YtdldcfllnohkeaaGreatDoorKRA
import Derived.Test.YtdldcfllnohkeaaGreatDoorKTB
set_option linter.all false
namespace Go.Proofs.YtdldcfllnohkeaaGreatDoor
open Go.Abs LQ
set_option maxRecDepth 100000
set_option maxHeartbeats 4000000
noncomputable section
def spI (g:Int→GV):Sp where
 ι:={ n:Int // -1000000000 < n∧n < 1000000000 }
 A n:=[.c (.i .i64 n.1)]
 B _:=[]
 R n:=.ret (g n.1)
 B' _:=[]
 inj i j vs bs h k _ _:=by
  obtain ⟨_,_,h1,k1,h,k⟩:=h.two k
  rw [(G.i.inj (h1.c_inj k1)).2];exact ⟨rfl,rfl⟩
abbrev c18:=j3 67 (spI fun n=>.c (.s (f9 n)))
theorem c3f (hI:c18):j3 35 (spI fun n=>.c (.s (f9 n))):=k7 (fun fn h=>e9q h) [(67,_)] (.cons hI .nil) fun U fn hfn ⟨n,hn⟩ vs bs hv hb=>by
 have hi:=hfn 67 _ rfl
 change j5 [.c (.i .i64 n)] vs at hv
 change RBs [] bs at hb
 show g7 U _ fun v bs'=>j6 (.ret (.c (.s (f9 n)))) v∧RBs [] bs'
 unfold r35
 (refine Zz ?_;intros)
 refine f6 hi ⟨n,hn⟩ (r:=.c (.s (f9 n))) rfl j4 .nil fun _ _ _ _=>?_
 (refine Zz ?_;intros)
 exact g9 ⟨.ret _ _ j4,.nil⟩
theorem c4p (n:Int):qn n 1=(n,1):=by
 unfold qn
 rw [if_neg dE]
 refine Prod.ext ?_ ?_
 ·show (if (n < 0)=((1:Int) < 0) then (1:Int) else -1) * ((n.natAbs / Nat.gcd n.natAbs 1:Nat):Int)=n
  rw [Nat.gcd_one_right,Nat.div_one]
  by_cases h:n < 0
  ·rw [if_neg (fun e=>absurd (e.mp h) dE)];omega
  ·rw [if_pos (propext ⟨fun k=>absurd k h,fun k=>absurd k dE⟩)];omega
 ·show (1:Int).natAbs / Nat.gcd n.natAbs 1=1
  rw [Nat.gcd_one_right];rfl
theorem a1k {n k:Nat} (h:n < 10 ^ k):(i6 n).length≤k:=by
 by_cases h0:n=0
 ·subst h0;rw [u9];simp
 ·have h1:=a7v n h0
  have h2:10 ^ ((i6 n).length - 1) < 10 ^ k:=Nat.lt_of_le_of_lt h1 h
  have h3:=(Nat.pow_lt_pow_iff_right (by decide:1 < 10)).1 h2
  omega
theorem a3s {n:Int} (h:-1000000000 < n∧n < 1000000000):(f9 n).length≤11:=by
 have h1:=c6z n
 have h2:=a1k (n:=n.natAbs) (k:=9) oM
 omega
theorem d0a:f7 [49]=1:=by
 show f7 Q6=1
 rw [← a7l];exact A4 1
theorem a2z (n:Nat):f9 (n:Int)=f8 n:=by
 unfold f9
 rw [if_neg oM,Int.natAbs_natCast]
theorem f8n (hI:c18):j3 34 (spI fun n=>.a (O.num n 1).g):=k7 (fun fn h=>e9o h) [(35,_),(22,_)] (.cons (c3f hI) (.cons b1b .nil)) fun U fn hfn ⟨n,hn⟩ vs bs hv hb=>by
 have hi:=hfn 35 _ rfl
 have hr:=hfn 22 _ rfl
 change j5 [.c (.i .i64 n)] vs at hv
 change RBs [] bs at hb
 have hl:=a3s hn
 show g7 U _ fun v bs'=>j6 (.ret (.a (O.num n 1).g)) v∧RBs [] bs'
 unfold r34
 (refine Zz ?_;intros)
 refine f6 hi ⟨n,hn⟩ (r:=.c (.s (f9 n))) rfl j4 .nil fun _ _ _ _=>?_
 (refine Zz ?_;intros)
 refine f6 hr ⟨(f9 n,[49]),show (f9 n).length < 9000 by omega,show ([49]:f5).length < 9000 by decide⟩ (r:=.a (O.num n 1).g) (by show n6.ret (.a (b1f (qn (f7 (f9 n)) (f7 [49]))).g)=_;rw [o9,d0a,c4p];rfl) (.k j4 (.k (.s _ _ _ rfl rfl) .nil)) .nil fun _ _ _ _=>?_
 (refine Zz ?_;intros)
 exact g9 ⟨.ret _ _ oV,.nil⟩
end
end Go.Proofs.YtdldcfllnohkeaaGreatDoor
namespace Go.Abs
noncomputable section
def one (f:G→Q→Bool) (r:List G) (q:Q):Bool:=match r with | [g]=>f g q | _=>true
def a4r (f:G→Q→Bool) (n:Nat) (t:i7 Q):List (List G)→Nat→Bool
 | [],_=>true
 | r :: rs,off=>Nat.beq r.length n && ((chkCel f (tQ t off) r 0) && (one f r (tQ t off) && a4r f n t rs (off+1)))
where chkCel (f:G→Q→Bool) (q:Q):List G→Nat→Bool
 | [],_=>true
 | g :: gs,i=>f g (celQ q i) && chkCel f q gs (i+1)
def d6q:Nat→G→Q→Bool
 | 0,_,_=>false
 | f+1,g,q=>match g,q with
  | .b x,.bool y=>x == y
  | .i k n,.int k' n'=>decide (k=k') && decide (n=n')
  | .s x,.str l c=>Nat.beq l x.length && Nat.beq c (j9 x)
  | .l xs,.slice t n off len=>Nat.beq len xs.length && a4r (d6q f) n t xs off
  | _,_=>false
theorem b9a {f:G→Q→Bool} (h:∀ g q,f g q=true→RG g q) {q:Q}:∀ {gs:List G} {i:Nat},a4r.chkCel f q gs i=true→u6 gs q i
 | [],_,_=>.nil _ _
 | g :: gs,i,e=>by
  rw [a4r.chkCel,Bool.and_eq_true] at e
  exact .k (h _ _ e.1) (b9a h e.2)
theorem a8v {f:G→Q→Bool} (h:∀ g q,f g q=true→RG g q) {n:Nat} {t:i7 Q}:∀ {xs:List (List G)} {off:Nat},a4r f n t xs off=true→m7 n xs t off
 | [],_,_=>.nil _ _ _
 | r :: rs,off,e=>by
  rw [a4r,Bool.and_eq_true,Bool.and_eq_true,Bool.and_eq_true] at e
  obtain ⟨e1,e2,e3,e4⟩:=e
  refine .cons _ _ _ _ _ (Nat.eq_of_beq_eq_true e1) (b9a h e2) (fun g k=>?_) (a8v h e4)
  subst k
  exact h _ _ e3
theorem c7h:∀ (f:Nat) (g:G) (q:Q),d6q f g q=true→RG g q
 | 0,_,_,e=>by cases e
 | f+1,g,q,e=>by
  unfold d6q at e
  split at e
  ·have:=eq_of_beq e;subst this;exact .b _
  ·rw [Bool.and_eq_true] at e
   have e1:=of_decide_eq_true e.1
   have e2:=of_decide_eq_true e.2
   subst e1 e2;exact .i _ _
  ·rw [Bool.and_eq_true] at e
   exact .s _ _ _ (Nat.eq_of_beq_eq_true e.1) (Nat.eq_of_beq_eq_true e.2)
  ·rw [Bool.and_eq_true] at e
   exact .l _ _ _ _ _ (Nat.eq_of_beq_eq_true e.1) (a8v (c7h f) e.2)
  ·cases e
end
end Go.Abs
namespace Go.Proofs.YtdldcfllnohkeaaGreatDoor
open Go.Abs LQ
set_option maxRecDepth 100000
set_option maxHeartbeats 4000000
noncomputable section
def X9:List f5:=[k6 1 97,k6 1 98,k6 3 7303014,k6 8 7308604895909930095,k6 1 49,k6 3 7961720,k6 1 46,k6 4 858731053,k6 1 35]
def a9w (n:Int):Sy :=
 if n % 13 < 9 then (J4,X9.getD (n % 13).toNat []) else
 if n % 13=9 then (u0,k6 3 7104878) else
 if n % 13=10 then (u0,k6 1 116) else
 if n % 13=11 then (u0,k6 3 7496035) else (u0,k6 5 435745158513)
def s1 (s:f5):List G:=[.s s]
def f6l (g:Int→GV):Sp where
 ι:=Int
 A n:=[.c (.i .i64 n)]
 B _:=[]
 R n:=.ret (g n)
 B' _:=[]
 inj i j vs bs h k _ _:=by
  obtain ⟨_,_,h1,k1,h,k⟩:=h.two k
  rw [(G.i.inj (h1.c_inj k1)).2];exact ⟨rfl,rfl⟩
theorem f8o:j3 36 (f6l fun n=>.a (sg (a9w n))):=k7 (fun fn h=>e9s h) [(33,_),(68,_),(21,_)] (.cons e7g (.cons f53 (.cons b50 .nil))) fun U fn hfn (n:Int) vs bs hv hb=>by
 have hM:=hfn 33 _ rfl
 have hU:=hfn 68 _ rfl
 have hL:=hfn 21 _ rfl
 change j5 [.c (.i .i64 n)] vs at hv
 change RBs [] bs at hb
 show g7 U _ fun v bs'=>j6 (.ret (.a (sg (a9w n)))) v∧RBs [] bs'
 unfold r36
 (refine Zz ?_;intros)
 refine f6 hM ⟨(n,13),show 0 < 13 by decide,show 13 < 1000000 by decide⟩ (r:=.c (.i .i64 (n % 13))) rfl (.k (.i _ _) (.k (a9q (by show ((9:Nat):Int)+4=((13:Nat):Int);decide)) .nil)) .nil fun _ _ _ _=>?_
 have h1:0≤n % 13:=Int.emod_nonneg _ dE
 have h2:n % 13 < 13:=Int.emod_lt_of_pos _ dE
 unfold a9w
 generalize n % 13=z at *
 obtain ⟨k,rfl⟩:∃ k:Nat,z=k:=⟨z.toNat,oM⟩
 (refine Zz ?_;with_reducible repeat' first|intro _|apply aI)
 ·rw [if_pos oM,Int.toNat_natCast]
  have hk:k < X9.length:=by show k < 9;omega
  refine sfT (xs:=X9.map s1) (r:=s1 (X9.getD k [])) (n:=1) (a8v (c7h 2) (by rfl)) (by rw [Int.toNat_natCast,List.getElem?_map,List.getElem?_eq_getElem hk];simp [List.getD,List.getElem?_eq_getElem hk]) fun _ _=>?_
  unfold s1 at *
  (refine Zz ?_;intros)
  refine f6 hU (X9.getD k []) (r:=.a (sg (J4,X9.getD k []))) rfl (.k (.q _ _ aS) .nil) .nil fun _ _ _ _=>?_
  (refine Zz ?_;intros)
  exact g9 ⟨.ret _ _ (.a _ _ _ rfl aS),.nil⟩
 ·rw [if_neg oM,if_pos oM]
  refine f6 hL (k6 3 7104878) (r:=.a (sg (u0,k6 3 7104878))) rfl (.k (.s _ _ _ rfl rfl) .nil) .nil fun _ _ _ _=>?_
  (refine Zz ?_;intros)
  exact g9 ⟨.ret _ _ (.a _ _ _ rfl aS),.nil⟩
 ·rw [if_neg oM,if_neg oM,if_pos oM]
  refine f6 hL (k6 1 116) (r:=.a (sg (u0,k6 1 116))) rfl (.k (.s _ _ _ rfl rfl) .nil) .nil fun _ _ _ _=>?_
  (refine Zz ?_;intros)
  exact g9 ⟨.ret _ _ (.a _ _ _ rfl aS),.nil⟩
 ·rw [if_neg oM,if_neg oM,if_neg oM,if_pos oM]
  refine f6 hL (k6 3 7496035) (r:=.a (sg (u0,k6 3 7496035))) rfl (.k (.s _ _ _ rfl rfl) .nil) .nil fun _ _ _ _=>?_
  (refine Zz ?_;intros)
  exact g9 ⟨.ret _ _ (.a _ _ _ rfl aS),.nil⟩
 ·rw [if_neg oM,if_neg oM,if_neg oM,if_neg oM]
  refine f6 hL (k6 5 435745158513) (r:=.a (sg (u0,k6 5 435745158513))) rfl (.k (.s _ _ _ rfl rfl) .nil) .nil fun _ _ _ _=>?_
  (refine Zz ?_;intros)
  exact g9 ⟨.ret _ _ (.a _ _ _ rfl aS),.nil⟩
def atR (r:Raw):O :=
 if r.k % 8=0∨r.k % 8=1 then .num (r.n % 2001 - 1000) 1 else
 if r.k % 8=2 then b1f (qn (r.n % 41 - 20) (1+r.s.length)) else
 if r.k % 8=3 then .sy (a9w r.n) else .tx r.s
mutual
def D3:Raw→O
 | .mk k n s l=>if k % 8 < 5 then atR (.mk k n s l) else
  if k % 8=5 then .co ((M4 l).getD 0 (.num (-1000) 1)) ((M4 l).getD 1 (.num (-1000) 1)) else Q5 (M4 l)
def M4:List Raw→List O
 | []=>[]
 | x :: xs=>D3 x :: M4 xs
end
theorem b4g:∀ l:List Raw,M4 l=l.map D3
 | []=>rfl
 | x :: xs=>by rw [M4,b4g xs];rfl
theorem d4g:D3 Raw.zero=.num (-1000) 1:=by
 show D3 (.mk 0 0 [] [])=_
 rw [D3,if_pos dE,atR,if_pos (.inl dE)]
 rfl
theorem b6b (l:List Raw) (i:Nat):(M4 l).getD i (.num (-1000) 1)=D3 (l.getD i Raw.zero):=by
 rw [b4g,← d4g]
 simp only [List.getD,List.getElem?_map]
 cases l[i]? <;> rfl
theorem e36 (r:Raw):D3 r=if r.k % 8 < 5 then atR r else if r.k % 8=5 then .co (D3 (r.part 0)) (D3 (r.part 1)) else Q5 (r.l.map D3):=by
 cases r with
 | mk k n s l =>
  rw [D3,b6b,b6b,b4g]
  rfl
def muR (r:Raw):Nat:=if r.k % 8 < 5 then 2 * r.nodes - 1 else 2 * r.nodes
theorem d4f (r:Raw):muR r≤2 * r.nodes:=by unfold muR;split <;> omega
theorem d72:Raw.zero.okR:=⟨dE,dE,trivial⟩
theorem c80 {r:Raw} (h:r.okR) (i:Nat):(r.part i).okR:=by
 unfold Raw.part
 have h:=((Raw.okR_eq r).1 h).2.2
 by_cases hi:i < r.l.length
 ·rw [show r.l.getD i Raw.zero=r.l[i] by simp [List.getD,List.getElem?_eq_getElem hi]]
  exact Raw.okR_mem h (List.getElem_mem hi)
 ·rw [show r.l.getD i Raw.zero=Raw.zero by simp [List.getD,List.getElem?_eq_none (by omega:r.l.length≤i)]]
  exact d72
theorem c8z {r:Raw} (h:¬r.k % 8 < 5) (i:Nat):muR (r.part i) < muR r:=by
 unfold Raw.part
 have e:muR r=2 * r.nodes:=if_neg h
 have hn:=Raw.nodes_eq r
 by_cases hi:i < r.l.length
 ·rw [show r.l.getD i Raw.zero=r.l[i] by simp [List.getD,List.getElem?_eq_getElem hi]]
  have h1:=Raw.nodes_mem (List.getElem_mem hi)
  have h2:=d4f r.l[i]
  omega
 ·rw [show r.l.getD i Raw.zero=Raw.zero by simp [List.getD,List.getElem?_eq_none (by omega:r.l.length≤i)]]
  have:muR Raw.zero=1:=dE
  omega
theorem e7z {r:Raw} (h:¬r.k % 8 < 5) {x:Raw} (hx:x ∈ r.l):muR x < muR r:=by
 have e:muR r=2 * r.nodes:=if_neg h
 have hn:=Raw.nodes_eq r
 have h1:=Raw.nodes_mem hx
 have h2:=d4f x
 omega
def e2e:Sp where
 ι:={ r:Raw // r.okR }
 A r:=[.a r.1.g]
 B _:=[]
 R r:=.ret (.a (D3 r.1).g)
 B' _:=[]
 inj i j vs bs h k _ _:=by
  obtain ⟨_,_,h1,k1,h,k⟩:=h.two k
  rw [Raw.g_inj (h1.a_inj k1)];exact ⟨rfl,rfl⟩
theorem e3o (hItoa:c18):j3 12 e2e:=R3 (fun r=>muR r.1) fun z ih=>k7 (fun fn h=>e8o h) [(12,e2e.lt (fun r=>muR r.1) z),(33,_),(36,_),(39,_),(35,_),(34,_),(22,_),(20,_),(37,_),(38,_),(19,_)] (.cons ih (.cons e7g (.cons f8o (.cons f5y (.cons (c3f hItoa) (.cons (f8n hItoa) (.cons b1b (.cons b2m (.cons e7t (.cons e08 (.cons e1a .nil))))))))))) fun U fn hfn ⟨⟨r,hr⟩,hz⟩ vs bs hv hb=>by
 have hO:=hfn 12 _ rfl
 have hM:=hfn 33 _ rfl
 have hS:=hfn 36 _ rfl
 have hP:=hfn 39 _ rfl
 have hF:=hfn 35 _ rfl
 have hI:=hfn 34 _ rfl
 have hR:=hfn 22 _ rfl
 have hY:=hfn 20 _ rfl
 have hT:=hfn 37 _ rfl
 have hC:=hfn 38 _ rfl
 have hL:=hfn 19 _ rfl
 change j5 [.a r.g] vs at hv
 change RBs [] bs at hb
 have hz:muR r < z+1:=hz
 have hok:=(Raw.okR_eq r).1 hr
 show g7 U _ fun v bs'=>j6 (.ret (.a (D3 r).g)) v∧RBs [] bs'
 rw [e36]
 have h1:0≤r.k % 8:=Int.emod_nonneg _ dE
 have h2:r.k % 8 < 8:=Int.emod_lt_of_pos _ dE
 unfold r12
 (refine Zz ?_;intros)
 refine M5 aS (Raw.g_len _) fun _ _=>?_
 have hcel:=(‹u6 r.g _ 0›)
 rw [Raw.g_eq] at hcel
 (refine Zz ?_;intros)
 refine f6 hM ⟨(r.k,8),show 0 < 8 by decide,show 8 < 1000000 by decide⟩ (r:=.c (.i .i64 (r.k % 8))) rfl (.k (.q _ _ aS) (.k (a9q rfl) .nil)) .nil fun _ _ _ _=>?_
 (refine Zz ?_;with_reducible repeat' first|intro _|apply aI)
 ·refine f6 hM ⟨(r.n,2001),show 0 < 2001 by decide,show 2001 < 1000000 by decide⟩ (r:=.c (.i .i64 (r.n % 2001))) rfl (.k (.q _ _ aS) (.k (a9q rfl) .nil)) .nil fun _ _ _ _=>?_
  have b1:0≤r.n % 2001:=Int.emod_nonneg _ dE
  have b2:r.n % 2001 < 2001:=Int.emod_lt_of_pos _ dE
  (refine Zz ?_;intros)
  refine f6 hI ⟨r.n % 2001 - 1000,oM,oM⟩ (r:=.a (O.num (r.n % 2001 - 1000) 1).g) rfl (.k (.i _ _) .nil) .nil fun _ _ _ _=>?_
  (refine Zz ?_;intros)
  rw [if_pos oM,atR,if_pos oM]
  exact g9 ⟨.ret _ _ oV,.nil⟩
 ·refine f6 hM ⟨(r.n,2001),show 0 < 2001 by decide,show 2001 < 1000000 by decide⟩ (r:=.c (.i .i64 (r.n % 2001))) rfl (.k (.q _ _ aS) (.k (a9q rfl) .nil)) .nil fun _ _ _ _=>?_
  have b1:0≤r.n % 2001:=Int.emod_nonneg _ dE
  have b2:r.n % 2001 < 2001:=Int.emod_lt_of_pos _ dE
  (refine Zz ?_;intros)
  refine f6 hI ⟨r.n % 2001 - 1000,oM,oM⟩ (r:=.a (O.num (r.n % 2001 - 1000) 1).g) rfl (.k (.i _ _) .nil) .nil fun _ _ _ _=>?_
  (refine Zz ?_;intros)
  rw [if_pos oM,atR,if_pos oM]
  exact g9 ⟨.ret _ _ oV,.nil⟩
 ·refine f6 hM ⟨(r.n,41),show 0 < 41 by decide,show 41 < 1000000 by decide⟩ (r:=.c (.i .i64 (r.n % 41))) rfl (.k (.q _ _ aS) (.k (a9q rfl) .nil)) .nil fun _ _ _ _=>?_
  have b1:0≤r.n % 41:=Int.emod_nonneg _ dE
  have b2:r.n % 41 < 41:=Int.emod_lt_of_pos _ dE
  have b3:=hok.1
  have c1:-1000000000 < r.n % 41 - 20∧r.n % 41 - 20 < 1000000000:=⟨oM,oM⟩
  have c2:-1000000000 < 1+(r.s.length:Int)∧1+(r.s.length:Int) < 1000000000:=⟨oM,oM⟩
  have l1:=a3s c1
  have l2:=a3s c2
  (refine Zz ?_;intros)
  refine f6 hF ⟨r.n % 41 - 20,c1⟩ (r:=.c (.s (f9 (r.n % 41 - 20)))) rfl (.k (.i _ _) .nil) .nil fun _ _ _ _=>?_
  (refine Zz ?_;intros)
  refine f6 hF ⟨1+(r.s.length:Int),c2⟩ (r:=.c (.s (f9 (1+(r.s.length:Int))))) rfl (.k (.i _ _) .nil) .nil fun _ _ _ _=>?_
  (refine Zz ?_;intros)
  refine f6 hR ⟨(f9 (r.n % 41 - 20),f9 (1+(r.s.length:Int))),Nat.lt_of_le_of_lt l1 dE,Nat.lt_of_le_of_lt l2 dE⟩ (r:=.a (b1f (qn (r.n % 41 - 20) (1+(r.s.length:Int)))).g) (by show n6.ret (.a (b1f (qn (f7 (f9 (r.n % 41 - 20))) (f7 (f9 (1+(r.s.length:Int)))))).g)=_;rw [o9,o9]) (.k (.s _ _ _ rfl rfl) (.k (.s _ _ _ rfl rfl) .nil)) .nil fun _ _ _ _=>?_
  (refine Zz ?_;intros)
  rw [if_pos oM,atR,if_neg oM,if_pos oM]
  exact g9 ⟨.ret _ _ oV,.nil⟩
 ·refine f6 hS r.n (r:=.a (sg (a9w r.n))) rfl (.k (.q _ _ aS) .nil) .nil fun _ _ _ _=>?_
  (refine Zz ?_;intros)
  refine f6 hY (a9w r.n) (r:=.a (O.sy (a9w r.n)).g) rfl (.k (.a _ _ _ rfl aS) .nil) .nil fun _ _ _ _=>?_
  (refine Zz ?_;intros)
  rw [if_pos oM,atR,if_neg oM,if_neg oM,if_pos oM]
  exact g9 ⟨.ret _ _ oV,.nil⟩
 ·refine f6 hT r.s (r:=.a (O.tx r.s).g) rfl (.k (.q _ _ aS) .nil) .nil fun _ _ _ _=>?_
  (refine Zz ?_;intros)
  rw [if_pos oM,atR,if_neg oM,if_neg oM,if_neg oM]
  exact g9 ⟨.ret _ _ oV,.nil⟩
 ·rw [if_neg oM,if_pos aS]
  have hm0:=c8z (r:=r) oM 0
  have hm1:=c8z (r:=r) oM 1
  refine f6 hP ⟨(r,0),show 0≤1000 by decide⟩ (r:=.a (r.part 0).g) rfl (.k (.a _ _ _ (Raw.g_len _).symm (by rw [Raw.g_eq];assumption)) (.k (a9q rfl) .nil)) .nil fun _ _ _ _=>?_
  (refine Zz ?_;intros)
  refine M5 aS (Raw.g_len _) fun _ _=>?_
  (refine Zz ?_;intros)
  refine f6 hO ⟨⟨r.part 0,c80 hr 0⟩,show muR (r.part 0) < z by omega⟩ (r:=.a (D3 (r.part 0)).g) rfl (.k (.a _ _ _ (Raw.g_len _).symm aS) .nil) .nil fun _ _ _ _=>?_
  (refine Zz ?_;intros)
  refine oR fun _ _=>?_
  (refine Zz ?_;intros)
  refine f6 hP ⟨(r,1),show 1≤1000 by decide⟩ (r:=.a (r.part 1).g) rfl (.k (.a _ _ _ (Raw.g_len _).symm (by rw [Raw.g_eq];assumption)) (.k (a9q rfl) .nil)) .nil fun _ _ _ _=>?_
  (refine Zz ?_;intros)
  refine M5 aS (Raw.g_len _) fun _ _=>?_
  (refine Zz ?_;intros)
  refine f6 hO ⟨⟨r.part 1,c80 hr 1⟩,show muR (r.part 1) < z by omega⟩ (r:=.a (D3 (r.part 1)).g) rfl (.k (.a _ _ _ (Raw.g_len _).symm aS) .nil) .nil fun _ _ _ _=>?_
  (refine Zz ?_;intros)
  refine oR fun _ _=>?_
  (refine Zz ?_;intros)
  refine f6 hC (D3 (r.part 0),D3 (r.part 1)) (r:=.a (O.co (D3 (r.part 0)) (D3 (r.part 1))).g) rfl (.k oV oA) .nil fun _ _ _ _=>?_
  (refine Zz ?_;intros)
  exact g9 ⟨.ret _ _ oV,.nil⟩
 ·rw [if_neg oM,if_neg aS]
  have hl6:=hok.2.1
  refine E1 (fun (i:Nat) vs bs=>∃ (q:Q) (v:V) (acc:List O),vs=[.ptr 0 0,.ptr 1 0,.int .i64 i,v]∧bs=[.opa q 4,.cells [.int .i64 0,.str 0 0,.str 0 0,.str 0 0,.str 0 0,.str 0 0,.slice .nil 0 0 0 .exact],.tok acc.length 7]∧a0o 2 7 (acc.map O.g) v∧u6 [.i .i64 r.k,.i .i64 r.n,.s r.s,.l (r.l.map Raw.g)] q 0∧acc=(r.l.take i).map D3∧acc.length=i∧i≤r.l.length) (fun i=>r.l.length - i) 0
   ⟨_,_,[],rfl,rfl,.b rfl,aS,rfl,rfl,oM⟩ (by simp only [x8];omega) ?_
  rintro self i _ _ ⟨q,v,acc,rfl,rfl,htk,hq,hacc,hlen,hi⟩ ih
  (refine Zz ?_;intros)
  refine C7 aS (u7 Raw.g_len) fun _ _ _=>?_
  (refine Zz ?_;with_reducible repeat' first|intro _|apply aI)
  ·refine C7 aS (u7 Raw.g_len) fun _ _ _=>?_
   (refine Zz ?_;intros)
   have hiw:i < r.l.length:=oM
   have hmm:=e7z (r:=r) oM (List.getElem_mem hiw)
   refine f6 hO ⟨⟨r.l[i],Raw.okR_mem hok.2.2 (List.getElem_mem hiw)⟩,show muR r.l[i] < z by omega⟩ (r:=.a (D3 r.l[i]).g) rfl (.k (.a _ _ _ (Raw.g_len _).symm aS) .nil) .nil fun _ _ _ _=>?_
   (refine Zz ?_;intros)
   refine oR fun _ _=>?_
   (refine Zz ?_;intros)
   refine T6 aS (r:=(D3 r.l[i]).g) (fun _=>a5r (by rw [O.g_len];decide) aS) (O.g_len _) (by simp) (by simp only [List.length_map];omega) fun _ _=>?_
   (refine Zz ?_;intros)
   exact ih (i+1) _ _ ⟨_,_,acc ++ [D3 r.l[i]],rfl,(by rw [List.length_append];rfl),.a _ _ (by simp) (by rw [List.map_append];assumption),hq,(by rw [hacc,List.take_add_one,List.getElem?_eq_getElem hiw,List.map_append];rfl),by simp [hlen],oM⟩ oM
  ·have e9:acc=r.l.map D3:=by rw [hacc,List.take_of_length_le oM]
   refine f6 hL ⟨acc,oM⟩ (r:=.a (Q5 acc).g) rfl (.k (.sl _ _ _ _ _ (by simp) aS) .nil) .nil fun _ _ _ _=>?_
   (refine Zz ?_;intros)
   refine oR fun _ _=>?_
   (refine Zz ?_;intros)
   rw [← e9]
   exact g9 ⟨.ret _ _ oV,.nil⟩
def ok (o:O):Prop:=o.size≤3000∧o.fm=true
theorem d4m (n:Int) (h:-1000000000 < n∧n < 1000000000):ok (.num n 1):=by
 refine ⟨by show 1≤3000;decide,decide_eq_true ⟨?_,?_,?_⟩⟩
 ·rw [Y6,o9,A4]
  show (f9 (qn n 1).1,f8 (qn n 1).2)=_
  rw [c4p]
 ·unfold A8
  rw [o9]
  have:=a1k (n:=n.natAbs) (k:=9) oM
  omega
 ·unfold A8
  rw [A4,Int.natAbs_natCast]
  have:=a1k (n:=1) (k:=1) dE
  omega
theorem d4t:n5 u0=true:=by
 unfold n5
 rw [a0b (i:=0) dE dE,a0b (i:=1) dE dE,a0b (i:=2) dE dE,a0b (i:=3) dE dE,b2p dE]
 decide
theorem c8u {s:f5} (h:1≤s.length∧s.length≤40):ok (.sy (u0,s)):=by
 refine ⟨by show 1≤3000;decide,?_⟩
 show named _=true
 unfold named
 rw [d4t,decide_eq_true h];rfl
theorem e77:ok A5:=c8u dE
def szL:List O→Nat
 | []=>1
 | a :: l=>1+a.size+szL l
theorem d5n:∀ os:List O,(Q5 os).size=szL os
 | []=>rfl
 | a :: l=>by show 1+a.size+(Q5 l).size=_;rw [d5n l];rfl
theorem d3j:∀ os:List O,(Q5 os).fm=true↔∀ x ∈ os,x.fm=true
 | []=>⟨fun _ x h=>absurd h (by simp),fun _=>e77.2⟩
 | a :: l=>by
  have e:(Q5 (a :: l)).fm=(a.fm && (Q5 l).fm):=rfl
  rw [e,Bool.and_eq_true,d3j l]
  simp
theorem f55 (x y:Int):qn (qn x y).1 ((qn x y).2:Nat)=qn x y:=by
 by_cases hy:y=0
 ·have e:qn x y=(0,1):=by unfold qn;rw [if_pos hy]
  rw [e]
  exact c4p 0
 have e:qn x y=((if (x < 0)=(y < 0) then 1 else -1) * ((x.natAbs / Nat.gcd x.natAbs y.natAbs:Nat):Int),y.natAbs / Nat.gcd x.natAbs y.natAbs):=by unfold qn;rw [if_neg hy]
 have hg:0 < Nat.gcd x.natAbs y.natAbs:=Nat.gcd_pos_of_pos_right _ oM
 have h1:Nat.gcd (x.natAbs / Nat.gcd x.natAbs y.natAbs) (y.natAbs / Nat.gcd x.natAbs y.natAbs)=1:=by
  rw [Nat.gcd_div (Nat.gcd_dvd_left _ _) (Nat.gcd_dvd_right _ _),Nat.div_self hg]
 have hd:0 < y.natAbs / Nat.gcd x.natAbs y.natAbs:=Nat.div_pos (Nat.le_of_dvd oM (Nat.gcd_dvd_right _ _)) hg
 rw [e]
 simp only
 generalize x.natAbs / Nat.gcd x.natAbs y.natAbs=a at *
 generalize y.natAbs / Nat.gcd x.natAbs y.natAbs=b at *
 have hs:∃ n:Int,(if (x < 0)=(y < 0) then (1:Int) else -1) * (a:Int)=n∧n.natAbs=a:=by
  by_cases hc:(x < 0)=(y < 0)
  ·exact ⟨a,by rw [if_pos hc];omega,oM⟩
  ·exact ⟨-(a:Int),by rw [if_neg hc];omega,oM⟩
 obtain ⟨n,e1,e2⟩:=hs
 rw [e1]
 unfold qn
 rw [if_neg oM,Int.natAbs_natCast,e2,h1,Nat.div_one,Nat.div_one]
 refine Prod.ext ?_ rfl
 show (if (n < 0)=((b:Int) < 0) then (1:Int) else -1) * (a:Int)=n
 by_cases hn:n < 0
 ·rw [if_neg (fun e=>absurd (e.mp hn) oM)];omega
 ·rw [if_pos (propext ⟨fun k=>absurd k hn,fun k=>absurd k oM⟩)];omega
theorem f5q {x y:Int} (hx:x.natAbs < 1000000000) (hy:y.natAbs < 1000000000):(b1f (qn x y)).fm=true:=by
 have hq:=f55 x y
 have b1:(qn x y).1.natAbs < 1000000000∧(qn x y).2 < 1000000000:=by
  unfold qn
  split
  ·exact ⟨dE,dE⟩
  ·have d1:=Nat.div_le_self x.natAbs (Nat.gcd x.natAbs y.natAbs)
   have d2:=Nat.div_le_self y.natAbs (Nat.gcd x.natAbs y.natAbs)
   refine ⟨?_,Nat.lt_of_le_of_lt d2 hy⟩
   simp only
   generalize x.natAbs / Nat.gcd x.natAbs y.natAbs=a at *
   split
   ·omega
   ·omega
 generalize qn x y=q at *
 obtain ⟨n,d⟩:=q
 have b2:n.natAbs < 1000000000:=b1.1
 have b3:d < 1000000000:=b1.2
 refine decide_eq_true ⟨?_,?_,?_⟩
 ·rw [Y6,o9,A4,hq]
 ·unfold A8
  rw [o9]
  have:=a1k (n:=n.natAbs) (k:=9) b2
  show max 1 (i6 n.natAbs).length≤100
  omega
 ·unfold A8
  rw [A4,Int.natAbs_natCast]
  have:=a1k (n:=d) (k:=9) b3
  show max 1 (i6 d).length≤100
  omega
theorem d8e:n5 J4=true:=by
 unfold n5
 rw [a0b (i:=0) dE dE,a0b (i:=1) dE dE,a0b (i:=2) dE dE,a0b (i:=3) dE dE,b2p dE]
 decide
theorem c61:∀ k,k < 9→1≤(X9.getD k []).length∧(X9.getD k []).length≤40:=dE
theorem e57 (n:Int):named (a9w n)=true:=by
 have h1:0≤n % 13:=Int.emod_nonneg _ dE
 unfold a9w
 split
 ·unfold named
  have:=c61 (n % 13).toNat oM
  rw [d8e,decide_eq_true this];rfl
 ·repeat' split
  all_goals exact (c8u dE).2
theorem e6y {r:Raw} (h:r.s.length≤12):(atR r).fm=true:=by
 unfold atR
 have h1:0≤r.n % 2001:=Int.emod_nonneg _ dE
 have h2:r.n % 2001 < 2001:=Int.emod_lt_of_pos _ dE
 have h3:0≤r.n % 41:=Int.emod_nonneg _ dE
 have h4:r.n % 41 < 41:=Int.emod_lt_of_pos _ dE
 split
 ·exact (d4m _ ⟨oM,oM⟩).2
 ·split
  ·exact f5q oM oM
  ·split
   ·exact e57 _
   ·exact decide_eq_true (by show r.s.length≤200;omega)
theorem d6j (r:Raw):(atR r).size=1:=by
 unfold atR
 repeat' split
 all_goals rfl
mutual
theorem a77:∀ r:Raw,(D3 r).size+1≤4 * r.nodes
 | .mk k n s l=>by
  have h:=c4b l
  have hn:(Raw.mk k n s l).nodes=1+Raw.nodesL l:=rfl
  rw [D3]
  split
  ·rw [d6j];omega
  ·split
   ·have h2:=d4h l
    show 1+((M4 l).getD 0 (.num (-1000) 1)).size+((M4 l).getD 1 (.num (-1000) 1)).size+1≤_
    omega
   ·rw [d5n];omega
theorem c4b:∀ l:List Raw,szL (M4 l)≤1+4 * Raw.nodesL l
 | []=>by show 1≤_;omega
 | x :: xs=>by
  have h1:=a77 x
  have h2:=c4b xs
  show 1+(D3 x).size+szL (M4 xs)≤1+4 * (x.nodes+Raw.nodesL xs)
  omega
theorem d4h:∀ l:List Raw,((M4 l).getD 0 (.num (-1000) 1)).size+((M4 l).getD 1 (.num (-1000) 1)).size≤2+4 * Raw.nodesL l
 | []=>by show 1+1≤_;omega
 | [x]=>by
  have h1:=a77 x
  show (D3 x).size+1≤2+4 * (x.nodes+0)
  omega
 | x :: y :: l=>by
  have h1:=a77 x
  have h2:=a77 y
  show (D3 x).size+(D3 y).size≤2+4 * (x.nodes+(y.nodes+Raw.nodesL l))
  omega
end
mutual
theorem c8r:∀ {r:Raw},r.okR→(D3 r).fm=true
 | .mk k n s l,h=>by
  have hl:=c4a (l:=l) h.2.2
  rw [D3]
  split
  ·exact e6y (r:=.mk k n s l) h.1
  ·split
   ·have hz:(O.num (-1000) 1).fm=true:=(d4m (-1000) dE).2
    have hg:∀ i,((M4 l).getD i (.num (-1000) 1)).fm=true:=fun i=>by
     by_cases hi:i < (M4 l).length
     ·rw [show (M4 l).getD i (.num (-1000) 1)=(M4 l)[i] by simp [List.getD,List.getElem?_eq_getElem hi]]
      exact hl _ (List.getElem_mem hi)
     ·rw [show (M4 l).getD i (.num (-1000) 1)=.num (-1000) 1 by simp [List.getD,List.getElem?_eq_none (by omega:(M4 l).length≤i)]]
      exact hz
    show (_ && _)=true
    rw [hg,hg];rfl
   ·exact (d3j _).2 hl
theorem c4a:∀ {l:List Raw},Raw.okRL l→∀ x ∈ M4 l,x.fm=true
 | [],_,x,h=>by cases h
 | y :: l,h,x,hx=>by
  cases hx with
  | head=>exact c8r h.1
  | tail _ hx=>exact c4a h.2 x hx
end
theorem e20 {r:Raw} {m:Nat} (h:r.few m=true):(D3 r).size+1≤4 * m∧(D3 r).fm=true:=by
 have h:=Raw.few_ok h
 have:=a77 r
 exact ⟨oM,c8r h.1⟩
end
end Go.Proofs.YtdldcfllnohkeaaGreatDoor
namespace Go.Proofs.YtdldcfllnohkeaaGreatDoor
open Go.Abs LQ Go.RowKit Go.Lib Go.Sort
set_option maxRecDepth 100000
set_option maxHeartbeats 4000000
noncomputable section
theorem S3:∀ n:Nat,Lib.decDigits n=f8 n:=by
 intro n
 induction n using Nat.strongRecOn with
 | _ n ih =>
  unfold Lib.decDigits
  by_cases h:n < 10
  ·simp only [h,dite_true,if_true]
   by_cases h0:n=0
   ·subst h0;rfl
   ·unfold f8
    rw [if_neg h0,D6 h0,show n / 10=0 by omega,u9,Nat.mod_eq_of_lt h]
    rfl
  ·simp only [h,dite_false,if_false]
   rw [ih (n / 10) oM]
   have h1:¬n / 10=0:=oM
   have h0:¬n=0:=oM
   unfold f8
   rw [if_neg h1,if_neg h0,D6 h0,List.reverse_cons,List.map_append]
   rfl
theorem c3b (n:Int):Lib.itoa n=f9 n:=by
 unfold Lib.itoa f9
 split
 ·rw [S3];rfl
 ·rw [S3,show n.toNat=n.natAbs by omega]
theorem e28:c18:=fun ⟨n,hn⟩ vs bs hv hb=>by
 change j5 [.c (.i .i64 n)] vs at hv
 cases hb
 refine ⟨.ret (.str (f9 n).length (j9 (f9 n))),[],fun hok=>?_,.ret _ _ (.s _ _ _ rfl rfl),.nil⟩
 have hx:vs.map toD=[D.int .i64 n]:=by
  cases hv with
  | cons _ _ v _ h1 h2 =>
   cases h2
   cases h1 with
   | i=>rfl
   | q _ x h=>cases h;rfl
 rw [hx]
 show CM X0.P X0.G _ _ [] (.ret (.str (k6 (f9 n).length (j9 (f9 n))))) []
 rw [y7]
 refine I8 (d:=.str (f9 n)) Tryz.call67 fun w S M us hg hwi hr=>?_
 cases hr with
 | cons _ _ _ _ r1 r2 =>
 cases r2
 cases r1
 refine (Any.strconv_Itoa Tryz.laysM171 n oM oM w (d4w hg)).mono ?_
 rintro e w' ⟨rfl,k,os,rfl⟩
 have hb:Below w.heap.size w (grow (w.drewN k) os):=⟨rfl,rfl,rfl,by show w.heap.size≤(w.heap ++ os).size;rw [Array.size_append];omega,fun j hj=>by show (w.heap ++ os)[j]?=w.heap[j]?;exact Array.getElem?_append_left hj⟩
 exact ⟨hb,_,S,rfl,⟨fun _ _ h=>h,fun _ _ h=>.inl h⟩,P5 hwi hb,.str _ _ (by rw [c3b]),M6 (fun _ _ _ h=>by cases h) (fun _ h=>by cases h)⟩
end
end Go.Proofs.YtdldcfllnohkeaaGreatDoor
namespace Go.Proofs.YtdldcfllnohkeaaGreatDoor
open Go.Abs LQ
noncomputable section
open Classical
def szA (L:List Pk) (cur:f5):O→Nat
 | .co a d=>szA L cur a+szA L cur d
 | o=>(N2 L cur o).length
def lv:O→Nat
 | .co a d=>lv a+lv d
 | _=>1
theorem d37 (o:O):0 < lv o:=by induction o <;> simp [lv] <;> omega
theorem c8m (o:O):o.size+1=2 * lv o:=by induction o <;> simp [lv,O.size] <;> omega
section
variable {L:List Pk} {cur:f5}
theorem a9x:∀ o:O,(pT L cur o).1.length+4≤szA L cur o+5 * lv o∧(pT L cur o).2.1.length+1≤szA L cur o+5 * lv o
 | .co a d=>by
  have h1:=(a9x a).1
  have h2:=(a9x d).2
  have h3:=c5i (L:=L) (cur:=cur) a d
  have e:(pT L cur (.co a d)).2.1.length=1+((pT L cur a).1.length+(pT L cur d).2.1.length):=by simp only [pT,List.length_cons,List.length_append];omega
  simp only [szA,lv]
  rw [e] at h3 ⊢
  omega
 | .num n d=>by
  have e:(pT L cur (.num n d)).2.1=32 :: 46 :: 32 :: (N2 L cur (.num n d) ++ [41]):=by simp [pT,A5]
  rw [e]
  refine ⟨?_,?_⟩
  ·show (N2 L cur (.num n d)).length+4≤(N2 L cur (.num n d)).length+5 * 1;omega
  ·show _≤(N2 L cur (.num n d)).length+5 * 1;simp
 | .tx n=>by
  have e:(pT L cur (.tx n)).2.1=32 :: 46 :: 32 :: (N2 L cur (.tx n) ++ [41]):=by simp [pT,A5]
  rw [e]
  refine ⟨?_,?_⟩
  ·show (N2 L cur (.tx n)).length+4≤(N2 L cur (.tx n)).length+5 * 1;omega
  ·show _≤(N2 L cur (.tx n)).length+5 * 1;simp
 | .no=>by
  have e:(pT L cur .no).2.1=32 :: 46 :: 32 :: (N2 L cur .no ++ [41]):=by simp [pT,A5]
  rw [e]
  refine ⟨?_,?_⟩
  ·show (N2 L cur .no).length+4≤(N2 L cur .no).length+5 * 1;omega
  ·show _≤(N2 L cur .no).length+5 * 1;simp
 | .sy n=>by
  refine ⟨?_,?_⟩
  ·show (N2 L cur (.sy n)).length+4≤(N2 L cur (.sy n)).length+5 * 1;omega
  ·show _≤(N2 L cur (.sy n)).length+5 * 1
   simp only [pT]
   split <;> simp
theorem d67 (a b:List f5):(L8 (a ++ b)).length=(L8 a).length+(L8 b).length:=by simp [L8]
theorem U1 (a:f5) (b:List f5):(L8 (a :: b)).length=a.length+1+(L8 b).length:=by simp [L8];omega
theorem d0i (a:List f5):(L8 (a.map (32 :: ·))).length=(L8 a).length+a.length:=by
 induction a with
 | nil=>rfl
 | cons x a ih=>rw [List.map_cons,U1,U1,ih];simp;omega
theorem d3l (a:List f5):(L8 (C3 a)).length=(L8 a).length+a.length:=by
 cases a with
 | nil=>rfl
 | cons x a=>rw [C3,U1,U1,d0i];simp;omega
theorem b5r:∀ (a:List f5),(L8 (M9 a)).length≤(L8 a).length+1
 | []=>by simp [M9]
 | [l]=>by simp [M9,L8]
 | l :: m :: r=>by
  have:=b5r (m :: r)
  show (L8 (l :: M9 (m :: r))).length≤_
  rw [U1,U1];omega
theorem K9 (a:List f5):(C3 a).length=a.length:=by cases a <;> simp [C3]
theorem a58:∀ (a:List f5),(M9 a).length=a.length
 | []=>rfl
 | [l]=>rfl
 | l :: m :: r=>by simp [M9,a58 (m :: r)]
theorem c3a:∀ {l:List O} {o:O},m8 o=some l→(l.map lv).sum+1=lv o∧(l.map (szA L cur)).sum≤szA L cur o∧(∀ x ∈ l,(dO x).1≤(dO o).2)
 | [],o,h=>by rw [b9r h];exact ⟨rfl,Nat.zero_le _,fun x hx=>by cases hx⟩
 | a :: l,o,h=>by
  obtain ⟨d,rfl,hd⟩:=N6 h
  obtain ⟨h1,h2,h3⟩:=c3a hd
  simp only [List.map_cons,List.sum_cons,lv,szA,dO]
  refine ⟨oM,oM,fun x hx=>?_⟩
  rcases List.mem_cons.1 hx with rfl | hx
  ·omega
  ·have:=h3 x hx;omega
theorem d34 {n:Nat}:∀ {o:O} {w:Int},o.size≤n→(E9 L cur n o w).length≤lv o∧(L8 (E9 L cur n o w)).length≤szA L cur o+6 * lv o+lv o * (dO o).1:=by
 induction n with
 | zero=>intro o w h;have:=O.size_pos o;omega
 | succ n ih =>
  intro o w h
  have hone:([o8 L cur o]:List f5).length≤lv o∧(L8 [o8 L cur o]).length≤szA L cur o+6 * lv o+lv o * (dO o).1:=by
   have:=(a9x (L:=L) (cur:=cur) o).1
   have hp:=d37 o
   refine ⟨by simp;omega,?_⟩
   rw [U1]
   show (pT L cur o).1.length+1+0≤_
   omega
  rw [E9]
  split
  ·rename_i l hl
   split
   ·exact hone
   ·rename_i hcn
    cases l with
    | nil=>exact absurd (.inr (.inl (by simp))) hcn
    | cons a l =>
     obtain ⟨i1,i2,i3⟩:=c3a (L:=L) (cur:=cur) hl
     obtain ⟨d,ho,hd⟩:=N6 hl
     have hdo:(dO o).1=1+(dO o).2:=by rw [ho];rfl
     have hsz:=G8 hl
     have hall:∀ m:List O,(∀ x ∈ m,x ∈ a :: l)→(m.flatMap fun x=>E9 L cur n x (w - 1)).length≤(m.map lv).sum∧(L8 (m.flatMap fun x=>E9 L cur n x (w - 1))).length≤(m.map (szA L cur)).sum+6 * (m.map lv).sum+(m.map lv).sum * (dO o).2:=by
      intro m
      induction m with
      | nil=>intro _;exact ⟨Nat.le_refl _,Nat.zero_le _⟩
      | cons x m ihm =>
       intro hm
       have hx:=hm x (by simp)
       have h1:=ih (o:=x) (w:=w - 1) (by have:=hsz x hx;omega)
       have h2:=ihm fun y hy=>hm y (by simp [hy])
       simp only [List.flatMap_cons,List.map_cons,List.sum_cons,List.length_append,d67]
       have h3:=Nat.mul_le_mul_left (lv x) (i3 x hx)
       rw [Nat.add_mul]
       omega
     obtain ⟨g1,g2⟩:=hall (a :: l) fun _ hx=>hx
     generalize ((a :: l).flatMap fun x=>E9 L cur n x (w - 1))=Z at *
     refine ⟨by rw [a58,K9];omega,?_⟩
     have k1:=b5r (C3 Z)
     rw [d3l] at k1
     rw [hdo]
     generalize hS:((a :: l).map lv).sum=S at *
     have e:lv o * (1+(dO o).2)=S * (dO o).2+S+1+(dO o).2:=by
      rw [← i1,Nat.mul_add,Nat.mul_one,Nat.add_mul,Nat.one_mul];omega
     rw [e]
     omega
  ·exact hone
end
end
end Go.Proofs.YtdldcfllnohkeaaGreatDoor
