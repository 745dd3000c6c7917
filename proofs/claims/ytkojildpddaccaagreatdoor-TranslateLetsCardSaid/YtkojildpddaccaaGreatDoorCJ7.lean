/- Objects made of trees. -/
import Derived.Test.YtkojildpddaccaaGreatDoorCJ6
set_option linter.all false
namespace Go.Proofs.YtkojildpddaccaaGreatDoor
open Go.Abs LQ
set_option maxRecDepth 100000
set_option maxHeartbeats 4000000
noncomputable section
def Z4:List u4:=[o8 1 97,o8 1 98,o8 3 7303014,o8 8 7308604895909930095,o8 1 49,o8 3 7961720,o8 1 46,o8 4 858731053,o8 1 35]
def a99 (n:Int):Sy :=
 if n % 13 < 9 then (H9,Z4.getD (n % 13).toNat []) else
 if n % 13=9 then (s8,o8 3 7104878) else
 if n % 13=10 then (s8,o8 1 116) else
 if n % 13=11 then (s8,o8 3 7496035) else (s8,o8 5 435745158513)
def s1 (s:u4):List G:=[.s s]
def g5b (g:Int→GV):Sp where
 ι:=Int
 A n:=[.c (.i .i64 n)]
 B _:=[]
 R n:=.ret (g n)
 B' _:=[]
 inj i j vs bs h k _ _:=by
  obtain ⟨_,_,h1,k1,h,k⟩:=h.two k
  rw [(G.i.inj (h1.c_inj k1)).2];exact ⟨rfl,rfl⟩
theorem g83:s9 62 (g5b fun n=>.a (sg (a99 n))):=u2 (fun fn h=>f8y h) [(59,_),(32,_),(20,_)] (.cons e0o (.cons e53 (.cons a6g .nil))) fun U fn hfn (n:Int) vs bs hv hb=>by
 have hM:=hfn 59 _ rfl
 have hU:=hfn 32 _ rfl
 have hL:=hfn 20 _ rfl
 change t7 [.c (.i .i64 n)] vs at hv
 change s5 [] bs at hb
 show s4 U _ fun v bs'=>u0 (.ret (.a (sg (a99 n)))) v∧s5 [] bs'
 unfold r62
 (refine Zz ?_;intros)
 refine o7 hM ⟨(n,13),show 0 < 13 by decide,show 13 < 1000000 by decide⟩ (r:=.c (.i .i64 (n % 13))) rfl (.k (.i _ _) (.k (R0 (by show ((9:Nat):Int)+4=((13:Nat):Int);decide)) .nil)) .nil fun _ _ _ _=>?_
 have h1:0≤n % 13:=Int.emod_nonneg _ dE
 have h2:n % 13 < 13:=Int.emod_lt_of_pos _ dE
 unfold a99
 generalize n % 13=z at *
 obtain ⟨k,rfl⟩:∃ k:Nat,z=k:=⟨z.toNat,oM⟩
 (refine Zz ?_;with_reducible repeat' first|intro _|apply aI)
 ·rw [if_pos oM,Int.toNat_natCast]
  have hk:k < Z4.length:=by show k < 9;omega
  refine sfT (xs:=Z4.map s1) (r:=s1 (Z4.getD k [])) (n:=1) (Z7 (a71 2) (by rfl)) (by rw [Int.toNat_natCast,List.getElem?_map,List.getElem?_eq_getElem hk];simp [List.getD,List.getElem?_eq_getElem hk]) fun _ _=>?_
  unfold s1 at *
  (refine Zz ?_;intros)
  refine o7 hU (Z4.getD k []) (r:=.a (sg (H9,Z4.getD k []))) rfl (.k (.q _ _ aS) .nil) .nil fun _ _ _ _=>?_
  (refine Zz ?_;intros)
  exact p9 ⟨.ret _ _ (.a _ _ _ rfl aS),.nil⟩
 ·rw [if_neg oM,if_pos oM]
  refine o7 hL (o8 3 7104878) (r:=.a (sg (s8,o8 3 7104878))) rfl (.k (.s _ _ _ rfl rfl) .nil) .nil fun _ _ _ _=>?_
  (refine Zz ?_;intros)
  exact p9 ⟨.ret _ _ (.a _ _ _ rfl aS),.nil⟩
 ·rw [if_neg oM,if_neg oM,if_pos oM]
  refine o7 hL (o8 1 116) (r:=.a (sg (s8,o8 1 116))) rfl (.k (.s _ _ _ rfl rfl) .nil) .nil fun _ _ _ _=>?_
  (refine Zz ?_;intros)
  exact p9 ⟨.ret _ _ (.a _ _ _ rfl aS),.nil⟩
 ·rw [if_neg oM,if_neg oM,if_neg oM,if_pos oM]
  refine o7 hL (o8 3 7496035) (r:=.a (sg (s8,o8 3 7496035))) rfl (.k (.s _ _ _ rfl rfl) .nil) .nil fun _ _ _ _=>?_
  (refine Zz ?_;intros)
  exact p9 ⟨.ret _ _ (.a _ _ _ rfl aS),.nil⟩
 ·rw [if_neg oM,if_neg oM,if_neg oM,if_neg oM]
  refine o7 hL (o8 5 435745158513) (r:=.a (sg (s8,o8 5 435745158513))) rfl (.k (.s _ _ _ rfl rfl) .nil) .nil fun _ _ _ _=>?_
  (refine Zz ?_;intros)
  exact p9 ⟨.ret _ _ (.a _ _ _ rfl aS),.nil⟩
def atR (r:Raw):O :=
 if r.k % 8=0∨r.k % 8=1 then .num (r.n % 2001 - 1000) 1 else
 if r.k % 8=2 then L1 (qn (r.n % 41 - 20) (1+r.s.length)) else
 if r.k % 8=3 then .sy (a99 r.n) else .tx r.s
mutual
def E2:Raw→O
 | .mk k n s l=>if k % 8 < 5 then atR (.mk k n s l) else
  if k % 8=5 then .co ((H6 l).getD 0 (.num (-1000) 1)) ((H6 l).getD 1 (.num (-1000) 1)) else u7 (H6 l)
def H6:List Raw→List O
 | []=>[]
 | x :: xs=>E2 x :: H6 xs
end
theorem b4q:∀ l:List Raw,H6 l=l.map E2
 | []=>rfl
 | x :: xs=>by rw [H6,b4q xs];rfl
theorem d5y:E2 Raw.zero=.num (-1000) 1:=by
 show E2 (.mk 0 0 [] [])=_
 rw [E2,if_pos dE,atR,if_pos (.inl dE)]
 rfl
theorem b6l (l:List Raw) (i:Nat):(H6 l).getD i (.num (-1000) 1)=E2 (l.getD i Raw.zero):=by
 rw [b4q,← d5y]
 simp only [List.getD,List.getElem?_map]
 cases l[i]? <;> rfl
theorem e91 (r:Raw):E2 r=if r.k % 8 < 5 then atR r else if r.k % 8=5 then .co (E2 (r.part 0)) (E2 (r.part 1)) else u7 (r.l.map E2):=by
 cases r with
 | mk k n s l =>
  rw [E2,b6l,b6l,b4q]
  rfl
def muR (r:Raw):Nat:=if r.k % 8 < 5 then 2 * r.nodes - 1 else 2 * r.nodes
theorem d5v (r:Raw):muR r≤2 * r.nodes:=by unfold muR;split <;> omega
theorem e0z:Raw.zero.okR:=⟨dE,dE,trivial⟩
theorem b8n {r:Raw} (h:r.okR) (i:Nat):(r.part i).okR:=by
 unfold Raw.part
 have h:=((Raw.okR_eq r).1 h).2.2
 by_cases hi:i < r.l.length
 ·rw [show r.l.getD i Raw.zero=r.l[i] by simp [List.getD,List.getElem?_eq_getElem hi]]
  exact Raw.okR_mem h (List.getElem_mem hi)
 ·rw [show r.l.getD i Raw.zero=Raw.zero by simp [List.getD,List.getElem?_eq_none (by omega:r.l.length≤i)]]
  exact e0z
theorem c75 {r:Raw} (h:¬r.k % 8 < 5) (i:Nat):muR (r.part i) < muR r:=by
 unfold Raw.part
 have e:muR r=2 * r.nodes:=if_neg h
 have hn:=Raw.nodes_eq r
 by_cases hi:i < r.l.length
 ·rw [show r.l.getD i Raw.zero=r.l[i] by simp [List.getD,List.getElem?_eq_getElem hi]]
  have h1:=Raw.nodes_mem (List.getElem_mem hi)
  have h2:=d5v r.l[i]
  omega
 ·rw [show r.l.getD i Raw.zero=Raw.zero by simp [List.getD,List.getElem?_eq_none (by omega:r.l.length≤i)]]
  have:muR Raw.zero=1:=dE
  omega
theorem f6t {r:Raw} (h:¬r.k % 8 < 5) {x:Raw} (hx:x ∈ r.l):muR x < muR r:=by
 have e:muR r=2 * r.nodes:=if_neg h
 have hn:=Raw.nodes_eq r
 have h1:=Raw.nodes_mem hx
 have h2:=d5v x
 omega
def e7v:Sp where
 ι:={ r:Raw // r.okR }
 A r:=[.a r.1.g]
 B _:=[]
 R r:=.ret (.a (E2 r.1).g)
 B' _:=[]
 inj i j vs bs h k _ _:=by
  obtain ⟨_,_,h1,k1,h,k⟩:=h.two k
  rw [Raw.g_inj (h1.a_inj k1)];exact ⟨rfl,rfl⟩
theorem c7u (hItoa:a0j):s9 36 e7v:=J4 (fun r=>muR r.1) fun z ih=>u2 (fun fn h=>f75 h) [(36,e7v.lt (fun r=>muR r.1) z),(59,_),(62,_),(61,_),(51,_),(27,_),(50,_),(18,_),(63,_),(44,_),(17,_)] (.cons ih (.cons e0o (.cons g83 (.cons e5z (.cons (c3y hItoa) (.cons (c3z hItoa) (.cons Y8 (.cons a2k (.cons c33 (.cons c1q (.cons c1r .nil))))))))))) fun U fn hfn ⟨⟨r,hr⟩,hz⟩ vs bs hv hb=>by
 have hO:=hfn 36 _ rfl
 have hM:=hfn 59 _ rfl
 have hS:=hfn 62 _ rfl
 have hP:=hfn 61 _ rfl
 have hF:=hfn 51 _ rfl
 have hI:=hfn 27 _ rfl
 have hR:=hfn 50 _ rfl
 have hY:=hfn 18 _ rfl
 have hT:=hfn 63 _ rfl
 have hC:=hfn 44 _ rfl
 have hL:=hfn 17 _ rfl
 change t7 [.a r.g] vs at hv
 change s5 [] bs at hb
 have hz:muR r < z+1:=hz
 have hok:=(Raw.okR_eq r).1 hr
 show s4 U _ fun v bs'=>u0 (.ret (.a (E2 r).g)) v∧s5 [] bs'
 rw [e91]
 have h1:0≤r.k % 8:=Int.emod_nonneg _ dE
 have h2:r.k % 8 < 8:=Int.emod_lt_of_pos _ dE
 unfold r36
 (refine Zz ?_;intros)
 refine C4 aS (Raw.g_len _) fun _ _=>?_
 have hcel:=(‹u3 r.g _ 0›)
 rw [Raw.g_eq] at hcel
 (refine Zz ?_;intros)
 refine o7 hM ⟨(r.k,8),show 0 < 8 by decide,show 8 < 1000000 by decide⟩ (r:=.c (.i .i64 (r.k % 8))) rfl (.k (.q _ _ aS) (.k (R0 rfl) .nil)) .nil fun _ _ _ _=>?_
 (refine Zz ?_;with_reducible repeat' first|intro _|apply aI)
 ·refine o7 hM ⟨(r.n,2001),show 0 < 2001 by decide,show 2001 < 1000000 by decide⟩ (r:=.c (.i .i64 (r.n % 2001))) rfl (.k (.q _ _ aS) (.k (R0 rfl) .nil)) .nil fun _ _ _ _=>?_
  have b1:0≤r.n % 2001:=Int.emod_nonneg _ dE
  have b2:r.n % 2001 < 2001:=Int.emod_lt_of_pos _ dE
  (refine Zz ?_;intros)
  refine o7 hI ⟨r.n % 2001 - 1000,oM,oM⟩ (r:=.a (O.num (r.n % 2001 - 1000) 1).g) rfl (.k (.i _ _) .nil) .nil fun _ _ _ _=>?_
  (refine Zz ?_;intros)
  rw [if_pos oM,atR,if_pos oM]
  exact p9 ⟨.ret _ _ oV,.nil⟩
 ·refine o7 hM ⟨(r.n,2001),show 0 < 2001 by decide,show 2001 < 1000000 by decide⟩ (r:=.c (.i .i64 (r.n % 2001))) rfl (.k (.q _ _ aS) (.k (R0 rfl) .nil)) .nil fun _ _ _ _=>?_
  have b1:0≤r.n % 2001:=Int.emod_nonneg _ dE
  have b2:r.n % 2001 < 2001:=Int.emod_lt_of_pos _ dE
  (refine Zz ?_;intros)
  refine o7 hI ⟨r.n % 2001 - 1000,oM,oM⟩ (r:=.a (O.num (r.n % 2001 - 1000) 1).g) rfl (.k (.i _ _) .nil) .nil fun _ _ _ _=>?_
  (refine Zz ?_;intros)
  rw [if_pos oM,atR,if_pos oM]
  exact p9 ⟨.ret _ _ oV,.nil⟩
 ·refine o7 hM ⟨(r.n,41),show 0 < 41 by decide,show 41 < 1000000 by decide⟩ (r:=.c (.i .i64 (r.n % 41))) rfl (.k (.q _ _ aS) (.k (R0 rfl) .nil)) .nil fun _ _ _ _=>?_
  have b1:0≤r.n % 41:=Int.emod_nonneg _ dE
  have b2:r.n % 41 < 41:=Int.emod_lt_of_pos _ dE
  have b3:=hok.1
  have c1:-1000000000 < r.n % 41 - 20∧r.n % 41 - 20 < 1000000000:=⟨oM,oM⟩
  have c2:-1000000000 < 1+(r.s.length:Int)∧1+(r.s.length:Int) < 1000000000:=⟨oM,oM⟩
  have l1:=O3 c1
  have l2:=O3 c2
  (refine Zz ?_;intros)
  refine o7 hF ⟨r.n % 41 - 20,c1⟩ (r:=.c (.s (p5 (r.n % 41 - 20)))) rfl (.k (.i _ _) .nil) .nil fun _ _ _ _=>?_
  (refine Zz ?_;intros)
  refine o7 hF ⟨1+(r.s.length:Int),c2⟩ (r:=.c (.s (p5 (1+(r.s.length:Int))))) rfl (.k (.i _ _) .nil) .nil fun _ _ _ _=>?_
  (refine Zz ?_;intros)
  refine o7 hR ⟨(p5 (r.n % 41 - 20),p5 (1+(r.s.length:Int))),Nat.lt_of_le_of_lt l1 dE,Nat.lt_of_le_of_lt l2 dE⟩ (r:=.a (L1 (qn (r.n % 41 - 20) (1+(r.s.length:Int)))).g) (by show u9.ret (.a (L1 (qn (p8 (p5 (r.n % 41 - 20))) (p8 (p5 (1+(r.s.length:Int)))))).g)=_;rw [v7,v7]) (.k (.s _ _ _ rfl rfl) (.k (.s _ _ _ rfl rfl) .nil)) .nil fun _ _ _ _=>?_
  (refine Zz ?_;intros)
  rw [if_pos oM,atR,if_neg oM,if_pos oM]
  exact p9 ⟨.ret _ _ oV,.nil⟩
 ·refine o7 hS r.n (r:=.a (sg (a99 r.n))) rfl (.k (.q _ _ aS) .nil) .nil fun _ _ _ _=>?_
  (refine Zz ?_;intros)
  refine o7 hY (a99 r.n) (r:=.a (O.sy (a99 r.n)).g) rfl (.k (.a _ _ _ rfl aS) .nil) .nil fun _ _ _ _=>?_
  (refine Zz ?_;intros)
  rw [if_pos oM,atR,if_neg oM,if_neg oM,if_pos oM]
  exact p9 ⟨.ret _ _ oV,.nil⟩
 ·refine o7 hT r.s (r:=.a (O.tx r.s).g) rfl (.k (.q _ _ aS) .nil) .nil fun _ _ _ _=>?_
  (refine Zz ?_;intros)
  rw [if_pos oM,atR,if_neg oM,if_neg oM,if_neg oM]
  exact p9 ⟨.ret _ _ oV,.nil⟩
 ·rw [if_neg oM,if_pos aS]
  have hm0:=c75 (r:=r) oM 0
  have hm1:=c75 (r:=r) oM 1
  refine o7 hP ⟨(r,0),show 0≤1000 by decide⟩ (r:=.a (r.part 0).g) rfl (.k (.a _ _ _ (Raw.g_len _).symm (by rw [Raw.g_eq];assumption)) (.k (R0 rfl) .nil)) .nil fun _ _ _ _=>?_
  (refine Zz ?_;intros)
  refine C4 aS (Raw.g_len _) fun _ _=>?_
  (refine Zz ?_;intros)
  refine o7 hO ⟨⟨r.part 0,b8n hr 0⟩,show muR (r.part 0) < z by omega⟩ (r:=.a (E2 (r.part 0)).g) rfl (.k (.a _ _ _ (Raw.g_len _).symm aS) .nil) .nil fun _ _ _ _=>?_
  (refine Zz ?_;intros)
  refine oR fun _ _=>?_
  (refine Zz ?_;intros)
  refine o7 hP ⟨(r,1),show 1≤1000 by decide⟩ (r:=.a (r.part 1).g) rfl (.k (.a _ _ _ (Raw.g_len _).symm (by rw [Raw.g_eq];assumption)) (.k (R0 rfl) .nil)) .nil fun _ _ _ _=>?_
  (refine Zz ?_;intros)
  refine C4 aS (Raw.g_len _) fun _ _=>?_
  (refine Zz ?_;intros)
  refine o7 hO ⟨⟨r.part 1,b8n hr 1⟩,show muR (r.part 1) < z by omega⟩ (r:=.a (E2 (r.part 1)).g) rfl (.k (.a _ _ _ (Raw.g_len _).symm aS) .nil) .nil fun _ _ _ _=>?_
  (refine Zz ?_;intros)
  refine oR fun _ _=>?_
  (refine Zz ?_;intros)
  refine o7 hC (E2 (r.part 0),E2 (r.part 1)) (r:=.a (O.co (E2 (r.part 0)) (E2 (r.part 1))).g) rfl (.k oV oA) .nil fun _ _ _ _=>?_
  (refine Zz ?_;intros)
  exact p9 ⟨.ret _ _ oV,.nil⟩
 ·rw [if_neg oM,if_neg aS]
  have hl6:=hok.2.1
  refine F9 (fun (i:Nat) vs bs=>∃ (q:Q) (v:V) (acc:List O),vs=[.ptr 0 0,.ptr 1 0,.int .i64 i,v]∧bs=[.opa q 4,.cells [.int .i64 0,.str 0 0,.str 0 0,.str 0 0,.str 0 0,.str 0 0,.slice .nil 0 0 0 .exact],.tok acc.length 7]∧R7 2 7 (acc.map O.g) v∧u3 [.i .i64 r.k,.i .i64 r.n,.s r.s,.l (r.l.map Raw.g)] q 0∧acc=(r.l.take i).map E2∧acc.length=i∧i≤r.l.length) (fun i=>r.l.length - i) 0
   ⟨_,_,[],rfl,rfl,.b rfl,aS,rfl,rfl,oM⟩ (by simp only [C9];omega) ?_
  rintro self i _ _ ⟨q,v,acc,rfl,rfl,htk,hq,hacc,hlen,hi⟩ ih
  (refine Zz ?_;intros)
  refine E5 aS (v6 Raw.g_len) fun _ _ _=>?_
  (refine Zz ?_;with_reducible repeat' first|intro _|apply aI)
  ·refine E5 aS (v6 Raw.g_len) fun _ _ _=>?_
   (refine Zz ?_;intros)
   have hiw:i < r.l.length:=oM
   have hmm:=f6t (r:=r) oM (List.getElem_mem hiw)
   refine o7 hO ⟨⟨r.l[i],Raw.okR_mem hok.2.2 (List.getElem_mem hiw)⟩,show muR r.l[i] < z by omega⟩ (r:=.a (E2 r.l[i]).g) rfl (.k (.a _ _ _ (Raw.g_len _).symm aS) .nil) .nil fun _ _ _ _=>?_
   (refine Zz ?_;intros)
   refine oR fun _ _=>?_
   (refine Zz ?_;intros)
   refine N8 aS (r:=(E2 r.l[i]).g) (fun _=>Q9 (by rw [O.g_len];decide) aS) (O.g_len _) (by simp) (by simp only [List.length_map];omega) fun _ _=>?_
   (refine Zz ?_;intros)
   exact ih (i+1) _ _ ⟨_,_,acc ++ [E2 r.l[i]],rfl,(by rw [List.length_append];rfl),.a _ _ (by simp) (by rw [List.map_append];assumption),hq,(by rw [hacc,List.take_add_one,List.getElem?_eq_getElem hiw,List.map_append];rfl),by simp [hlen],oM⟩ oM
  ·have e9:acc=r.l.map E2:=by rw [hacc,List.take_of_length_le oM]
   refine o7 hL ⟨acc,oM⟩ (r:=.a (u7 acc).g) rfl (.k (.sl _ _ _ _ _ (by simp) aS) .nil) .nil fun _ _ _ _=>?_
   (refine Zz ?_;intros)
   refine oR fun _ _=>?_
   (refine Zz ?_;intros)
   rw [← e9]
   exact p9 ⟨.ret _ _ oV,.nil⟩
theorem g4u (x y:Int):qn (qn x y).1 ((qn x y).2:Nat)=qn x y:=by
 by_cases hy:y=0
 ·have e:qn x y=(0,1):=by unfold qn;rw [if_pos hy]
  rw [e]
  exact c4z 0
 have e:qn x y=((if (x < 0)=(y < 0) then 1 else -1) * ((x.natAbs / Nat.gcd x.natAbs y.natAbs:Nat):Int),y.natAbs / Nat.gcd x.natAbs y.natAbs):=by unfold qn;rw [if_neg hy]
 have hg:0 < Nat.gcd x.natAbs y.natAbs:=Nat.gcd_pos_of_pos_right _ oM
 have h1:Nat.gcd (x.natAbs / Nat.gcd x.natAbs y.natAbs) (y.natAbs / Nat.gcd x.natAbs y.natAbs)=1:=by
  rw [Nat.gcd_div (Nat.gcd_dvd_left _ _) (Nat.gcd_dvd_right _ _),Nat.div_self hg]
 have hd:0 < y.natAbs / Nat.gcd x.natAbs y.natAbs:=Nat.div_pos (Nat.le_of_dvd oM (Nat.gcd_dvd_right _ _)) hg
 rw [e]
 simp only
 generalize x.natAbs / Nat.gcd x.natAbs y.natAbs=a at *
 generalize y.natAbs / Nat.gcd x.natAbs y.natAbs=b at *
 have hs:∃ n:Int,(if (x < 0)=(y < 0) then (1:Int) else -1) * (a:Int)=n∧n.natAbs=a:=by
  by_cases hc:(x < 0)=(y < 0)
  ·exact ⟨a,by rw [if_pos hc];omega,oM⟩
  ·exact ⟨-(a:Int),by rw [if_neg hc];omega,oM⟩
 obtain ⟨n,e1,e2⟩:=hs
 rw [e1]
 unfold qn
 rw [if_neg oM,Int.natAbs_natCast,e2,h1,Nat.div_one,Nat.div_one]
 refine Prod.ext ?_ rfl
 show (if (n < 0)=((b:Int) < 0) then (1:Int) else -1) * (a:Int)=n
 by_cases hn:n < 0
 ·rw [if_neg (fun e=>absurd (e.mp hn) oM)];omega
 ·rw [if_pos (propext ⟨fun k=>absurd k hn,fun k=>absurd k oM⟩)];omega
theorem g30 {x y:Int} (hx:x.natAbs < 1000000000) (hy:y.natAbs < 1000000000):(L1 (qn x y)).fm=true:=by
 have hq:=g4u x y
 have b1:(qn x y).1.natAbs < 1000000000∧(qn x y).2 < 1000000000:=by
  unfold qn
  split
  ·exact ⟨dE,dE⟩
  ·have d1:=Nat.div_le_self x.natAbs (Nat.gcd x.natAbs y.natAbs)
   have d2:=Nat.div_le_self y.natAbs (Nat.gcd x.natAbs y.natAbs)
   refine ⟨?_,Nat.lt_of_le_of_lt d2 hy⟩
   simp only
   generalize x.natAbs / Nat.gcd x.natAbs y.natAbs=a at *
   split
   ·omega
   ·omega
 generalize qn x y=q at *
 obtain ⟨n,d⟩:=q
 have b2:n.natAbs < 1000000000:=b1.1
 have b3:d < 1000000000:=b1.2
 refine decide_eq_true ⟨?_,?_,?_⟩
 ·rw [a4j,v7,A7,hq]
 ·unfold J6
  rw [v7]
  have:=V3 (n:=n.natAbs) (k:=9) b2
  show max 1 (p7 n.natAbs).length≤100
  omega
 ·unfold J6
  rw [A7,Int.natAbs_natCast]
  have:=V3 (n:=d) (k:=9) b3
  show max 1 (p7 d).length≤100
  omega
theorem c4v:F6 H9=true:=by
 unfold F6
 rw [a0p (i:=0) dE dE,a0p (i:=1) dE dE,a0p (i:=2) dE dE,a0p (i:=3) dE dE,b23 dE]
 decide
theorem c6t:∀ k,k < 9→1≤(Z4.getD k []).length∧(Z4.getD k []).length≤40:=dE
theorem f3j (n:Int):named (a99 n)=true:=by
 have h1:0≤n % 13:=Int.emod_nonneg _ dE
 unfold a99
 split
 ·unfold named
  have:=c6t (n % 13).toNat oM
  rw [c4v,decide_eq_true this];rfl
 ·repeat' split
  all_goals exact (a8g dE).2
theorem f4v {r:Raw} (h:r.s.length≤12):(atR r).fm=true:=by
 unfold atR
 have h1:0≤r.n % 2001:=Int.emod_nonneg _ dE
 have h2:r.n % 2001 < 2001:=Int.emod_lt_of_pos _ dE
 have h3:0≤r.n % 41:=Int.emod_nonneg _ dE
 have h4:r.n % 41 < 41:=Int.emod_lt_of_pos _ dE
 split
 ·exact (b1q _ ⟨oM,oM⟩).2
 ·split
  ·exact g30 oM oM
  ·split
   ·exact f3j _
   ·exact decide_eq_true (by show r.s.length≤200;omega)
theorem d9j (r:Raw):(atR r).size=1:=by
 unfold atR
 repeat' split
 all_goals rfl
mutual
theorem a1h:∀ r:Raw,(E2 r).size+1≤4 * r.nodes
 | .mk k n s l=>by
  have h:=c4l l
  have hn:(Raw.mk k n s l).nodes=1+Raw.nodesL l:=rfl
  rw [E2]
  split
  ·rw [d9j];omega
  ·split
   ·have h2:=d5z l
    show 1+((H6 l).getD 0 (.num (-1000) 1)).size+((H6 l).getD 1 (.num (-1000) 1)).size+1≤_
    omega
   ·rw [d8c];omega
theorem c4l:∀ l:List Raw,szL (H6 l)≤1+4 * Raw.nodesL l
 | []=>by show 1≤_;omega
 | x :: xs=>by
  have h1:=a1h x
  have h2:=c4l xs
  show 1+(E2 x).size+szL (H6 xs)≤1+4 * (x.nodes+Raw.nodesL xs)
  omega
theorem d5z:∀ l:List Raw,((H6 l).getD 0 (.num (-1000) 1)).size+((H6 l).getD 1 (.num (-1000) 1)).size≤2+4 * Raw.nodesL l
 | []=>by show 1+1≤_;omega
 | [x]=>by
  have h1:=a1h x
  show (E2 x).size+1≤2+4 * (x.nodes+0)
  omega
 | x :: y :: l=>by
  have h1:=a1h x
  have h2:=a1h y
  show (E2 x).size+(E2 y).size≤2+4 * (x.nodes+(y.nodes+Raw.nodesL l))
  omega
end
mutual
theorem b20:∀ {r:Raw},r.okR→(E2 r).fm=true
 | .mk k n s l,h=>by
  have hl:=c4j (l:=l) h.2.2
  rw [E2]
  split
  ·exact f4v (r:=.mk k n s l) h.1
  ·split
   ·have hz:(O.num (-1000) 1).fm=true:=(b1q (-1000) dE).2
    have hg:∀ i,((H6 l).getD i (.num (-1000) 1)).fm=true:=fun i=>by
     by_cases hi:i < (H6 l).length
     ·rw [show (H6 l).getD i (.num (-1000) 1)=(H6 l)[i] by simp [List.getD,List.getElem?_eq_getElem hi]]
      exact hl _ (List.getElem_mem hi)
     ·rw [show (H6 l).getD i (.num (-1000) 1)=.num (-1000) 1 by simp [List.getD,List.getElem?_eq_none (by omega:(H6 l).length≤i)]]
      exact hz
    show (_ && _)=true
    rw [hg,hg];rfl
   ·exact (d5f _).2 hl
theorem c4j:∀ {l:List Raw},Raw.okRL l→∀ x ∈ H6 l,x.fm=true
 | [],_,x,h=>by cases h
 | y :: l,h,x,hx=>by
  cases hx with
  | head=>exact b20 h.1
  | tail _ hx=>exact c4j h.2 x hx
end
theorem e8w {r:Raw} {m:Nat} (h:r.few m=true):(E2 r).size+1≤4 * m∧(E2 r).fm=true:=by
 have h:=Raw.few_ok h
 have:=a1h r
 exact ⟨oM,b20 h.1⟩
theorem b9t {l:List Raw} {m:Nat} (h:Y7 l m=true):l.length≤8∧∀ r ∈ l,r.few m=true:=by
 unfold Y7 at h
 rw [Bool.and_eq_true] at h
 exact ⟨of_decide_eq_true h.1,List.all_eq_true.1 h.2⟩
def B6:List Sy:=[(H9,[120]),(H9,[121]),(H9,[122]),(H9,[117])]
def b0d (n:Int):Sy:=B6.getD (n % 4).toNat (H9,[120])
def Q2:Nat→List T→List T
 | 0,_=>[]
 | k+1,[]=>.v (b0d 0) :: Q2 k []
 | k+1,t :: ts=>t :: Q2 k ts
section
variable (nm:List Sy) (ar:Sy→Nat)
def nmR (n:Int):Sy:=nm.getD (n % (nm.length:Int)).toNat (s8,[])
mutual
def I8:Raw→T
 | .mk k n s l=>if k % 6 < 2 then .v (b0d n) else
  if k % 6 < 3 then (match l with
   | []=>.c (.num (n % 7 - 2) 1)
   | r :: _=>.c (E2 r)) else
  .call (nmR nm n) (Q2 (ar (nmR nm n)) (N9 l))
def N9:List Raw→List T
 | []=>[]
 | x :: xs=>I8 x :: N9 xs
end
def d9n:Int→List Raw→O
 | n,[]=>.num (n % 7 - 2) 1
 | _,r :: _=>E2 r
theorem a7x (k n:Int) (s:u4) (l:List Raw):I8 nm ar (.mk k n s l)=if k % 6 < 2 then .v (b0d n) else if k % 6 < 3 then .c (d9n n l) else .call (nmR nm n) (Q2 (ar (nmR nm n)) (N9 nm ar l)):=by cases l <;> (rw [I8];rfl)
theorem b4b:∀ (k:Nat) (ts:List T),T.nds (Q2 k ts)≤k+T.nds ts
 | 0,ts=>by rw [Q2,T.nds];exact Nat.zero_le _
 | k+1,[]=>by
  have:=b4b k []
  rw [Q2,T.nds]
  show 1+T.nds (Q2 k [])≤_
  rw [T.nds] at *
  omega
 | k+1,t :: ts=>by
  have:=b4b k ts
  rw [Q2,T.nds,T.nds]
  omega
theorem a49:∀ (k:Nat) (ts:List T),(Q2 k ts).length=k
 | 0,_=>rfl
 | k+1,[]=>by rw [Q2,List.length_cons,a49 k []]
 | k+1,t :: ts=>by rw [Q2,List.length_cons,a49 k ts]
theorem a89:∀ (k:Nat) (ts:List T) (t:T),t ∈ Q2 k ts→t=.v (b0d 0)∨t ∈ ts
 | 0,_,_,h=>by cases h
 | k+1,[],t,h=>by
  rw [Q2,List.mem_cons] at h
  rcases h with h | h
  ·exact .inl h
  ·exact a89 k [] t h
 | k+1,u :: ts,t,h=>by
  rw [Q2,List.mem_cons] at h
  rcases h with h | h
  ·exact .inr (by simp [h])
  ·exact (a89 k ts t h).imp id fun h=>List.mem_cons_of_mem _ h
variable {ar} (har:∀ s,ar s≤3)
include har
mutual
theorem c64:∀ r:Raw,(I8 nm ar r).nd≤4 * r.nodes
 | .mk k n s l=>by
  rw [a7x,Raw.nodes]
  split
  ·rw [T.nd];omega
  ·split
   ·cases l with
    | nil=>show 1≤_;omega
    | cons r l =>
     have:=a1h r
     show (E2 r).size≤_
     rw [Raw.nodesL]
     omega
   ·have h1:=b4b (ar (nmR nm n)) (N9 nm ar l)
    have h2:=c2a l
    have h3:=har (nmR nm n)
    rw [T.nd]
    omega
theorem c2a:∀ l:List Raw,T.nds (N9 nm ar l)≤4 * Raw.nodesL l
 | []=>by rw [N9,T.nds];exact Nat.zero_le _
 | x :: xs=>by
  have h1:=c64 x
  have h2:=c2a xs
  rw [N9,T.nds,Raw.nodesL]
  omega
end
end
section
variable (nm:List Sy) {ar:Sy→Nat} (har:∀ s,ar s≤3)
include har
mutual
theorem c18:∀ r:Raw,r.okR→r.nodes≤20→Okc (I8 nm ar r)
 | .mk k n s l,h,hn=>by
  rw [Raw.nodes] at hn
  rw [a7x]
  split
  ·exact .v _
  ·split
   ·refine .c _ ?_
    cases l with
    | nil=>exact b1q _ oM
    | cons r l =>
     have hr:r.okR:=h.2.2.1
     have:=a1h r
     rw [Raw.nodesL] at hn
     exact ⟨show (E2 r).size≤3000 by omega,b20 hr⟩
   ·refine .call _ _ (by rw [a49];have:=har (nmR nm n);omega) fun x hx=>?_
    rcases a89 _ _ _ hx with e | e
    ·rw [e];exact .v _
    ·exact b9j l h.2.2 oM x e
theorem b9j:∀ l:List Raw,Raw.okRL l→Raw.nodesL l≤20→∀ x ∈ N9 nm ar l,Okc x
 | [],_,_,x,h=>by cases h
 | y :: l,h,hn,x,hx=>by
  rw [Raw.nodesL] at hn
  rw [N9,List.mem_cons] at hx
  rcases hx with e | e
  ·rw [e];exact c18 y h.1 oM
  ·exact b9j l h.2 oM x e
end
theorem b2r {r:Raw} {m:Nat} (hm:m≤20) (h:r.few m=true):Okc (I8 nm ar r)∧(I8 nm ar r).nd≤4 * m:=by
 have h:=Raw.few_ok h
 exact ⟨c18 nm har r h.1 oM,Nat.le_trans (c64 nm har r) oM⟩
theorem e80 {a b c:Raw} {x y:Sy} (ha:a.few 15=true) (hb:b.few 10=true) (hc:c.few 10=true):(C7 [(x,I8 nm ar b),(y,I8 nm ar c)] (I8 nm ar a)).nd≤3000:=by
 have h1:=(b2r nm har dE ha).2
 have h2:=(b2r nm har dE hb).2
 have h3:=(b2r nm har dE hc).2
 have h:=d5x (σ:=[(x,I8 nm ar b),(y,I8 nm ar c)]) (M:=40) dE (fun p hp=>by
  simp only [List.mem_cons,List.not_mem_nil,or_false] at hp
  rcases hp with e | e <;> rw [e] <;> assumption) (I8 nm ar a)
 omega
end
theorem e0s {ap:Ap} {L:List (List F)} {x y:Sy} {a b c:T} {g:Q1} {vx vy p q:O} {n1 n2 n3 n4 l1 l2 l3 l4 r1 r2 r3 r4:Nat} (h1:H0 ap L n1 b g l1=some (vx,0,r1)) (h2:H0 ap L n2 c g l2=some (vy,0,r2))
  (h3:H0 ap L n3 a ((x,vx) :: (y,vy) :: g) l3=some (p,0,r3)) (h4:H0 ap L n4 (C7 [(x,b),(y,c)] a) g l4=some (q,0,r4)):p=q:=by
 refine f3h (σ:=[(x,b),(y,c)]) (e1:=(x,vx) :: (y,vy) :: g) (e2:=g) (t:=a) ?_ h3 h4
 intro s o m l o' r hv he
 rw [C7,asg] at he
 rw [O1] at hv
 by_cases e:x=s
 ·rw [if_pos e] at he hv
  injection hv with hv
  rw [← hv]
  exact c7j he h1
 ·rw [if_neg e,asg] at he
  rw [if_neg e,O1] at hv
  by_cases e2:y=s
  ·rw [if_pos e2] at he hv
   injection hv with hv
   rw [← hv]
   exact c7j he h2
  ·rw [if_neg e2,asg] at he
   rw [if_neg e2] at hv
   have:=d07 he
   rw [hv] at this
   injection this with this
   exact this.symm
inductive d9g (ap:Ap) (L:List (List F)) (g:Q1):List (Sy × T)→List (Sy × O)→Prop
 | nil:d9g ap L g [] []
 | cons (s:Sy) (t:T) (o:O) (n l r:Nat) (σ:List (Sy × T)) (e:List (Sy × O)):H0 ap L n t g l=some (o,0,r)→d9g ap L g σ e→d9g ap L g ((s,t) :: σ) ((s,o) :: e)
def smN (n:Int) (d:Nat):Bool:=(Nat.beq d 1 && decide (-1000≤n∧n≤1000)) || (Nat.ble 2 d && (Nat.ble d 13 && (Nat.ble n.natAbs 20 && Nat.beq (Nat.gcd n.natAbs d) 1)))
def O.sn:O→Bool
 | .num n d=>smN n d
 | .co a d=>a.sn && d.sn
 | .no=>false
 | _=>true
def okk (o:O):Prop:=ok o∧o.sn=true
theorem b83 {n:Int} (h:-1000≤n∧n≤1000):smN n 1=true:=by
 unfold smN;rw [decide_eq_true h];rfl
theorem f97 {x:Int} {y:Nat} (hx:-20≤x∧x≤20) (h1:1≤y) (h2:y≤13):smN (qn x y).1 (qn x y).2=true:=by
 have hy:¬(y:Int)=0:=oM
 unfold qn
 rw [if_neg hy]
 have hg:0 < Nat.gcd x.natAbs (y:Int).natAbs:=Nat.gcd_pos_of_pos_right _ oM
 have hc:=Nat.coprime_div_gcd_div_gcd hg
 have hn:x.natAbs / Nat.gcd x.natAbs (y:Int).natAbs≤20:=Nat.le_trans (Nat.div_le_self _ _) oM
 have hd:(y:Int).natAbs / Nat.gcd x.natAbs (y:Int).natAbs≤13:=Nat.le_trans (Nat.div_le_self _ _) oM
 have hp:0 < (y:Int).natAbs / Nat.gcd x.natAbs (y:Int).natAbs:=Nat.div_pos (Nat.le_of_dvd oM (Nat.gcd_dvd_right _ _)) hg
 generalize x.natAbs / Nat.gcd x.natAbs (y:Int).natAbs=a at *
 generalize (y:Int).natAbs / Nat.gcd x.natAbs (y:Int).natAbs=b at *
 have ha:((if (x < 0)=((y:Int) < 0) then (1:Int) else -1) * (a:Nat)).natAbs=a:=by
  split <;> simp
 unfold smN
 show ((Nat.beq b 1 && _) || (Nat.ble 2 b && (Nat.ble b 13 && (Nat.ble (((if (x < 0)=((y:Int) < 0) then (1:Int) else -1) * (a:Nat)).natAbs) 20 && Nat.beq (Nat.gcd (((if (x < 0)=((y:Int) < 0) then (1:Int) else -1) * (a:Nat)).natAbs) b) 1))))=true
 rw [ha]
 by_cases hb:b=1
 ·rw [hb,decide_eq_true oM];rfl
 ·have e1:Nat.ble 2 b=true:=by rw [Nat.ble_eq];omega
  have e2:Nat.ble b 13=true:=by rw [Nat.ble_eq];exact hd
  have e3:Nat.ble a 20=true:=by rw [Nat.ble_eq];exact hn
  have e4:Nat.beq (Nat.gcd a b) 1=true:=by rw [Nat.beq_eq];exact hc
  rw [e1,e2,e3,e4];exact Bool.or_true _
theorem f4w {r:Raw} (h:r.s.length≤12):(atR r).sn=true:=by
 unfold atR
 split
 ·exact b83 oM
 ·split
  ·have e:(1+r.s.length:Int)=((1+r.s.length:Nat):Int):=oM
   show smN (qn _ _).1 (qn _ _).2=true
   rw [e]
   exact f97 oM oM oM
  ·split <;> rfl
theorem snL {l:List O} (h:∀ x ∈ l,x.sn=true):(u7 l).sn=true:=by
 induction l with
 | nil=>rfl
 | cons a l ih =>
  show (a.sn && (u7 l).sn)=true
  rw [h a (by simp),ih fun x hx=>h x (by simp [hx])];rfl
mutual
theorem c71:∀ {r:Raw},r.okR→(E2 r).sn=true
 | .mk k n s l,h=>by
  have hl:=c4k (l:=l) h.2.2
  rw [E2]
  split
  ·exact f4w (r:=.mk k n s l) h.1
  ·split
   ·have hg:∀ i,((H6 l).getD i (.num (-1000) 1)).sn=true:=fun i=>by
     by_cases hi:i < (H6 l).length
     ·rw [show (H6 l).getD i (.num (-1000) 1)=(H6 l)[i] by simp [List.getD,List.getElem?_eq_getElem hi]]
      exact hl _ (List.getElem_mem hi)
     ·rw [show (H6 l).getD i (.num (-1000) 1)=.num (-1000) 1 by simp [List.getD,List.getElem?_eq_none (by omega:(H6 l).length≤i)]]
      exact b83 dE
    show (_ && _)=true
    rw [hg,hg];rfl
   ·exact snL hl
theorem c4k:∀ {l:List Raw},Raw.okRL l→∀ x ∈ H6 l,x.sn=true
 | [],_,x,h=>by cases h
 | y :: l,h,x,hx=>by
  cases hx with
  | head=>exact c71 h.1
  | tail _ hx=>exact c4k h.2 x hx
end
inductive Gt (nm:List Sy) (ar:Sy→Nat):T→Prop
 | v (s:Sy):s ∈ B6→Gt nm ar (.v s)
 | c (o:O):okk o→Gt nm ar (.c o)
 | call (f:Sy) (xs:List T):f ∈ nm→xs.length=ar f→(∀ x ∈ xs,Gt nm ar x)→Gt nm ar (.call f xs)
theorem c5x (n:Int):b0d n ∈ B6:=by
 have h1:0≤n % 4:=Int.emod_nonneg _ dE
 have h2:n % 4 < 4:=Int.emod_lt_of_pos _ dE
 have h:(n % 4).toNat < B6.length:=by show _ < 4;omega
 unfold b0d
 rw [show B6.getD (n % 4).toNat (H9,[120])=B6[(n % 4).toNat] by simp [List.getD,List.getElem?_eq_getElem h]]
 exact List.getElem_mem h
theorem e9z {nm:List Sy} (hn:nm ≠ []) (n:Int):nmR nm n ∈ nm:=by
 have hl:0 < nm.length:=List.length_pos_iff.2 hn
 have h1:0≤n % (nm.length:Int):=Int.emod_nonneg _ oM
 have h2:n % (nm.length:Int) < nm.length:=Int.emod_lt_of_pos _ oM
 have h:(n % (nm.length:Int)).toNat < nm.length:=oM
 unfold nmR
 rw [show nm.getD (n % (nm.length:Int)).toNat (s8,[])=nm[(n % (nm.length:Int)).toNat] by simp [List.getD,List.getElem?_eq_getElem h]]
 exact List.getElem_mem h
section
variable (nm:List Sy) (ar:Sy→Nat) (hn:nm ≠ [])
include hn
mutual
theorem c63:∀ r:Raw,r.okR→r.nodes≤20→Gt nm ar (I8 nm ar r)
 | .mk k n s l,h,hz=>by
  rw [Raw.nodes] at hz
  rw [a7x]
  split
  ·exact .v _ (c5x n)
  ·split
   ·refine .c _ ?_
    cases l with
    | nil=>exact ⟨b1q _ oM,b83 oM⟩
    | cons r l =>
     have hr:r.okR:=h.2.2.1
     have:=a1h r
     rw [Raw.nodesL] at hz
     exact ⟨⟨show (E2 r).size≤3000 by omega,b20 hr⟩,c71 hr⟩
   ·refine .call _ _ (e9z hn n) (a49 _ _) fun x hx=>?_
    rcases a89 _ _ _ hx with e | e
    ·rw [e];exact .v _ (c5x 0)
    ·exact c19 l h.2.2 oM x e
theorem c19:∀ l:List Raw,Raw.okRL l→Raw.nodesL l≤20→∀ x ∈ N9 nm ar l,Gt nm ar x
 | [],_,_,x,h=>by cases h
 | y :: l,h,hz,x,hx=>by
  rw [Raw.nodesL] at hz
  rw [N9,List.mem_cons] at hx
  rcases hx with e | e
  ·rw [e];exact c63 y h.1 oM
  ·exact c19 l h.2 oM x e
end
theorem f5s {r:Raw} {m:Nat} (hm:m≤20) (h:r.few m=true):Gt nm ar (I8 nm ar r):=by
 have h:=Raw.few_ok h
 exact c63 nm ar hn r h.1 oM
end
inductive Gf:T→Prop
 | v (s:Sy):R8 s=true→Gf (.v s)
 | c (o:O):okk o→Gf (.c o)
 | call (f:Sy) (xs:List T):named f=true→xs.length≤8→(∀ x ∈ xs,Gf x)→Gf (.call f xs)
theorem a4n {s:Sy} (h:s ∈ B6):R8 s=true:=by
 have hu:∀ c:UInt8,named (H9,[c])=true:=fun c=>by
  unfold named;rw [c4v,decide_eq_true (show 1≤[c].length∧[c].length≤40 from ⟨Nat.le_refl 1,(by decide:1≤40)⟩)];rfl
 have hne:∀ x:u4,(H9,x) ≠ (s8,o8 3 7104878)∧(H9,x) ≠ (s8,o8 1 116):=fun x=>⟨fun e=>absurd (congrArg Prod.fst e) (show ¬H9=s8 by decide),fun e=>absurd (congrArg Prod.fst e) (show ¬H9=s8 by decide)⟩
 simp only [B6,List.mem_cons,List.not_mem_nil,or_false] at h
 unfold R8
 rcases h with e | e | e | e <;> rw [e,hu,decide_eq_true (hne _).1,decide_eq_true (hne _).2] <;> rfl
theorem Gt.gf {nm:List Sy} {ar:Sy→Nat} (H:∀ f ∈ nm,named f=true∧ar f≤8) {t:T} (h:Gt nm ar t):Gf t:=by
 induction h with
 | v s hs=>exact .v s (a4n hs)
 | c o ho=>exact .c o ho
 | call f xs hf hl _ ih=>exact .call f xs (H f hf).1 (by have:=(H f hf).2;omega) ih
theorem Gf.sub {σ:List (Sy × T)} (H:∀ p ∈ σ,Gf p.2) {t:T} (h:Gf t):Gf (C7 σ t):=by
 induction h with
 | v s hs =>
  rw [C7]
  cases e:asg σ s with
  | none=>exact .v s hs
  | some t=>exact H _ (b2g e)
 | c o ho=>rw [C7];exact .c o ho
 | call f xs hf hl _ ih =>
  rw [C7,a98]
  refine .call f _ hf (by rw [List.length_map];exact hl) fun x hx=>?_
  obtain ⟨y,hy,e⟩:=List.mem_map.1 hx
  rw [← e];exact ih y hy
mutual
theorem c1n:∀ t:T,t.dp≤t.nd
 | .v _=>Nat.le_refl _
 | .c o=>by rw [T.nd];exact o.size_pos
 | .call _ xs=>by
  have:=c7e xs
  rw [T.dp,T.nd];omega
theorem c7e:∀ ts:List T,T.dps ts≤T.nds ts
 | []=>Nat.le_refl _
 | t :: ts=>by
  have h1:=c1n t
  have h2:=c7e ts
  rw [T.dps,T.nds];omega
end
theorem c4i:∀ t:T,0 < t.nd
 | .v _=>Nat.one_pos
 | .c o=>by rw [T.nd];exact o.size_pos
 | .call _ xs=>by rw [T.nd];omega
theorem a8f:∀ {ts:List T} {t:T},t ∈ ts→t.nd≤T.nds ts
 | u :: ts,t,h=>by
  rw [T.nds]
  cases h with
  | head=>exact Nat.le_add_right _ _
  | tail _ h=>exact Nat.le_trans (a8f h) (Nat.le_add_left _ _)
theorem a8e:∀ ts:List T,ts.length≤T.nds ts
 | []=>Nat.le_refl _
 | t :: ts=>by
  have h1:=c4i t
  have h2:=a8e ts
  rw [List.length_cons,T.nds];omega
theorem c97:∀ (l:List O) (b:Nat),(l.map fun o=>o.size+1).sum≤b→(u7 l).size≤b+1
 | [],b,_=>by show 1≤_;omega
 | o :: l,b,h=>by
  simp only [List.map_cons,List.sum_cons] at h
  have:=c97 l (b - (o.size+1)) oM
  show 1+o.size+(u7 l).size≤_
  omega
mutual
theorem a3q:∀ t:T,(z6 t).size+1≤6 * t.nd
 | .v _=>by show 1+1≤6;decide
 | .c o=>by
  have h:=o.size_pos
  rw [z6,T.nd]
  split
  ·omega
  ·show 1+1+(1+o.size+1)+1≤_;omega
 | .call f xs=>by
  have:=b59 xs
  rw [z6,T.nd]
  have h2:=c97 (L8 xs) _ this
  show 1+1+(u7 (L8 xs)).size+1≤_
  omega
theorem b59:∀ ts:List T,((L8 ts).map fun o=>o.size+1).sum≤6 * T.nds ts
 | []=>Nat.zero_le _
 | t :: ts=>by
  have h1:=a3q t
  have h2:=b59 ts
  rw [L8,T.nds,List.map_cons,List.sum_cons]
  omega
end
theorem f2w {s:Sy} (ho:ok (.sy s)) (h:a0z (.sy s)=true):O.sy s=C8∨O.sy s=tO:=by
 have hn:named s=true:=ho.2
 change (!(R8 s))=true at h
 unfold R8 at h
 rw [hn,Bool.true_and] at h
 by_cases e1:s=(s8,o8 3 7104878)
 ·left;rw [e1];rfl
 ·by_cases e2:s=(s8,o8 1 116)
  ·right;rw [e2];rfl
  ·rw [decide_eq_true e1,decide_eq_true e2] at h;cases h
theorem d8o {s:Sy} (h:s ∈ B6):O.eqb (.sy s) C8=false∧O.eqb (.sy s) tO=false:=by
 have h:=a4n h
 unfold R8 at h
 rw [Bool.and_eq_true,Bool.and_eq_true,decide_eq_true_eq,decide_eq_true_eq] at h
 exact ⟨O.eqb_f.2 fun e=>h.1.2 (by injection e),O.eqb_f.2 fun e=>h.2 (by injection e)⟩
def NM:List Sy:=X8.map (fun p=>(s8,p.1)) ++ (a1y.map fun e=>e.fns.map F.nm).flatten
def AR (s:Sy):Nat:=match K9 PL s with
 | some n=>n.toNat
 | none=>0
theorem e8y {L:List (List F)} {s:Sy} {f:F} (h:K1 L s=some f):∃ l ∈ L,f ∈ l:=by
 unfold K1 at h
 split at h
 ·rename_i p e
  cases e1:L[p.1]? with
  | none=>rw [e1] at h;cases h
  | some l =>
   rw [e1] at h
   exact ⟨l,List.mem_of_getElem? e1,List.mem_of_getElem? h⟩
 ·cases h
def smO:O→Bool
 | .sy s=>decide (s=(s8,o8 3 7104878)) || decide (s=(s8,o8 1 116))
 | .num n d=>decide (d=1) && (decide (-10 < n) && decide (n < 10))
 | _=>false
theorem f98:∀ {o:O},smO o=true→ok o
 | .sy s,h=>by
  unfold smO at h
  rw [Bool.or_eq_true,decide_eq_true_eq,decide_eq_true_eq] at h
  rcases h with e | e <;> rw [e] <;> exact a8g dE
 | .num n d,h=>by
  unfold smO at h
  rw [Bool.and_eq_true,Bool.and_eq_true,decide_eq_true_eq,decide_eq_true_eq,decide_eq_true_eq] at h
  obtain ⟨rfl,h1,h2⟩:=h
  exact b1q n ⟨oM,oM⟩
 | .tx _,h=>by cases h
 | .co _ _,h=>by cases h
 | .no,h=>by cases h
mutual
def c4n:T→Bool
 | .v _=>true
 | .c o=>smO o
 | .call _ xs=>Nat.blt xs.length 10 && c1v xs
def c1v:List T→Bool
 | []=>true
 | t :: ts=>c4n t && c1v ts
end
mutual
theorem c72:∀ {t:T},c4n t=true→Okc t
 | .v s,_=>.v s
 | .c o,h=>.c o (f98 (by rw [c4n] at h;exact h))
 | .call f xs,h=>by
  rw [c4n,Bool.and_eq_true] at h
  have h1:xs.length < 10:=by have:=h.1;rw [Nat.blt_eq] at this;exact this
  exact .call f xs oM (c4o h.2)
theorem c4o:∀ {ts:List T},c1v ts=true→∀ x ∈ ts,Okc x
 | [],_,x,h=>by cases h
 | t :: ts,h,x,hx=>by
  rw [c1v,Bool.and_eq_true] at h
  cases hx with
  | head=>exact c72 h.1
  | tail _ hx=>exact c4o h.2 x hx
end
theorem f4e:(PL.all fun l=>l.all fun f=>c4n f.bo && Nat.ble f.ps.length 3)=true:=kR
theorem d0f {s:Sy} {f:F} (h:K1 PL s=some f):Okc f.bo∧f.ps.length≤3:=by
 obtain ⟨l,hl,hf⟩:=e8y h
 have h1:=List.all_eq_true.1 (List.all_eq_true.1 f4e l hl) f hf
 rw [Bool.and_eq_true,Nat.ble_eq] at h1
 exact ⟨c72 h1.1,h1.2⟩
theorem b5h:OkL PL:=fun _ _ h=>⟨(d0f h).1,by have:=(d0f h).2;omega⟩
theorem c1e (s:Sy):AR s≤3:=by
 unfold AR K9
 cases e:D5 s with
 | some n =>
  have:=b1r e
  show n.toNat≤3
  omega
 | none =>
  cases e2:K1 PL s with
  | none=>exact Nat.zero_le _
  | some f =>
   have:=(d0f e2).2
   show ((f.ps.length:Nat):Int).toNat≤3
   omega
def b7y:List u4:=[o8 4 1953720684,o8 5 182342347116,o8 3 6581857,o8 2 29295,o8 4 1684959075,o8 1 43,o8 1 42,o8 1 45,o8 1 47,o8 2 15676,o8 1 62,o8 2 15678,o8 6 110425311047777]
def b47:List u4:=[o8 5 435745158513,o8 3 7628140,o8 4 712271212]
def a3v (s:Sy):Bool:=decide (s.1=s8) && decide (s.2 ∈ b7y)
theorem c60 {L:List (List F)} {s:Sy} {n:Int} (e:K9 L s=some n):0≤n:=by
 unfold K9 at e
 cases e7:D5 s with
 | some m=>rw [e7] at e;have:=b1r e7;injection e with e;omega
 | none =>
  rw [e7] at e
  cases e8:K1 L s with
  | none=>simp only [e8] at e;cases e
  | some f=>simp only [e8] at e;injection e with e;rw [← e];exact Int.natCast_nonneg _
theorem g07:NM ≠ []:=by
 intro h
 have:NM.length=0:=by rw [h];rfl
 exact absurd this dE
def nmB (s:Sy):Bool:=decide (s.1=s8) && (decide (1≤s.2.length) && (decide (s.2.length≤40) && (!decide (s.2 ∈ b7y) && (!decide (s.2 ∈ b47) && (K9 PL s).isSome))))
theorem f4d:NM.all nmB=true:=kR
theorem a4o {s:Sy} (h:s ∈ NM):s.1=s8∧named s=true∧a3v s=false∧s.2 ∉ b47∧K9 PL s=some (AR s:Int):=by
 have h1:=List.all_eq_true.1 f4d s h
 unfold nmB at h1
 simp only [Bool.and_eq_true,Bool.not_eq_true',decide_eq_true_eq,decide_eq_false_iff_not] at h1
 obtain ⟨e1,e2,e3,e4,e5,e6⟩:=h1
 refine ⟨e1,?_,?_,e5,?_⟩
 ·obtain ⟨p,n⟩:=s
  have e1:p=s8:=e1
  subst e1
  exact (a8g ⟨e2,e3⟩).2
 ·unfold a3v;rw [decide_eq_false e4,Bool.and_false]
 ·unfold AR
  cases e:K9 PL s with
  | none=>rw [e] at e6;cases e6
  | some n =>
   have:0≤n:=c60 e
   exact congrArg some (Int.toNat_of_nonneg this).symm
theorem b39:∀ f ∈ NM,named f=true∧AR f≤8:=fun f h=>⟨(a4o h).2.1,by have:=c1e f;omega⟩
theorem f92 {U:B0} {P:H4→List Bx→Prop} {a b:Nat} {K:Nat→Om} (h:U=CU→a=b) (k:s4 U (K b) P):s4 U (U.fN a K) P:=fun e=>by
 have h1:=k e
 have h2:=h e
 subst e
 rw [a83,h2];exact h1
theorem g42 {U:B0} {P:H4→List Bx→Prop} {z c:Nat} {xs:List (List G)} {v:V} {K:s6 Q→Nat→Nat→Om} (hv:RV (.f0 (z+1) xs) v) (hc:Y6 (.fr (z+1))=c) (h:∀ t,u6 (z+1) xs t 0→s4 U (K t 0 xs.length) P):s4 U (U.uSl (z+1) c v K) P:=by
 cases hv with
 | f0 _ _ t len h1 h2=>subst h1;exact b44 hc (h t h2)
theorem g40 {n:Nat} (hn:n ≠ 1) {a b c d:List G} {p q r s:Q} (ha:u3 a p 0) (hb:u3 b q 0) (hc:u3 c r 0) (hd:u3 d s 0) (la:a.length=n) (lb:b.length=n) (lc:c.length=n) (ld:d.length=n) :
  u6 n [a,b,c,d] (.node p (.node q (.node s .nil .nil) .nil) (.node r .nil .nil)) 0:=.of fun j x h=>by
 have hr:∀ {x:List G} {y:Q},x.length=n→u3 x y 0→x.length=n∧Row x y:=fun hl h=>⟨hl,h,fun g e=>by subst e;exact absurd hl.symm hn⟩
 match j,h with
 | 0,h=>simp at h;subst h;exact hr la ha
 | 1,h=>simp at h;subst h;exact hr lb hb
 | 2,h=>simp at h;subst h;exact hr lc hc
 | 3,h=>simp at h;subst h;exact hr ld hd
 | j+4,h=>simp at h
def g99:Sp where
 ι:=Unit
 A _:=[.c (.i .i64 4)]
 B _:=[]
 R _:=.ret (.sl 2 (B6.map sg))
 B' _:=[]
 inj _ _ _ _ _ _ _ _:=⟨rfl,rfl⟩
theorem e54:s9 9 g99:=u2 (fun fn h=>g4z h) [(32,_)] (.cons e53 .nil) fun U fn hfn _ vs bs hv hb=>by
 have hU:=hfn 32 _ rfl
 change t7 [.c (.i .i64 4)] vs at hv
 change s5 [] bs at hb
 show s4 U _ fun v bs'=>u0 (.ret (.sl 2 (B6.map sg))) v∧s5 [] bs'
 unfold r9
 (refine Zz ?_;intros)
 refine o7 hU ([120]:u4) (r:=.a (sg (H9,[120]))) rfl (.k (.s _ _ _ rfl rfl) .nil) .nil fun _ _ h1 _=>?_
 refine C4 h1 rfl fun _ k1=>?_
 (refine Zz ?_;intros)
 refine o7 hU ([121]:u4) (r:=.a (sg (H9,[121]))) rfl (.k (.s _ _ _ rfl rfl) .nil) .nil fun _ _ h2 _=>?_
 refine C4 h2 rfl fun _ k2=>?_
 (refine Zz ?_;intros)
 refine o7 hU ([122]:u4) (r:=.a (sg (H9,[122]))) rfl (.k (.s _ _ _ rfl rfl) .nil) .nil fun _ _ h3 _=>?_
 refine C4 h3 rfl fun _ k3=>?_
 (refine Zz ?_;intros)
 refine o7 hU ([117]:u4) (r:=.a (sg (H9,[117]))) rfl (.k (.s _ _ _ rfl rfl) .nil) .nil fun _ _ h4 _=>?_
 refine C4 h4 rfl fun _ k4=>?_
 (refine Zz ?_;intros)
 refine b81 (b:=4) (fun e=>by subst e;rfl) ?_
 refine b81 (b:=4) (fun e=>by subst e;rfl) ?_
 (refine Zz ?_;intros)
 exact p9 ⟨.ret _ _ (.sl _ _ _ _ _ rfl (g40 dE k1 k2 k3 k4 rfl rfl rfl rfl)),.nil⟩
def N4:List Sy:=X8.map fun p=>(s8,p.1)
theorem e9i:s9 58 (sp0 (.f0 2 (N4.map sg))):=u2 (fun fn h=>d6s h) [(100,_),(20,_)] (.cons e51 (.cons a6g .nil)) fun U fn hfn _ vs bs hv hb=>by
 have hr:=hfn 100 _ rfl
 have hL:=hfn 20 _ rfl
 change t7 [] vs at hv
 change s5 [] bs at hb
 show s4 U _ fun v bs'=>u0 (.ret (.f0 2 (N4.map sg))) v∧s5 [] bs'
 unfold r58
 (refine Zz ?_;intros)
 refine o7 hr () (r:=.sl 2 (X8.map rg)) rfl .nil .nil fun _ _ _ _=>?_
 have hl:X8.length=25:=rfl
 unfold N4
 generalize X8=l at *
 (refine Zz ?_;intros)
 refine F9 (fun (i:Nat) vs bs=>∃ (t:s6 Q) (off:Nat) (v:V) (acc:List Sy),vs=[.slice t 2 off l.length .no,.int .i64 i,v]∧bs=[.tok acc.length 2]∧R7 0 2 (acc.map sg) v∧u6 2 (l.map rg) t off∧acc=(l.take i).map (fun p=>(s8,p.1))∧acc.length=i∧i≤l.length) (fun i=>l.length - i) 0
  ⟨_,_,_,[],rfl,rfl,.b rfl,aS,rfl,rfl,oM⟩ (by simp only [C9];omega) ?_
 rintro self i _ _ ⟨t,off,v,acc,rfl,rfl,htk,ht,hacc,hlen,hi⟩ ih
 (refine Zz ?_;with_reducible repeat' first|intro _|apply aI)
 ·have hiw:i < l.length:=oM
  refine o7 hL l[i].1 (r:=.a (sg (s8,l[i].1))) rfl (.k (.q _ _ aS) .nil) .nil fun _ _ h1 _=>?_
  refine C4 h1 rfl fun _ k1=>?_
  (refine Zz ?_;intros)
  refine N8 aS (r:=sg (s8,l[i].1)) (fun _=>Q9 (by rw [a8w];decide) k1) rfl (by simp) (by simp only [List.length_map];omega) fun _ _=>?_
  (refine Zz ?_;intros)
  exact ih (i+1) _ _ ⟨_,_,_,acc ++ [(s8,l[i].1)],rfl,(by rw [List.length_append];rfl),.a _ _ (by simp) (by rw [List.map_append];assumption),ht,(by rw [hacc,List.take_add_one,List.getElem?_eq_getElem hiw,List.map_append];rfl),by simp [hlen],oM⟩ oM
 ·have e9:acc=l.map (fun p=>(s8,p.1)):=by rw [hacc,List.take_of_length_le oM]
  rw [← e9]
  exact p9 ⟨.ret _ _ (.f0 _ _ _ _ (by simp) aS),.nil⟩
def nmW (L:List (List F)):List Sy:=N4 ++ (L.map fun l=>l.map F.nm).flatten
theorem b1l:∀ {l m:List Et},l.map Et.g=m.map Et.g→l.map Et.fns=m.map Et.fns
 | [],[],_=>rfl
 | [],_ :: _,h=>by simp at h
 | _ :: _,[],h=>by simp at h
 | a :: l,b :: m,h=>by
  simp only [List.map_cons,List.cons.injEq] at h
  rw [List.map_cons,List.map_cons,(Et.g_key h.1).2,b1l h.2]
abbrev WN:={ w:List Et // w.length < 1000∧∀ e ∈ w,e.fns.length < 1000 }
def f3a:Sp where
 ι:=WN
 A w:=[.sl 32 (w.1.map Et.g)]
 B _:=[]
 R w:=.ret (.sl 2 ((nmW (w.1.map Et.fns)).map sg))
 B' _:=[]
 inj i j vs bs h k _ _:=by
  obtain ⟨_,_,h1,k1,h,k⟩:=h.two k
  rw [b1l (h1.sl_inj k1)];exact ⟨rfl,rfl⟩
theorem b4j:∀ {w:List Et} {i:Nat},(∀ e ∈ w,e.fns.length < 1000)→(((w.take i).map fun e=>e.fns.map F.nm).flatten).length≤1000 * i
 | [],i,_=>by simp
 | e :: w,0,_=>by simp
 | e :: w,i+1,h=>by
  have h1:=h e (by simp)
  have h2:=b4j (w:=w) (i:=i) fun x hx=>h x (by simp [hx])
  rw [List.take_succ_cons,List.map_cons,List.flatten_cons,List.length_append,List.length_map]
  omega
theorem e9j:s9 34 f3a:=u2 (fun fn h=>f73 h) [(58,_)] (.cons e9i .nil) fun U fn hfn ⟨w,hw,hwl⟩ vs bs hv hb=>by
 have hN:=hfn 58 _ rfl
 change t7 [.sl 32 (w.map Et.g)] vs at hv
 change s5 [] bs at hb
 have hw:w.length < 1000:=hw
 show s4 U _ fun v bs'=>u0 (.ret (.sl 2 ((nmW (w.map Et.fns)).map sg))) v∧s5 [] bs'
 have hn:nmW (w.map Et.fns)=N4 ++ (w.map fun e=>e.fns.map F.nm).flatten:=by unfold nmW;rw [List.map_map];rfl
 rw [hn]
 unfold r34
 (refine Zz ?_;intros)
 refine o7 hN () (r:=.f0 2 (N4.map sg)) rfl .nil .nil fun _ _ h1 _=>?_
 have hl:N4.length=25:=rfl
 generalize N4=pn at *
 refine g42 h1 rfl fun _ k1=>?_
 (refine Zz ?_;intros)
 refine F9 (fun (i:Nat) vs bs=>∃ (t:s6 Q) (off:Nat) (t2:s6 Q) (acc:List Sy),vs=[.slice t 32 off w.length .no,.slice t2 2 0 acc.length (.tok 0),.int .i64 i]∧bs=[.tok acc.length 2]∧u6 2 (acc.map sg) t2 0∧u6 32 (w.map Et.g) t off∧acc=pn ++ ((w.take i).map fun e=>e.fns.map F.nm).flatten∧i≤w.length) (fun i=>w.length - i) 0
  ⟨_,_,_,pn,by simp only [List.length_map];exact rfl,by simp only [List.length_map],k1,aS,by simp,oM⟩ (by simp only [C9];omega) ?_
 rintro self i _ _ ⟨t,off,t2,acc,rfl,rfl,ht2,ht,hacc,hi⟩ ih
 have hfl:=b4j (i:=i) hwl
 have hal:acc.length≤25+1000 * i:=by rw [hacc,List.length_append];omega
 (refine Zz ?_;with_reducible repeat' first|intro _|apply aI)
 ·have hiw:i < w.length:=oM
  have hel:w[i].fns.length < 1000:=hwl _ (List.getElem_mem _)
  have htk:(w.take (i+1)).map (fun e=>e.fns.map F.nm)=(w.take i).map (fun e=>e.fns.map F.nm) ++ [w[i].fns.map F.nm]:=by rw [List.take_add_one,List.getElem?_eq_getElem hiw,List.map_append];rfl
  refine F9 (fun (k:Nat) vs bs=>∃ (t:s6 Q) (off:Nat) (t2:s6 Q) (acc2:List Sy),vs=[.slice t 32 off w.length .no,.slice t2 2 0 acc2.length (.tok 0),.int .i64 i,.int .i64 k]∧bs=[.tok acc2.length 2]∧u6 2 (acc2.map sg) t2 0∧u6 32 (w.map Et.g) t off∧acc2=acc ++ (w[i].fns.take k).map F.nm∧k≤w[i].fns.length) (fun k=>w[i].fns.length - k) 0
   ⟨_,_,_,acc,rfl,rfl,ht2,ht,by simp,oM⟩ (by simp only [C9];omega) ?_
  rintro self2 k _ _ ⟨t,off,t2,acc2,rfl,rfl,ht2,ht,hacc2,hk⟩ ih2
  have hal2:acc2.length≤acc.length+k:=by rw [hacc2];simp;omega
  (refine Zz ?_;intros)
  refine E5 aS (v6 F.g_len) fun _ _ _=>?_
  (refine Zz ?_;with_reducible repeat' first|intro _|apply aI)
  ·refine E5 aS (v6 F.g_len) fun _ _ _=>?_
   (refine Zz ?_;intros)
   have hkw:k < w[i].fns.length:=oM
   refine N8 aS (r:=sg (w[i].fns[k]).nm) (fun _=>Q9 (by rw [a8w];decide) (u3.take 2 (gs:=F.g (w[i].fns[k])) aS)) rfl (by simp) (by simp only [List.length_map];omega) fun _ _=>?_
   (refine Zz ?_;intros)
   exact ih2 (k+1) _ _ ⟨_,_,_,acc2 ++ [(w[i].fns[k]).nm],by rw [List.length_append];exact rfl,by rw [List.length_append];exact rfl,by rw [List.map_append];assumption,ht,(by rw [hacc2,List.take_add_one,List.getElem?_eq_getElem hkw,List.map_append,List.append_assoc];rfl),oM⟩ oM
  ·refine ih (i+1) _ _ ⟨_,_,_,acc2,rfl,rfl,ht2,ht,?_,oM⟩ oM
   rw [hacc2,htk,List.take_of_length_le oM,List.flatten_append,hacc,List.append_assoc]
   simp
 ·have e9:acc=pn ++ (w.map fun e=>e.fns.map F.nm).flatten:=by rw [hacc,List.take_of_length_le oM]
  rw [← e9]
  exact p9 ⟨.ret _ _ (.sl _ _ _ _ _ (by simp) aS),.nil⟩
theorem g4i:s9 26 (b46 fun s=>.a (T.v s).g):=u2 (fun fn h=>d6g h) [] .nil fun U fn hfn s vs bs hv hb=>by
 change t7 [.a [.s s.1,.s s.2]] vs at hv
 change s5 [] bs at hb
 show s4 U _ fun v bs'=>u0 (.ret (.a (T.v s).g)) v∧s5 [] bs'
 unfold r26
 (refine Zz ?_;intros)
 exact E9 fun e=>by subst e;exact ⟨.ret _ _ (by (exact Zru)),.nil⟩
end
end Go.Proofs.YtkojildpddaccaaGreatDoor
