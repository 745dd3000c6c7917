/- Objects made of trees. -/
import Derived.Test.YtkojildpddaccaaGreatDoorCJ6
set_option linter.all false
namespace Go.Proofs.YtkojildpddaccaaGreatDoor
open Go.Abs LQ
set_option maxRecDepth 100000
set_option maxHeartbeats 4000000
noncomputable section
def a0t:List u5:=[s5 1 97,s5 1 98,s5 3 7303014,s5 8 7308604895909930095,s5 1 49,s5 3 7961720,s5 1 46,s5 4 858731053,s5 1 35]
def b1o (n:Int):Sy :=
 if n % 13 < 9 then (T4,a0t.getD (n % 13).toNat []) else
 if n % 13=9 then (B0,s5 3 7104878) else
 if n % 13=10 then (B0,s5 1 116) else
 if n % 13=11 then (B0,s5 3 7496035) else (B0,s5 5 435745158513)
def s1 (s:u5):List G:=[.s s]
def g5o (g:Int→GV):Sp where
 ι:=Int
 A n:=[.c (.i .i64 n)]
 B _:=[]
 R n:=.ret (g n)
 B' _:=[]
 inj i j vs bs h k _ _:=by
  obtain ⟨_,_,h1,k1,h,k⟩:=h.two k;rw [(G.i.inj (h1.c_inj k1)).2];exact ⟨rfl,rfl⟩
theorem g9l:v8 62 (g5o fun n=>.a (sg (b1o n))):=A8 (fun fn h=>f9r h) [(59,_),(32,_),(20,_)] (.cons e2f (.cons e5r (.cons d3v .nil))) fun U fn hfn (n:Int) vs bs hv hb=>by
 have hL:=hfn 20 _ rfl;change z7 [.c (.i .i64 n)] vs at hv;change u0 [] bs at hb;show t6 U _ fun v bs'=>A3 (.ret (.a (sg (b1o n)))) v∧u0 [] bs';unfold r62;refine Zz ?_;intros;refine s6 (hfn 59 _ rfl) ⟨(n,13),show 0 < 13 by decide,show 13 < 1000000 by decide⟩ (r:=.c (.i .i64 (n % 13))) rfl (.k (.i _ _) (.k (X2 (by show ((9:Nat):Int)+4=((13:Nat):Int);decide)) .nil)) .nil fun _ _ _ _=>?_;have h1:0≤n % 13:=Int.emod_nonneg _ dE;have h2:n % 13 < 13:=Int.emod_lt_of_pos _ dE;unfold b1o;generalize n % 13=z at *;obtain ⟨k,rfl⟩:∃ k:Nat,z=k:=⟨z.toNat,oM⟩;(refine Zz ?_;with_reducible repeat' first|intro _|apply aI)
 ·rw [if_pos oM,Int.toNat_natCast];have hk:k < a0t.length:=by show k < 9;omega
  refine sfT (xs:=a0t.map s1) (r:=s1 (a0t.getD k [])) (n:=1) (a2k (b39 2) (by rfl)) (by rw [Int.toNat_natCast,List.getElem?_map,List.getElem?_eq_getElem hk];simp [List.getD,List.getElem?_eq_getElem hk]) fun _ _=>?_;unfold s1 at *;refine Zz ?_;intros;refine s6 (hfn 32 _ rfl) (a0t.getD k []) (r:=.a (sg (T4,a0t.getD k []))) rfl (.k (.q _ _ aS) .nil) .nil fun _ _ _ _=>?_;refine Zz ?_;intros;exact s9 ⟨.ret _ _ (.a _ _ _ rfl aS),.nil⟩
 ·rw [if_neg oM,if_pos oM];refine s6 hL (s5 3 7104878) (r:=.a (sg (B0,s5 3 7104878))) rfl (.k (.s _ _ _ rfl rfl) .nil) .nil fun _ _ _ _=>?_;refine Zz ?_;intros;exact s9 ⟨.ret _ _ (.a _ _ _ rfl aS),.nil⟩
 ·rw [if_neg oM,if_neg oM,if_pos oM];refine s6 hL (s5 1 116) (r:=.a (sg (B0,s5 1 116))) rfl (.k (.s _ _ _ rfl rfl) .nil) .nil fun _ _ _ _=>?_;refine Zz ?_;intros;exact s9 ⟨.ret _ _ (.a _ _ _ rfl aS),.nil⟩
 ·rw [if_neg oM,if_neg oM,if_neg oM,if_pos oM];refine s6 hL (s5 3 7496035) (r:=.a (sg (B0,s5 3 7496035))) rfl (.k (.s _ _ _ rfl rfl) .nil) .nil fun _ _ _ _=>?_;refine Zz ?_;intros;exact s9 ⟨.ret _ _ (.a _ _ _ rfl aS),.nil⟩
 ·rw [if_neg oM,if_neg oM,if_neg oM,if_neg oM];refine s6 hL (s5 5 435745158513) (r:=.a (sg (B0,s5 5 435745158513))) rfl (.k (.s _ _ _ rfl rfl) .nil) .nil fun _ _ _ _=>?_;refine Zz ?_;intros;exact s9 ⟨.ret _ _ (.a _ _ _ rfl aS),.nil⟩
def atR (r:Raw):O :=
 if r.k % 8=0∨r.k % 8=1 then .num (r.n % 2001 - 1000) 1 else
 if r.k % 8=2 then K2 (qn (r.n % 41 - 20) (1+r.s.length)) else
 if r.k % 8=3 then .sy (b1o r.n) else .tx r.s
mutual
def F9:Raw→O
 | .mk k n s l=>if k % 8 < 5 then atR (.mk k n s l) else
  if k % 8=5 then .co ((P8 l).getD 0 (.num (-1000) 1)) ((P8 l).getD 1 (.num (-1000) 1)) else a0e (P8 l)
def P8:List Raw→List O
 | []=>[]
 | x :: xs=>F9 x :: P8 xs
end
theorem b63:∀ l:List Raw,P8 l=l.map F9
 | []=>rfl
 | x :: xs=>by rw [P8,b63 xs];rfl
theorem d7o:F9 Raw.zero=.num (-1000) 1:=by
 show F9 (.mk 0 0 [] [])=_;rw [F9,if_pos dE,atR,if_pos (.inl dE)];rfl
theorem b83 (l:List Raw) (i:Nat):(P8 l).getD i (.num (-1000) 1)=F9 (l.getD i Raw.zero):=by
 rw [b63,← d7o];simp only [List.getD,List.getElem?_map];cases l[i]? <;> rfl
theorem e8b (r:Raw):F9 r=if r.k % 8 < 5 then atR r else if r.k % 8=5 then .co (F9 (r.part 0)) (F9 (r.part 1)) else a0e (r.l.map F9):=by
 cases r with
 | mk k n s l =>
  rw [F9,b83,b83,b63];rfl
def muR (r:Raw):Nat:=if r.k % 8 < 5 then 2 * r.nodes - 1 else 2 * r.nodes
theorem d7k (r:Raw):muR r≤2 * r.nodes:=by unfold muR;split <;> omega
theorem e2q:Raw.zero.okR:=⟨dE,dE,trivial⟩
theorem c1d {r:Raw} (h:r.okR) (i:Nat):(r.part i).okR:=by
 unfold Raw.part;have h:=((Raw.okR_eq r).1 h).2.2;by_cases hi:i < r.l.length
 ·rw [show r.l.getD i Raw.zero=r.l[i] by simp [List.getD,List.getElem?_eq_getElem hi]];exact Raw.okR_mem h (List.getElem_mem hi)
 ·rw [show r.l.getD i Raw.zero=Raw.zero by simp [List.getD,List.getElem?_eq_none (by omega:r.l.length≤i)]];exact e2q
theorem d1n {r:Raw} (h:¬r.k % 8 < 5) (i:Nat):muR (r.part i) < muR r:=by
 unfold Raw.part;have e:muR r=2 * r.nodes:=if_neg h;have hn:=Raw.nodes_eq r;by_cases hi:i < r.l.length
 ·rw [show r.l.getD i Raw.zero=r.l[i] by simp [List.getD,List.getElem?_eq_getElem hi]];have h1:=Raw.nodes_mem (List.getElem_mem hi);have h2:=d7k r.l[i];omega
 ·rw [show r.l.getD i Raw.zero=Raw.zero by simp [List.getD,List.getElem?_eq_none (by omega:r.l.length≤i)]];have:muR Raw.zero=1:=dE;omega
theorem f47 {r:Raw} (h:¬r.k % 8 < 5) {x:Raw} (hx:x ∈ r.l):muR x < muR r:=by
 have e:muR r=2 * r.nodes:=if_neg h;have hn:=Raw.nodes_eq r;have h1:=Raw.nodes_mem hx;have h2:=d7k x;omega
def e6d:Sp where
 ι:={ r:Raw // r.okR }
 A r:=[.a r.1.g]
 B _:=[]
 R r:=.ret (.a (F9 r.1).g)
 B' _:=[]
 inj i j vs bs h k _ _:=by
  obtain ⟨_,_,h1,k1,h,k⟩:=h.two k;rw [Raw.g_inj (h1.a_inj k1)];exact ⟨rfl,rfl⟩
theorem d02 (hItoa:b57):v8 36 e6d:=Y2 (fun r=>muR r.1) fun z ih=>A8 (fun fn h=>f87 h) [(36,e6d.lt (fun r=>muR r.1) z),(59,_),(62,_),(61,_),(51,_),(27,_),(50,_),(18,_),(63,_),(44,_),(17,_)] (.cons ih (.cons e2f (.cons g9l (.cons e5o (.cons (c6z hItoa) (.cons (f4u hItoa) (.cons c2u (.cons d04 (.cons f44 (.cons e5m (.cons g4r .nil))))))))))) fun U fn hfn ⟨⟨r,hr⟩,hz⟩ vs bs hv hb=>by
 have hO:=hfn 36 _ rfl;have hM:=hfn 59 _ rfl;have hP:=hfn 61 _ rfl;have hF:=hfn 51 _ rfl;have hI:=hfn 27 _ rfl;change z7 [.a r.g] vs at hv;change u0 [] bs at hb;have hz:muR r < z+1:=hz;have hok:=(Raw.okR_eq r).1 hr;show t6 U _ fun v bs'=>A3 (.ret (.a (F9 r).g)) v∧u0 [] bs';rw [e8b];have h1:0≤r.k % 8:=Int.emod_nonneg _ dE;have h2:r.k % 8 < 8:=Int.emod_lt_of_pos _ dE;unfold r36;refine Zz ?_;intros;refine H3 aS (Raw.g_len _) fun _ _=>?_;have hcel:=(‹A7 r.g _ 0›);rw [Raw.g_eq] at hcel;refine Zz ?_;intros;refine s6 hM ⟨(r.k,8),show 0 < 8 by decide,show 8 < 1000000 by decide⟩ (r:=.c (.i .i64 (r.k % 8))) rfl (.k (.q _ _ aS) (.k (X2 rfl) .nil)) .nil fun _ _ _ _=>?_;(refine Zz ?_;with_reducible repeat' first|intro _|apply aI)
 ·refine s6 hM ⟨(r.n,2001),show 0 < 2001 by decide,show 2001 < 1000000 by decide⟩ (r:=.c (.i .i64 (r.n % 2001))) rfl (.k (.q _ _ aS) (.k (X2 rfl) .nil)) .nil fun _ _ _ _=>?_;have b1:0≤r.n % 2001:=Int.emod_nonneg _ dE;have b2:r.n % 2001 < 2001:=Int.emod_lt_of_pos _ dE;refine Zz ?_;intros;refine s6 hI ⟨r.n % 2001 - 1000,oM,oM⟩ (r:=.a (O.num (r.n % 2001 - 1000) 1).g) rfl (.k (.i _ _) .nil) .nil fun _ _ _ _=>?_;refine Zz ?_;intros;rw [if_pos oM,atR,if_pos oM];exact s9 ⟨.ret _ _ oV,.nil⟩
 ·refine s6 hM ⟨(r.n,2001),show 0 < 2001 by decide,show 2001 < 1000000 by decide⟩ (r:=.c (.i .i64 (r.n % 2001))) rfl (.k (.q _ _ aS) (.k (X2 rfl) .nil)) .nil fun _ _ _ _=>?_;have b1:0≤r.n % 2001:=Int.emod_nonneg _ dE;have b2:r.n % 2001 < 2001:=Int.emod_lt_of_pos _ dE;refine Zz ?_;intros;refine s6 hI ⟨r.n % 2001 - 1000,oM,oM⟩ (r:=.a (O.num (r.n % 2001 - 1000) 1).g) rfl (.k (.i _ _) .nil) .nil fun _ _ _ _=>?_;refine Zz ?_;intros;rw [if_pos oM,atR,if_pos oM];exact s9 ⟨.ret _ _ oV,.nil⟩
 ·refine s6 hM ⟨(r.n,41),show 0 < 41 by decide,show 41 < 1000000 by decide⟩ (r:=.c (.i .i64 (r.n % 41))) rfl (.k (.q _ _ aS) (.k (X2 rfl) .nil)) .nil fun _ _ _ _=>?_;have b1:0≤r.n % 41:=Int.emod_nonneg _ dE;have b2:r.n % 41 < 41:=Int.emod_lt_of_pos _ dE;have b3:=hok.1;have c1:-1000000000 < r.n % 41 - 20∧r.n % 41 - 20 < 1000000000:=⟨oM,oM⟩;have c2:-1000000000 < 1+(r.s.length:Int)∧1+(r.s.length:Int) < 1000000000:=⟨oM,oM⟩;have l1:=M8 c1;have l2:=M8 c2;refine Zz ?_;intros;refine s6 hF ⟨r.n % 41 - 20,c1⟩ (r:=.c (.s (s4 (r.n % 41 - 20)))) rfl (.k (.i _ _) .nil) .nil fun _ _ _ _=>?_;refine Zz ?_;intros;refine s6 hF ⟨1+(r.s.length:Int),c2⟩ (r:=.c (.s (s4 (1+(r.s.length:Int))))) rfl (.k (.i _ _) .nil) .nil fun _ _ _ _=>?_;refine Zz ?_;intros;refine s6 (hfn 50 _ rfl) ⟨(s4 (r.n % 41 - 20),s4 (1+(r.s.length:Int))),Nat.lt_of_le_of_lt l1 dE,Nat.lt_of_le_of_lt l2 dE⟩ (r:=.a (K2 (qn (r.n % 41 - 20) (1+(r.s.length:Int)))).g) (by show z8.ret (.a (K2 (qn (s3 (s4 (r.n % 41 - 20))) (s3 (s4 (1+(r.s.length:Int)))))).g)=_;rw [u2,u2]) (.k (.s _ _ _ rfl rfl) (.k (.s _ _ _ rfl rfl) .nil)) .nil fun _ _ _ _=>?_;refine Zz ?_;intros;rw [if_pos oM,atR,if_neg oM,if_pos oM];exact s9 ⟨.ret _ _ oV,.nil⟩
 ·refine s6 (hfn 62 _ rfl) r.n (r:=.a (sg (b1o r.n))) rfl (.k (.q _ _ aS) .nil) .nil fun _ _ _ _=>?_;refine Zz ?_;intros;refine s6 (hfn 18 _ rfl) (b1o r.n) (r:=.a (O.sy (b1o r.n)).g) rfl (.k (.a _ _ _ rfl aS) .nil) .nil fun _ _ _ _=>?_;refine Zz ?_;intros;rw [if_pos oM,atR,if_neg oM,if_neg oM,if_pos oM];exact s9 ⟨.ret _ _ oV,.nil⟩
 ·refine s6 (hfn 63 _ rfl) r.s (r:=.a (O.tx r.s).g) rfl (.k (.q _ _ aS) .nil) .nil fun _ _ _ _=>?_;refine Zz ?_;intros;rw [if_pos oM,atR,if_neg oM,if_neg oM,if_neg oM];exact s9 ⟨.ret _ _ oV,.nil⟩
 ·rw [if_neg oM,if_pos aS];have hm0:=d1n (r:=r) oM 0;have hm1:=d1n (r:=r) oM 1;refine s6 hP ⟨(r,0),show 0≤1000 by decide⟩ (r:=.a (r.part 0).g) rfl (.k (.a _ _ _ (Raw.g_len _).symm (by rw [Raw.g_eq];assumption)) (.k (X2 rfl) .nil)) .nil fun _ _ _ _=>?_;refine Zz ?_;intros;refine H3 aS (Raw.g_len _) fun _ _=>?_;refine Zz ?_;intros;refine s6 hO ⟨⟨r.part 0,c1d hr 0⟩,show muR (r.part 0) < z by omega⟩ (r:=.a (F9 (r.part 0)).g) rfl (.k (.a _ _ _ (Raw.g_len _).symm aS) .nil) .nil fun _ _ _ _=>?_;refine Zz ?_;intros;refine oR fun _ _=>?_;refine Zz ?_;intros;refine s6 hP ⟨(r,1),show 1≤1000 by decide⟩ (r:=.a (r.part 1).g) rfl (.k (.a _ _ _ (Raw.g_len _).symm (by rw [Raw.g_eq];assumption)) (.k (X2 rfl) .nil)) .nil fun _ _ _ _=>?_;refine Zz ?_;intros;refine H3 aS (Raw.g_len _) fun _ _=>?_;refine Zz ?_;intros;refine s6 hO ⟨⟨r.part 1,c1d hr 1⟩,show muR (r.part 1) < z by omega⟩ (r:=.a (F9 (r.part 1)).g) rfl (.k (.a _ _ _ (Raw.g_len _).symm aS) .nil) .nil fun _ _ _ _=>?_;refine Zz ?_;intros;refine oR fun _ _=>?_;refine Zz ?_;intros;refine s6 (hfn 44 _ rfl) (F9 (r.part 0),F9 (r.part 1)) (r:=.a (O.co (F9 (r.part 0)) (F9 (r.part 1))).g) rfl (.k oV oA) .nil fun _ _ _ _=>?_;refine Zz ?_;intros;exact s9 ⟨.ret _ _ oV,.nil⟩
 ·rw [if_neg oM,if_neg aS];have hl6:=hok.2.1;refine I7 (fun (i:Nat) vs bs=>∃ (q:Q) (v:V) (acc:List O),vs=[.ptr 0 0,.ptr 1 0,.int .i64 i,v]∧bs=[.opa q 4,.cells [.int .i64 0,.str 0 0,.str 0 0,.str 0 0,.str 0 0,.str 0 0,.slice .nil 0 0 0 .exact],.tok acc.length 7]∧S4 2 7 (acc.map O.g) v∧A7 [.i .i64 r.k,.i .i64 r.n,.s r.s,.l (r.l.map Raw.g)] q 0∧acc=(r.l.take i).map F9∧acc.length=i∧i≤r.l.length) (fun i=>r.l.length - i) 0
   ⟨_,_,[],rfl,rfl,.b rfl,aS,rfl,rfl,oM⟩ (by simp only [E3];omega) ?_
  rintro self i _ _ ⟨q,v,acc,rfl,rfl,htk,hq,hacc,hlen,hi⟩ ih;refine Zz ?_;intros;refine F1 aS (B7 Raw.g_len) fun _ _ _=>?_;(refine Zz ?_;with_reducible repeat' first|intro _|apply aI)
  ·refine F1 aS (B7 Raw.g_len) fun _ _ _=>?_;refine Zz ?_;intros;have hiw:i < r.l.length:=oM;have hmm:=f47 (r:=r) oM (List.getElem_mem hiw);refine s6 hO ⟨⟨r.l[i],Raw.okR_mem hok.2.2 (List.getElem_mem hiw)⟩,show muR r.l[i] < z by omega⟩ (r:=.a (F9 r.l[i]).g) rfl (.k (.a _ _ _ (Raw.g_len _).symm aS) .nil) .nil fun _ _ _ _=>?_;refine Zz ?_;intros;refine oR fun _ _=>?_;refine Zz ?_;intros;refine S7 aS (r:=(F9 r.l[i]).g) (fun _=>a06 (by rw [O.g_len];decide) aS) (O.g_len _) (by simp) (by simp only [List.length_map];omega) fun _ _=>?_;refine Zz ?_;intros;exact ih (i+1) _ _ ⟨_,_,acc ++ [F9 r.l[i]],rfl,(by rw [List.length_append];rfl),.a _ _ (by simp) (by rw [List.map_append];assumption),hq,(by rw [hacc,List.take_add_one,List.getElem?_eq_getElem hiw,List.map_append];rfl),by simp [hlen],oM⟩ oM
  ·have e9:acc=r.l.map F9:=by rw [hacc,List.take_of_length_le oM]
   refine s6 (hfn 17 _ rfl) ⟨acc,oM⟩ (r:=.a (a0e acc).g) rfl (.k (.sl _ _ _ _ _ (by simp) aS) .nil) .nil fun _ _ _ _=>?_;refine Zz ?_;intros;refine oR fun _ _=>?_;refine Zz ?_;intros;rw [← e9];exact s9 ⟨.ret _ _ oV,.nil⟩
theorem e5z (x y:Int):qn (qn x y).1 ((qn x y).2:Nat)=qn x y:=by
 by_cases hy:y=0
 ·have e:qn x y=(0,1):=by unfold qn;rw [if_pos hy]
  rw [e];exact a9t 0
 have e:qn x y=((if (x < 0)=(y < 0) then 1 else -1) * ((x.natAbs / Nat.gcd x.natAbs y.natAbs:Nat):Int),y.natAbs / Nat.gcd x.natAbs y.natAbs):=by unfold qn;rw [if_neg hy]
 have hg:0 < Nat.gcd x.natAbs y.natAbs:=Nat.gcd_pos_of_pos_right _ oM;have h1:Nat.gcd (x.natAbs / Nat.gcd x.natAbs y.natAbs) (y.natAbs / Nat.gcd x.natAbs y.natAbs)=1:=by
  rw [Nat.gcd_div (Nat.gcd_dvd_left _ _) (Nat.gcd_dvd_right _ _),Nat.div_self hg]
 have hd:0 < y.natAbs / Nat.gcd x.natAbs y.natAbs:=Nat.div_pos (Nat.le_of_dvd oM (Nat.gcd_dvd_right _ _)) hg;rw [e];simp only;generalize x.natAbs / Nat.gcd x.natAbs y.natAbs=a at *;generalize y.natAbs / Nat.gcd x.natAbs y.natAbs=b at *;have hs:∃ n:Int,(if (x < 0)=(y < 0) then (1:Int) else -1) * (a:Int)=n∧n.natAbs=a:=by
  by_cases hc:(x < 0)=(y < 0)
  ·exact ⟨a,by rw [if_pos hc];omega,oM⟩
  ·exact ⟨-(a:Int),by rw [if_neg hc];omega,oM⟩
 obtain ⟨n,e1,e2⟩:=hs;rw [e1];unfold qn;rw [if_neg oM,Int.natAbs_natCast,e2,h1,Nat.div_one,Nat.div_one];refine Prod.ext ?_ rfl;show (if (n < 0)=((b:Int) < 0) then (1:Int) else -1) * (a:Int)=n;by_cases hn:n < 0
 ·rw [if_neg (fun e=>absurd (e.mp hn) oM)];omega
 ·rw [if_pos (propext ⟨fun k=>absurd k hn,fun k=>absurd k oM⟩)];omega
theorem g4h {x y:Int} (hx:x.natAbs < 1000000000) (hy:y.natAbs < 1000000000):(K2 (qn x y)).fm=true:=by
 have hq:=e5z x y;have b1:(qn x y).1.natAbs < 1000000000∧(qn x y).2 < 1000000000:=by
  unfold qn;split
  ·exact ⟨dE,dE⟩
  ·have d1:=Nat.div_le_self x.natAbs (Nat.gcd x.natAbs y.natAbs);have d2:=Nat.div_le_self y.natAbs (Nat.gcd x.natAbs y.natAbs);refine ⟨?_,Nat.lt_of_le_of_lt d2 hy⟩;simp only;generalize x.natAbs / Nat.gcd x.natAbs y.natAbs=a at *;split
   ·omega
   ·omega
 generalize qn x y=q at *;obtain ⟨n,d⟩:=q;have b2:n.natAbs < 1000000000:=b1.1;have b3:d < 1000000000:=b1.2;refine decide_eq_true ⟨?_,?_,?_⟩
 ·rw [O9,u2,B3,hq]
 ·unfold L6;rw [u2];have:=X9 (n:=n.natAbs) (k:=9) b2;show max 1 (t8 n.natAbs).length≤100;omega
 ·unfold L6;rw [B3,Int.natAbs_natCast];have:=X9 (n:=d) (k:=9) b3;show max 1 (t8 d).length≤100;omega
theorem e23:V5 T4=true:=by
 unfold V5;rw [a2s (i:=0) dE dE,a2s (i:=1) dE dE,a2s (i:=2) dE dE,a2s (i:=3) dE dE,c1e dE];decide
theorem c99:∀ k,k < 9→1≤(a0t.getD k []).length∧(a0t.getD k []).length≤40:=dE
theorem f1x (n:Int):named (b1o n)=true:=by
 have h1:0≤n % 13:=Int.emod_nonneg _ dE;unfold b1o;split
 ·unfold named;have:=c99 (n % 13).toNat oM;rw [e23,decide_eq_true this];rfl
 ·repeat' split
  all_goals exact (b4w dE).2
theorem f2u {r:Raw} (h:r.s.length≤12):(atR r).fm=true:=by
 unfold atR;have h1:0≤r.n % 2001:=Int.emod_nonneg _ dE;have h2:r.n % 2001 < 2001:=Int.emod_lt_of_pos _ dE;have h3:0≤r.n % 41:=Int.emod_nonneg _ dE;have h4:r.n % 41 < 41:=Int.emod_lt_of_pos _ dE;split
 ·exact (b85 _ ⟨oM,oM⟩).2
 ·split
  ·exact g4h oM oM
  ·split
   ·exact f1x _
   ·exact decide_eq_true (by show r.s.length≤200;omega)
theorem e07 (r:Raw):(atR r).size=1:=by
 unfold atR
 repeat' split
 all_goals rfl
mutual
theorem a3i:∀ r:Raw,(F9 r).size+1≤4 * r.nodes
 | .mk k n s l=>by
  have h:=c7m l;have hn:(Raw.mk k n s l).nodes=1+Raw.nodesL l:=rfl;rw [F9];split
  ·rw [e07];omega
  ·split
   ·have h2:=d7p l;show 1+((P8 l).getD 0 (.num (-1000) 1)).size+((P8 l).getD 1 (.num (-1000) 1)).size+1≤_;omega
   ·rw [d9y];omega
theorem c7m:∀ l:List Raw,szL (P8 l)≤1+4 * Raw.nodesL l
 | []=>by show 1≤_;omega
 | x :: xs=>by
  have h1:=a3i x;have h2:=c7m xs;show 1+(F9 x).size+szL (P8 xs)≤1+4 * (x.nodes+Raw.nodesL xs);omega
theorem d7p:∀ l:List Raw,((P8 l).getD 0 (.num (-1000) 1)).size+((P8 l).getD 1 (.num (-1000) 1)).size≤2+4 * Raw.nodesL l
 | []=>by show 1+1≤_;omega
 | [x]=>by
  have h1:=a3i x;show (F9 x).size+1≤2+4 * (x.nodes+0);omega
 | x :: y :: l=>by
  have h1:=a3i x;have h2:=a3i y;show (F9 x).size+(F9 y).size≤2+4 * (x.nodes+(y.nodes+Raw.nodesL l));omega
end
mutual
theorem c1a:∀ {r:Raw},r.okR→(F9 r).fm=true
 | .mk k n s l,h=>by
  have hl:=c7l (l:=l) h.2.2;rw [F9];split
  ·exact f2u (r:=.mk k n s l) h.1
  ·split
   ·have hz:(O.num (-1000) 1).fm=true:=(b85 (-1000) dE).2;have hg:∀ i,((P8 l).getD i (.num (-1000) 1)).fm=true:=fun i=>by
     by_cases hi:i < (P8 l).length
     ·rw [show (P8 l).getD i (.num (-1000) 1)=(P8 l)[i] by simp [List.getD,List.getElem?_eq_getElem hi]];exact hl _ (List.getElem_mem hi)
     ·rw [show (P8 l).getD i (.num (-1000) 1)=.num (-1000) 1 by simp [List.getD,List.getElem?_eq_none (by omega:(P8 l).length≤i)]];exact hz
    show (_ && _)=true;rw [hg,hg];rfl
   ·exact (d6t _).2 hl
theorem c7l:∀ {l:List Raw},Raw.okRL l→∀ x ∈ P8 l,x.fm=true
 | [],_,x,h=>by cases h
 | y :: l,h,x,hx=>by
  cases hx with
  | head=>exact c1a h.1
  | tail _ hx=>exact c7l h.2 x hx
end
theorem e7i {r:Raw} {m:Nat} (h:r.few m=true):(F9 r).size+1≤4 * m∧(F9 r).fm=true:=by
 have h:=Raw.few_ok h;have:=a3i r;exact ⟨oM,c1a h.1⟩
theorem a7o {l:List Raw} {m:Nat} (h:Q8 l m=true):l.length≤8∧∀ r ∈ l,r.few m=true:=by
 unfold Q8 at h;rw [Bool.and_eq_true] at h;exact ⟨of_decide_eq_true h.1,List.all_eq_true.1 h.2⟩
def E1:List Sy:=[(T4,[120]),(T4,[121]),(T4,[122]),(T4,[117])]
def b7r (n:Int):Sy:=E1.getD (n % 4).toNat (T4,[120])
def S5:Nat→List T→List T
 | 0,_=>[]
 | k+1,[]=>.v (b7r 0) :: S5 k []
 | k+1,t :: ts=>t :: S5 k ts
section
variable (nm:List Sy) (ar:Sy→Nat)
def nmR (n:Int):Sy:=nm.getD (n % (nm.length:Int)).toNat (B0,[])
mutual
def P2:Raw→T
 | .mk k n s l=>if k % 6 < 2 then .v (b7r n) else
  if k % 6 < 3 then (match l with
   | []=>.c (.num (n % 7 - 2) 1)
   | r :: _=>.c (F9 r)) else
  .call (nmR nm n) (S5 (ar (nmR nm n)) (S9 l))
def S9:List Raw→List T
 | []=>[]
 | x :: xs=>P2 x :: S9 xs
end
def e1a:Int→List Raw→O
 | n,[]=>.num (n % 7 - 2) 1
 | _,r :: _=>F9 r
theorem b37 (k n:Int) (s:u5) (l:List Raw):P2 nm ar (.mk k n s l)=if k % 6 < 2 then .v (b7r n) else if k % 6 < 3 then .c (e1a n l) else .call (nmR nm n) (S5 (ar (nmR nm n)) (S9 nm ar l)):=by cases l <;> (rw [P2];rfl)
theorem b6c:∀ (k:Nat) (ts:List T),T.nds (S5 k ts)≤k+T.nds ts
 | 0,ts=>by rw [S5,T.nds];exact Nat.zero_le _
 | k+1,[]=>by
  have:=b6c k [];rw [S5,T.nds];show 1+T.nds (S5 k [])≤_;rw [T.nds] at *;omega
 | k+1,t :: ts=>by
  have:=b6c k ts;rw [S5,T.nds,T.nds];omega
theorem b0i:∀ (k:Nat) (ts:List T),(S5 k ts).length=k
 | 0,_=>rfl
 | k+1,[]=>by rw [S5,List.length_cons,b0i k []]
 | k+1,t :: ts=>by rw [S5,List.length_cons,b0i k ts]
theorem b6b:∀ (k:Nat) (ts:List T) (t:T),t ∈ S5 k ts→t=.v (b7r 0)∨t ∈ ts
 | 0,_,_,h=>by cases h
 | k+1,[],t,h=>by
  rw [S5,List.mem_cons] at h;rcases h with h | h
  ·exact .inl h
  ·exact b6b k [] t h
 | k+1,u :: ts,t,h=>by
  rw [S5,List.mem_cons] at h;rcases h with h | h
  ·exact .inr (by simp [h])
  ·exact (b6b k ts t h).imp id fun h=>List.mem_cons_of_mem _ h
variable {ar} (har:∀ s,ar s≤3)
include har
mutual
theorem d0k:∀ r:Raw,(P2 nm ar r).nd≤4 * r.nodes
 | .mk k n s l=>by
  rw [b37,Raw.nodes];split
  ·rw [T.nd];omega
  ·split
   ·cases l with
    | nil=>show 1≤_;omega
    | cons r l =>
     have:=a3i r;show (F9 r).size≤_;rw [Raw.nodesL];omega
   ·have h1:=b6c (ar (nmR nm n)) (S9 nm ar l);have h2:=c5a l;have h3:=har (nmR nm n);rw [T.nd];omega
theorem c5a:∀ l:List Raw,T.nds (S9 nm ar l)≤4 * Raw.nodesL l
 | []=>by rw [S9,T.nds];exact Nat.zero_le _
 | x :: xs=>by
  have h1:=d0k x;have h2:=c5a xs;rw [S9,T.nds,Raw.nodesL];omega
end
end
section
variable (nm:List Sy) {ar:Sy→Nat} (har:∀ s,ar s≤3)
include har
mutual
theorem c49:∀ r:Raw,r.okR→r.nodes≤20→Okc (P2 nm ar r)
 | .mk k n s l,h,hn=>by
  rw [Raw.nodes] at hn;rw [b37];split
  ·exact .v _
  ·split
   ·refine .c _ ?_;cases l with
    | nil=>exact b85 _ oM
    | cons r l =>
     have hr:r.okR:=h.2.2.1;have:=a3i r;rw [Raw.nodesL] at hn;exact ⟨show (F9 r).size≤3000 by omega,c1a hr⟩
   ·refine .call _ _ (by rw [b0i];have:=har (nmR nm n);omega) fun x hx=>?_;rcases b6b _ _ _ hx with e | e
    ·rw [e];exact .v _
    ·exact c19 l h.2.2 oM x e
theorem c19:∀ l:List Raw,Raw.okRL l→Raw.nodesL l≤20→∀ x ∈ S9 nm ar l,Okc x
 | [],_,_,x,h=>by cases h
 | y :: l,h,hn,x,hx=>by
  rw [Raw.nodesL] at hn;rw [S9,List.mem_cons] at hx;rcases hx with e | e
  ·rw [e];exact c49 y h.1 oM
  ·exact c19 l h.2 oM x e
end
theorem e7h {r:Raw} {m:Nat} (hm:m≤20) (h:r.few m=true):Okc (P2 nm ar r)∧(P2 nm ar r).nd≤4 * m:=by
 have h:=Raw.few_ok h;exact ⟨c49 nm har r h.1 oM,Nat.le_trans (d0k nm har r) oM⟩
end
inductive b0c (ap:Ap) (L:List (List F)) (g:M7):List (Sy × T)→List (Sy × O)→Prop
 | nil:b0c ap L g [] []
 | cons (s:Sy) (t:T) (o:O) (n l r:Nat) (σ:List (Sy × T)) (e:List (Sy × O)):H1 ap L n t g l=some (o,0,r)→b0c ap L g σ e→b0c ap L g ((s,t) :: σ) ((s,o) :: e)
theorem c86 {ap:Ap} {L:List (List F)} {g:M7}:∀ {σ:List (Sy × T)} {e:List (Sy × O)},b0c ap L g σ e→∀ s o m l o' r,Z0 (e ++ g) s=some o→H1 ap L m (H9 σ (.v s)) g l=some (o',0,r)→o'=o
 | _,_,.nil,s,o,m,l,o',r,hv,he=>by
  rw [H9,asg] at he;have:=d3r he;rw [List.nil_append] at hv;rw [hv] at this;injection this with this;exact this.symm
 | _,_,.cons x t v n k q σ e h1 h,s,o,m,l,o',r,hv,he=>by
  rw [H9,asg] at he;rw [List.cons_append,Z0] at hv;by_cases c:x=s
  ·rw [if_pos c] at he hv;injection hv with hv;rw [← hv];exact e7f he h1
  ·rw [if_neg c] at he hv;exact c86 h s o m l o' r hv (by rw [H9];exact he)
theorem d9x {ap:Ap} {L:List (List F)} {g:M7} {σ:List (Sy × T)} {e:List (Sy × O)} (h:b0c ap L g σ e) {t:T} {n n' l l' r r':Nat} {o o':O} (h1:H1 ap L n t (e ++ g) l=some (o,0,r)) (h2:H1 ap L n' (H9 σ t) g l'=some (o',0,r')):o=o':=f1u (c86 h) h1 h2
section
variable (nm:List Sy) (ar:Sy→Nat) (hn:nm ≠ [])
include hn
end
theorem nd_pos:∀ t:T,0 < t.nd
 | .v _=>Nat.one_pos
 | .c o=>by rw [T.nd];exact o.size_pos
 | .call _ xs=>by rw [T.nd];omega
theorem d7l:∀ {ts:List T} {t:T},t ∈ ts→t.nd≤T.nds ts
 | u :: ts,t,h=>by
  rw [T.nds];cases h with
  | head=>exact Nat.le_add_right _ _
  | tail _ h=>exact Nat.le_trans (d7l h) (Nat.le_add_left _ _)
theorem d08:∀ ts:List T,ts.length≤T.nds ts
 | []=>Nat.le_refl _
 | t :: ts=>by
  have h1:=nd_pos t;have h2:=d08 ts;rw [List.length_cons,T.nds];omega
def NM:List Sy:=K5.map (fun p=>(B0,p.1)) ++ (a3k.map fun e=>e.fns.map F.nm).flatten
def AR (s:Sy):Nat:=match U9 PL s with
 | some n=>n.toNat
 | none=>0
theorem e7l {L:List (List F)} {s:Sy} {f:F} (h:L9 L s=some f):∃ l ∈ L,f ∈ l:=by
 unfold L9 at h;split at h
 ·rename_i p e;cases e1:L[p.1]? with
  | none=>rw [e1] at h;cases h
  | some l =>
   rw [e1] at h;exact ⟨l,List.mem_of_getElem? e1,List.mem_of_getElem? h⟩
 ·cases h
def smO:O→Bool
 | .sy s=>decide (s=(B0,s5 3 7104878)) || decide (s=(B0,s5 1 116))
 | .num n d=>decide (d=1) && (decide (-10 < n) && decide (n < 10))
 | _=>false
theorem g0w:∀ {o:O},smO o=true→ok o
 | .sy s,h=>by
  unfold smO at h;rw [Bool.or_eq_true,decide_eq_true_eq,decide_eq_true_eq] at h;rcases h with e | e <;> rw [e] <;> exact b4w dE
 | .num n d,h=>by
  unfold smO at h;rw [Bool.and_eq_true,Bool.and_eq_true,decide_eq_true_eq,decide_eq_true_eq,decide_eq_true_eq] at h;obtain ⟨rfl,h1,h2⟩:=h;exact b85 n ⟨oM,oM⟩
 | .tx _,h=>by cases h
 | .co _ _,h=>by cases h
 | .no,h=>by cases h
mutual
def c7o:T→Bool
 | .v _=>true
 | .c o=>smO o
 | .call _ xs=>Nat.blt xs.length 10 && c4s xs
def c4s:List T→Bool
 | []=>true
 | t :: ts=>c7o t && c4s ts
end
mutual
theorem d1j:∀ {t:T},c7o t=true→Okc t
 | .v s,_=>.v s
 | .c o,h=>.c o (g0w (by rw [c7o] at h;exact h))
 | .call f xs,h=>by
  rw [c7o,Bool.and_eq_true] at h;have h1:xs.length < 10:=by have:=h.1;rw [Nat.blt_eq] at this;exact this
  exact .call f xs oM (c7p h.2)
theorem c7p:∀ {ts:List T},c4s ts=true→∀ x ∈ ts,Okc x
 | [],_,x,h=>by cases h
 | t :: ts,h,x,hx=>by
  rw [c4s,Bool.and_eq_true] at h;cases hx with
  | head=>exact d1j h.1
  | tail _ hx=>exact c7p h.2 x hx
end
theorem f2o:(PL.all fun l=>l.all fun f=>c7o f.bo && Nat.ble f.ps.length 3)=true:=kR
theorem d2t {s:Sy} {f:F} (h:L9 PL s=some f):Okc f.bo∧f.ps.length≤3:=by
 obtain ⟨l,hl,hf⟩:=e7l h;have h1:=List.all_eq_true.1 (List.all_eq_true.1 f2o l hl) f hf;rw [Bool.and_eq_true,Nat.ble_eq] at h1;exact ⟨d1j h1.1,h1.2⟩
theorem c43:OkL PL:=fun _ _ h=>⟨(d2t h).1,by have:=(d2t h).2;omega⟩
theorem e4q (s:Sy):AR s≤3:=by
 unfold AR U9;cases e:D7 s with
 | some n =>
  have:=a4o e;show n.toNat≤3;omega
 | none =>
  cases e2:L9 PL s with
  | none=>exact Nat.zero_le _
  | some f =>
   have:=(d2t e2).2;show ((f.ps.length:Nat):Int).toNat≤3;omega
theorem e6u {L:List (List F)} {s:Sy} {n:Int} (e:U9 L s=some n):0≤n:=by
 unfold U9 at e;cases e7:D7 s with
 | some m=>rw [e7] at e;have:=a4o e7;injection e with e;omega
 | none =>
  rw [e7] at e;cases e8:L9 L s with
  | none=>simp only [e8] at e;cases e
  | some f=>simp only [e8] at e;injection e with e;rw [← e];exact Int.natCast_nonneg _
theorem g5b {U:C3} {P:K0→List Bx→Prop} {z c:Nat} {xs:List (List G)} {v:V} {K:u1 Q→Nat→Nat→Om} (hv:RV (.f0 (z+1) xs) v) (hc:a0k (.fr (z+1))=c) (h:∀ t,A5 (z+1) xs t 0→t6 U (K t 0 xs.length) P):t6 U (U.uSl (z+1) c v K) P:=by
 cases hv with
 | f0 _ _ t len h1 h2=>subst h1;exact b7k hc (h t h2)
theorem g5a {n:Nat} (hn:n ≠ 1) {a b c d:List G} {p q r s:Q} (ha:A7 a p 0) (hb:A7 b q 0) (hc:A7 c r 0) (hd:A7 d s 0) (la:a.length=n) (lb:b.length=n) (lc:c.length=n) (ld:d.length=n) :
  A5 n [a,b,c,d] (.node p (.node q (.node s .nil .nil) .nil) (.node r .nil .nil)) 0:=.of fun j x h=>by
 have hr:∀ {x:List G} {y:Q},x.length=n→A7 x y 0→x.length=n∧Row x y:=fun hl h=>⟨hl,h,fun g e=>by subst e;exact absurd hl.symm hn⟩
 match j,h with
 | 0,h=>simp at h;subst h;exact hr la ha
 | 1,h=>simp at h;subst h;exact hr lb hb
 | 2,h=>simp at h;subst h;exact hr lc hc
 | 3,h=>simp at h;subst h;exact hr ld hd
 | j+4,h=>simp at h
def h0x:Sp where
 ι:=Unit
 A _:=[.c (.i .i64 4)]
 B _:=[]
 R _:=.ret (.sl 2 (E1.map sg))
 B' _:=[]
 inj _ _ _ _ _ _ _ _:=⟨rfl,rfl⟩
theorem d3y:v8 9 h0x:=A8 (fun fn h=>e50 h) [(32,_)] (.cons e5r .nil) fun U fn hfn _ vs bs hv hb=>by
 have hU:=hfn 32 _ rfl;change z7 [.c (.i .i64 4)] vs at hv;change u0 [] bs at hb;show t6 U _ fun v bs'=>A3 (.ret (.sl 2 (E1.map sg))) v∧u0 [] bs';unfold r9;refine Zz ?_;intros;refine s6 hU ([120]:u5) (r:=.a (sg (T4,[120]))) rfl (.k (.s _ _ _ rfl rfl) .nil) .nil fun _ _ h1 _=>?_;refine H3 h1 rfl fun _ k1=>?_;refine Zz ?_;intros;refine s6 hU ([121]:u5) (r:=.a (sg (T4,[121]))) rfl (.k (.s _ _ _ rfl rfl) .nil) .nil fun _ _ h2 _=>?_;refine H3 h2 rfl fun _ k2=>?_;refine Zz ?_;intros;refine s6 hU ([122]:u5) (r:=.a (sg (T4,[122]))) rfl (.k (.s _ _ _ rfl rfl) .nil) .nil fun _ _ h3 _=>?_;refine H3 h3 rfl fun _ k3=>?_;refine Zz ?_;intros;refine s6 hU ([117]:u5) (r:=.a (sg (T4,[117]))) rfl (.k (.s _ _ _ rfl rfl) .nil) .nil fun _ _ h4 _=>?_;refine H3 h4 rfl fun _ k4=>?_;refine Zz ?_;intros;refine g0k (b:=4) (fun e=>by subst e;rfl) ?_;refine g0k (b:=4) (fun e=>by subst e;rfl) ?_;refine Zz ?_;intros;exact s9 ⟨.ret _ _ (.sl _ _ _ _ _ rfl (g5a dE k1 k2 k3 k4 rfl rfl rfl rfl)),.nil⟩
def P6:List Sy:=K5.map fun p=>(B0,p.1)
theorem e7w:v8 58 (sp0 (.f0 2 (P6.map sg))):=A8 (fun fn h=>d8k h) [(100,_),(20,_)] (.cons e5p (.cons d3v .nil)) fun U fn hfn _ vs bs hv hb=>by
 change z7 [] vs at hv;change u0 [] bs at hb;show t6 U _ fun v bs'=>A3 (.ret (.f0 2 (P6.map sg))) v∧u0 [] bs';unfold r58;refine Zz ?_;intros;refine s6 (hfn 100 _ rfl) () (r:=.sl 2 (K5.map rg)) rfl .nil .nil fun _ _ _ _=>?_;have hl:K5.length=25:=rfl;unfold P6;generalize K5=l at *;refine Zz ?_;intros;refine I7 (fun (i:Nat) vs bs=>∃ (t:u1 Q) (off:Nat) (v:V) (acc:List Sy),vs=[.slice t 2 off l.length .no,.int .i64 i,v]∧bs=[.tok acc.length 2]∧S4 0 2 (acc.map sg) v∧A5 2 (l.map rg) t off∧acc=(l.take i).map (fun p=>(B0,p.1))∧acc.length=i∧i≤l.length) (fun i=>l.length - i) 0
  ⟨_,_,_,[],rfl,rfl,.b rfl,aS,rfl,rfl,oM⟩ (by simp only [E3];omega) ?_
 rintro self i _ _ ⟨t,off,v,acc,rfl,rfl,htk,ht,hacc,hlen,hi⟩ ih;(refine Zz ?_;with_reducible repeat' first|intro _|apply aI)
 ·have hiw:i < l.length:=oM;refine s6 (hfn 20 _ rfl) l[i].1 (r:=.a (sg (B0,l[i].1))) rfl (.k (.q _ _ aS) .nil) .nil fun _ _ h1 _=>?_;refine H3 h1 rfl fun _ k1=>?_;refine Zz ?_;intros;refine S7 aS (r:=sg (B0,l[i].1)) (fun _=>a06 (by rw [a95];decide) k1) rfl (by simp) (by simp only [List.length_map];omega) fun _ _=>?_;refine Zz ?_;intros;exact ih (i+1) _ _ ⟨_,_,_,acc ++ [(B0,l[i].1)],rfl,(by rw [List.length_append];rfl),.a _ _ (by simp) (by rw [List.map_append];assumption),ht,(by rw [hacc,List.take_add_one,List.getElem?_eq_getElem hiw,List.map_append];rfl),by simp [hlen],oM⟩ oM
 ·have e9:acc=l.map (fun p=>(B0,p.1)):=by rw [hacc,List.take_of_length_le oM]
  rw [← e9];exact s9 ⟨.ret _ _ (.f0 _ _ _ _ (by simp) aS),.nil⟩
def nmW (L:List (List F)):List Sy:=P6 ++ (L.map fun l=>l.map F.nm).flatten
theorem a7u:∀ {l m:List Et},l.map Et.g=m.map Et.g→l.map Et.fns=m.map Et.fns
 | [],[],_=>rfl
 | [],_ :: _,h=>by simp at h
 | _ :: _,[],h=>by simp at h
 | a :: l,b :: m,h=>by
  simp only [List.map_cons,List.cons.injEq] at h;rw [List.map_cons,List.map_cons,(Et.g_key h.1).2,a7u h.2]
abbrev WN:={ w:List Et // w.length < 1000∧∀ e ∈ w,e.fns.length < 1000 }
def f1q:Sp where
 ι:=WN
 A w:=[.sl 32 (w.1.map Et.g)]
 B _:=[]
 R w:=.ret (.sl 2 ((nmW (w.1.map Et.fns)).map sg))
 B' _:=[]
 inj i j vs bs h k _ _:=by
  obtain ⟨_,_,h1,k1,h,k⟩:=h.two k;rw [a7u (h1.sl_inj k1)];exact ⟨rfl,rfl⟩
theorem b6q:∀ {w:List Et} {i:Nat},(∀ e ∈ w,e.fns.length < 1000)→(((w.take i).map fun e=>e.fns.map F.nm).flatten).length≤1000 * i
 | [],i,_=>by simp
 | e :: w,0,_=>by simp
 | e :: w,i+1,h=>by
  have h1:=h e (by simp);have h2:=b6q (w:=w) (i:=i) fun x hx=>h x (by simp [hx]);rw [List.take_succ_cons,List.map_cons,List.flatten_cons,List.length_append,List.length_map];omega
theorem e7x:v8 34 f1q:=A8 (fun fn h=>f85 h) [(58,_)] (.cons e7w .nil) fun U fn hfn ⟨w,hw,hwl⟩ vs bs hv hb=>by
 change z7 [.sl 32 (w.map Et.g)] vs at hv;change u0 [] bs at hb;have hw:w.length < 1000:=hw;show t6 U _ fun v bs'=>A3 (.ret (.sl 2 ((nmW (w.map Et.fns)).map sg))) v∧u0 [] bs';have hn:nmW (w.map Et.fns)=P6 ++ (w.map fun e=>e.fns.map F.nm).flatten:=by unfold nmW;rw [List.map_map];rfl
 rw [hn];unfold r34;refine Zz ?_;intros;refine s6 (hfn 58 _ rfl) () (r:=.f0 2 (P6.map sg)) rfl .nil .nil fun _ _ h1 _=>?_;have hl:P6.length=25:=rfl;generalize P6=pn at *;refine g5b h1 rfl fun _ k1=>?_;refine Zz ?_;intros;refine I7 (fun (i:Nat) vs bs=>∃ (t:u1 Q) (off:Nat) (t2:u1 Q) (acc:List Sy),vs=[.slice t 32 off w.length .no,.slice t2 2 0 acc.length (.tok 0),.int .i64 i]∧bs=[.tok acc.length 2]∧A5 2 (acc.map sg) t2 0∧A5 32 (w.map Et.g) t off∧acc=pn ++ ((w.take i).map fun e=>e.fns.map F.nm).flatten∧i≤w.length) (fun i=>w.length - i) 0
  ⟨_,_,_,pn,by simp only [List.length_map];exact rfl,by simp only [List.length_map],k1,aS,by simp,oM⟩ (by simp only [E3];omega) ?_
 rintro self i _ _ ⟨t,off,t2,acc,rfl,rfl,ht2,ht,hacc,hi⟩ ih;have hfl:=b6q (i:=i) hwl;have hal:acc.length≤25+1000 * i:=by rw [hacc,List.length_append];omega
 (refine Zz ?_;with_reducible repeat' first|intro _|apply aI)
 ·have hiw:i < w.length:=oM;have hel:w[i].fns.length < 1000:=hwl _ (List.getElem_mem _);have htk:(w.take (i+1)).map (fun e=>e.fns.map F.nm)=(w.take i).map (fun e=>e.fns.map F.nm) ++ [w[i].fns.map F.nm]:=by rw [List.take_add_one,List.getElem?_eq_getElem hiw,List.map_append];rfl
  refine I7 (fun (k:Nat) vs bs=>∃ (t:u1 Q) (off:Nat) (t2:u1 Q) (acc2:List Sy),vs=[.slice t 32 off w.length .no,.slice t2 2 0 acc2.length (.tok 0),.int .i64 i,.int .i64 k]∧bs=[.tok acc2.length 2]∧A5 2 (acc2.map sg) t2 0∧A5 32 (w.map Et.g) t off∧acc2=acc ++ (w[i].fns.take k).map F.nm∧k≤w[i].fns.length) (fun k=>w[i].fns.length - k) 0
   ⟨_,_,_,acc,rfl,rfl,ht2,ht,by simp,oM⟩ (by simp only [E3];omega) ?_
  rintro self2 k _ _ ⟨t,off,t2,acc2,rfl,rfl,ht2,ht,hacc2,hk⟩ ih2;have hal2:acc2.length≤acc.length+k:=by rw [hacc2];simp;omega
  refine Zz ?_;intros;refine F1 aS (B7 F.g_len) fun _ _ _=>?_;(refine Zz ?_;with_reducible repeat' first|intro _|apply aI)
  ·refine F1 aS (B7 F.g_len) fun _ _ _=>?_;refine Zz ?_;intros;have hkw:k < w[i].fns.length:=oM;refine S7 aS (r:=sg (w[i].fns[k]).nm) (fun _=>a06 (by rw [a95];decide) (A7.take 2 (gs:=F.g (w[i].fns[k])) aS)) rfl (by simp) (by simp only [List.length_map];omega) fun _ _=>?_;refine Zz ?_;intros;exact ih2 (k+1) _ _ ⟨_,_,_,acc2 ++ [(w[i].fns[k]).nm],by rw [List.length_append];exact rfl,by rw [List.length_append];exact rfl,by rw [List.map_append];assumption,ht,(by rw [hacc2,List.take_add_one,List.getElem?_eq_getElem hkw,List.map_append,List.append_assoc];rfl),oM⟩ oM
  ·refine ih (i+1) _ _ ⟨_,_,_,acc2,rfl,rfl,ht2,ht,?_,oM⟩ oM;rw [hacc2,htk,List.take_of_length_le oM,List.flatten_append,hacc,List.append_assoc];simp
 ·have e9:acc=pn ++ (w.map fun e=>e.fns.map F.nm).flatten:=by rw [hacc,List.take_of_length_le oM]
  rw [← e9];exact s9 ⟨.ret _ _ (.sl _ _ _ _ _ (by simp) aS),.nil⟩
theorem g4w:v8 26 (c8r fun s=>.a (T.v s).g):=A8 (fun fn h=>d8a h) [] .nil fun U fn hfn s vs bs hv hb=>by
 change z7 [.a [.s s.1,.s s.2]] vs at hv;change u0 [] bs at hb;show t6 U _ fun v bs'=>A3 (.ret (.a (T.v s).g)) v∧u0 [] bs';unfold r26;refine Zz ?_;intros;exact P0 fun e=>by subst e;exact ⟨.ret _ _ (by (exact Zru)),.nil⟩
set_option maxHeartbeats 8000000
theorem d29 (b:Bool):CU.bnot b=!b:=by show bnot b=_;cases b <;> rfl
theorem f2y (x y:List UInt8):CU.sEq x.length (D0 x) y.length (D0 y)=decide (x=y):=by rw [b2m,E6]
end
end Go.Proofs.YtkojildpddaccaaGreatDoor
