/- Terms made of trees. -/
import Derived.Test.YtkojildpddaccaaGreatDoorCJ18
import Derived.Test.YtkojildpddaccaaGreatDoorCYP
set_option linter.all false
namespace Go.Proofs.YtkojildpddaccaaGreatDoor
open Go.Abs LQ
set_option maxRecDepth 100000
set_option maxHeartbeats 8000000
noncomputable section
def V6 (L:List (List F)) (s:Sy):Nat:=match U9 L s with
 | some n=>n.toNat
 | none=>0
theorem f5h (L:List (List F)) (s:Sy):a6u L s=okI (U9 L s):=rfl
def muB (r:Raw):Nat:=if r.k % 6 < 2 then 0 else r.nodes
theorem f5a (r:Raw):muB r≤r.nodes:=by unfold muB;split <;> omega
theorem e20 {r:Raw} (h:¬r.k % 6 < 2) (i:Nat):muB (r.part i) < muB r:=by
 unfold Raw.part;have e:muB r=r.nodes:=if_neg h;have hn:=Raw.nodes_eq r;by_cases hi:i < r.l.length
 ·rw [show r.l.getD i Raw.zero=r.l[i] by simp [List.getD,List.getElem?_eq_getElem hi]];have h1:=Raw.nodes_mem (List.getElem_mem hi);have h2:=f5a r.l[i];omega
 ·rw [show r.l.getD i Raw.zero=Raw.zero by simp [List.getD,List.getElem?_eq_none (by omega:r.l.length≤i)]];have:muB Raw.zero=0:=dE;omega
section
variable (nm:List Sy) (ar:Sy→Nat)
theorem d5i:P2 nm ar Raw.zero=.v (b7r 0):=by
 show P2 nm ar (.mk 0 0 [] [])=_;rw [b37,if_pos dE]
theorem b6a:∀ (k:Nat) (l:List Raw) (i:Nat),i < k→(S5 k (S9 nm ar l))[i]?=some (P2 nm ar (l.getD i Raw.zero))
 | 0,_,_,h=>absurd h (Nat.not_lt_zero _)
 | k+1,[],0,_=>by rw [S9,S5];simp [d5i]
 | k+1,[],i+1,h=>by
  have:=b6a k [] i oM;rw [S9] at this;rw [S9,S5];simpa using this
 | k+1,x :: xs,0,_=>by rw [S9,S5];simp
 | k+1,x :: xs,i+1,h=>by
  have:=b6a k xs i oM;rw [S9,S5];simpa using this
theorem e6y (r:Raw):P2 nm ar r=if r.k % 6 < 2 then .v (b7r r.n) else if r.k % 6 < 3 then .c (e1a r.n r.l) else .call (nmR nm r.n) (S5 (ar (nmR nm r.n)) (S9 nm ar r.l)):=by
 cases r with | mk k n s l=>exact b37 nm ar k n s l
end
def d2j:Sp where
 ι:={ p:Wd × List Sy × Raw // (p.2.1 ≠ []∧p.2.1.length < 1000000)∧(∀ s,V6 p.1.L s≤1000)∧p.2.2.okR }
 A p:=[.sl 32 (p.1.1.1.map Et.g),.sl 2 (p.1.2.1.map sg),.sl 2 (E1.map sg),.a p.1.2.2.g]
 B _:=[]
 R p:=.ret (.a (P2 p.1.2.1 (V6 p.1.1.L) p.1.2.2).g)
 B' _:=[]
 inj i j vs bs h k _ _:=by
  obtain ⟨_,_,h1,k1,h,k⟩:=h.two k;obtain ⟨_,_,h2,k2,h,k⟩:=h.two k;obtain ⟨_,_,h3,k3,h,k⟩:=h.two k;obtain ⟨_,_,h4,k4,h,k⟩:=h.two k;have e1:i.1.1.L=j.1.1.L:=U2 (h1.sl_inj k1);rw [e1,b3f (h2.sl_inj k2),Raw.g_inj (h4.a_inj k4)];exact ⟨rfl,rfl⟩
theorem f4m (hItoa:b57):v8 33 d2j:=Y2 (fun p=>muB p.1.2.2) fun z ih=>A8 (fun fn h=>f84 h) [(33,d2j.lt (fun p=>muB p.1.2.2) z),(59,_),(61,_),(36,_),(26,_),(24,_),(39,_),(27,_),(60,_)] (.cons ih (.cons e2f (.cons e5o (.cons (d02 hItoa) (.cons g4w (.cons f4q (.cons f4l (.cons (f4u hItoa) (.cons e19 .nil))))))))) fun U fn hfn ⟨⟨(w,nm,r),⟨hne,hnl⟩,har,hr⟩,hz⟩ vs bs hv hb=>by
 have hM:=hfn 59 _ rfl;have hC:=hfn 24 _ rfl;change z7 [.sl 32 (w.1.map Et.g),.sl 2 (nm.map sg),.sl 2 (E1.map sg),.a r.g] vs at hv;change u0 [] bs at hb;have hne:nm ≠ []:=hne;have hnl:nm.length < 1000000:=hnl;have har:∀ s,V6 w.L s≤1000:=har;have hr:r.okR:=hr;have hz:muB r < z+1:=hz;have hnp:0 < nm.length:=List.length_pos_iff.2 hne;have hok:=(Raw.okR_eq r).1 hr;have hvl:E1.length=4:=rfl;show t6 U _ fun v bs'=>A3 (.ret (.a (P2 nm (V6 w.L) r).g)) v∧u0 [] bs';rw [e6y];have h1:0≤r.k % 6:=Int.emod_nonneg _ dE;have h2:r.k % 6 < 6:=Int.emod_lt_of_pos _ dE;unfold r33;refine Zz ?_;intros;refine H3 aS (Raw.g_len _) fun _ hcr=>?_;have hcel:=hcr;rw [Raw.g_eq] at hcel;refine Zz ?_;intros;refine s6 hM ⟨(r.k,6),show 0 < 6 by decide,show 6 < 1000000 by decide⟩ (r:=.c (.i .i64 (r.k % 6))) rfl (.k (.q _ _ aS) (.k (X2 rfl) .nil)) .nil fun _ _ _ _=>?_;(refine Zz ?_;with_reducible repeat' first|intro _|apply aI)
 all_goals try (exfalso;omega)
 ·rw [if_pos aS];refine s6 hM ⟨(r.n,E1.length),by show 0 < E1.length;omega,by show E1.length < 1000000;omega⟩ (r:=.c (.i .i64 (r.n % (E1.length:Nat)))) rfl (.k (.q _ _ aS) (.k (.i _ _) .nil)) .nil fun _ _ _ _=>?_;have b1:0≤r.n % (E1.length:Int):=Int.emod_nonneg _ oM;have b2:r.n % (E1.length:Int) < E1.length:=Int.emod_lt_of_pos _ oM;have e0:b7r r.n=E1.getD (r.n % (E1.length:Int)).toNat (T4,[120]):=rfl;generalize r.n % (E1.length:Int)=q at *;obtain ⟨k,rfl⟩:∃ k:Nat,q=k:=⟨q.toNat,oM⟩;have hk:k < E1.length:=oM;rw [Int.toNat_natCast,show E1.getD k (T4,[120])=E1[k] by simp [List.getD,List.getElem?_eq_getElem hk]] at e0;rw [e0];refine Zz ?_;intros;refine s6 (hfn 26 _ rfl) E1[k] (r:=.a (T.v E1[k]).g) rfl (.k (.a _ _ _ rfl aS) .nil) .nil fun _ _ _ _=>?_;refine H3 aS (T.g_len _) fun _ _=>?_;refine Zz ?_;intros;exact s9 ⟨.ret _ _ (.a _ _ _ (T.g_len _).symm aS),.nil⟩
 ·rw [if_neg oM,if_pos aS];refine F1 aS (B7 Raw.g_len) fun _ _ _=>?_;(refine Zz ?_;with_reducible repeat' first|intro _|apply aI)
  ·refine s6 hM ⟨(r.n,7),show 0 < 7 by decide,show 7 < 1000000 by decide⟩ (r:=.c (.i .i64 (r.n % 7))) rfl (.k (.q _ _ aS) (.k (X2 rfl) .nil)) .nil fun _ _ _ _=>?_;have b1:0≤r.n % 7:=Int.emod_nonneg _ dE;have b2:r.n % 7 < 7:=Int.emod_lt_of_pos _ dE;have el:r.l=[]:=List.length_eq_zero_iff.1 oM;have ec:e1a r.n r.l=.num (r.n % 7 - 2) 1:=by rw [el];rfl
   rw [ec];refine Zz ?_;intros;refine s6 (hfn 27 _ rfl) ⟨r.n % 7 - 2,oM,oM⟩ (r:=.a (O.num (r.n % 7 - 2) 1).g) rfl (.k (.i _ _) .nil) .nil fun _ _ _ _=>?_;refine H3 aS (O.g_len _) fun _ _=>?_;refine Zz ?_;intros;refine s6 hC (O.num (r.n % 7 - 2) 1) (r:=.a (T.c (O.num (r.n % 7 - 2) 1)).g) rfl oA .nil fun _ _ _ _=>?_;refine H3 aS (T.g_len _) fun _ _=>?_;refine Zz ?_;intros;exact s9 ⟨.ret _ _ (.a _ _ _ (T.g_len _).symm aS),.nil⟩
  ·have hol:=hok.2.2;generalize r.l=rl at *;cases rl with
   | nil=>exact absurd rfl ‹¬(([]:List Raw).length:Int)=0›
   | cons x xs =>
   refine F1 aS (B7 Raw.g_len) fun _ _ _=>?_;refine Zz ?_;intros;have hx:x.okR:=hol.1;refine s6 (hfn 36 _ rfl) ⟨x,hx⟩ (r:=.a (F9 x).g) rfl (.k (.a _ _ _ (Raw.g_len _).symm aS) .nil) .nil fun _ _ _ _=>?_;refine H3 aS (O.g_len _) fun _ _=>?_;refine Zz ?_;intros;refine s6 hC (F9 x) (r:=.a (T.c (F9 x)).g) rfl oA .nil fun _ _ _ _=>?_;refine H3 aS (T.g_len _) fun _ _=>?_;refine Zz ?_;intros;exact s9 ⟨.ret _ _ (.a _ _ _ (T.g_len _).symm aS),.nil⟩
 ·rw [if_neg oM,if_neg oM];refine s6 hM ⟨(r.n,nm.length),hnp,hnl⟩ (r:=.c (.i .i64 (r.n % (nm.length:Nat)))) rfl (.k (.q _ _ aS) (.k (.i _ _) .nil)) .nil fun _ _ _ _=>?_;have b1:0≤r.n % (nm.length:Int):=Int.emod_nonneg _ oM;have b2:r.n % (nm.length:Int) < nm.length:=Int.emod_lt_of_pos _ oM;have e0:nmR nm r.n=nm.getD (r.n % (nm.length:Int)).toNat (B0,[]):=rfl;generalize r.n % (nm.length:Int)=q at *;obtain ⟨k,rfl⟩:∃ k:Nat,q=k:=⟨q.toNat,oM⟩;have hk:k < nm.length:=oM;rw [Int.toNat_natCast,show nm.getD k (B0,[])=nm[k] by simp [List.getD,List.getElem?_eq_getElem hk]] at e0;rw [e0];refine Zz ?_;intros;have hN:=har nm[k];have ho:a6u w.L nm[k]=.t [.c (.i .i64 (V6 w.L nm[k]:Nat)),.c (.b (U9 w.L nm[k]).isSome)]:=by
   rw [f5h];unfold V6;cases e:U9 w.L nm[k] with
   | none=>rfl
   | some n =>
    have:=e6u e;show GV.t [.c (.i .i64 n),_]=.t [.c (.i .i64 ((n.toNat:Nat):Int)),_];rw [Int.toNat_of_nonneg this];rfl
  refine s6 (hfn 60 _ rfl) (w,nm[k]) (r:=.t [.c (.i .i64 (V6 w.L nm[k]:Nat)),.c (.b (U9 w.L nm[k]).isSome)]) (by show z8.ret (a6u w.L nm[k])=_;rw [ho]) (.k (.sl _ _ _ _ _ (by simp) aS) (.k (.a _ _ _ rfl aS) .nil)) .nil fun _ _ _ _=>?_;generalize hNe:V6 w.L nm[k]=N at *;generalize (U9 w.L nm[k]).isSome=isS at *;generalize hfe:nm[k]=f at *;refine Zz ?_;intros;refine I7 (fun (i:Nat) vs bs=>∃ (t:u1 Q) (off:Nat) (t2:u1 Q) (off2:Nat) (t3:u1 Q) (off3:Nat) (q q2:Q) (v:V) (acc:List T),vs=[.slice t 32 off w.1.length .no,.slice t2 2 off2 nm.length .no,.slice t3 2 off3 E1.length .no,.ptr 0 0,.ptr 1 0,.ptr 2 0,.int .i64 (N:Nat),.int .i64 (i:Nat),v]∧bs=[.opa q 4,.cells [.int .i64 0,.str 0 0,.str 0 0,.int .i64 0,.str 0 0,.str 0 0,.str 0 0,.str 0 0,.str 0 0,.slice .nil 0 0 0 .exact,.slice .nil 0 0 0 .exact],.opa q2 2,.tok acc.length 11]∧A7 r.g q 0∧A7 (sg f) q2 0∧A5 32 (w.1.map Et.g) t off∧A5 2 (nm.map sg) t2 off2∧A5 2 (E1.map sg) t3 off3∧S4 3 11 (acc.map T.g) v∧acc=(S5 N (S9 nm (V6 w.L) r.l)).take i∧acc.length=i∧i≤N) (fun i=>N - i) 0
   ⟨_,_,_,_,_,_,_,_,_,[],rfl,rfl,by rw [Raw.g_eq];assumption,aS,aS,aS,aS,.b rfl,rfl,rfl,oM⟩ (by simp only [E3];omega) ?_
  rintro self i _ _ ⟨t,off,t2,off2,t3,off3,q,q2,v,acc,rfl,rfl,hq,hq2,ht,ht2,ht3,htk,hacc,hlen,hi⟩ ih;(refine Zz ?_;with_reducible repeat' first|intro _|apply aI)
  ·have hiN:i < N:=oM;refine s6 (hfn 61 _ rfl) ⟨(r,i),show i≤1000 by omega⟩ (r:=.a (r.part i).g) rfl (.k (.a _ _ _ (Raw.g_len _).symm aS) (.k (.i _ _) .nil)) .nil fun _ _ _ _=>?_;refine H3 aS (Raw.g_len _) fun _ _=>?_;refine Zz ?_;intros;have hmu:=e20 (r:=r) oM i;refine s6 (hfn 33 _ rfl) ⟨⟨(w,nm,r.part i),⟨hne,hnl⟩,har,c1d hr i⟩,show muB (r.part i) < z by omega⟩ (r:=.a (P2 nm (V6 w.L) (r.part i)).g) rfl (.k (.sl _ _ _ _ _ (by simp) ht) (.k (.sl _ _ _ _ _ (by simp) ht2) (.k (.sl _ _ _ _ _ (by simp) ht3) (.k (.a _ _ _ (Raw.g_len _).symm aS) .nil)))) .nil fun _ _ _ _=>?_;refine H3 aS (T.g_len _) fun _ _=>?_;refine Zz ?_;intros;refine S7 aS (r:=(P2 nm (V6 w.L) (r.part i)).g) (fun _=>a06 (by rw [T.g_len];decide) aS) (T.g_len _) (by simp) (by simp only [List.length_map];omega) fun _ _=>?_;refine Zz ?_;intros;exact ih (i+1) _ _ ⟨_,_,_,_,_,_,_,_,_,acc ++ [P2 nm (V6 w.L) (r.part i)],rfl,(by rw [List.length_append];rfl),hq,hq2,ht,ht2,ht3,.a _ _ (by simp) (by rw [List.map_append];assumption),(by rw [hacc,List.take_add_one,b6a nm (V6 w.L) N r.l i hiN];rfl),by simp [hlen],oM⟩ oM
  ·have e9:acc=S5 N (S9 nm (V6 w.L) r.l):=by rw [hacc,List.take_of_length_le (by rw [b0i];omega)]
   refine s6 (hfn 39 _ rfl) (f,acc) (r:=.a (T.call f acc).g) rfl (.k (.a _ _ _ rfl aS) (.k (.sl _ _ _ _ _ (by simp) aS) .nil)) .nil fun _ _ _ _=>?_;refine H3 aS (T.g_len _) fun _ _=>?_;refine Zz ?_;intros;rw [← e9];exact s9 ⟨.ret _ _ (.a _ _ _ (T.g_len _).symm aS),.nil⟩
def f1r:Sp where
 ι:={ p:Wd × Raw // (p.1.1.length < 900∧∀ e ∈ p.1.1,e.fns.length < 1000)∧(∀ s,V6 p.1.L s≤1000)∧p.2.okR }
 A p:=[.sl 32 (p.1.1.1.map Et.g),.sl 2 (E1.map sg),.a p.1.2.g]
 B _:=[]
 R p:=.ret (.a (P2 (nmW (p.1.1.1.map Et.fns)) (V6 p.1.1.L) p.1.2).g)
 B' _:=[]
 inj i j vs bs h k _ _:=by
  obtain ⟨_,_,h1,k1,h,k⟩:=h.two k;obtain ⟨_,_,h2,k2,h,k⟩:=h.two k;obtain ⟨_,_,h3,k3,h,k⟩:=h.two k;have e1:i.1.1.L=j.1.1.L:=U2 (h1.sl_inj k1);rw [e1,a7u (h1.sl_inj k1),Raw.g_inj (h3.a_inj k3)];exact ⟨rfl,rfl⟩
theorem f5d (L:List (List F)):nmW L ≠ []:=by unfold nmW;intro h;have:=congrArg List.length h;rw [List.length_append,show P6.length=25 from rfl] at this;simp at this
theorem e8a {w:List Et} (h:w.length < 900) (k:∀ e ∈ w,e.fns.length < 1000):(nmW (w.map Et.fns)).length < 1000000:=by
 have hn:nmW (w.map Et.fns)=P6 ++ (w.map fun e=>e.fns.map F.nm).flatten:=by unfold nmW;rw [List.map_map];rfl
 have:=b6q (w:=w) (i:=w.length) k;rw [List.take_length] at this;rw [hn,List.length_append,show P6.length=25 from rfl];omega
theorem d7b (hItoa:b57):v8 10 f1r:=A8 (fun fn h=>f51 h) [(34,_),(33,_)] (.cons e7x (.cons (f4m hItoa) .nil)) fun U fn hfn ⟨(w,r),⟨hw,hwl⟩,har,hr⟩ vs bs hv hb=>by
 change z7 [.sl 32 (w.1.map Et.g),.sl 2 (E1.map sg),.a r.g] vs at hv;change u0 [] bs at hb;have hw:w.1.length < 900:=hw;show t6 U _ fun v bs'=>A3 (.ret (.a (P2 (nmW (w.1.map Et.fns)) (V6 w.L) r).g)) v∧u0 [] bs';unfold r10;refine Zz ?_;intros;refine H3 aS (Raw.g_len _) fun _ _=>?_;refine Zz ?_;intros;refine s6 (hfn 34 _ rfl) ⟨w.1,oM,hwl⟩ (r:=.sl 2 ((nmW (w.1.map Et.fns)).map sg)) rfl (.k (.sl _ _ _ _ _ (by simp) aS) .nil) .nil fun _ _ _ _=>?_;refine Zz ?_;intros;refine s6 (hfn 33 _ rfl) ⟨(w,nmW (w.1.map Et.fns),r),⟨f5d _,e8a hw hwl⟩,har,hr⟩ (r:=.a (P2 (nmW (w.1.map Et.fns)) (V6 w.L) r).g) rfl (.k (.sl _ _ _ _ _ (by simp) aS) (.k (.sl _ _ _ _ _ (by simp) aS) (.k (.sl _ _ _ _ _ (by simp) aS) (.k (.a _ _ _ (Raw.g_len _).symm aS) .nil)))) .nil fun _ _ _ _=>?_;refine H3 aS (T.g_len _) fun _ _=>?_;refine Zz ?_;intros;exact s9 ⟨.ret _ _ (.a _ _ _ (T.g_len _).symm aS),.nil⟩
structure Tz where
 w:Wd
 t:T
 env:M7
 l:Nat
 n:Nat
 r:Ro
 h:H1 T5 w.L n t env l=some r
 hw:w.1 ≠ []
 he:env.length < 90000
 hl:l < 1000000000
def b3i (l:Nat) (r:Ro):GV:=.t [.a r.1.g,.c (.i .i64 (if r.2.1=0 then (l:Int) - r.2.2 else 0)),.c (.i .i64 r.2.1)]
def h0w:Sp where
 ι:=Tz
 A x:=[.sl 32 (x.w.1.map Et.g),.a x.t.g,.sl 9 (x.env.map bd),.c (.i .i64 x.l)]
 B _:=[]
 R x:=.ret (b3i x.l x.r)
 B' _:=[]
 inj i j vs bs h k _ _:=by
  obtain ⟨_,_,h1,k1,h,k⟩:=h.two k;obtain ⟨_,_,h2,k2,h,k⟩:=h.two k;obtain ⟨_,_,h3,k3,h,k⟩:=h.two k;obtain ⟨_,_,h4,k4,h,k⟩:=h.two k;have e1:i.w.L=j.w.L:=U2 (h1.sl_inj k1);have e2:=T.g_inj (h2.a_inj k2);have e3:=a7w (h3.sl_inj k3);have e4:i.l=j.l:=by have:=b4l h4 k4;omega
  have hr:i.r=j.r:=c0r (n:=i.n) (m:=j.n) i.h (by rw [e1,e2,e3,e4];exact j.h);rw [hr,e4];exact ⟨rfl,rfl⟩
theorem f43:v8 13 h0w:=A8 (fun fn h=>d74 h) [(37,_)] (.cons (f42 f4n) .nil) fun U fn hfn ⟨w,t,env,l,n,r,hr,hw,he,hl⟩ vs bs hv hb=>by
 change z7 [.sl 32 (w.1.map Et.g),.a t.g,.sl 9 (env.map bd),.c (.i .i64 l)] vs at hv;change u0 [] bs at hb;show t6 U _ fun v bs'=>A3 (.ret (b3i l r)) v∧u0 [] bs';unfold r13;refine Zm ?_;intros;refine H3 aS (T.g_len _) fun _ _=>?_;refine Zm ?_;intros;refine s6 (hfn 37 _ rfl) ⟨w,t,env,l,l,n,r,hr,hw,he,oM,oM⟩ (r:=.t [.a r.1.g,.c (.i .i64 r.2.1)]) rfl (.k (.p _ _) (.k (.a _ _ _ (T.g_len _).symm aS) (.k (.sl _ _ _ _ _ (by simp) aS) .nil))) (U3 aS (d5k _) rfl (show (l:Int) - (l:Int)=0 by omega)) fun _ _ _ hb2=>?_;change u0 (eB w.1 w.L l (l - r.2.2)) _ at hb2;refine Zm ?_;intros;refine H3 aS (O.g_len _) fun _ _=>?_;refine Zm ?_;intros;refine sBE aS hw fun tw ow htw=>?_;refine Zm ?_;intros;refine sBm aS fun lm hlm=>?_;(refine Zm ?_;with_reducible repeat' first|intro _|apply aI)
 ·unfold b3i;rw [if_pos aS,(by assumption:r.2.1=0)];exact s9 ⟨.ret _ _ (.t _ _ (.k oV (.k (.i _ _) (.k (.i _ _) .nil)))),.nil⟩
 ·unfold b3i;rw [if_neg aS,c6n d5c hr aS];exact s9 ⟨.ret _ _ (.t _ _ (.k (.ag _ _ (by (exact Zru))) (.k (.i _ _) (.k (.i _ _) .nil)))),.nil⟩
def zT:List G:=[.i .i64 0,.s [],.s [],.i .i64 0,.s [],.s [],.s [],.s [],.s [],.l [],.l []]
def d4b (o:Option T):GV:=match o with
 | some t=>.t [.a t.g,.c (.b true)]
 | none=>.t [.a zT,.c (.b false)]
def g5j:Sp where
 ι:={ p:List (Sy × T) × Sy // p.1.length < 90000 }
 A p:=[.sl 13 (p.1.1.map X7),.a (sg p.1.2)]
 B _:=[]
 R p:=.ret (d4b (asg p.1.1 p.1.2))
 B' _:=[]
 inj i j vs bs h k _ _:=by
  obtain ⟨_,_,h1,k1,h,k⟩:=h.two k;obtain ⟨_,_,h2,k2,h,k⟩:=h.two k;rw [a7v (h1.sl_inj k1),a1f (h2.a_inj k2)];exact ⟨rfl,rfl⟩
theorem c17 (p:Sy × T) (l:List (Sy × T)) (s:Sy):asg (p :: l) s=if p.1=s then some p.2 else asg l s:=by cases p;rfl
theorem d3t:v8 38 g5j:=A8 (fun fn h=>d8f h) [] .nil fun U fn hfn ⟨(l,s),hl⟩ vs bs hv hb=>by
 have hl:l.length < 90000:=hl;change z7 [.sl 13 (l.map X7),.a [.s s.1,.s s.2]] vs at hv;change u0 [] bs at hb;show t6 U _ fun v bs'=>A3 (.ret (d4b (asg l s))) v∧u0 [] bs';unfold r38;refine Zz ?_;intros;refine I7 (fun (i:Nat) vs bs=>∃ (t:u1 Q) (off:Nat) (q:Q),vs=[.slice t 13 off l.length .no,.ptr 0 0,.ptr 1 0,.int .i64 i]∧bs=[.opa q 2,.cells [.int .i64 0,.str 0 0,.str 0 0,.int .i64 0,.str 0 0,.str 0 0,.str 0 0,.str 0 0,.str 0 0,.slice .nil 0 0 0 .exact,.slice .nil 0 0 0 .exact]]∧A7 [.s s.1,.s s.2] q 0∧A5 13 (l.map X7) t off∧i≤l.length∧asg (l.drop i) s=asg l s) (fun i=>l.length - i) 0
  ⟨_,_,_,rfl,rfl,aS,aS,oM,rfl⟩ (by simp only [E3];omega) ?_
 rintro self i _ _ ⟨t,off,q,rfl,rfl,hq,ht,hi,he⟩ ih;(refine Zz ?_;with_reducible repeat' first|intro _|apply aI)
 ·rw [List.drop_eq_getElem_cons (by omega:i < l.length),c17,if_pos (Prod.ext (‹_∧_∧True›).1 (‹_∧_∧True›).2.1)] at he;rw [← he];exact s9 ⟨.ret _ _ (.t _ _ (.k (.a _ _ _ (T.g_len _).symm (show A7 (List.drop 2 (X7 l[i])) _ 0 by assumption)) (.k (.kn _) .nil))),.nil⟩
 ·rw [List.drop_eq_getElem_cons (by omega:i < l.length),c17,if_neg (fun h=>‹¬(_∧_∧True)› ⟨congrArg Prod.fst h,congrArg Prod.snd h,trivial⟩)] at he;exact ih (i+1) _ _ ⟨_,_,_,rfl,rfl,hq,ht,oM,he⟩ oM
 ·have ei:i=l.length:=oM;rw [ei,List.drop_length] at he;rw [← he];exact s9 ⟨.ret _ _ (.t _ _ (.k (.ag _ _ (by unfold zT;(exact Zru))) (.k (.kn _) .nil))),.nil⟩
def e39:Sp where
 ι:={ p:T × List (Sy × T) // p.1.nd < 90000∧p.2.length < 90000 }
 A p:=[.a p.1.1.g,.sl 13 (p.1.2.map X7)]
 B _:=[]
 R p:=.ret (.a (H9 p.1.2 p.1.1).g)
 B' _:=[]
 inj i j vs bs h k _ _:=by
  obtain ⟨_,_,h1,k1,h,k⟩:=h.two k;obtain ⟨_,_,h2,k2,h,k⟩:=h.two k;rw [T.g_inj (h1.a_inj k1),a7v (h2.sl_inj k2)];exact ⟨rfl,rfl⟩
def e6e:Sp where
 ι:={ p:List T × List (Sy × T) // T.nds p.1 < 90000∧p.2.length < 90000 }
 A p:=[.sl 11 (p.1.1.map T.g),.sl 13 (p.1.2.map X7)]
 B _:=[]
 R p:=.ret (.sl 11 ((p.1.1.map (H9 p.1.2)).map T.g))
 B' _:=[]
 inj i j vs bs h k _ _:=by
  obtain ⟨_,_,h1,k1,h,k⟩:=h.two k;obtain ⟨_,_,h2,k2,h,k⟩:=h.two k;have e2:=h1.sl_inj k1;rw [← T.gs_eq,← T.gs_eq] at e2;rw [T.gs_inj e2,a7v (h2.sl_inj k2)];exact ⟨rfl,rfl⟩
theorem f41 (z:Nat) (ih:v8 14 (e39.lt (fun p=>p.1.1.nd) z)):v8 40 (e6e.lt (fun p=>T.nds p.1.1) z):=A8 (fun fn h=>f9b h) [(14,e39.lt (fun p=>p.1.1.nd) z)] (.cons ih .nil) fun U fn hfn ⟨⟨(ts,σ),hn,hl⟩,hm⟩ vs bs hv hb=>by
 have hn:T.nds ts < 90000:=hn;have hl:σ.length < 90000:=hl;have hm:T.nds ts < z:=hm;have hlen:=d08 ts;change z7 [.sl 11 (ts.map T.g),.sl 13 (σ.map X7)] vs at hv;change u0 [] bs at hb;show t6 U _ fun v bs'=>A3 (.ret (.sl 11 ((ts.map (H9 σ)).map T.g))) v∧u0 [] bs';unfold r40;refine Zz ?_;intros;refine I7 (fun (i:Nat) vs bs=>∃ (t:u1 Q) (off:Nat) (t2:u1 Q) (off2:Nat) (v:V) (acc:List T),vs=[.slice t 11 off ts.length .no,.slice t2 13 off2 σ.length .no,.int .i64 i,v]∧bs=[.tok acc.length 11]∧S4 0 11 (acc.map T.g) v∧A5 11 (ts.map T.g) t off∧A5 13 (σ.map X7) t2 off2∧acc=(ts.map (H9 σ)).take i∧acc.length=i∧i≤ts.length) (fun i=>ts.length - i) 0
  ⟨_,_,_,_,_,[],rfl,rfl,.b rfl,aS,aS,rfl,rfl,oM⟩ (by simp only [E3];omega) ?_
 rintro self i _ _ ⟨t,off,t2,off2,v,acc,rfl,rfl,htk,ht,ht2,hacc,hal,hi⟩ ihL;(refine Zz ?_;with_reducible repeat' first|intro _|apply aI)
 ·have hil:i < ts.length:=oM;have hnd:=d7l (List.getElem_mem hil);refine s6 (hfn 14 _ rfl) ⟨⟨(ts[i],σ),by show ts[i].nd < 90000;omega,hl⟩,by show ts[i].nd < z;omega⟩ (r:=.a (H9 σ ts[i]).g) rfl (.k (.a _ _ _ (T.g_len _).symm aS) (.k (.sl _ _ _ _ _ (by simp) aS) .nil)) .nil fun _ _ _ _=>?_;refine H3 aS (T.g_len _) fun _ _=>?_;refine Zz ?_;intros;refine S7 aS (r:=(H9 σ ts[i]).g) (fun _=>a06 (by rw [T.g_len];decide) aS) (T.g_len _) (by simp) (by simp only [List.length_map];omega) fun _ _=>?_;refine Zz ?_;intros;exact ihL (i+1) _ _ ⟨_,_,_,_,_,acc ++ [H9 σ ts[i]],rfl,(by rw [List.length_append];rfl),.a _ _ (by simp) (by rw [List.map_append];assumption),ht,ht2,(by rw [hacc,List.take_add_one,List.getElem?_map,List.getElem?_eq_getElem hil];rfl),by simp [hal],oM⟩ oM
 ·have e9:acc=ts.map (H9 σ):=by rw [hacc,List.take_of_length_le (by simp;omega)]
  rw [← e9];exact s9 ⟨.ret _ _ (.sl _ _ _ _ _ (by simp) aS),.nil⟩
theorem e70:v8 14 e39:=Y2 (fun p=>p.1.1.nd) fun z ih=>A8 (fun fn h=>f6k h) [(40,e6e.lt (fun p=>T.nds p.1.1) z),(38,_),(39,_)] (.cons (f41 z ih) (.cons d3t (.cons f4l .nil))) fun U fn hfn ⟨⟨(t,σ),hn,hl⟩,hm⟩ vs bs hv hb=>by
 have hG:=hfn 38 _ rfl;have hn:t.nd < 90000:=hn;have hl:σ.length < 90000:=hl;have hm:t.nd < z+1:=hm;change z7 [.a t.g,.sl 13 (σ.map X7)] vs at hv;change u0 [] bs at hb;show t6 U _ fun v bs'=>A3 (.ret (.a (H9 σ t).g)) v∧u0 [] bs';unfold r14;cases t with
 | c o =>
  simp only [T.g] at hv;refine Zz ?_;intros;rw [H9];exact s9 ⟨.ret _ _ (.a _ _ _ rfl (by show A7 [_,_,_,_,_,_,_,_,_,_,_] _ 0;assumption)),.nil⟩
 | v s =>
  simp only [T.g] at hv;(refine Zz ?_;with_reducible repeat' first|intro _|apply aI);cases e:asg σ s with
  | none =>
   have es:H9 σ (.v s)=.v s:=by rw [H9,e];rfl
   rw [es];refine s6 hG ⟨(σ,s),hl⟩ (r:=.t [.a zT,.c (.b false)]) (by show z8.ret (d4b (asg σ s))=_;rw [e];rfl) (.k (.sl _ _ _ _ _ (by simp) aS) (.k (a77 (gs:=List.drop 1 _) aS (by rfl) rfl) .nil)) .nil fun _ _ _ _=>?_;refine Zz ?_;intros;exact s9 ⟨.ret _ _ (.a _ _ _ rfl (by show A7 [_,_,_,_,_,_,_,_,_,_,_] _ 0;assumption)),.nil⟩
  | some x =>
   have es:H9 σ (.v s)=x:=by rw [H9,e];rfl
   rw [es];refine s6 hG ⟨(σ,s),hl⟩ (r:=.t [.a x.g,.c (.b true)]) (by show z8.ret (d4b (asg σ s))=_;rw [e];rfl) (.k (.sl _ _ _ _ _ (by simp) aS) (.k (a77 (gs:=List.drop 1 _) aS (by rfl) rfl) .nil)) .nil fun _ _ _ _=>?_;refine Zz ?_;intros;refine H3 aS (T.g_len _) fun _ _=>?_;refine Zz ?_;intros;exact s9 ⟨.ret _ _ (.a _ _ _ (T.g_len _).symm aS),.nil⟩
 | call f xs =>
  simp only [T.g,T.gs_eq] at hv;have hnd:(T.call f xs).nd=1+T.nds xs:=by rw [T.nd]
  have es:H9 σ (.call f xs)=.call f (xs.map (H9 σ)):=by rw [H9,b1n]
  rw [es];refine Zz ?_;intros;refine s6 (hfn 40 _ rfl) ⟨⟨(xs,σ),by show T.nds xs < 90000;omega,hl⟩,by show T.nds xs < z;omega⟩ (r:=.sl 11 ((xs.map (H9 σ)).map T.g)) rfl (.k (.slq _ _ _ aS (B7 T.g_len)) (.k (.sl _ _ _ _ _ (by simp) aS) .nil)) .nil fun _ _ _ _=>?_;refine Zz ?_;intros;refine s6 (hfn 39 _ rfl) (f,xs.map (H9 σ)) (r:=.a (T.call f (xs.map (H9 σ))).g) rfl (.k (a77 (gs:=List.drop 1 _) aS (by rfl) rfl) (.k (.sl _ _ _ _ _ (by simp) aS) .nil)) .nil fun _ _ _ _=>?_;refine H3 aS (T.g_len _) fun _ _=>?_;refine Zz ?_;intros;exact s9 ⟨.ret _ _ (.a _ _ _ (T.g_len _).symm aS),.nil⟩
theorem g37 {s:Sy} {t:T} {x y:Q} (h:A7 (sg s) x 0) (k:A7 t.g y 0):Row (X7 (s,t)) (.agg [CU.celQ x 0,CU.celQ x 1,CU.celQ y 0,CU.celQ y 1,CU.celQ y 2,CU.celQ y 3,CU.celQ y 4,CU.celQ y 5,CU.celQ y 6,CU.celQ y 7,CU.celQ y 8,CU.celQ y 9,CU.celQ y 10] 0):=by
 cases t <;> simp only [T.g] at k <;>
 exact a06 (by rw [d0g];decide) (a04.cel (.cons _ _ _ _ (A7.at h rfl) (.cons _ _ _ _ (A7.at h rfl) (.cons _ _ _ _ (A7.at k rfl) (.cons _ _ _ _ (A7.at k rfl) (.cons _ _ _ _ (A7.at k rfl) (.cons _ _ _ _ (A7.at k rfl) (.cons _ _ _ _ (A7.at k rfl) (.cons _ _ _ _ (A7.at k rfl) (.cons _ _ _ _ (A7.at k rfl) (.cons _ _ _ _ (A7.at k rfl) (.cons _ _ _ _ (A7.at k rfl) (.cons _ _ _ _ (A7.at k rfl) (.cons _ _ _ _ (A7.at k rfl) .nil))))))))))))))
def sbR (nm:List Sy) (ar:Sy→Nat) (l:List Raw):List (Sy × T):=List.zip E1 (l.map (P2 nm ar))
def h0s:Sp where
 ι:={ p:Wd × List Raw // (p.1.1.length < 900∧∀ e ∈ p.1.1,e.fns.length < 1000)∧(∀ s,V6 p.1.L s≤1000)∧p.2.length≤1000∧∀ r ∈ p.2,r.okR }
 A p:=[.sl 32 (p.1.1.1.map Et.g),.sl 4 (p.1.2.map Raw.g)]
 B _:=[]
 R p:=.ret (.sl 13 ((sbR (nmW (p.1.1.1.map Et.fns)) (V6 p.1.1.L) p.1.2).map X7))
 B' _:=[]
 inj i j vs bs h k _ _:=by
  obtain ⟨_,_,h1,k1,h,k⟩:=h.two k;obtain ⟨_,_,h2,k2,h,k⟩:=h.two k;have e1:i.1.1.L=j.1.1.L:=U2 (h1.sl_inj k1);rw [e1,a7u (h1.sl_inj k1),Raw.map_inj (h2.sl_inj k2)];exact ⟨rfl,rfl⟩
theorem e71:v8 11 h0s:=A8 (fun fn h=>f55 h) [(9,_),(10,_)] (.cons d3y (.cons (d7b b4p) .nil)) fun U fn hfn ⟨(w,l),hwA,hwB,hl,hok⟩ vs bs hv hb=>by
 change z7 [.sl 32 (w.1.map Et.g),.sl 4 (l.map Raw.g)] vs at hv;change u0 [] bs at hb;have hl:l.length≤1000:=hl;have hvl:E1.length=4:=rfl;obtain ⟨nm,hnm⟩:∃ nm,nmW (w.1.map Et.fns)=nm:=⟨_,rfl⟩;obtain ⟨ar,har⟩:∃ ar,V6 w.L=ar:=⟨_,rfl⟩;show t6 U _ fun v bs'=>A3 (.ret (.sl 13 ((sbR (nmW (w.1.map Et.fns)) (V6 w.L) l).map X7))) v∧u0 [] bs';rw [hnm,har];unfold r11;refine Zz ?_;intros;refine s6 (hfn 9 _ rfl) () (r:=.sl 2 (E1.map sg)) rfl (.k (.i _ _) .nil) .nil fun _ _ _ _=>?_;refine Zz ?_;intros;refine I7 (fun (i:Nat) vs bs=>∃ (t:u1 Q) (off:Nat) (t1:u1 Q) (off1:Nat) (t2:u1 Q) (off2:Nat) (v:V) (acc:List (Sy × T)),vs=[.slice t 32 off w.1.length .no,.slice t1 4 off1 l.length .no,.slice t2 2 off2 E1.length .no,.int .i64 (i:Nat),v]∧bs=[.tok acc.length 13]∧S4 0 13 (acc.map X7) v∧A5 32 (w.1.map Et.g) t off∧A5 4 (l.map Raw.g) t1 off1∧A5 2 (E1.map sg) t2 off2∧acc=(sbR nm ar l).take i∧acc.length=i∧i≤4∧i≤l.length) (fun i=>4 - i) 0
  ⟨_,_,_,_,_,_,_,[],rfl,rfl,.b rfl,aS,aS,aS,rfl,rfl,oM,oM⟩ (by simp only [E3];omega) ?_
 rintro self i _ _ ⟨t,off,t1,off1,t2,off2,v,acc,rfl,rfl,htk,ht,ht1,ht2,hacc,hlen,hi,hil⟩ ih;(refine Zz ?_;with_reducible repeat' first|intro _|apply aI)
 ·have hi4:i < E1.length:=oM;have hil':i < l.length:=oM;refine s6 (hfn 10 _ rfl) ⟨(w,l[i]),hwA,hwB,hok _ (List.getElem_mem hil')⟩ (r:=.a (P2 nm ar l[i]).g) (by rw [← hnm,← har];rfl) (.k (.sl _ _ _ _ _ (by simp) aS) (.k (.sl _ _ _ _ _ (by simp) aS) (.k (.a _ _ _ (Raw.g_len _).symm aS) .nil))) .nil fun _ _ _ _=>?_;refine H3 aS (T.g_len _) fun _ _=>?_;refine Zz ?_;intros;refine S7 aS (r:=X7 (E1[i],P2 nm ar l[i])) (fun e=>by subst e;exact g37 aS aS) (d0g _) (by simp) (by simp only [List.length_map];omega) fun _ _=>?_;refine Zz ?_;intros;refine ih (i+1) _ _ ⟨_,_,_,_,_,_,_,acc ++ [(E1[i],P2 nm ar l[i])],rfl,(by rw [List.length_append];rfl),.a _ _ (by simp) (by rw [List.map_append];assumption),ht,ht1,ht2,?_,by simp [hlen],oM,oM⟩ oM;rw [hacc,sbR,b2c _ _ _ hi4 (by simpa using hil'),List.getElem_map]
 all_goals
  have e9:acc=sbR nm ar l:=by rw [hacc,List.take_of_length_le (by rw [sbR,List.length_zip,List.length_map];omega)]
  rw [← e9];exact s9 ⟨.ret _ _ (.sl _ _ _ _ _ (by simp) aS),.nil⟩
set_option maxHeartbeats 4000000
section
variable {L:List (List F)} {ap:Ap}
def GvP (ap:Ap) (L:List (List F)) (t:T) (env:M7) (l:Nat):Prop:=∃ n r,H1 ap L n t env l=some r∧(r.2.1=0→ok r.1)∧r.2.2≤l
theorem d3s {t:T} {env:M7} {l n m:Nat} {e:Int} (h:H1 ap L n t env l=some (.no,e,m)) (he:e ≠ 0) (hm:m≤l):GvP ap L t env l:=⟨n,_,h,fun k=>absurd k he,hm⟩
theorem b5e {env:M7} {m:Nat} (ih:∀ l,l < m→∀ t,Okc t→GvP ap L t env l):∀ (ts:List T) (l:Nat) (acc:List O),l < m→(∀ t ∈ ts,Okc t)→(∀ o ∈ acc,ok o) →
  ∃ n q,R3 (fun t l=>H1 ap L n t env l) ts l acc=some q∧∀ p,q=.inr p→(∀ o ∈ p.1,ok o)∧p.1.length=acc.length+ts.length∧p.2≤l
 | [],l,acc,_,_,ha=>⟨0,_,rfl,fun p hp=>by injection hp with hp;subst hp;exact ⟨ha,by simp,Nat.le_refl _⟩⟩
 | t :: ts,l,acc,hl,ht,ha=>by
  obtain ⟨n,r,hr,hok,hle⟩:=ih l hl t (ht t (by simp));by_cases h0:r.2.1=0
  ·obtain ⟨k,q,hq,hp⟩:=b5e ih ts r.2.2 (acc ++ [r.1]) oM (fun u hu=>ht u (by simp [hu])) (fun o ho=>by
    rcases List.mem_append.1 ho with ho | ho
    ·exact ha o ho
    ·rw [List.mem_singleton.1 ho];exact hok h0)
   refine ⟨max n k,q,?_,fun p e=>?_⟩
   ·rw [R3,a2q (Nat.le_max_left n k) hr];simp only [if_pos h0];exact b0u (fun t l r h=>a2q (Nat.le_max_right n k) h) hq
   ·obtain ⟨a,b,c⟩:=hp p e;refine ⟨a,?_,oM⟩;simp only [List.length_append,List.length_cons,List.length_nil] at b ⊢;omega
  ·refine ⟨n,.inl (r.2.1,r.2.2),?_,fun p e=>by cases e⟩;rw [R3,hr];simp only [if_neg h0]
theorem b2u (hap:∀ (f:Sy) {os:List O},(∀ o ∈ os,ok o)→(∀ n,D7 f=some n→(os.length:Int)=n→os.length ≠ 0∧os.length≤3)→∃ r,ap f os=some r∧(r.2=0→ok r.1)) (hL:OkL L):∀ (l:Nat) (t:T) (env:M7),Okc t→OkE env→GvP ap L t env l:=by
 intro l
 induction l using Nat.strongRecOn with
 | ind l ih =>
  intro t env ht he;cases ht with
  | v s =>
   refine ⟨1,?_⟩;show ∃ r,N9 ap L _ (.v s) env l=some r∧_;rw [N9,if_neg (by have:=he.2;omega)];cases hv:Z0 env s with
   | some o=>exact ⟨_,rfl,fun _=>c84 he.1 hv,Nat.le_refl _⟩
   | none=>exact ⟨_,rfl,(fun h=>by cases h),Nat.le_refl _⟩
  | c o ho=>exact ⟨1,_,rfl,fun _=>ho,Nat.le_refl _⟩
  | call f xs hx hxs =>
   by_cases h1:l < 1
   ·exact d3s (n:=1) (e:=9) (m:=l) (by show N9 ap L _ (.call f xs) env l=_;rw [N9,if_neg oM,if_pos h1]) dE (Nat.le_refl _)
   cases ha:U9 L f with
   | none=>exact d3s (n:=1) (e:=7) (m:=l - 1) (by show N9 ap L _ (.call f xs) env l=_;rw [N9,if_neg oM,if_neg h1,ha]) dE (Nat.sub_le _ _)
   | some k =>
    by_cases hk:k=xs.length
    case neg=>exact d3s (n:=1) (e:=5) (m:=l - 1) (by show N9 ap L _ (.call f xs) env l=_;rw [N9,if_neg oM,if_neg h1,ha];simp only [if_neg hk]) dE (Nat.sub_le _ _)
    by_cases hc:(D7 f).isNone∧c5h L f ≠ 1
    case pos=>exact d3s (n:=1) (e:=8) (m:=l - 1) (by show N9 ap L _ (.call f xs) env l=_;rw [N9,if_neg oM,if_neg h1,ha];simp only [if_pos hk,if_pos hc]) dE (Nat.sub_le _ _)
    have hred:∀ n,H1 ap L (n+1) (.call f xs) env l=if isC (.call f xs) (s5 2 26217) 3 then evI (fun t l=>H1 ap L n t env l) xs (l - 1) else evC ap L (H1 ap L n) f xs env (l - 1):=fun n=>by
     show N9 ap L _ (.call f xs) env l=_;rw [N9,if_neg oM,if_neg h1,ha];simp only [if_pos hk,if_neg hc]
    have ih':∀ l',l' < l→∀ t,Okc t→GvP ap L t env l':=fun l' h' t ht=>ih l' h' t env ht he;by_cases hi:isC (.call f xs) (s5 2 26217) 3=true
    ·have h3:xs.length=3:=by
      unfold isC at hi;rw [Bool.and_eq_true,decide_eq_true_eq,decide_eq_true_eq] at hi;omega
     match xs,h3,hxs,hred with
     | [a,b,c],_,hxs,hred =>
      obtain ⟨n,r,hr,hok,hle⟩:=ih' (l - 1) oM a (hxs a (by simp));by_cases h0:r.2.1=0
      ·obtain ⟨m,r2,hr2,hok2,hle2⟩:=ih' r.2.2 oM (if O.eqb r.1 F6 then c else b) (by split <;> first | exact hxs c (by simp) | exact hxs b (by simp));refine ⟨max n m+1,r2,?_,hok2,oM⟩;rw [hred,if_pos hi,evI,a2q (Nat.le_max_left n m) hr];simp only [if_pos h0];by_cases hb:O.eqb r.1 F6=true
       ·rw [if_pos hb] at hr2 ⊢;exact a2q (Nat.le_max_right n m) hr2
       ·rw [if_neg hb] at hr2 ⊢;exact a2q (Nat.le_max_right n m) hr2
      ·refine ⟨n+1,r,?_,fun h=>absurd h h0,oM⟩;rw [hred,if_pos hi,evI,hr];simp only [if_neg h0]
    ·obtain ⟨n,q,hq,hp⟩:=b5e ih' xs (l - 1) [] oM hxs (by simp);cases q with
     | inl p =>
      refine ⟨n+1,(.no,p.1,p.2),?_,fun h=>absurd h (b4h hq),?_⟩
      ·rw [hred,if_neg hi,evC,hq]
      ·exact Nat.le_trans (b6n (fun t l r h=>a3e h) hq) (Nat.sub_le _ _)
     | inr p =>
      obtain ⟨hpo,hpl,hpm⟩:=hp p rfl;simp only [List.length_nil,Nat.zero_add] at hpl;cases hpf:D7 f with
      | some k2 =>
       obtain ⟨r,hr,hok⟩:=hap f hpo (fun n2 e2 e3=>by have:=a4o e2;omega);refine ⟨n+1,(r.1,r.2,p.2),?_,hok,by show p.2≤l;omega⟩;rw [hred,if_neg hi,evC,hq];simp only [hpf,hr];rfl
      | none =>
       cases hF:L9 L f with
       | none=>unfold U9 at ha;rw [hpf] at ha;simp only [hF] at ha;cases ha
       | some fn =>
        have hkl:(fn.ps.length:Int)=k:=by unfold U9 at ha;rw [hpf] at ha;simp only [hF] at ha;injection ha
        obtain ⟨hb,hps⟩:=hL f fn hF;obtain ⟨m,r,hr,hok,hle⟩:=ih p.2 oM fn.bo (List.zip fn.ps p.1) hb ⟨fun b hb=>hpo b.2 (List.of_mem_zip hb).2,by simp;omega⟩;refine ⟨max n m+1,r,?_,hok,oM⟩;rw [hred,if_neg hi,evC,b0u (fun t l r h=>a2q (Nat.le_max_left n m) h) hq];simp only [hpf,hF];exact a2q (Nat.le_max_right n m) hr
end
theorem b59 (f:Sy) {os:List O} (h:∀ o ∈ os,ok o) (h9:∀ n,D7 f=some n→(os.length:Int)=n→os.length ≠ 0∧os.length≤3):∃ r,T5 f os=some r∧(r.2=0→ok r.1):=by
 obtain ⟨r,hr,k⟩:=e05 f h h9;exact ⟨r,by unfold T5;rw [if_pos h];exact hr,k⟩
set_option maxHeartbeats 8000000
theorem d7m:nmW (a3k.map Et.fns)=NM:=by
 unfold nmW;rw [List.map_map];rfl
abbrev bTu (r:Raw):T:=P2 NM AR r
theorem fb {r:Raw} {m:Nat} (hm:m≤20) (h:r.few m=true):Okc (bTu r)∧(bTu r).nd≤4 * m:=e7h NM e4q hm h
theorem e8d {l:List Raw} (h:Q8 l 10=true):OkE (Y0 l):=by
 have h:=a7o h;refine ⟨fun b hb=>?_,by simp [Y0]⟩;obtain ⟨i,_,e⟩:=List.mem_map.1 hb;rw [← e];unfold evN;cases e2:l[i]? with
 | none=>exact b4w dE
 | some r =>
  have:=e7i (h.2 r (List.mem_of_getElem? e2));exact ⟨show (F9 r).size≤3000 by omega,this.2⟩
theorem e7b (l:List Raw):(Y0 l).length=4:=by simp [Y0]
theorem b0c.snoc {ap:Ap} {L:List (List F)} {g:M7} {σ:List (Sy × T)} {vs:M7} (h:b0c ap L g σ vs) {x:Sy} {t:T} {o:O} {n l r:Nat} (e:H1 ap L n t g l=some (o,0,r)):b0c ap L g (σ ++ [(x,t)]) (vs ++ [(x,o)]):=by
 induction h with
 | nil=>exact .cons _ _ _ _ _ _ _ _ e .nil
 | cons x t o n l r σ vs h1 _ ih=>exact .cons _ _ _ _ _ _ _ _ h1 ih
theorem Okc.sub {σ:List (Sy × T)} (H:∀ p ∈ σ,Okc p.2) {t:T} (h:Okc t):Okc (H9 σ t):=by
 induction h with
 | v s =>
  rw [H9];cases e:asg σ s with
  | none=>exact .v s
  | some t=>exact H _ (d0h e)
 | c o ho=>rw [H9];exact .c o ho
 | call f xs hl _ ih =>
  rw [H9,b1n];refine .call f _ (by rw [List.length_map];exact hl) fun x hx=>?_;obtain ⟨y,hy,e⟩:=List.mem_map.1 hx;rw [← e];exact ih y hy
abbrev G9 (l:List Raw):List (Sy × T):=sbR NM AR l
theorem g0h (l:List Raw):(G9 l).length≤4:=by
 show (sbR NM AR l).length≤4;unfold sbR;rw [List.length_zip,List.length_map];exact Nat.min_le_left _ _
theorem d9f {l:List Raw} (h:Q8 l 6=true) {p:Sy × T} (hp:p ∈ G9 l):Okc p.2∧p.2.nd≤24:=by
 have h:=a7o h;obtain ⟨r,hr,e⟩:=List.mem_map.1 (List.of_mem_zip hp).2;rw [← e];have:=fb dE (h.2 r hr);exact ⟨this.1,by have:=this.2;omega⟩
theorem e17 {r:Raw} {l:List Raw} (hr:r.few 15=true) (hl:Q8 l 6=true):Okc (H9 (G9 l) (bTu r)):=Okc.sub (fun _ hp=>(d9f hl hp).1) (fb dE hr).1
set_option maxHeartbeats 32000000
theorem d5b:a3b (d26 60) 32 w29 (a3k.map Et.g) 0=true:=kR
abbrev f2p:=v8 8 (sp0 (.sl 32 (a3k.map Et.g)))
abbrev f2m:=v8 5 (sp0 (.c (.b true)))
theorem g1e:f2p:=fun _ vs bs hv hb=>by
 cases hv;cases hb;exact ⟨.ret WP,[],fun hok=>e4u 8 [] [] _ _ e4o hok,.ret _ _ (.sl 32 _ w29 0 29 rfl (a2k (b39 60) d5b)),.nil⟩
theorem f3y:f2m:=fun _ vs bs hv hb=>by
 cases hv;cases hb;exact ⟨.ret (.bool true),[],fun hok=>e4u 5 [] [] _ _ e1y hok,.ret _ _ (.b true),.nil⟩
theorem c1l (l:Nat) (r:Ro):∃ m:Int,b3i l r=.t [.a r.1.g,.c (.i .i64 m),.c (.i .i64 r.2.1)]:=⟨_,rfl⟩
def g04:Sp where
 ι:=Raw × List Raw × List Raw
 A p:=[.a p.1.g,.sl 4 (p.2.1.map Raw.g),.sl 4 (p.2.2.map Raw.g)]
 B _:=[]
 R _:=.ret (.c (.b true))
 B' _:=[]
 inj _ _ _ _ _ _ _ _:=⟨rfl,rfl⟩
theorem g4t:v8 3 g04:=A8 (fun fn h=>g43 h) [(5,_),(6,_),(7,_),(8,_),(9,_),(10,_),(11,_),(12,_),(13,_),(14,_),(15,_)] (.cons f3y (.cons f4s (.cons e7r (.cons g1e (.cons d3y (.cons (d7b b4p) (.cons e71 (.cons (g4n b4p) (.cons f43 (.cons e70 (.cons f4r .nil))))))))))) fun U fn hfn ⟨r,l,en⟩ vs bs hv hb=>by
 have hFew:=hfn 6 _ rfl;have hFA:=hfn 7 _ rfl;have hV:=hfn 9 _ rfl;have hEv:=hfn 13 _ rfl;change z7 [.a r.g,.sl 4 (l.map Raw.g),.sl 4 (en.map Raw.g)] vs at hv;change u0 [] bs at hb;show t6 U _ fun v bs'=>A3 (.ret (.c (.b true))) v∧u0 [] bs';have hvl:E1.length=4:=rfl;unfold r3;refine Zz ?_;intros;refine H3 aS (Raw.g_len _) fun _ _=>?_;refine Zz ?_;intros;refine s6 (hfn 5 _ rfl) () (r:=.c (.b true)) rfl .nil .nil fun _ _ _ _=>?_;(refine Zz ?_;with_reducible repeat' first|intro _|apply aI)
 all_goals try exact absurd rfl ‹¬true=true›
 cases hr:r.few 15 with
 | false =>
  refine s6 hFew ⟨(r,15),show 15≤1000 by decide⟩ (r:=.c (.b false)) (by show z8.ret (.c (.b (r.few 15)))=_;rw [hr]) (.k (.a _ _ _ (Raw.g_len _).symm aS) (.k (X2 rfl) .nil)) .nil fun _ _ _ _=>?_;(refine Zz ?_;with_reducible repeat' first|intro _|apply aI)
  all_goals first | exact absurd ‹false=true› dE | exact s9 ⟨.ret _ _ (.kn _),.nil⟩
 | true =>
 refine s6 hFew ⟨(r,15),show 15≤1000 by decide⟩ (r:=.c (.b true)) (by show z8.ret (.c (.b (r.few 15)))=_;rw [hr]) (.k (.a _ _ _ (Raw.g_len _).symm aS) (.k (X2 rfl) .nil)) .nil fun _ _ _ _=>?_;(refine Zz ?_;with_reducible repeat' first|intro _|apply aI)
 all_goals try exact absurd rfl ‹¬true=true›
 cases hl:Q8 l 6 with
 | false =>
  refine s6 hFA ⟨(l,6),show 6≤1000 by decide⟩ (r:=.c (.b false)) (by show z8.ret (.c (.b (Q8 l 6)))=_;rw [hl]) (.k (.sl _ _ _ _ _ (by simp) aS) (.k (X2 rfl) .nil)) .nil fun _ _ _ _=>?_;(refine Zz ?_;with_reducible repeat' first|intro _|apply aI)
  all_goals first | exact absurd ‹false=true› dE | exact s9 ⟨.ret _ _ (.kn _),.nil⟩
 | true =>
 refine s6 hFA ⟨(l,6),show 6≤1000 by decide⟩ (r:=.c (.b true)) (by show z8.ret (.c (.b (Q8 l 6)))=_;rw [hl]) (.k (.sl _ _ _ _ _ (by simp) aS) (.k (X2 rfl) .nil)) .nil fun _ _ _ _=>?_;(refine Zz ?_;with_reducible repeat' first|intro _|apply aI)
 all_goals try exact absurd rfl ‹¬true=true›
 cases he:Q8 en 10 with
 | false =>
  refine s6 hFA ⟨(en,10),show 10≤1000 by decide⟩ (r:=.c (.b false)) (by show z8.ret (.c (.b (Q8 en 10)))=_;rw [he]) (.k (.sl _ _ _ _ _ (by simp) aS) (.k (X2 rfl) .nil)) .nil fun _ _ _ _=>?_;(refine Zz ?_;with_reducible repeat' first|intro _|apply aI)
  all_goals first | exact absurd ‹false=true› dE | exact s9 ⟨.ret _ _ (.kn _),.nil⟩
 | true =>
 refine s6 hFA ⟨(en,10),show 10≤1000 by decide⟩ (r:=.c (.b true)) (by show z8.ret (.c (.b (Q8 en 10)))=_;rw [he]) (.k (.sl _ _ _ _ _ (by simp) aS) (.k (X2 rfl) .nil)) .nil fun _ _ _ _=>?_;(refine Zz ?_;with_reducible repeat' first|intro _|apply aI)
 all_goals try exact absurd rfl ‹¬true=true›
 have hrk:=(Raw.few_ok hr).1;have hLk:=a7o hl;have hEk:=a7o he;have hwA:(O8.1.length < 900∧∀ e ∈ O8.1,e.fns.length < 1000):=⟨dE,dE⟩;have hwB:∀ s,V6 O8.L s≤1000:=fun s=>by have:V6 O8.L s=AR s:=rfl;rw [this];have:=e4q s;omega
 have hwN:O8.1 ≠ []:=by simp [O8,a3k]
 have eT:∀ r:Raw,P2 (nmW (a3k.map Et.fns)) (V6 O8.L) r=bTu r:=fun r=>by rw [d7m];rfl
 have eS:sbR (nmW (a3k.map Et.fns)) (V6 O8.L) l=G9 l:=by rw [d7m];rfl
 have hoE:=e8d he;have hlE:=e7b en;have hsl:=g0h l;refine s6 (hfn 8 _ rfl) () (r:=.sl 32 (a3k.map Et.g)) rfl .nil .nil fun _ _ _ _=>?_;refine Zz ?_;intros;refine s6 hV () (r:=.sl 2 (E1.map sg)) rfl (.k (.i _ _) .nil) .nil fun _ _ _ _=>?_;refine Zz ?_;intros;refine s6 (hfn 10 _ rfl) ⟨(O8,r),hwA,hwB,hrk⟩ (r:=.a (bTu r).g) (by show z8.ret (.a (P2 (nmW (a3k.map Et.fns)) (V6 O8.L) r).g)=_;rw [eT]) (.k (.sl _ _ _ _ _ (by simp [O8]) aS) (.k (.sl _ _ _ _ _ (by simp) aS) (.k (.a _ _ _ (Raw.g_len _).symm aS) .nil))) .nil fun _ _ _ _=>?_;refine H3 aS (T.g_len _) fun _ _=>?_;refine Zz ?_;intros;refine s6 (hfn 11 _ rfl) ⟨(O8,l),hwA,hwB,by show l.length≤1000;omega,fun r hr=>(Raw.few_ok (hLk.2 r hr)).1⟩ (r:=.sl 13 ((G9 l).map X7)) (by show z8.ret (.sl 13 ((sbR (nmW (a3k.map Et.fns)) (V6 O8.L) l).map X7))=_;rw [eS]) (.k (.sl _ _ _ _ _ (by simp [O8]) aS) (.k (.sl _ _ _ _ _ (by simp) aS) .nil)) .nil fun _ _ _ _=>?_;refine Zz ?_;intros;refine s6 (hfn 12 _ rfl) ⟨en,oM,fun r hr=>(Raw.few_ok (hEk.2 r hr)).1⟩ (r:=.sl 9 ((Y0 en).map bd)) rfl (.k (.sl _ _ _ _ _ (by simp) aS) .nil) .nil fun _ _ _ _=>?_;refine Zz ?_;intros;refine I7 (fun (i:Nat) vs bs=>∃ (tw:u1 Q) (ow:Nat) (ts:u1 Q) (os:Nat) (te:u1 Q) (oe:Nat) (v:V) (q:Q) (acc:M7),vs=[.slice tw 32 ow a3k.length .no,.ptr 0 0,.slice ts 13 os (G9 l).length .no,.slice te 9 oe (Y0 en).length .no,.int .i64 (i:Nat),v]∧bs=[.opa q 11,.tok acc.length 9]∧S4 1 9 (acc.map bd) v∧A5 32 (a3k.map Et.g) tw ow∧A5 13 ((G9 l).map X7) ts os∧A5 9 ((Y0 en).map bd) te oe∧A7 (bTu r).g q 0∧b0c T5 PL (Y0 en) ((G9 l).take i) acc∧(∀ b ∈ acc,ok b.2)∧acc.length=i∧i≤(G9 l).length) (fun i=>(G9 l).length - i) 0
  ⟨_,_,_,_,_,_,_,_,[],rfl,rfl,.b rfl,aS,aS,aS,aS,.nil,by simp,rfl,oM⟩ (by simp only [E3];omega) ?_
 rintro self i _ _ ⟨tw,ow,ts,os,te,oe,v,q,acc,rfl,rfl,htk,htw,hts,hte,hq,hV,hok,hal,hi⟩ ih;(refine Zz ?_;with_reducible repeat' first|intro _|apply aI)
 ·have hil:i < (G9 l).length:=oM;have hmem:=d9f hl (List.getElem_mem hil);obtain ⟨n1,r1,e1,o1,_⟩:=b2u b59 c43 300 (G9 l)[i].2 (Y0 en) hmem.1 hoE;obtain ⟨m1,em1⟩:=c1l 300 r1;refine s6 hEv ⟨O8,(G9 l)[i].2,Y0 en,300,n1,r1,e1,hwN,oM,dE⟩ (r:=.t [.a r1.1.g,.c (.i .i64 m1),.c (.i .i64 r1.2.1)]) (by show z8.ret (b3i 300 r1)=_;rw [em1]) (.k (.sl _ _ _ _ _ (by simp [O8]) htw) (.k (.a _ _ _ (T.g_len _).symm (show A7 (List.drop 2 (X7 (G9 l)[i])) _ 0 by assumption)) (.k (.sl _ _ _ _ _ (by simp) hte) (.k (X2 rfl) .nil)))) .nil fun _ _ _ _=>?_;refine Zz ?_;intros;refine H3 aS (O.g_len _) fun _ _=>?_;(refine Zz ?_;with_reducible repeat' first|intro _|apply aI)
  ·have z1:r1.2.1=0:=‹_›;refine S7 aS (r:=bd ((G9 l)[i].1,r1.1)) (fun e=>by subst e;exact e4w (show A7 (sg (G9 l)[i].1) _ 0 from A7.take 2 (by assumption:A7 (X7 (G9 l)[i]) _ 0)) aS) (a9b _) (by simp) (by simp only [List.length_map];omega) fun _ _=>?_;refine Zz ?_;intros;refine ih (i+1) _ _ ⟨_,_,_,_,_,_,_,_,acc ++ [((G9 l)[i].1,r1.1)],rfl,(by rw [List.length_append];rfl),.a _ _ (by simp) (by rw [List.map_append];assumption),htw,hts,hte,hq,?_,?_,by simp [hal],oM⟩ oM
   ·rw [List.take_add_one,List.getElem?_eq_getElem hil];obtain ⟨x1,y1,w1⟩:=r1;have z1:y1=0:=z1;subst z1;exact hV.snoc e1
   ·intro b hb;rcases List.mem_append.1 hb with hb | hb
    ·exact hok b hb
    ·rw [List.mem_singleton.1 hb];exact o1 z1
  all_goals exact s9 ⟨.ret _ _ (.kn _),.nil⟩
 ·have ei:i=(G9 l).length:=oM;rw [ei,List.take_length] at hV;have hoA:OkE (acc ++ Y0 en):=⟨fun b hb=>by
   rcases List.mem_append.1 hb with hb | hb
   ·exact hok b hb
   ·exact hoE.1 b hb,by rw [List.length_append];omega⟩
  refine sAT (n:=9) (xs:=acc.map bd) (ys:=(Y0 en).map bd) aS hte (by simp) (by simp) (by simp only [List.length_map];omega) fun _ ht5=>?_;rw [← List.map_append] at ht5;refine Zz ?_;intros;obtain ⟨n3,r3,e3,o3,_⟩:=b2u b59 c43 300 (bTu r) (acc ++ Y0 en) (fb dE hr).1 hoA;obtain ⟨n4,r4,e4,o4,_⟩:=b2u b59 c43 2000 (H9 (G9 l) (bTu r)) (Y0 en) (e17 hr hl) hoE;obtain ⟨m3,em3⟩:=c1l 300 r3;obtain ⟨m4,em4⟩:=c1l 2000 r4;refine s6 hEv ⟨O8,bTu r,acc ++ Y0 en,300,n3,r3,e3,hwN,by rw [List.length_append];omega,dE⟩ (r:=.t [.a r3.1.g,.c (.i .i64 m3),.c (.i .i64 r3.2.1)]) (by show z8.ret (b3i 300 r3)=_;rw [em3]) (.k (.sl _ _ _ _ _ (by simp [O8]) htw) (.k (.a _ _ _ (T.g_len _).symm aS) (.k (.sl _ _ _ _ _ (by simp) ht5) (.k (X2 rfl) .nil)))) .nil fun _ _ _ _=>?_;refine Zz ?_;intros;refine H3 aS (O.g_len _) fun _ _=>?_;refine Zz ?_;intros;refine s6 (hfn 14 _ rfl) ⟨(bTu r,G9 l),by show (bTu r).nd < 90000;have:=(fb dE hr).2;omega,by show (G9 l).length < 90000;omega⟩ (r:=.a (H9 (G9 l) (bTu r)).g) rfl (.k (.a _ _ _ (T.g_len _).symm aS) (.k (.sl _ _ _ _ _ (by simp) hts) .nil)) .nil fun _ _ _ _=>?_;refine H3 aS (T.g_len _) fun _ _=>?_;refine Zz ?_;intros;refine s6 hEv ⟨O8,H9 (G9 l) (bTu r),Y0 en,2000,n4,r4,e4,hwN,oM,dE⟩ (r:=.t [.a r4.1.g,.c (.i .i64 m4),.c (.i .i64 r4.2.1)]) (by show z8.ret (b3i 2000 r4)=_;rw [em4]) (.k (.sl _ _ _ _ _ (by simp [O8]) htw) (.k (.a _ _ _ (T.g_len _).symm aS) (.k (.sl _ _ _ _ _ (by simp) hte) (.k (X2 rfl) .nil)))) .nil fun _ _ _ _=>?_;refine Zz ?_;intros;refine H3 aS (O.g_len _) fun _ _=>?_;(refine Zz ?_;with_reducible repeat' first|intro _|apply aI)
  ·have z3:=‹r3.2.1=0›;have z4:=‹r4.2.1=0›;have hpq:r3.1=r4.1:=by
    obtain ⟨x3,y3,w3⟩:=r3;obtain ⟨x4,y4,w4⟩:=r4;have z3:y3=0:=z3;have z4:y4=0:=z4;rw [z3] at e3;rw [z4] at e4;exact d9x hV e3 e4
   refine s6 (hfn 15 _ rfl) (r3.1,r4.1) (r:=.c (.b true)) (by show z8.ret (.c (.b (O.eqb r3.1 r4.1)))=_;rw [O.eqb_t.2 hpq]) (.k oV oA) .nil fun _ _ _ _=>?_;refine Zz ?_;intros;exact s9 ⟨.ret _ _ (.b _),.nil⟩
  all_goals exact s9 ⟨.ret _ _ (.kn _),.nil⟩
end
end Go.Proofs.YtkojildpddaccaaGreatDoor
