/- TranslateLets: what the law's terms satisfy. No program in sight. -/
import Derived.Test.YtkojildpddaccaaGreatDoorCJ17
import Derived.Test.YtkojildpddaccaaGreatDoorCYP
set_option linter.all false
namespace Go.Proofs.YtkojildpddaccaaGreatDoor
open Go.Abs LQ
set_option maxRecDepth 100000
set_option maxHeartbeats 8000000
noncomputable section
theorem f6w:nmW (a1y.map Et.fns)=NM:=by
 unfold nmW;rw [List.map_map];rfl
def d1z:Wm:=⟨H2,dE⟩
abbrev bTu (r:Raw):T:=I8 NM AR r
def v0:Sy:=(H9,[120])
def v1:Sy:=(H9,[121])
abbrev ltL (s t:Raw):List (Sy × T):=[(v0,bTu s),(v1,bTu t)]
theorem fb {r:Raw} {m:Nat} (hm:m≤20) (h:r.few m=true):Okc (bTu r)∧(bTu r).nd≤4 * m:=b2r NM c1e hm h
theorem fg {r:Raw} {m:Nat} (hm:m≤20) (h:r.few m=true):Gt NM AR (bTu r):=f5s NM AR g07 hm h
theorem a9q (a b:O):(u7 [a,b]).size=3+a.size+b.size:=by
 show 1+a.size+(1+b.size+1)=_;omega
theorem d5s {s t:Raw} (hs:s.few 10=true) (ht:t.few 10=true):(u7 (J2 (F5 (ltL s t)))).size≤1000:=by
 have h1:=a3q (bTu s)
 have h2:=a3q (bTu t)
 have h3:=(fb dE hs).2
 have h4:=(fb dE ht).2
 have e:u7 (J2 (F5 (ltL s t)))=u7 [u7 [.sy v0,z6 (bTu s)],u7 [.sy v1,z6 (bTu t)]]:=rfl
 rw [e,a9q,a9q,a9q]
 show 3+(3+1+_)+(3+1+_)≤1000
 omega
theorem e9q {r s t:Raw} (hr:r.few 15=true) (hs:s.few 10=true) (ht:t.few 10=true):(a5k (ltL s t) (bTu r)).size < 90000:=by
 have h1:=a3q (bTu r)
 have h2:=(fb dE hr).2
 have h3:=d5s hs ht
 have e:(a5k (ltL s t) (bTu r)).size=1+1+(u7 [u7 (J2 (F5 (ltL s t))),z6 (bTu r)]).size:=rfl
 rw [e,a9q]
 omega
theorem g4s {r s t:Raw} (hr:r.few 15=true) (hs:s.few 10=true) (ht:t.few 10=true):c1g d1z (ltL s t) (bTu r) where
 gt p hp:=by
  simp only [List.mem_cons,List.not_mem_nil,or_false] at hp
  rcases hp with e | e <;> rw [e]
  ·exact fg dE hs
  ·exact fg dE ht
 gta:=fg dE hr
 var p hp:=by
  simp only [List.mem_cons,List.not_mem_nil,or_false] at hp
  rcases hp with e | e <;> rw [e]
  ·show v0 ∈ B6;simp [B6,v0]
  ·show v1 ∈ B6;simp [B6,v1]
 nd p hp:=by
  simp only [List.mem_cons,List.not_mem_nil,or_false] at hp
  rcases hp with e | e <;> rw [e]
  ·have:=(fb dE hs).2;show (bTu s).nd≤10000;omega
  ·have:=(fb dE ht).2;show (bTu t).nd≤10000;omega
 nda:=by have:=(fb dE hr).2;omega
 dis:=by show [v0,v1].Nodup;decide
 sz:=by have:=d5s hs ht;omega
 wl:=rfl
theorem Gf.okc {t:T} (h:Gf t):Okc t:=by
 induction h with
 | v s _=>exact .v s
 | c o ho=>exact .c o ho.1
 | call f xs _ hl _ ih=>exact .call f xs oM ih
theorem e81 {r s t:Raw} (hr:r.few 15=true) (hs:s.few 10=true) (ht:t.few 10=true):Gf (C7 (ltL s t) (bTu r))∧(C7 (ltL s t) (bTu r)).nd≤3000∧(C7 (ltL s t) (bTu r)).dp≤200∧Okc (C7 (ltL s t) (bTu r)):=by
 have hg:∀ p ∈ ltL s t,Gf p.2:=fun p hp=>by
  simp only [List.mem_cons,List.not_mem_nil,or_false] at hp
  rcases hp with e | e <;> rw [e]
  ·exact (fg dE hs).gf b39
  ·exact (fg dE ht).gf b39
 have h1:=(fb dE hr).2
 have h2:=(fb dE hs).2
 have h3:=(fb dE ht).2
 have hd:∀ p ∈ ltL s t,p.2.dp≤40:=fun p hp=>by
  simp only [List.mem_cons,List.not_mem_nil,or_false] at hp
  rcases hp with e | e <;> rw [e]
  ·have:=c1n (bTu s);show (bTu s).dp≤40;omega
  ·have:=c1n (bTu t);show (bTu t).dp≤40;omega
 have h4:=d5b dE hd (bTu r)
 have h5:=c1n (bTu r)
 have h6:=((fg dE hr).gf b39).sub hg
 exact ⟨h6,e80 NM c1e hr hs ht,oM,h6.okc⟩
theorem e93 {l:List Raw} (h:Y7 l 10=true):OkE (X3 l):=by
 have h:=b9t h
 refine ⟨fun b hb=>?_,by simp [X3]⟩
 obtain ⟨i,_,e⟩:=List.mem_map.1 hb
 rw [← e]
 unfold evN
 cases e2:l[i]? with
 | none=>exact a8g dE
 | some r =>
  have:=e8w (h.2 r (List.mem_of_getElem? e2))
  exact ⟨show (E2 r).size≤3000 by omega,this.2⟩
theorem e94 {g:Q1} {x y:Sy} {a b:O} (h:OkE g) (hl:g.length≤4) (ha:ok a) (hb:ok b):OkE ((x,a) :: (y,b) :: g):=by
 refine ⟨fun c hc=>?_,by simp;omega⟩
 simp only [List.mem_cons] at hc
 rcases hc with e | e | e
 ·rw [e];exact ha
 ·rw [e];exact hb
 ·exact h.1 c e
theorem e8s (l:List Raw):(X3 l).length=4:=by simp [X3]
end
end Go.Proofs.YtkojildpddaccaaGreatDoor
namespace Go.Proofs.YtkojildpddaccaaGreatDoor
open Go.Abs LQ Go.RowKit Go.Lib Go.Sort
set_option maxRecDepth 100000
set_option maxHeartbeats 4000000
noncomputable section
theorem a3m:∀ n:Nat,Lib.decDigits n=s3 n:=by
 intro n
 induction n using Nat.strongRecOn with
 | _ n ih =>
  unfold Lib.decDigits
  by_cases h:n < 10
  ·simp only [h,dite_true,if_true]
   by_cases h0:n=0
   ·subst h0;rfl
   ·unfold s3
    rw [if_neg h0,E1 h0,show n / 10=0 by omega,C5,Nat.mod_eq_of_lt h]
    rfl
  ·simp only [h,dite_false,if_false]
   rw [ih (n / 10) oM]
   have h1:¬n / 10=0:=oM
   have h0:¬n=0:=oM
   unfold s3
   rw [if_neg h1,if_neg h0,E1 h0,List.reverse_cons,List.map_append]
   rfl
theorem c3v (n:Int):Lib.itoa n=p5 n:=by
 unfold Lib.itoa p5
 split
 ·rw [a3m];rfl
 ·rw [a3m,show n.toNat=n.natAbs by omega]
theorem b8d:a0j:=fun ⟨n,hn⟩ vs bs hv hb=>by
 change t7 [.c (.i .i64 n)] vs at hv
 cases hb
 refine ⟨.ret (.str (p5 n).length (C6 (p5 n))),[],fun hok=>?_,.ret _ _ (.s _ _ _ rfl rfl),.nil⟩
 have hx:vs.map toD=[D.int .i64 n]:=by
  cases hv with
  | cons _ _ v _ h1 h2 =>
   cases h2
   cases h1 with
   | i=>rfl
   | q _ x h=>cases h;rfl
 rw [hx]
 show CM X0.P X0.G _ _ [] (.ret (.str (o8 (p5 n).length (C6 (p5 n))))) []
 rw [E8]
 refine a7e (d:=.str (p5 n)) Tryz.call94 fun w S M us hg hwi hr=>?_
 cases hr with
 | cons _ _ _ _ r1 r2 =>
 cases r2
 cases r1
 refine (Any.strconv_Itoa Tryz.laysM171 n oM oM w (d57 hg)).mono ?_
 rintro e w' ⟨rfl,k,os,rfl⟩
 have hb:Below w.heap.size w (grow (w.drewN k) os):=⟨rfl,rfl,rfl,by show w.heap.size≤(w.heap ++ os).size;rw [Array.size_append];omega,fun j hj=>by show (w.heap ++ os)[j]?=w.heap[j]?;exact Array.getElem?_append_left hj⟩
 exact ⟨hb,_,S,rfl,⟨fun _ _ h=>h,fun _ _ h=>.inl h⟩,a5y hwi hb,.str _ _ (by rw [c3v]),c3q (fun _ _ _ h=>by cases h) (fun _ h=>by cases h)⟩
end
end Go.Proofs.YtkojildpddaccaaGreatDoor
namespace Go.Proofs.YtkojildpddaccaaGreatDoor
open Go.Abs LQ
set_option maxRecDepth 100000
set_option maxHeartbeats 32000000
noncomputable section
theorem d32:a2g (d0p 60) 32 w29 (a1y.map Et.g) 0=true:=kR
abbrev f4f:=s9 8 (sp0 (.sl 32 (a1y.map Et.g)))
abbrev f4c:=s9 16 (sp0 (.c (.b true)))
theorem g0v:f4f:=fun _ vs bs hv hb=>by
 cases hv
 cases hb
 exact ⟨.ret WP,[],fun hok=>e4y 8 [] [] _ _ e4r hok,.ret _ _ (.sl 32 _ w29 0 29 rfl (Z7 (a71 60) d32)),.nil⟩
theorem f5t:f4c:=fun _ vs bs hv hb=>by
 cases hv
 cases hb
 exact ⟨.ret (.bool true),[],fun hok=>e4y 16 [] [] _ _ d99 hok,.ret _ _ (.b true),.nil⟩
theorem c49 {a b:O} {p q:Q} (h:u3 a.g p 0) (k:u3 b.g q 0):u6 7 (([a,b]:List O).map O.g) (.node p (.node q .nil .nil) .nil) 0 :=
 .cons _ _ _ _ _ (O.g_len _) h (Q9 (by rw [O.g_len];decide) h).2 (.cons _ _ _ _ _ (O.g_len _) k (Q9 (by rw [O.g_len];decide) k).2 (.nil _ _ _))
theorem f9x {a b c:O} {p q r:Q} (h:u3 a.g p 0) (k:u3 b.g q 0) (l:u3 c.g r 0):u6 7 (([a,b,c]:List O).map O.g) (.node p (.node q .nil .nil) (.node r .nil .nil)) 0 :=
 .cons _ _ _ _ _ (O.g_len _) h (Q9 (by rw [O.g_len];decide) h).2 (.cons _ _ _ _ _ (O.g_len _) k (Q9 (by rw [O.g_len];decide) k).2 (.cons _ _ _ _ _ (O.g_len _) l (Q9 (by rw [O.g_len];decide) l).2 (.nil _ _ _)))
theorem g88 {U:B0} {P:H4→List Bx→Prop} {n:Nat} {xs ys:List (List G)} {t t2:s6 Q} {off j a m:Nat} {K:s6 Q→Om} (ht:U=CU→u6 n xs t off) (ht2:u6 n ys t2 j) (ha:a=xs.length) (hm:m=ys.length) (hb:off+xs.length+ys.length+1≤281474976710656)
  (h:∀ t',u6 n (xs ++ ys) t' off→s4 U (K t') P):s4 U (U.aT t2 m t (U.nAdd off a) j K) P:=fun e=>sAT (ht e) ht2 ha hm hb h e
theorem f9w {a b:Sy × O} {p q:Q} (h:Row (bd a) p) (k:Row (bd b) q):u6 9 [bd a,bd b] (.node p (.node q .nil .nil) .nil) 0 :=
 .cons _ _ _ _ _ rfl h.1 h.2 (.cons _ _ _ _ _ rfl k.1 k.2 (.nil _ _ _))
def rO (r:Ro):O:=if r.2.1=0 then r.1 else O.no
theorem b3b (l:Nat) (r:Ro):∃ m:Int,a7q l r=.t [.a (rO r).g,.c (.i .i64 m),.c (.i .i64 r.2.1)]:=by
 unfold a7q rO
 by_cases h:r.2.1=0
 ·rw [if_pos h,if_pos h,h];exact ⟨_,rfl⟩
 ·rw [if_neg h,if_neg h];exact ⟨_,rfl⟩
def g0e:Sp where
 ι:=Raw × Raw × Raw × List Raw
 A p:=[.a p.1.g,.a p.2.1.g,.a p.2.2.1.g,.sl 4 (p.2.2.2.map Raw.g)]
 B _:=[]
 R _:=.ret (.c (.b true))
 B' _:=[]
 inj _ _ _ _ _ _ _ _:=⟨rfl,rfl⟩
theorem g39:s9 4 g0e:=u2 (fun fn h=>g4v h) [(16,_),(6,_),(7,_),(8,_),(9,_),(10,_),(18,_),(19,_),(17,_),(20,_),(21,_),(12,_),(22,_),(15,_)] (.cons f5t (.cons f6c (.cons e9a (.cons g0v (.cons e54 (.cons (f6m b8d) (.cons a2k (.cons g36 (.cons c1r (.cons a6g (.cons e9m (.cons (g33 b8d) (.cons (f6o (e83 b8d)) (.cons c3x .nil)))))))))))))) fun U fn hfn ⟨r,s,t,l⟩ vs bs hv hb=>by
 have h1:=hfn 16 _ rfl
 have hFew:=hfn 6 _ rfl
 have hFA:=hfn 7 _ rfl
 have hW:=hfn 8 _ rfl
 have hV:=hfn 9 _ rfl
 have hT:=hfn 10 _ rfl
 have hS:=hfn 18 _ rfl
 have hF:=hfn 19 _ rfl
 have hL:=hfn 17 _ rfl
 have hLi:=hfn 20 _ rfl
 have hTr:=hfn 21 _ rfl
 have hEn:=hfn 12 _ rfl
 have hEv:=hfn 22 _ rfl
 have hEq:=hfn 15 _ rfl
 change t7 [.a r.g,.a s.g,.a t.g,.sl 4 (l.map Raw.g)] vs at hv
 change s5 [] bs at hb
 show s4 U _ fun v bs'=>u0 (.ret (.c (.b true))) v∧s5 [] bs'
 have hvl:B6.length=4:=rfl
 unfold r4
 (refine Zz ?_;intros)
 refine C4 aS (Raw.g_len _) fun _ _=>?_
 (refine Zz ?_;intros)
 refine C4 aS (Raw.g_len _) fun _ _=>?_
 (refine Zz ?_;intros)
 refine C4 aS (Raw.g_len _) fun _ _=>?_
 (refine Zz ?_;intros)
 refine o7 h1 () (r:=.c (.b true)) rfl .nil .nil fun _ _ _ _=>?_
 (refine Zz ?_;with_reducible repeat' first|intro _|apply aI)
 all_goals try exact absurd rfl ‹¬true=true›
 cases hr:r.few 15 with
 | false =>
  refine o7 hFew ⟨(r,15),show 15≤1000 by decide⟩ (r:=.c (.b false)) (by show u9.ret (.c (.b (r.few 15)))=_;rw [hr]) (.k (.a _ _ _ (Raw.g_len _).symm aS) (.k (R0 rfl) .nil)) .nil fun _ _ _ _=>?_
  (refine Zz ?_;with_reducible repeat' first|intro _|apply aI)
  all_goals first | exact absurd ‹false=true› dE | exact p9 ⟨.ret _ _ (.kn _),.nil⟩
 | true =>
 refine o7 hFew ⟨(r,15),show 15≤1000 by decide⟩ (r:=.c (.b true)) (by show u9.ret (.c (.b (r.few 15)))=_;rw [hr]) (.k (.a _ _ _ (Raw.g_len _).symm aS) (.k (R0 rfl) .nil)) .nil fun _ _ _ _=>?_
 (refine Zz ?_;with_reducible repeat' first|intro _|apply aI)
 all_goals try exact absurd rfl ‹¬true=true›
 cases hs:s.few 10 with
 | false =>
  refine o7 hFew ⟨(s,10),show 10≤1000 by decide⟩ (r:=.c (.b false)) (by show u9.ret (.c (.b (s.few 10)))=_;rw [hs]) (.k (.a _ _ _ (Raw.g_len _).symm aS) (.k (R0 rfl) .nil)) .nil fun _ _ _ _=>?_
  (refine Zz ?_;with_reducible repeat' first|intro _|apply aI)
  all_goals first | exact absurd ‹false=true› dE | exact p9 ⟨.ret _ _ (.kn _),.nil⟩
 | true =>
 refine o7 hFew ⟨(s,10),show 10≤1000 by decide⟩ (r:=.c (.b true)) (by show u9.ret (.c (.b (s.few 10)))=_;rw [hs]) (.k (.a _ _ _ (Raw.g_len _).symm aS) (.k (R0 rfl) .nil)) .nil fun _ _ _ _=>?_
 (refine Zz ?_;with_reducible repeat' first|intro _|apply aI)
 all_goals try exact absurd rfl ‹¬true=true›
 cases ht:t.few 10 with
 | false =>
  refine o7 hFew ⟨(t,10),show 10≤1000 by decide⟩ (r:=.c (.b false)) (by show u9.ret (.c (.b (t.few 10)))=_;rw [ht]) (.k (.a _ _ _ (Raw.g_len _).symm aS) (.k (R0 rfl) .nil)) .nil fun _ _ _ _=>?_
  (refine Zz ?_;with_reducible repeat' first|intro _|apply aI)
  all_goals first | exact absurd ‹false=true› dE | exact p9 ⟨.ret _ _ (.kn _),.nil⟩
 | true =>
 refine o7 hFew ⟨(t,10),show 10≤1000 by decide⟩ (r:=.c (.b true)) (by show u9.ret (.c (.b (t.few 10)))=_;rw [ht]) (.k (.a _ _ _ (Raw.g_len _).symm aS) (.k (R0 rfl) .nil)) .nil fun _ _ _ _=>?_
 (refine Zz ?_;with_reducible repeat' first|intro _|apply aI)
 all_goals try exact absurd rfl ‹¬true=true›
 cases hl:Y7 l 10 with
 | false =>
  refine o7 hFA ⟨(l,10),show 10≤1000 by decide⟩ (r:=.c (.b false)) (by show u9.ret (.c (.b (Y7 l 10)))=_;rw [hl]) (.k (.sl _ _ _ _ _ (by simp) aS) (.k (R0 rfl) .nil)) .nil fun _ _ _ _=>?_
  (refine Zz ?_;with_reducible repeat' first|intro _|apply aI)
  all_goals first | exact absurd ‹false=true› dE | exact p9 ⟨.ret _ _ (.kn _),.nil⟩
 | true =>
 refine o7 hFA ⟨(l,10),show 10≤1000 by decide⟩ (r:=.c (.b true)) (by show u9.ret (.c (.b (Y7 l 10)))=_;rw [hl]) (.k (.sl _ _ _ _ _ (by simp) aS) (.k (R0 rfl) .nil)) .nil fun _ _ _ _=>?_
 (refine Zz ?_;with_reducible repeat' first|intro _|apply aI)
 all_goals try exact absurd rfl ‹¬true=true›
 have hrk:=(Raw.few_ok hr).1
 have hsk:=(Raw.few_ok hs).1
 have htk:=(Raw.few_ok ht).1
 have hLk:=b9t hl
 have hwA:(H2.1.length < 900∧∀ e ∈ H2.1,e.fns.length < 1000):=⟨dE,dE⟩
 have hwB:∀ s,X5 H2.L s≤1000:=fun s=>by have:X5 H2.L s=AR s:=rfl;rw [this];have:=c1e s;omega
 have eT:∀ r:Raw,I8 (nmW (a1y.map Et.fns)) (X5 H2.L) r=bTu r:=fun r=>by rw [f6w];rfl
 refine o7 hW () (r:=.sl 32 (a1y.map Et.g)) rfl .nil .nil fun _ _ _ _=>?_
 (refine Zz ?_;intros)
 refine o7 hV () (r:=.sl 2 (B6.map sg)) rfl (.k (.i _ _) .nil) .nil fun _ _ _ _=>?_
 (refine Zz ?_;intros)
 refine o7 hT ⟨(H2,r),hwA,hwB,hrk⟩ (r:=.a (bTu r).g) (by show u9.ret (.a (I8 (nmW (a1y.map Et.fns)) (X5 H2.L) r).g)=_;rw [eT]) (.k (.sl _ _ _ _ _ (by simp [H2]) aS) (.k (.sl _ _ _ _ _ (by simp) aS) (.k (.a _ _ _ (Raw.g_len _).symm aS) .nil))) .nil fun _ _ _ _=>?_
 refine C4 aS (T.g_len _) fun _ _=>?_
 (refine Zz ?_;intros)
 refine o7 hT ⟨(H2,s),hwA,hwB,hsk⟩ (r:=.a (bTu s).g) (by show u9.ret (.a (I8 (nmW (a1y.map Et.fns)) (X5 H2.L) s).g)=_;rw [eT]) (.k (.sl _ _ _ _ _ (by simp [H2]) aS) (.k (.sl _ _ _ _ _ (by simp) aS) (.k (.a _ _ _ (Raw.g_len _).symm aS) .nil))) .nil fun _ _ _ _=>?_
 refine C4 aS (T.g_len _) fun _ _=>?_
 (refine Zz ?_;intros)
 refine o7 hT ⟨(H2,t),hwA,hwB,htk⟩ (r:=.a (bTu t).g) (by show u9.ret (.a (I8 (nmW (a1y.map Et.fns)) (X5 H2.L) t).g)=_;rw [eT]) (.k (.sl _ _ _ _ _ (by simp [H2]) aS) (.k (.sl _ _ _ _ _ (by simp) aS) (.k (.a _ _ _ (Raw.g_len _).symm aS) .nil))) .nil fun _ _ _ _=>?_
 refine C4 aS (T.g_len _) fun _ _=>?_
 (refine Zz ?_;intros)
 refine o7 hS v0 (r:=.a (O.sy v0).g) rfl (.k (.a _ _ _ rfl (show u3 (sg B6[0]) _ 0 by assumption)) .nil) .nil fun _ _ h0 _=>?_
 refine C4 h0 (O.g_len _) fun _ k1=>?_
 (refine Zz ?_;intros)
 refine o7 hF ⟨bTu s,(fb dE hs).1,by have:=(fb dE hs).2;omega⟩ (r:=.a (z6 (bTu s)).g) rfl (.k (.a _ _ _ (T.g_len _).symm aS) .nil) .nil fun _ _ h0 _=>?_
 refine C4 h0 (O.g_len _) fun _ k2=>?_
 (refine Zz ?_;intros)
 refine o7 hL ⟨[.sy v0,z6 (bTu s)],show 2 < 90000 by decide⟩ (r:=.a (u7 [.sy v0,z6 (bTu s)]).g) rfl (.k (.sl _ _ _ _ _ rfl (c49 k1 k2)) .nil) .nil fun _ _ h0 _=>?_
 refine C4 h0 (O.g_len _) fun _ k3=>?_
 (refine Zz ?_;intros)
 refine o7 hS v1 (r:=.a (O.sy v1).g) rfl (.k (.a _ _ _ rfl (show u3 (sg B6[1]) _ 0 by assumption)) .nil) .nil fun _ _ h0 _=>?_
 refine C4 h0 (O.g_len _) fun _ k4=>?_
 (refine Zz ?_;intros)
 refine o7 hF ⟨bTu t,(fb dE ht).1,by have:=(fb dE ht).2;omega⟩ (r:=.a (z6 (bTu t)).g) rfl (.k (.a _ _ _ (T.g_len _).symm aS) .nil) .nil fun _ _ h0 _=>?_
 refine C4 h0 (O.g_len _) fun _ k5=>?_
 (refine Zz ?_;intros)
 refine o7 hL ⟨[.sy v1,z6 (bTu t)],show 2 < 90000 by decide⟩ (r:=.a (u7 [.sy v1,z6 (bTu t)]).g) rfl (.k (.sl _ _ _ _ _ rfl (c49 k4 k5)) .nil) .nil fun _ _ h0 _=>?_
 refine C4 h0 (O.g_len _) fun _ k6=>?_
 (refine Zz ?_;intros)
 refine o7 hL ⟨[u7 [.sy v0,z6 (bTu s)],u7 [.sy v1,z6 (bTu t)]],show 2 < 90000 by decide⟩ (r:=.a (u7 (J2 (F5 (ltL s t)))).g) rfl (.k (.sl _ _ _ _ _ rfl (c49 k3 k6)) .nil) .nil fun _ _ h0 _=>?_
 refine C4 h0 (O.g_len _) fun _ k7=>?_
 (refine Zz ?_;intros)
 refine o7 hLi (o8 3 7628140) (r:=.a (sg (s8,o8 3 7628140))) rfl (.k (.s _ _ _ rfl rfl) .nil) .nil fun _ _ h0 _=>?_
 refine C4 h0 rfl fun _ k8=>?_
 (refine Zz ?_;intros)
 refine o7 hS (s8,o8 3 7628140) (r:=.a (O.sy (s8,o8 3 7628140)).g) rfl (.k (.a _ _ _ rfl aS) .nil) .nil fun _ _ h0 _=>?_
 refine C4 h0 (O.g_len _) fun _ k9=>?_
 (refine Zz ?_;intros)
 refine o7 hF ⟨bTu r,(fb dE hr).1,by have:=(fb dE hr).2;omega⟩ (r:=.a (z6 (bTu r)).g) rfl (.k (.a _ _ _ (T.g_len _).symm aS) .nil) .nil fun _ _ h0 _=>?_
 refine C4 h0 (O.g_len _) fun _ k10=>?_
 (refine Zz ?_;intros)
 refine o7 hL ⟨[.sy (s8,o8 3 7628140),u7 (J2 (F5 (ltL s t))),z6 (bTu r)],show 3 < 90000 by decide⟩ (r:=.a (a5k (ltL s t) (bTu r)).g) rfl (.k (.sl _ _ _ _ _ rfl (f9x k9 aS k10)) .nil) .nil fun _ _ h0 _=>?_
 refine C4 h0 (O.g_len _) fun _ k11=>?_
 (refine Zz ?_;intros)
 obtain ⟨i1,i2,i3,i4⟩:=e81 hr hs ht
 refine o7 hTr ⟨(d1z,ltL s t,bTu r),g4s hr hs ht,e9q hr hs ht,i1,i2,i3⟩ (r:=.t [.a (C7 (ltL s t) (bTu r)).g,.c (.i .i64 0)]) rfl (.k (.sl _ _ _ _ _ (by simp [d1z,H2]) aS) (.k (.sl0 _ _ _) oA)) .nil fun _ _ _ _=>?_
 (refine Zz ?_;intros)
 refine C4 aS (T.g_len _) fun _ _=>?_
 (refine Zz ?_;intros)
 refine o7 hEn ⟨l,oM,fun r hr=>(Raw.few_ok (hLk.2 r hr)).1⟩ (r:=.sl 9 ((X3 l).map bd)) rfl (.k (.sl _ _ _ _ _ (by simp) aS) .nil) .nil fun _ _ _ _=>?_
 (refine Zz ?_;intros)
 have hoE:=e93 hl
 have hlE:=e8s l
 obtain ⟨n1,r1,e1,o1,_⟩:=a9l b5h 300 (bTu s) (X3 l) (fb dE hs).1 hoE
 obtain ⟨n2,r2,e2,o2,_⟩:=a9l b5h 300 (bTu t) (X3 l) (fb dE ht).1 hoE
 obtain ⟨m1,em1⟩:=b3b 300 r1
 refine o7 hEv ⟨H2,bTu s,X3 l,300,n1,r1,e1,by simp [H2,a1y],dE⟩ (r:=.t [.a (rO r1).g,.c (.i .i64 m1),.c (.i .i64 r1.2.1)]) (by show u9.ret (a7q 300 r1)=_;rw [em1]) (.k (.sl _ _ _ _ _ (by simp [H2]) aS) (.k (.a _ _ _ (T.g_len _).symm aS) (.k (.sl _ _ _ _ _ (by simp) aS) (.k (R0 rfl) .nil)))) .nil fun _ _ _ _=>?_
 (refine Zz ?_;intros)
 refine C4 aS (O.g_len _) fun _ _=>?_
 (refine Zz ?_;intros)
 obtain ⟨m2,em2⟩:=b3b 300 r2
 refine o7 hEv ⟨H2,bTu t,X3 l,300,n2,r2,e2,by simp [H2,a1y],dE⟩ (r:=.t [.a (rO r2).g,.c (.i .i64 m2),.c (.i .i64 r2.2.1)]) (by show u9.ret (a7q 300 r2)=_;rw [em2]) (.k (.sl _ _ _ _ _ (by simp [H2]) aS) (.k (.a _ _ _ (T.g_len _).symm aS) (.k (.sl _ _ _ _ _ (by simp) aS) (.k (R0 rfl) .nil)))) .nil fun _ _ _ _=>?_
 (refine Zz ?_;intros)
 refine C4 aS (O.g_len _) fun _ _=>?_
 (refine Zz ?_;with_reducible repeat' first|intro _|apply aI)
 ·have z1:=‹r1.2.1=0›
  have z2:=‹r2.2.1=0›
  have q1:rO r1=r1.1:=if_pos z1
  have q2:rO r2=r2.1:=if_pos z2
  refine g88 (n:=9) (xs:=[bd (v0,rO r1),bd (v1,rO r2)]) (ys:=(X3 l).map bd) (fun e=>by subst e;exact f9w (d0h (show u3 (sg B6[0]) _ 0 by assumption) aS) (d0h (show u3 (sg B6[1]) _ 0 by assumption) aS)) aS rfl (by simp) (by simp;omega) fun _ ht5=>?_
  rw [q1,q2] at ht5
  change u6 9 (((v0,r1.1) :: (v1,r2.1) :: X3 l).map bd) _ 0 at ht5
  (refine Zz ?_;intros)
  obtain ⟨n3,r3,e3,o3,_⟩:=a9l b5h 300 (bTu r) ((v0,r1.1) :: (v1,r2.1) :: X3 l) (fb dE hr).1 (e94 hoE oM (o1 z1) (o2 z2))
  obtain ⟨n4,r4,e4,o4,_⟩:=a9l b5h 3000 (C7 (ltL s t) (bTu r)) (X3 l) i4 hoE
  obtain ⟨m3,em3⟩:=b3b 300 r3
  refine o7 hEv ⟨H2,bTu r,((v0,r1.1) :: (v1,r2.1) :: X3 l),300,n3,r3,e3,by simp [H2,a1y],dE⟩ (r:=.t [.a (rO r3).g,.c (.i .i64 m3),.c (.i .i64 r3.2.1)]) (by show u9.ret (a7q 300 r3)=_;rw [em3]) (.k (.sl _ _ _ _ _ (by simp [H2]) aS) (.k (.a _ _ _ (T.g_len _).symm aS) (.k (.sl _ _ _ _ _ (by simp;omega) ht5) (.k (R0 rfl) .nil)))) .nil fun _ _ _ _=>?_
  (refine Zz ?_;intros)
  refine C4 aS (O.g_len _) fun _ _=>?_
  (refine Zz ?_;intros)
  obtain ⟨m4,em4⟩:=b3b 3000 r4
  refine o7 hEv ⟨H2,C7 (ltL s t) (bTu r),X3 l,3000,n4,r4,e4,by simp [H2,a1y],dE⟩ (r:=.t [.a (rO r4).g,.c (.i .i64 m4),.c (.i .i64 r4.2.1)]) (by show u9.ret (a7q 3000 r4)=_;rw [em4]) (.k (.sl _ _ _ _ _ (by simp [H2]) aS) (.k (.a _ _ _ (T.g_len _).symm aS) (.k (.sl _ _ _ _ _ (by simp) aS) (.k (R0 rfl) .nil)))) .nil fun _ _ _ _=>?_
  (refine Zz ?_;intros)
  refine C4 aS (O.g_len _) fun _ _=>?_
  (refine Zz ?_;with_reducible repeat' first|intro _|apply aI)
  ·have z3:=‹r3.2.1=0›
   have z4:=‹r4.2.1=0›
   have q3:rO r3=r3.1:=if_pos z3
   have q4:rO r4=r4.1:=if_pos z4
   have hpq:r3.1=r4.1:=by
    obtain ⟨x1,y1,w1⟩:=r1
    obtain ⟨x2,y2,w2⟩:=r2
    obtain ⟨x3,y3,w3⟩:=r3
    obtain ⟨x4,y4,w4⟩:=r4
    have z1:y1=0:=z1
    have z2:y2=0:=z2
    have z3:y3=0:=z3
    have z4:y4=0:=z4
    rw [z1] at e1
    rw [z2] at e2
    rw [z3] at e3
    rw [z4] at e4
    exact e0s e1 e2 e3 e4
   refine o7 hEq (rO r3,rO r4) (r:=.c (.b true)) (by show u9.ret (.c (.b (O.eqb (rO r3) (rO r4))))=_;rw [O.eqb_t.2 (by rw [q3,q4,hpq])]) (.k oV oA) .nil fun _ _ _ _=>?_
   (refine Zz ?_;intros)
   exact p9 ⟨.ret _ _ (.b _),.nil⟩
  all_goals exact p9 ⟨.ret _ _ (.kn _),.nil⟩
 all_goals exact p9 ⟨.ret _ _ (.kn _),.nil⟩
end
end Go.Proofs.YtkojildpddaccaaGreatDoor
