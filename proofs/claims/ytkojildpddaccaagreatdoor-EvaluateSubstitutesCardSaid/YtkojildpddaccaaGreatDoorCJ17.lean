/- The program's check of objects, over objects with short parts; what the built-in functions of one argument give is valid. -/
import Derived.Test.YtkojildpddaccaaGreatDoorCJ16
set_option linter.all false
namespace Go.Proofs.YtkojildpddaccaaGreatDoor
open Go.Abs LQ
set_option maxRecDepth 100000
set_option maxHeartbeats 4000000
noncomputable section
theorem v8.via {g:FuncId} {sp sp':Sp} (h:v8 g sp) (f:sp'.ι→sp.ι) (e:∀ i,sp'.A i=sp.A (f i)∧sp'.B i=sp.B (f i)∧sp'.R i=sp.R (f i)∧sp'.B' i=sp.B' (f i)):v8 g sp':=fun i vs bs hv hb=>by
 obtain ⟨e1,e2,e3,e4⟩:=e i;rw [e1] at hv;rw [e2] at hb;rw [e3,e4];exact h (f i) vs bs hv hb
def O7:O→Ob
 | .num n d=>⟨1,s4 n,s8 d,([],[]),[],.nil⟩
 | .sy s=>⟨2,[],[],s,[],.nil⟩
 | .tx t=>⟨3,[],[],([],[]),t,.nil⟩
 | .co a d=>⟨4,[],[],([],[]),[],.node (O7 a).k (O7 a).nu (O7 a).de (O7 a).s (O7 a).t (O7 a).ps (.node (O7 d).k (O7 d).nu (O7 d).de (O7 d).s (O7 d).t (O7 d).ps .nil)⟩
 | .no=>⟨0,[],[],([],[]),[],.nil⟩
theorem c09 (a d:O):(O7 (.co a d)).ps.obs=[O7 a,O7 d]:=rfl
theorem d4a:∀ o:O,(O7 o).g=o.g
 | .num _ _=>rfl
 | .sy _=>rfl
 | .tx _=>rfl
 | .no=>rfl
 | .co a d=>by
  rw [Ob.g_eq,c09,List.map_cons,List.map_cons,d4a a,d4a d];rfl
theorem c7k:∀ o:O,(O7 o).nd=o.size
 | .num _ _=>rfl
 | .sy _=>rfl
 | .tx _=>rfl
 | .no=>rfl
 | .co a d=>by rw [Ob.nd_eq,c09];simp only [];rw [c7k a,c7k d];rfl
theorem b2q (s:u5):L6 s=a2o s:=by
 unfold L6 a2o;by_cases h:(s3 s).natAbs=0
 ·rw [h,C7];rfl
 ·rw [X3 _ h,F2 h];simp
theorem c9s (n:Int) (d:Nat):a19 (s4 n) (s8 d)=(O.num n d).fm:=by
 unfold a19;rw [b1x,a4t,← b2q,← b2q,Bool.true_and,Bool.true_and,Bool.eq_iff_iff];simp only [O.fm,Bool.and_eq_true,decide_eq_true_iff];constructor
 ·rintro ⟨⟨h1,h2⟩,h3⟩;exact ⟨h3,h1,h2⟩
 ·rintro ⟨h3,h1,h2⟩;exact ⟨⟨h1,h2⟩,h3⟩
theorem c7j:∀ o:O,(O7 o).fm=o.fm
 | .num n d=>by
  rw [c0t (o:=O7 (.num n d)) rfl,← c9s];simp [J4,O7,RT.obs]
 | .sy s=>by
  rw [b6r (o:=O7 (.sy s)) rfl];simp [J4,O7,RT.obs,O.fm]
 | .tx t=>by
  rw [c0u (o:=O7 (.tx t)) rfl,Bool.eq_iff_iff];simp [J4,O7,RT.obs,O.fm];exact decide_eq_true_iff
 | .co a d=>by
  rw [b8q (c09 a d) rfl,c7j a,c7j d];simp [J4,O7,O.fm]
 | .no=>by
  rw [e1z (o:=O7 .no) dE dE dE dE];rfl
theorem lt8:(0:Nat) < 8000:=dE
theorem lt9:(0:Nat) < 90000:=dE
theorem a9j:∀ {o:O},o.fm=true→(O7 o).sm
 | .num n d,h=>by
  have h:=b8p h;exact ⟨⟨by show (s4 n).length < 8000;omega,by show (s8 d).length < 8000;omega,lt9,lt9⟩,trivial⟩
 | .sy s,h=>by
  have h1:(O.sy s).sm:=b0v h;exact ⟨⟨lt8,lt8,by show s.1.length < 90000;have:=h1.1;omega,by show s.2.length < 90000;have:=h1.2;omega⟩,trivial⟩
 | .tx t,h=>by
  have h:t.length≤200:=by simpa [O.fm] using h
  exact ⟨⟨lt8,lt8,lt9,lt9⟩,trivial⟩
 | .co a d,h=>by
  have h:a.fm=true∧d.fm=true:=by simpa [O.fm] using h
  have a2:=a9j h.1;have d2:=a9j h.2;exact ⟨⟨lt8,lt8,lt9,lt9⟩,a2.1,a2.2,d2.1,d2.2,trivial⟩
 | .no,h=>by cases h
def g5s:Sp where
 ι:={ o:O // (O7 o).sm }
 A o:=[.a o.1.g]
 B _:=[]
 R o:=.ret (.c (.b (decide (o.1.size≤3000) && o.1.fm)))
 B' _:=[]
 inj i j vs bs h k _ _:=by rw [c44 h k];exact ⟨rfl,rfl⟩
theorem e73:v8 128 g5s:=(d06 kIS).via (fun o=>⟨O7 o.1,o.2⟩) fun o=>⟨by show [GV.a o.1.g]=[GV.a (O7 o.1).g];rw [d4a],rfl,by
 show _=z8.ret (.c (.b (O7 o.1).vd));unfold Ob.vd;rw [c7k,c7j];rfl,rfl⟩
theorem g4f (n:Int) (d:Nat):(O.num n d).fm=(decide (qn n d=(n,d)) && decide (L6 (s4 n)≤100) && decide (L6 (s8 d)≤100)):=by
 rw [Bool.eq_iff_iff];simp only [O.fm,Bool.and_eq_true,decide_eq_true_iff];constructor
 ·rintro ⟨h1,h2,h3⟩;rw [O9,u2,B3] at h1;injection h1 with k1 k2;exact ⟨⟨Prod.ext (R4 k1) (P1 k2),h2⟩,h3⟩
 ·rintro ⟨⟨h1,h2⟩,h3⟩;refine ⟨?_,h2,h3⟩;rw [O9,u2,B3,h1]
theorem e69 (n:Nat):L6 (s8 n)=max 1 (t8 n).length:=by
 unfold L6;rw [B3,Int.natAbs_natCast]
theorem e68 (n:Int):L6 (s4 n)=max 1 (t8 n.natAbs).length:=by
 unfold L6;rw [u2]
def dgs (n:Nat):Prop:=(t8 n).length≤100
theorem b8c {m n:Nat} (h:m≤n) (k:dgs n):dgs m:=Nat.le_trans (D8 h) k
theorem b4g:dgs 1:=by unfold dgs;rw [F2 dE,show 1 / 10=0 from rfl,C7];decide
theorem b8o (n:Int) (d:Nat):(O.num n d).fm=true↔qn n d=(n,d)∧dgs n.natAbs∧dgs d:=by
 rw [g4f,e68,e69];simp only [Bool.and_eq_true,decide_eq_true_iff];unfold dgs;constructor
 ·rintro ⟨⟨h1,h2⟩,h3⟩;exact ⟨h1,oM,oM⟩
 ·rintro ⟨h1,h2,h3⟩;exact ⟨⟨h1,oM⟩,oM⟩
theorem c4m {x y:Int} (hx:dgs x.natAbs) (hy:dgs y.natAbs):(K2 (qn x y)).fm=true:=by
 obtain ⟨h1,h2⟩:=d4p x y;refine (b8o _ _).2 ⟨e5z x y,b8c h1 hx,?_⟩;rcases Nat.le_total 1 y.natAbs with h | h
 ·exact b8c oM hy
 ·exact b8c (n:=1) oM b4g
theorem c2i {n:Nat} (h:n < 1000000000):dgs n:=by
 have h1:=a4v n;have h2:(s8 n).length≤11:=by rw [← a2v];exact M8 oM
 unfold dgs;omega
theorem d6u {n:Int} (h:n.natAbs < 1000000000):(O.num n 1).fm=true:=(b8o _ _).2 ⟨a9t n,c2i h,b4g⟩
theorem e5h {a:O} (h:a.fm=true):dgs a.na.natAbs∧dgs a.da:=by
 cases a with
 | num n d=>exact ((b8o n d).1 h).2
 | _=>exact ⟨c2i (by show (0:Int).natAbs < _;decide),b4g⟩
theorem f3z {a:O} (h:ok a):(b06 a).fm=true:=by
 rw [d1m h];have:=a9q h;have h2:=e5h h.2;exact (b8o _ _).2 ⟨d72 this.1 this.2,by rw [Int.natAbs_neg];exact h2.1,h2.2⟩
theorem b6o (x:Int) {n:Nat} (hn:0 < n):(x.fdiv n).natAbs≤x.natAbs:=by
 have h5:=Nat.div_le_self x.natAbs n;by_cases hx:x < 0
 ·by_cases hr:x.natAbs % n=0
  ·rw [(c4k hn hx hr).1];generalize x.natAbs / n=q at *;omega
  ·rw [(c4j hn hx (Nat.pos_of_ne_zero hr)).1];have h2:2≤n:=by
    rcases Nat.lt_or_ge n 2 with h | h
    ·exfalso;have:n=1:=oM;subst this;rw [Nat.mod_one] at hr;exact hr rfl
    ·exact h
   have h3:x.natAbs / n≤x.natAbs / 2:=Nat.div_le_div_left h2 dE;generalize x.natAbs / n=q at *;omega
 ·rw [(c4l hn hx).1];generalize x.natAbs / n=q at *;omega
theorem f4a {a:O} (h:a.fm=true):(O.tx a.sym.1).fm=true∧(O.tx a.sym.2).fm=true:=by
 cases a with
 | sy s =>
  change named s=true at h;unfold named V5 at h;simp only [Bool.and_eq_true,decide_eq_true_eq] at h;exact ⟨decide_eq_true (by show s.1.length≤200;omega),decide_eq_true (by show s.2.length≤200;omega)⟩
 | _=>exact ⟨rfl,rfl⟩
theorem b2y:F6.fm=true:=kR
theorem c6u (b:Bool):(G0 b).fm=true:=by cases b <;> kernel_rfl
theorem f4j {c:Prop} [Decidable c] {x y:O} (h:c→x.fm=true) (k:¬c→y.fm=true):(if c then x else y).fm=true:=by
 split
 ·exact h ‹_›
 ·exact k ‹_›
theorem e7j {o:O} (h:o.fm=true):(b6f o).fm=true∧(b6g o).fm=true:=by
 cases o with
 | co a d =>
  have h:a.fm=true∧d.fm=true:=by simpa [O.fm] using h
  exact h
 | _=>exact ⟨b2y,b2y⟩
theorem a4p:∀ {l:List (u5 × Int)} {s:u5} {n:Int},N4 l s=some n→(s,n) ∈ l
 | p :: l,s,n,h=>by
  unfold N4 at h;split at h
  ·rename_i e;injection h with h;subst e;subst h;exact List.mem_cons_self
  ·exact List.mem_cons_of_mem _ (a4p h)
theorem e8e {s:u5} {a:O} (hs:N4 K5 s=some 1) (h:ok a):(H0 s a).fm=true:=by
 have hn:=e5h h.2;have hd:0 < a.da:=(a9q h).2;have hst:=a2b h.2;have hsy:=f4a h.2;have hh:=e7j h.2;unfold H0
 repeat' (apply f4j <;> intro _)
 all_goals first
  | exact c6u _
  | exact b2y
  | exact hh.1
  | exact hh.2
  | exact hsy.1
  | exact hsy.2
  | exact f3z h
  | exact d6u oM
  | exact c4m hn.1 b4g
  | exact c4m (by rw [Int.natAbs_natCast];exact hn.2) b4g
  | exact c4m (b8c (b6o _ hd) hn.1) b4g
  | exact c4m (by rw [Int.natAbs_natCast];exact hn.2) hn.1
  | rfl
  | skip
 exfalso;have hm:=a4p hs;simp only [K5,List.mem_cons,List.not_mem_nil,or_false,Prod.mk.injEq] at hm;rcases hm with ⟨rfl,h⟩ | ⟨rfl,h⟩ | ⟨rfl,h⟩ | ⟨rfl,h⟩ | ⟨rfl,h⟩ | ⟨rfl,h⟩ | ⟨rfl,h⟩ | ⟨rfl,h⟩ | ⟨rfl,h⟩ | ⟨rfl,h⟩ | ⟨rfl,h⟩ | ⟨rfl,h⟩ | ⟨rfl,h⟩ | ⟨rfl,h⟩ | ⟨rfl,h⟩ | ⟨rfl,h⟩ | ⟨rfl,h⟩ | ⟨rfl,h⟩ | ⟨rfl,h⟩ | ⟨rfl,h⟩ | ⟨rfl,h⟩ | ⟨rfl,h⟩ | ⟨rfl,h⟩ | ⟨rfl,h⟩ | ⟨rfl,h⟩
 all_goals first
  | contradiction
  | (revert h;decide)
def g5k:Sp where
 ι:={ p:Int × Nat // (s4 p.1).length < 8000∧(s8 p.2).length < 8000∧0 < p.2 }
 A p:=[.c (.s (s4 p.1.1)),.c (.s (s8 p.1.2))]
 B _:=[]
 R p:=.ret (.t [.c (.s (s4 (p.1.1.fdiv p.1.2))),.c (.s (s4 (p.1.1.fmod p.1.2)))])
 B' _:=[]
 inj i j vs bs h k _ _:=by
  obtain ⟨_,_,h1,k1,h,k⟩:=h.two k;obtain ⟨_,_,h2,k2,h,k⟩:=h.two k;rw [R4 (T2 h1 k1),P1 (T2 h2 k2)];exact ⟨rfl,rfl⟩
theorem g0e {U:C3} {P:K0→List Bx→Prop} {gs:List G} [NX gs] {b:Bx} {n:Nat} {K:Q→Om} (hv:U=CU→RB gs b) (hn:gs.length=n) (h:∀ x,A7 gs x 0→t6 U (K x) P):t6 U (U.uBo n b K) P:=fun e=>Y8 (hv e) hn h e
theorem e5s:B8 1=[[.i .u32 1]]:=by
 have:u3 1=[1]:=by rw [W9 dE,show 1 / B9=0 from by decide,H6];rfl
 rw [B8,this];rfl
theorem g0t {neg:Bool} {n:Nat} {z:Int} (h:z=if neg then -(n:Int) else n):L1 neg n=s4 z:=by
 rw [b9t,h]
theorem g4m:v8 228 g5k:=A8 (fun fn h=>d12 h) [(256,_),(262,_),(265,_),(266,_),(267,_),(257,_)] (.cons a9o (.cons a1x (.cons b6u (.cons d68 (.cons c03 (.cons kIS .nil)))))) fun U fn hfn ⟨(x,d),hxl,hdl,hd0⟩ vs bs hv hb=>by
 have hp:=hfn 256 _ rfl;have hs:=hfn 257 _ rfl;have hxl:(s4 x).length < 8000:=hxl;have hdl:(s8 d).length < 8000:=hdl;have hd0:0 < d:=hd0;have hv:z7 [.c (.s (s4 x)),.c (.s (s8 d))] vs:=hv;have hb:u0 [] bs:=hb;show t6 U _ fun v bs'=>A3 (.ret (.t [.c (.s (s4 (x.fdiv d))),.c (.s (s4 (x.fmod d)))])) v∧u0 [] bs';have la:=a1d (s:=s4 x) oM;have lb:=a1d (s:=s8 d) oM;rw [u2] at la;rw [B3,Int.natAbs_natCast] at lb;unfold e3o;refine Zq ?_;intros;refine s6 hp ⟨s4 x,by show (s4 x).length < 90000;omega⟩ (r:=.a (J0 (decide (x < 0)) x.natAbs)) (by show z8.ret (.a (J0 (decide (s3 (s4 x) < 0)) (s3 (s4 x)).natAbs))=_;rw [u2]) z6 .nil fun _ _ hv1 _=>?_;have hv1:RV (.a [.b (decide (x < 0)),.l (B8 x.natAbs)]) _:=hv1;refine Zq ?_;intros;refine s6 hp ⟨s8 d,by show (s8 d).length < 90000;omega⟩ (r:=.a (J0 false d)) (by show z8.ret (.a (J0 (decide (s3 (s8 d) < 0)) (s3 (s8 d)).natAbs))=_;rw [B3,Int.natAbs_natCast,decide_eq_false oM]) z6 .nil fun _ _ hv2 _=>?_;have hv2:RV (.a [.b false,.l (B8 d)]) _:=hv2;have hq:(u3 (x.natAbs / d)).length≤(u3 x.natAbs).length:=Q2 (Nat.div_le_self _ _);have hr:(u3 (x.natAbs % d)).length≤(u3 d).length:=Q2 (Nat.le_of_lt (Nat.mod_lt _ hd0));have hly:(B8 d).length ≠ 0:=by
  intro e;simp only [B8,List.length_map,List.length_eq_zero_iff] at e;have:=b4r (e.trans H6.symm);omega
 have sg:∀ (b:Bool) (n:Nat) (z:Int),z=(if b then -(n:Int) else n)→z8.ret (.c (.s (L1 b n)))=.ret (.c (.s (s4 z))):=fun b n z h=>by rw [g0t h]
 refine Zq ?_;intros;refine a83 aS (b4q d) fun t off ht=>?_;(refine Zq ?_;with_reducible repeat' first|intro _|apply aI)
 ·exact absurd oM hly
 ·refine s6 (hfn 265 _ rfl) ⟨(x.natAbs,d),by show (u3 x.natAbs).length < 20000;omega,by show (u3 d).length < 20000;omega,by show d ≠ 0;omega,la,lb⟩ (r:=.t [.sl 1 (B8 (x.natAbs / d)),.sl 1 (B8 (x.natAbs % d))]) rfl (.k (V4 aS) (.k (V4 aS) .nil)) .nil fun _ _ _ _=>?_;(refine Zq ?_;with_reducible repeat' first|intro _|apply aI)
  ·have hx:x < 0:=by have h:(decide (x < 0) != false)=true:=aS
                     simpa using h
   have hneg:(decide (x < 0) != false)=true:=aS;refine Y8 (gs:=J0 true (x.natAbs / d)) (.cells _ _ (.k (by rw [hneg];exact .b _) (.k (.cl _ _ _ _ _ (by simp [B8]) aS) .nil))) rfl fun _ hc1=>?_;refine Zq ?_;intros;refine Y8 (gs:=J0 false (x.natAbs % d)) (.cells _ _ (.k (.q _ _ aS) (.k (.cl _ _ _ _ _ (by simp [B8]) aS) .nil))) rfl fun _ hc2=>?_;(refine Zq ?_;with_reducible repeat' first|intro _|apply aI)
   ·have hr0:0 < x.natAbs % d:=by
     rcases Nat.eq_zero_or_pos (x.natAbs % d) with h | h
     ·exfalso;have h0:0 < (((u3 (x.natAbs % d)).length:Nat):Int):=aS;rw [h,H6] at h0;simp at h0
     ·exact h
    obtain ⟨e1,e2⟩:=c4j hd0 hx hr0;have hm1:=Nat.mod_lt x.natAbs hd0;have lq:(u3 (x.natAbs / d+1)).length≤(u3 x.natAbs).length:=Q2 (by have:=b6o x hd0;rw [e1] at this;omega);have l1:(u3 1).length≤1:=d09 dE;have lr:=Q2 (y:=d - x.natAbs % d) (x:=d) oM;refine s6 (hfn 266 _ rfl) ⟨(x.natAbs / d,1),by show (u3 (x.natAbs / d)).length < 20000;omega,by show (u3 1).length < 20000;omega,by show (u3 (x.natAbs / d)).length < 19990;omega,by show (u3 1).length < 19990;omega⟩ (r:=.sl 1 (B8 (x.natAbs / d+1))) rfl (.k (.sl _ _ _ _ _ (by simp [B8]) aS) (.k (.sl _ _ _ _ _ (by rw [e5s];rfl) (by rw [e5s];exact e3y (d:=1))) .nil)) .nil fun _ _ _ _=>?_;refine Zq ?_;intros;refine s6 (hfn 267 _ rfl) ⟨(d,x.natAbs % d),by show (u3 d).length < 20000;omega,by show (u3 (x.natAbs % d)).length < 20000;omega,by show x.natAbs % d≤d;omega⟩ (r:=.sl 1 (B8 (d - x.natAbs % d))) rfl (.k (V4 aS) (.k (.sl _ _ _ _ _ (by simp [B8]) aS) .nil)) .nil fun _ _ _ _=>?_;refine Zq ?_;intros;refine g0e (gs:=J0 true (x.natAbs / d+1)) (fun e9=>.cells _ _ (.k (rgQ e9 hc1 rfl) (.k (.cl _ _ _ _ _ (by simp [B8]) aS) .nil))) rfl fun _ hc3=>?_;refine Zq ?_;intros;refine g0e (gs:=J0 false (d - x.natAbs % d)) (fun e9=>.cells _ _ (.k (rgQ e9 hc2 rfl) (.k (.cl _ _ _ _ _ (by simp [B8]) aS) .nil))) rfl fun _ hc4=>?_;refine Zq ?_;intros;refine s6 hs ⟨(true,x.natAbs / d+1),by show (u3 (x.natAbs / d+1)).length < 20000;omega⟩ (r:=.c (.s (s4 (x.fdiv d)))) (sg _ _ _ (by rw [e1];rfl)) (.k (.a _ _ _ rfl aS) .nil) .nil fun _ _ _ _=>?_;refine Zq ?_;intros;refine s6 hs ⟨(false,d - x.natAbs % d),by show (u3 (d - x.natAbs % d)).length < 20000;omega⟩ (r:=.c (.s (s4 (x.fmod d)))) (sg _ _ _ (by rw [e2];rfl)) (.k (.a _ _ _ rfl aS) .nil) .nil fun _ _ _ _=>?_;refine Zq ?_;intros;exact s9 ⟨.ret _ _ z6,.nil⟩
   ·have hr0:x.natAbs % d=0:=by
     rcases Nat.eq_zero_or_pos (x.natAbs % d) with h | h
     ·exact h
     ·exfalso;have h0:¬0 < (((u3 (x.natAbs % d)).length:Nat):Int):=aS;rw [W9 oM] at h0;simp at h0
    obtain ⟨e1,e2⟩:=c4k hd0 hx hr0;refine s6 hs ⟨(true,x.natAbs / d),by show (u3 (x.natAbs / d)).length < 20000;omega⟩ (r:=.c (.s (s4 (x.fdiv d)))) (sg _ _ _ (by rw [e1];rfl)) (.k (.a _ _ _ rfl aS) .nil) .nil fun _ _ _ _=>?_;refine Zq ?_;intros;refine s6 hs ⟨(false,x.natAbs % d),by show (u3 (x.natAbs % d)).length < 20000;omega⟩ (r:=.c (.s (s4 (x.fmod d)))) (sg _ _ _ (by rw [e2];rfl)) (.k (.a _ _ _ rfl aS) .nil) .nil fun _ _ _ _=>?_;refine Zq ?_;intros;exact s9 ⟨.ret _ _ z6,.nil⟩
  ·have hx:¬x < 0:=by
    have h:¬(decide (x < 0) != false)=true:=aS;simpa using h
   have hneg:(decide (x < 0) != false)=false:=by rw [decide_eq_false hx];rfl
   obtain ⟨e1,e2⟩:=c4l hd0 hx;refine Y8 (gs:=J0 false (x.natAbs / d)) (.cells _ _ (.k (by rw [hneg];exact .b _) (.k (.cl _ _ _ _ _ (by simp [B8]) aS) .nil))) rfl fun _ hc1=>?_;refine Zq ?_;intros;refine Y8 (gs:=J0 false (x.natAbs % d)) (.cells _ _ (.k (.q _ _ aS) (.k (.cl _ _ _ _ _ (by simp [B8]) aS) .nil))) rfl fun _ hc2=>?_;refine Zq ?_;intros;refine s6 hs ⟨(false,x.natAbs / d),by show (u3 (x.natAbs / d)).length < 20000;omega⟩ (r:=.c (.s (s4 (x.fdiv d)))) (sg _ _ _ (by rw [e1];rfl)) (.k (.a _ _ _ rfl aS) .nil) .nil fun _ _ _ _=>?_;refine Zq ?_;intros;refine s6 hs ⟨(false,x.natAbs % d),by show (u3 (x.natAbs % d)).length < 20000;omega⟩ (r:=.c (.s (s4 (x.fmod d)))) (sg _ _ _ (by rw [e2];rfl)) (.k (.a _ _ _ rfl aS) .nil) .nil fun _ _ _ _=>?_;refine Zq ?_;intros;exact s9 ⟨.ret _ _ z6,.nil⟩
theorem d05:v8 162 (spB fun b=>.a (G0 b).g):=A8 (fun fn h=>e9l h) [(111,_),(160,_)] (.cons kTP (.cons c4o .nil)) fun U fn hfn b vs bs hv hb=>by
 have hv:z7 [.c (.b b)] vs:=hv;have hb:u0 [] bs:=hb;show t6 U _ fun v bs'=>A3 (.ret (.a (G0 b).g)) v∧u0 [] bs';unfold f6y;(refine Zx ?_;with_reducible repeat' first|intro _|apply aI)
 ·have e:b=true:=‹_›;subst e;refine s6 (hfn 111 _ rfl) () (r:=.a tO.g) rfl .nil .nil fun _ _ _ _=>?_;refine Zx ?_;intros;exact s9 ⟨.ret _ _ z6,.nil⟩
 ·have e:b=false:=Bool.eq_false_iff.2 ‹¬b=true›;subst e;refine s6 (hfn 160 _ rfl) () (r:=.a F6.g) rfl .nil .nil fun _ _ _ _=>?_;refine Zx ?_;intros;exact s9 ⟨.ret _ _ z6,.nil⟩
theorem c02:v8 220 (spO fun a=>.c (.b a.isInt)):=A8 (fun fn h=>f0d h) [] .nil fun U fn hfn a vs bs hv hb=>by
 have hv:z7 [.a a.g] vs:=hv;have hb:u0 [] bs:=hb;show t6 U _ fun v bs'=>A3 (.ret (.c (.b a.isInt))) v∧u0 [] bs';unfold f7t;rw [a.g_eq] at hv;cases a with
 | num n d =>
  simp only [O.k,O.nu,O.de,O.sym,O.txt,O.ps] at hv;(refine Zx ?_;with_reducible repeat' first|intro _|apply aI)
  all_goals try (exfalso;omega)
  refine P0 fun e=>?_;subst e;refine ⟨.ret _ _ (rvB ?_),.nil⟩;rw [b2m];have e1:s5 1 49=s8 1:=by rw [R6];rfl
  rw [e1];show decide (d=1)=_;by_cases h:d=1
  ·rw [h];simp
  ·have:¬s8 d=s8 1:=fun k=>h (P1 k);simp [h,this]
 | _ =>
  simp only [O.k,O.nu,O.de,O.sym,O.txt,O.ps] at hv;(refine Zx ?_;with_reducible repeat' first|intro _|apply aI)
  all_goals try (exfalso;omega)
  all_goals exact s9 ⟨.ret _ _ (T6 rfl),.nil⟩
def e5k (o:O) (b:Bool):O:=if b then b6g o else b6f o
def h0n:Sp where
 ι:=O × Bool
 A p:=[.a p.1.g,.c (.i .i64 (if p.2 then 1 else 0))]
 B _:=[]
 R p:=.ret (.a (e5k p.1 p.2).g)
 B' _:=[]
 inj i j vs bs h k _ _:=by
  obtain ⟨_,_,h1,k1,h,k⟩:=h.two k;obtain ⟨_,_,h2,k2,h,k⟩:=h.two k;have e1:=O.g_inj (h1.a_inj k1);have e2:=b4l h2 k2;have e3:i.2=j.2:=by revert e2;cases i.2 <;> cases j.2 <;> simp
  rw [e1,e3];exact ⟨rfl,rfl⟩
theorem g4p:v8 224 h0n:=A8 (fun fn h=>f0h h) [(160,_)] (.cons c4o .nil) fun U fn hfn ⟨o,b⟩ vs bs hv hb=>by
 change z7 [.a o.g,.c (.i .i64 (if b then 1 else 0))] vs at hv;change u0 [] bs at hb;show t6 U _ fun v bs'=>A3 (.ret (.a (e5k o b).g)) v∧u0 [] bs';unfold f7x;rw [o.g_eq] at hv;cases o with
 | co x y =>
  simp only [O.k,O.nu,O.de,O.sym,O.txt,O.ps] at hv;cases b <;> simp only [Bool.false_eq_true,if_false,if_true] at hv
  ·(refine Zz ?_;with_reducible repeat' first|intro _|apply aI)
   ·exact s9 ⟨.ret _ _ oV,.nil⟩
   ·exact absurd (by rfl) ‹¬(([x,y].length:Nat):Int)=2›
  ·(refine Zz ?_;with_reducible repeat' first|intro _|apply aI)
   ·exact s9 ⟨.ret _ _ oV,.nil⟩
   ·exact absurd (by rfl) ‹¬(([x,y].length:Nat):Int)=2›
 | _ =>
  simp only [O.k,O.nu,O.de,O.sym,O.txt,O.ps] at hv;cases b <;> simp only [Bool.false_eq_true,if_false,if_true] at hv <;> (refine Zz ?_;with_reducible repeat' first|intro _|apply aI)
  all_goals
   refine s6 (hfn 160 _ rfl) () (r:=.a F6.g) rfl .nil .nil fun _ _ _ _=>?_;refine Zz ?_;intros;exact s9 ⟨.ret _ _ oV,.nil⟩
def O.nuT:O→u5
 | .num n _=>s4 n
 | _=>[]
theorem d1g (o:O):s3 o.nuT=o.na:=by
 cases o with
 | num n d=>exact u2 n
 | _=>rfl
theorem d1f {o:O} (h:ok o):o.nuT.length < 90000:=by
 have:=(O4 h).1;cases o with
 | num n d=>show (s4 n).length < 90000;exact Nat.lt_of_le_of_lt this dE
 | _=>exact Nat.zero_lt_succ _
theorem d1e (o:O):o.g[1]?=some (.s o.nuT):=by rw [o.g_eq];cases o <;> rfl
def g5p:Sp where
 ι:={ p:O × O // ok p.1∧ok p.2 }
 A p:=[.a p.1.1.g,.a p.1.2.g]
 B _:=[]
 R p:=.ret (.t [.c (.i .i64 (if p.1.1.isTx=true∧p.1.2.isInt=true then (F4 p.1.2.na).1 else 0)),.c (.b (a1w p.1.1 p.1.2).2)])
 B' _:=[]
 inj i j vs bs h k _ _:=by obtain ⟨e1,e2⟩:=b7v h k;rw [e1,e2];exact ⟨rfl,rfl⟩
theorem d61 {x o:O} (h:¬(x.isTx=true∧o.isInt=true)):(a1w x o).2=false:=by
 cases x with
 | tx t =>
  rw [c00,if_neg (fun k=>h ⟨rfl,k.1⟩)]
 | _=>rfl
theorem f4f {t:u5} {o:O} (h:o.isInt=true):(a1w (.tx t) o).2=((F4 o.na).2 && decide (0≤(F4 o.na).1∧(F4 o.na).1 < t.length)):=by
 rw [c00];unfold F4;by_cases h9:9 < (t8 o.na.natAbs).length
 ·rw [if_pos h9,if_neg oM];rfl
 ·rw [if_neg h9];by_cases hc:0≤o.na∧o.na < t.length
  ·rw [if_pos ⟨h,oM,hc⟩];simp [hc]
  ·rw [if_neg (fun k=>hc k.2.2)];simp [hc]
theorem e7t:v8 159 g5p:=A8 (fun fn h=>e9i h) [(220,_),(221,_)] (.cons c02 (.cons d03 .nil)) fun U fn hfn ⟨(x,o),hx,ho⟩ vs bs hv hb=>by
 have hi:=hfn 220 _ rfl;change z7 [.a x.g,.a o.g] vs at hv;change u0 [] bs at hb;have ho:ok o:=ho;have hnl:=d1f ho;show t6 U _ fun v bs'=>A3 (.ret (.t [.c (.i .i64 (if x.isTx=true∧o.isInt=true then (F4 o.na).1 else 0)),.c (.b (a1w x o).2)])) v∧u0 [] bs';unfold f6v;rw [x.g_eq] at hv;cases x with
 | tx t =>
  simp only [O.k,O.nu,O.de,O.sym,O.txt,O.ps] at hv;cases hoi:o.isInt with
  | false =>
   refine Zz ?_;intros;refine oR fun _ _=>?_;refine Zz ?_;intros;refine s6 hi o (r:=.c (.b false)) (by show z8.ret (.c (.b o.isInt))=_;rw [hoi]) oA .nil fun _ _ _ _=>?_;refine Zz ?_;intros;rw [d61 (x:=.tx t) (by rw [hoi];simp),if_neg (by simp)];exact s9 ⟨.ret _ _ (.t _ _ (.k (.i _ _) (.k (.kn _) .nil))),.nil⟩
  | true =>
   refine Zz ?_;intros;refine oR fun _ _=>?_;refine Zz ?_;intros;refine s6 hi o (r:=.c (.b true)) (by show z8.ret (.c (.b o.isInt))=_;rw [hoi]) oA .nil fun _ _ _ _=>?_;refine Zz ?_;intros;refine T3 (gs:=o.g) (g:=.s o.nuT) aS (d1e o) fun _ _=>?_;refine s6 (hfn 221 _ rfl) ⟨o.nuT,hnl⟩ (r:=.t [.c (.i .i64 (F4 o.na).1),.c (.b (F4 o.na).2)]) (by show z8.ret (.t [.c (.i .i64 (F4 (s3 o.nuT)).1),.c (.b (F4 (s3 o.nuT)).2)])=_;rw [d1g]) z6 .nil fun _ _ _ _=>?_;rw [f4f hoi,if_pos ⟨rfl,rfl⟩];generalize F4 o.na=z at *;obtain ⟨z1,z2⟩:=z;cases z2 with
   | false =>
    refine Zz ?_;intros;exact s9 ⟨.ret _ _ (.t _ _ (.k (.i _ _) (.k (.kn _) .nil))),.nil⟩
   | true =>
    (refine Zz ?_;with_reducible repeat' first|intro _|apply aI)
    ·refine P0 fun e9=>⟨.ret _ _ (.t _ _ (.k (.i _ _) (.k (rvB (by subst e9;rw [c5i,Bool.eq_iff_iff];simp only [Bool.true_and,decide_eq_true_iff] at *;omega)) .nil))),.nil⟩
    ·exact s9 ⟨.ret _ _ (.t _ _ (.k (.i _ _) (.k (T6 (by simp only [Bool.true_and] at *;exact decide_eq_false oM)) .nil))),.nil⟩
 | _ =>
  simp only [O.k,O.nu,O.de,O.sym,O.txt,O.ps] at hv;refine Zz ?_;intros;refine oR fun _ _=>?_;refine Zz ?_;intros;rw [d61 (by intro h;cases h.1),if_neg (by intro h;cases h.1)];exact s9 ⟨.ret _ _ (.t _ _ (.k (.i _ _) (.k (.kn _) .nil))),.nil⟩
theorem g5g {U:C3} {P:K0→List Bx→Prop} {k:IntKind} {n:Int} {K:Int→Om} (h:t6 U (K (CU.wr k n)) P):t6 U (U.fI (U.wr k n) K) P:=fun e=>by
 have:=h e;subst e;rw [T7];exact this
def a7h (a:O):Int:=CU.wr .u8 (F4 a.na).1
theorem f4o:v8 229 (e37 fun a=>.t [.c (.i .u8 (a7h a)),.c (.b (Y4 a).2)]):=A8 (fun fn h=>f0l h) [(221,_),(220,_)] (.cons d03 (.cons c02 .nil)) fun U fn hfn ⟨o,ho⟩ vs bs hv hb=>by
 have hi:=hfn 220 _ rfl;change z7 [.a o.g] vs at hv;change u0 [] bs at hb;have hnl:=d1f ho;show t6 U _ fun v bs'=>A3 (.ret (.t [.c (.i .u8 (a7h o)),.c (.b (Y4 o).2)])) v∧u0 [] bs';unfold f71;refine Zz ?_;intros;refine oR fun _ _=>?_;refine Zz ?_;intros;refine T3 (gs:=o.g) (g:=.s o.nuT) aS (d1e o) fun _ _=>?_;refine s6 (hfn 221 _ rfl) ⟨o.nuT,hnl⟩ (r:=.t [.c (.i .i64 (F4 o.na).1),.c (.b (F4 o.na).2)]) (by show z8.ret (.t [.c (.i .i64 (F4 (s3 o.nuT)).1),.c (.b (F4 (s3 o.nuT)).2)])=_;rw [d1g]) z6 .nil fun _ _ _ _=>?_;unfold a7h;have eo:(Y4 o).2=(o.isInt && (F4 o.na).2 && decide (0≤(F4 o.na).1∧(F4 o.na).1≤255)):=by
  unfold Y4 F4;by_cases h9:9 < (t8 o.na.natAbs).length
  ·rw [if_pos h9,if_neg oM];simp
  ·rw [if_neg h9];by_cases hc:o.isInt=true∧0≤o.na∧o.na≤255
   ·rw [if_pos ⟨hc.1,oM,hc.2⟩];simp [hc]
   ·rw [if_neg (fun k=>hc ⟨k.1,k.2.2⟩)];cases hoi:o.isInt with
    | false=>rfl
    | true=>rw [hoi] at hc;simp at hc ⊢;exact hc
 rw [eo];generalize F4 o.na=z at *;obtain ⟨z1,z2⟩:=z;refine Zz ?_;intros;refine g5g ?_;(refine Zz ?_;with_reducible repeat' first|intro _|apply aI);cases hoi:o.isInt with
 | false =>
  refine s6 hi o (r:=.c (.b false)) (by show z8.ret (.c (.b o.isInt))=_;rw [hoi]) oA .nil fun _ _ _ _=>?_;refine Zz ?_;intros;exact s9 ⟨.ret _ _ (.t _ _ (.k (.i _ _) (.k (.kn _) .nil))),.nil⟩
 | true =>
  refine s6 hi o (r:=.c (.b true)) (by show z8.ret (.c (.b o.isInt))=_;rw [hoi]) oA .nil fun _ _ _ _=>?_;cases z2 with
  | false =>
   refine Zz ?_;intros;exact s9 ⟨.ret _ _ (.t _ _ (.k (.i _ _) (.k (.kn _) .nil))),.nil⟩
  | true =>
   (refine Zz ?_;with_reducible repeat' first|intro _|apply aI)
   ·refine P0 fun e9=>⟨.ret _ _ (.t _ _ (.k (.i _ _) (.k (rvB (by subst e9;rw [e1d,Bool.eq_iff_iff];simp only [Bool.true_and,decide_eq_true_iff] at *;omega)) .nil))),.nil⟩
   ·exact s9 ⟨.ret _ _ (.t _ _ (.k (.i _ _) (.k (T6 (by simp only [Bool.true_and] at *;exact decide_eq_false oM)) .nil))),.nil⟩
def inO (a b:O):O:=if a.isTx=true∧b.isTx=true∧named (b.strT,a.strT)=true then O.sy (b.strT,a.strT) else F6
theorem e5l (a:O):a.k=3↔a.isTx=true:=by cases a <;> simp [O.k,O.isTx]
theorem a6c (a:O):a.txt=a.strT:=by cases a <;> rfl
theorem e2d:v8 158 (c4x fun a b=>.a (inO a b).g):=A8 (fun fn h=>e9h h) [(129,_),(160,_),(177,_)] (.cons (e74 kIS) (.cons c4o (.cons b0x .nil))) fun U fn hfn ⟨(a,b),ha,hbx⟩ vs bs hv hb=>by
 have hV:=hfn 129 _ rfl;change z7 [.a a.g,.a b.g] vs at hv;change u0 [] bs at hb;have ha:ok a:=ha;have hbx:ok b:=hbx;have la:=a2b ha.2;have lb:=a2b hbx.2;show t6 U _ fun v bs'=>A3 (.ret (.a (inO a b).g)) v∧u0 [] bs';unfold f6u;rw [a.g_eq,b.g_eq] at hv;rw [a6c,a6c] at hv;have ka:=e5l a;have kb:=e5l b;have hN:inO a b=F6→t6 U (U.bind (fn 160 [] []) (fun v64 w65=>U.uA 7 v64 fun x66=>U.uNilB w65 (U.fQ (U.subQ x66 0) fun x67=>some (.ret (.a x67 7),[]))) fun v68=>some (.pan (U.rn0 v68),[])) fun v bs'=>A3 (.ret (.a (inO a b).g)) v∧u0 [] bs':=fun ei=>by
  rw [ei];refine s6 (hfn 160 _ rfl) () (r:=.a F6.g) rfl .nil .nil fun _ _ _ _=>?_;refine Zz ?_;intros;exact s9 ⟨.ret _ _ oV,.nil⟩
 by_cases h1:a.k=3
 ·by_cases h2:b.k=3
  ·cases hnm:named (b.strT,a.strT) with
   | false =>
    have ei:inO a b=F6:=if_neg (fun k=>by rw [hnm] at k;cases k.2.2);(refine Zz ?_;with_reducible repeat' first|intro _|apply aI)
    all_goals try (exfalso;contradiction)
    refine s6 hV ⟨(b.strT,a.strT),by show b.strT.length < 90000;omega,by show a.strT.length < 90000;omega⟩ (r:=.c (.b false)) (by show z8.ret (.c (.b (named (b.strT,a.strT))))=_;rw [hnm]) (.k (.ag _ _ (.k (.q _ _ aS) (.k (.q _ _ aS) .nil))) .nil) .nil fun _ _ _ _=>?_;refine Zz ?_;intros;refine Y8 (gs:=[.s b.strT,.s a.strT]) (.cells _ _ (.k (.q _ _ aS) (.k (.q _ _ aS) .nil))) rfl fun _ _=>?_;refine Zz ?_;intros;exact hN ei
   | true =>
    have ei:inO a b=.sy (b.strT,a.strT):=if_pos ⟨ka.1 h1,kb.1 h2,hnm⟩;rw [ei];(refine Zz ?_;with_reducible repeat' first|intro _|apply aI)
    all_goals try (exfalso;contradiction)
    refine s6 hV ⟨(b.strT,a.strT),by show b.strT.length < 90000;omega,by show a.strT.length < 90000;omega⟩ (r:=.c (.b true)) (by show z8.ret (.c (.b (named (b.strT,a.strT))))=_;rw [hnm]) (.k (.ag _ _ (.k (.q _ _ aS) (.k (.q _ _ aS) .nil))) .nil) .nil fun _ _ _ _=>?_;refine Zz ?_;intros;refine Y8 (gs:=[.s b.strT,.s a.strT]) (.cells _ _ (.k (.q _ _ aS) (.k (.q _ _ aS) .nil))) rfl fun _ _=>?_;refine Zz ?_;intros;refine s6 (hfn 177 _ rfl) (b.strT,a.strT) (r:=.a (O.sy (b.strT,a.strT)).g) rfl (.k (.a _ _ _ rfl aS) .nil) .nil fun _ _ _ _=>?_;refine Zz ?_;intros;exact s9 ⟨.ret _ _ oV,.nil⟩
  ·have ei:inO a b=F6:=if_neg (fun k=>h2 (kb.2 k.2.1));(refine Zz ?_;with_reducible repeat' first|intro _|apply aI)
   all_goals try (exfalso;contradiction)
   refine Y8 (gs:=[.s b.strT,.s a.strT]) (.cells _ _ (.k (.q _ _ aS) (.k (.q _ _ aS) .nil))) rfl fun _ _=>?_;refine Zz ?_;intros;exact hN ei
 ·have ei:inO a b=F6:=if_neg (fun k=>h1 (ka.2 k.1));(refine Zz ?_;with_reducible repeat' first|intro _|apply aI)
  all_goals try (exfalso;contradiction)
  refine Y8 (gs:=[.s b.strT,.s a.strT]) (.cells _ _ (.k (.q _ _ aS) (.k (.q _ _ aS) .nil))) rfl fun _ _=>?_;refine Zz ?_;intros;exact hN ei
set_option maxHeartbeats 8000000
def h0t:Sp where
 ι:={ p:u5 × O // N4 K5 p.1=some 1∧ok p.2 }
 A p:=[.c (.s p.1.1),.a p.1.2.g]
 B _:=[]
 R p:=.ret (.a (H0 p.1.1 p.1.2).g)
 B' _:=[]
 inj i j vs bs h k _ _:=by
  obtain ⟨_,_,h1,k1,h,k⟩:=h.two k;obtain ⟨_,_,h2,k2,h,k⟩:=h.two k;have e1:i.1.1=j.1.1:=G.s.inj (h1.c_inj k1);have e2:=O.g_inj (h2.a_inj k2);rw [e1,e2];exact ⟨rfl,rfl⟩
theorem c40 {n:Int} (h:0≤n∧n≤255):wr .u8 n=n:=by
 rw [a2y];show n % 256=n;omega
theorem d5n {a:O} (h:(Y4 a).2=true):a7h a=(Y4 a).1:=by
 unfold a7h;unfold Y4 at h ⊢;split at h
 ·rename_i hc;rw [if_pos hc];have e:F4 a.na=(a.na,true):=by unfold F4;rw [if_neg oM]
  rw [e];exact c40 hc.2.2
 ·cases h
theorem e2r {s:u5} (hs:N4 K5 s=some 1) (n0:¬s=s5 3 7496035) (n1:¬s=s5 3 7496803) (n2:¬s=s5 5 482972954467) (n3:¬s=s5 7 31644423040104819) (n4:¬s=s5 7 31638921304765555) (n5:¬s=s5 9 2073844980909096591730) (n6:¬s=s5 8 8102650174351109737) (n7:¬s=s5 7 12716373585260149) (n8:¬s=s5 7 13279323538681461) (n9:¬s=s5 9 2110959975582353159534) (n10:¬s=s5 11 138343872958643594702251364) (n11:¬s=s5 5 491495844966) (n12:¬s=s5 11 122618043001006431572687219) (n13:¬s=s5 19 2261903658058535744205936875630873591400986995) (n14:¬s=s5 13 8275754203313416711865239762035):s=s5 11 125040764888893661906237794:=by
 have hm:=a4p hs;simp only [K5,List.mem_cons,List.not_mem_nil,or_false,Prod.mk.injEq] at hm;rcases hm with ⟨rfl,h⟩ | ⟨rfl,h⟩ | ⟨rfl,h⟩ | ⟨rfl,h⟩ | ⟨rfl,h⟩ | ⟨rfl,h⟩ | ⟨rfl,h⟩ | ⟨rfl,h⟩ | ⟨rfl,h⟩ | ⟨rfl,h⟩ | ⟨rfl,h⟩ | ⟨rfl,h⟩ | ⟨rfl,h⟩ | ⟨rfl,h⟩ | ⟨rfl,h⟩ | ⟨rfl,h⟩ | ⟨rfl,h⟩ | ⟨rfl,h⟩ | ⟨rfl,h⟩ | ⟨rfl,h⟩ | ⟨rfl,h⟩ | ⟨rfl,h⟩ | ⟨rfl,h⟩ | ⟨rfl,h⟩ | ⟨rfl,h⟩
 all_goals first
  | rfl
  | contradiction
  | (revert h;decide)
theorem e2g:v8 164 h0t:=A8 (fun fn h=>e9n h) [(224,_),(162,_),(220,_),(225,_),(226,_),(227,_),(218,_),(228,_),(157,_),(161,_),(229,_)] (.cons g4p (.cons d05 (.cons c02 (.cons d3w (.cons c61 (.cons f4t (.cons (a5j kIS) (.cons g4m (.cons d7c (.cons c4n (.cons f4o .nil))))))))))) fun U fn hfn ⟨(s,a),hsn,ho⟩ vs bs hv hb=>by
 have hH:=hfn 224 _ rfl;have hT:=hfn 162 _ rfl;have hF:=hfn 227 _ rfl;have hR:=hfn 218 _ rfl;have hX:=hfn 157 _ rfl;have hC:=hfn 229 _ rfl;change z7 [.c (.s s),.a a.g] vs at hv;change u0 [] bs at hb;have ho:ok a:=ho;have hsn:N4 K5 s=some 1:=hsn;obtain ⟨hl1,hl2⟩:=O4 ho;have hda:0 < a.da:=(a9q ho).2;have hfl:=e1x hda (x:=a.na) oM;have hfl:(s4 (a.na.fdiv a.da)).length < 8000:=by
  have h1:=R5 (a.na.fdiv a.da);have h2:=(D8 (b6o a.na hda));have h3:=K8 a.na;omega
 have hst:=a2b ho.2;show t6 U _ fun v bs'=>A3 (.ret (.a (H0 s a).g)) v∧u0 [] bs';unfold f60;(refine Zz ?_;with_reducible repeat' first|intro _|apply aI)
 all_goals try (refine oR fun _ _=>?_;(refine Zz ?_;with_reducible repeat' first|intro _|apply aI))
 ·have hs:s=s5 3 7496035:=aS;have eo:H0 s a=b6f a:=by unfold H0;(repeat rw [if_neg (by rw [hs];decide)]);exact if_pos hs
  rw [eo];refine s6 hH (a,false) (r:=.a (b6f a).g) rfl (.k oV (.k (X2 rfl) .nil)) .nil fun _ _ _ _=>?_;refine Zz ?_;intros
  first
   | (refine oR fun _ _=>?_;(refine Zz ?_;with_reducible repeat' first|intro _|apply aI);exact s9 ⟨.ret _ _ oV,.nil⟩)
   | exact s9 ⟨.ret _ _ oV,.nil⟩
 ·have hs:s=s5 3 7496803:=aS;have eo:H0 s a=b6g a:=by unfold H0;(repeat rw [if_neg (by rw [hs];decide)]);exact if_pos hs
  rw [eo];refine s6 hH (a,true) (r:=.a (b6g a).g) rfl (.k oV (.k (X2 rfl) .nil)) .nil fun _ _ _ _=>?_;refine Zz ?_;intros
  first
   | (refine oR fun _ _=>?_;(refine Zz ?_;with_reducible repeat' first|intro _|apply aI);exact s9 ⟨.ret _ _ oV,.nil⟩)
   | exact s9 ⟨.ret _ _ oV,.nil⟩
 ·have hs:s=s5 5 482972954467:=aS;have eo:H0 s a=G0 a.isCo:=by unfold H0;(repeat rw [if_neg (by rw [hs];decide)]);exact if_pos hs
  rw [eo];refine T3 (gs:=a.g) (g:=.i .i64 a.k) aS (by rw [O.g_eq];rfl) fun _ _=>?_;refine Zz ?_;intros;refine b9k hT a.isCo (r:=.a (G0 a.isCo).g) rfl (fun eU=>by subst eU;exact .k (rvB (by rw [c0l];cases a <;> rfl)) .nil) .nil fun _ _ _ _=>?_;refine Zz ?_;intros
  first
   | (refine oR fun _ _=>?_;(refine Zz ?_;with_reducible repeat' first|intro _|apply aI);exact s9 ⟨.ret _ _ oV,.nil⟩)
   | exact s9 ⟨.ret _ _ oV,.nil⟩
 ·have hs:s=s5 7 31644423040104819:=aS;have eo:H0 s a=G0 a.isSy:=by unfold H0;(repeat rw [if_neg (by rw [hs];decide)]);exact if_pos hs
  rw [eo];refine T3 (gs:=a.g) (g:=.i .i64 a.k) aS (by rw [O.g_eq];rfl) fun _ _=>?_;refine Zz ?_;intros;refine b9k hT a.isSy (r:=.a (G0 a.isSy).g) rfl (fun eU=>by subst eU;exact .k (rvB (by rw [c0l];cases a <;> rfl)) .nil) .nil fun _ _ _ _=>?_;refine Zz ?_;intros
  first
   | (refine oR fun _ _=>?_;(refine Zz ?_;with_reducible repeat' first|intro _|apply aI);exact s9 ⟨.ret _ _ oV,.nil⟩)
   | exact s9 ⟨.ret _ _ oV,.nil⟩
 ·have hs:s=s5 7 31638921304765555:=aS;have eo:H0 s a=G0 a.isTx:=by unfold H0;(repeat rw [if_neg (by rw [hs];decide)]);exact if_pos hs
  rw [eo];refine T3 (gs:=a.g) (g:=.i .i64 a.k) aS (by rw [O.g_eq];rfl) fun _ _=>?_;refine Zz ?_;intros;refine b9k hT a.isTx (r:=.a (G0 a.isTx).g) rfl (fun eU=>by subst eU;exact .k (rvB (by rw [c0l];cases a <;> rfl)) .nil) .nil fun _ _ _ _=>?_;refine Zz ?_;intros
  first
   | (refine oR fun _ _=>?_;(refine Zz ?_;with_reducible repeat' first|intro _|apply aI);exact s9 ⟨.ret _ _ oV,.nil⟩)
   | exact s9 ⟨.ret _ _ oV,.nil⟩
 ·have hs:s=s5 9 2073844980909096591730:=aS;have eo:H0 s a=G0 a.isNu:=by unfold H0;(repeat rw [if_neg (by rw [hs];decide)]);exact if_pos hs
  rw [eo];refine T3 (gs:=a.g) (g:=.i .i64 a.k) aS (by rw [O.g_eq];rfl) fun _ _=>?_;refine Zz ?_;intros;refine b9k hT a.isNu (r:=.a (G0 a.isNu).g) rfl (fun eU=>by subst eU;exact .k (rvB (by rw [c0l];cases a <;> rfl)) .nil) .nil fun _ _ _ _=>?_;refine Zz ?_;intros
  first
   | (refine oR fun _ _=>?_;(refine Zz ?_;with_reducible repeat' first|intro _|apply aI);exact s9 ⟨.ret _ _ oV,.nil⟩)
   | exact s9 ⟨.ret _ _ oV,.nil⟩
 ·have hs:s=s5 8 8102650174351109737:=aS;have eo:H0 s a=G0 a.isInt:=by unfold H0;(repeat rw [if_neg (by rw [hs];decide)]);exact if_pos hs
  rw [eo];refine s6 (hfn 220 _ rfl) a (r:=.c (.b a.isInt)) rfl oA .nil fun _ _ _ _=>?_;refine Zz ?_;intros;refine s6 hT a.isInt (r:=.a (G0 a.isInt).g) rfl z6 .nil fun _ _ _ _=>?_;refine Zz ?_;intros
  first
   | (refine oR fun _ _=>?_;(refine Zz ?_;with_reducible repeat' first|intro _|apply aI);exact s9 ⟨.ret _ _ oV,.nil⟩)
   | exact s9 ⟨.ret _ _ oV,.nil⟩
 ·have hs:s=s5 7 12716373585260149:=aS;have eo:H0 s a=b06 a:=by unfold H0;(repeat rw [if_neg (by rw [hs];decide)]);exact if_pos hs
  rw [eo];refine s6 (hfn 225 _ rfl) ⟨a,ho⟩ (r:=.a (b06 a).g) rfl oA .nil fun _ _ _ _=>?_;refine Zz ?_;intros
  first
   | (refine oR fun _ _=>?_;(refine Zz ?_;with_reducible repeat' first|intro _|apply aI);exact s9 ⟨.ret _ _ oV,.nil⟩)
   | exact s9 ⟨.ret _ _ oV,.nil⟩
 ·have hs:s=s5 7 13279323538681461:=aS;have eo:H0 s a=c1k a:=by unfold H0;(repeat rw [if_neg (by rw [hs];decide)]);exact if_pos hs
  rw [eo];refine s6 (hfn 226 _ rfl) ⟨a,ho⟩ (r:=.a (c1k a).g) rfl oA .nil fun _ _ _ _=>?_;refine Zz ?_;intros
  first
   | (refine oR fun _ _=>?_;(refine Zz ?_;with_reducible repeat' first|intro _|apply aI);exact s9 ⟨.ret _ _ oV,.nil⟩)
   | exact s9 ⟨.ret _ _ oV,.nil⟩
 ·have hs:s=s5 9 2110959975582353159534:=aS;have eo:H0 s a=K2 (qn a.na 1):=by unfold H0;(repeat rw [if_neg (by rw [hs];decide)]);exact if_pos hs
  rw [eo];refine s6 hF a (r:=.a [.i .i64 1,.s (s4 a.na),.s (s8 a.da),.s [],.s [],.s [],.l []]) rfl oA .nil fun _ _ _ _=>?_;refine Zz ?_;intros;refine s6 hR ⟨(s4 a.na,P5),by show (s4 a.na).length < 8000;omega,by show P5.length < 8000;decide⟩ (r:=.a (K2 (qn a.na 1)).g) (by show z8.ret (.a (K2 (qn (s3 (s4 a.na)) (s3 P5))).g)=_;rw [u2,a4u]) z6 .nil fun _ _ _ _=>?_;refine Zz ?_;intros
  first
   | (refine oR fun _ _=>?_;(refine Zz ?_;with_reducible repeat' first|intro _|apply aI);exact s9 ⟨.ret _ _ oV,.nil⟩)
   | exact s9 ⟨.ret _ _ oV,.nil⟩
 ·have hs:s=s5 11 138343872958643594702251364:=aS;have eo:H0 s a=K2 (qn a.da 1):=by unfold H0;(repeat rw [if_neg (by rw [hs];decide)]);exact if_pos hs
  rw [eo];refine s6 hF a (r:=.a [.i .i64 1,.s (s4 a.na),.s (s8 a.da),.s [],.s [],.s [],.l []]) rfl oA .nil fun _ _ _ _=>?_;refine Zz ?_;intros;refine s6 hR ⟨(s8 a.da,P5),by show (s8 a.da).length < 8000;omega,by show P5.length < 8000;decide⟩ (r:=.a (K2 (qn (a.da:Int) 1)).g) (by show z8.ret (.a (K2 (qn (s3 (s8 a.da)) (s3 P5))).g)=_;rw [B3,a4u]) z6 .nil fun _ _ _ _=>?_;refine Zz ?_;intros
  first
   | (refine oR fun _ _=>?_;(refine Zz ?_;with_reducible repeat' first|intro _|apply aI);exact s9 ⟨.ret _ _ oV,.nil⟩)
   | exact s9 ⟨.ret _ _ oV,.nil⟩
 ·have hs:s=s5 5 491495844966:=aS;have eo:H0 s a=K2 (qn (a.na.fdiv a.da) 1):=by unfold H0;(repeat rw [if_neg (by rw [hs];decide)]);exact if_pos hs
  rw [eo];refine s6 hF a (r:=.a [.i .i64 1,.s (s4 a.na),.s (s8 a.da),.s [],.s [],.s [],.l []]) rfl oA .nil fun _ _ _ _=>?_;refine Zz ?_;intros;refine s6 hF a (r:=.a [.i .i64 1,.s (s4 a.na),.s (s8 a.da),.s [],.s [],.s [],.l []]) rfl oA .nil fun _ _ _ _=>?_;refine Zz ?_;intros;refine s6 (hfn 228 _ rfl) ⟨(a.na,a.da),by show (s4 a.na).length < 8000;omega,by show (s8 a.da).length < 8000;omega,hda⟩ (r:=.t [.c (.s (s4 (a.na.fdiv a.da))),.c (.s (s4 (a.na.fmod a.da)))]) rfl z6 .nil fun _ _ _ _=>?_;refine Zz ?_;intros;refine s6 hR ⟨(s4 (a.na.fdiv a.da),P5),by show (s4 (a.na.fdiv a.da)).length < 8000;omega,by show P5.length < 8000;decide⟩ (r:=.a (K2 (qn (a.na.fdiv a.da) 1)).g) (by show z8.ret (.a (K2 (qn (s3 (s4 (a.na.fdiv a.da))) (s3 P5))).g)=_;rw [u2,a4u]) z6 .nil fun _ _ _ _=>?_;refine Zz ?_;intros
  first
   | (refine oR fun _ _=>?_;(refine Zz ?_;with_reducible repeat' first|intro _|apply aI);exact s9 ⟨.ret _ _ oV,.nil⟩)
   | exact s9 ⟨.ret _ _ oV,.nil⟩
 ·have hs:s=s5 11 122618043001006431572687219:=aS;have eo:H0 s a=.tx a.sym.2:=by unfold H0;(repeat rw [if_neg (by rw [hs];decide)]);exact if_pos hs
  rw [eo];refine T3 (gs:=a.g) (g:=.s a.sym.2) aS (by rw [O.g_eq];rfl) fun _ _=>?_;refine Zz ?_;intros;refine s6 hX a.sym.2 (r:=.a (O.tx a.sym.2).g) rfl z6 .nil fun _ _ _ _=>?_;refine Zz ?_;intros
  first
   | (refine oR fun _ _=>?_;(refine Zz ?_;with_reducible repeat' first|intro _|apply aI);exact s9 ⟨.ret _ _ oV,.nil⟩)
   | exact s9 ⟨.ret _ _ oV,.nil⟩
 ·have hs:s=s5 19 2261903658058535744205936875630873591400986995:=aS;have eo:H0 s a=.tx a.sym.1:=by unfold H0;(repeat rw [if_neg (by rw [hs];decide)]);exact if_pos hs
  rw [eo];refine T3 (gs:=a.g) (g:=.s a.sym.1) aS (by rw [O.g_eq];rfl) fun _ _=>?_;refine Zz ?_;intros;refine s6 hX a.sym.1 (r:=.a (O.tx a.sym.1).g) rfl z6 .nil fun _ _ _ _=>?_;refine Zz ?_;intros
  first
   | (refine oR fun _ _=>?_;(refine Zz ?_;with_reducible repeat' first|intro _|apply aI);exact s9 ⟨.ret _ _ oV,.nil⟩)
   | exact s9 ⟨.ret _ _ oV,.nil⟩
 ·have hs:s=s5 13 8275754203313416711865239762035:=aS;have eo:H0 s a=.num (a.strT.length:Int) 1:=by unfold H0;(repeat rw [if_neg (by rw [hs];decide)]);exact if_pos hs
  rw [eo];refine T3 (gs:=a.g) (g:=.s a.strT) aS (by rw [O.g_eq,a6c];rfl) fun _ _=>?_;refine Zz ?_;intros;refine s6 (hfn 161 _ rfl) ⟨(a.strT.length:Int),oM,oM⟩ (r:=.a (O.num (a.strT.length:Int) 1).g) rfl z6 .nil fun _ _ _ _=>?_;refine Zz ?_;intros
  first
   | (refine oR fun _ _=>?_;(refine Zz ?_;with_reducible repeat' first|intro _|apply aI);exact s9 ⟨.ret _ _ oV,.nil⟩)
   | exact s9 ⟨.ret _ _ oV,.nil⟩
 ·have hs:=e2r hsn aS aS aS aS aS aS aS aS aS aS aS aS aS aS aS;have eo:H0 s a=(if (Y4 a).2=true then .tx [UInt8.ofNat (Y4 a).1.toNat] else .tx []):=by unfold H0;(repeat rw [if_neg (by rw [hs];decide)]);exact if_pos hs
  rw [eo];cases hoc:(Y4 a).2 with
  | false =>
   rw [if_neg (by simp)];refine s6 hC ⟨a,ho⟩ (r:=.t [.c (.i .u8 (a7h a)),.c (.b false)]) (by show z8.ret (.t [.c (.i .u8 (a7h a)),.c (.b (Y4 a).2)])=_;rw [hoc]) oA .nil fun _ _ _ _=>?_;refine Zz ?_;intros;refine s6 hX [] (r:=.a (O.tx []).g) rfl z6 .nil fun _ _ _ _=>?_;refine Zz ?_;intros;exact s9 ⟨.ret _ _ oV,.nil⟩
  | true =>
   have hor:=f5g a;refine s6 hC ⟨a,ho⟩ (r:=.t [.c (.i .u8 (Y4 a).1),.c (.b true)]) (by show z8.ret (.t [.c (.i .u8 (a7h a)),.c (.b (Y4 a).2)])=_;rw [d5n hoc,hoc]) oA .nil fun _ _ _ _=>?_;generalize (Y4 a).1=m at *;refine Zz ?_;intros;rw [if_pos rfl];obtain ⟨k,hk⟩:∃ k:Nat,m=k:=⟨m.toNat,oM⟩;subst hk;rw [Int.toNat_natCast];refine sBT (ys:=[UInt8.ofNat k]) (g9s oM) rfl ?_;refine s6 hX [UInt8.ofNat k] (r:=.a (O.tx [UInt8.ofNat k]).g) rfl (.k (.s _ _ _ rfl rfl) .nil) .nil fun _ _ _ _=>?_;refine Zz ?_;intros;exact s9 ⟨.ret _ _ oV,.nil⟩
end
end Go.Proofs.YtkojildpddaccaaGreatDoor
