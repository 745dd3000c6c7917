/- The lengths of the text and of the lines of objects that are made of trees. No program in sight. -/
import Derived.Test.YtgipbdffgfbedaaGreatDoorCJ6
set_option linter.all false
namespace Go.Proofs.YtgipbdffgfbedaaGreatDoor
open Go.Abs LQ
noncomputable section
open Classical
def szA (L:List Pk) (cur:f6):O→Nat
 | .co a d=>szA L cur a+szA L cur d
 | o=>(M6 L cur o).length
def lv:O→Nat
 | .co a d=>lv a+lv d
 | _=>1
theorem e21 (o:O):0 < lv o:=by induction o <;> simp [lv] <;> omega
theorem d9j (o:O):o.size+1=2 * lv o:=by induction o <;> simp [lv,O.size] <;> omega
section
variable {L:List Pk} {cur:f6}
theorem b3p:∀ o:O,(pT L cur o).1.length+4≤szA L cur o+5 * lv o∧(pT L cur o).2.1.length+1≤szA L cur o+5 * lv o
 | .co a d=>by
  have h1:=(b3p a).1
  have h2:=(b3p d).2
  have h3:=c3p (L:=L) (cur:=cur) a d
  have e:(pT L cur (.co a d)).2.1.length=1+((pT L cur a).1.length+(pT L cur d).2.1.length):=by simp only [pT,List.length_cons,List.length_append];omega
  simp only [szA,lv]
  rw [e] at h3 ⊢
  omega
 | .num n d=>by
  have e:(pT L cur (.num n d)).2.1=32 :: 46 :: 32 :: (M6 L cur (.num n d) ++ [41]):=by simp [pT,A7]
  rw [e]
  refine ⟨?_,?_⟩
  ·show (M6 L cur (.num n d)).length+4≤(M6 L cur (.num n d)).length+5 * 1;omega
  ·show _≤(M6 L cur (.num n d)).length+5 * 1;simp
 | .tx n=>by
  have e:(pT L cur (.tx n)).2.1=32 :: 46 :: 32 :: (M6 L cur (.tx n) ++ [41]):=by simp [pT,A7]
  rw [e]
  refine ⟨?_,?_⟩
  ·show (M6 L cur (.tx n)).length+4≤(M6 L cur (.tx n)).length+5 * 1;omega
  ·show _≤(M6 L cur (.tx n)).length+5 * 1;simp
 | .no=>by
  have e:(pT L cur .no).2.1=32 :: 46 :: 32 :: (M6 L cur .no ++ [41]):=by simp [pT,A7]
  rw [e]
  refine ⟨?_,?_⟩
  ·show (M6 L cur .no).length+4≤(M6 L cur .no).length+5 * 1;omega
  ·show _≤(M6 L cur .no).length+5 * 1;simp
 | .sy n=>by
  refine ⟨?_,?_⟩
  ·show (M6 L cur (.sy n)).length+4≤(M6 L cur (.sy n)).length+5 * 1;omega
  ·show _≤(M6 L cur (.sy n)).length+5 * 1
   simp only [pT]
   split <;> simp
end
open Classical
theorem e1x {L:List Pk} {cur:f6} {d:O} {t:f6}:(pT L cur d).2.2=some t↔∃ x,d=.co x A7∧t=A0 L cur x:=by
 cases d with
 | co x y =>
  simp only [pT]
  by_cases h:y=A7
  ·rw [if_pos h]
   subst h
   constructor
   ·intro e;injection e with e;exact ⟨x,rfl,e.symm⟩
   ·rintro ⟨z,e,rfl⟩;injection e with e _;subst e;rfl
  ·rw [if_neg h]
   constructor
   ·intro e;cases e
   ·rintro ⟨z,e,_⟩;injection e with _ e;exact absurd e h
 | _ =>
  constructor
  ·intro e;cases e
  ·rintro ⟨z,e,_⟩;cases e
theorem P7 {o x:O}:J6 o=some x↔o=.co z8 (.co x A7):=by
 unfold J6
 constructor
 ·intro h
  split at h
  ·rename_i q y hi
   split at h
   ·rename_i hq
    injection h with h
    subst h hq
    obtain ⟨d,rfl,hd⟩:=b4m hi
    obtain ⟨e,rfl,he⟩:=b4m hd
    rw [d01 he]
   ·cases h
  ·cases h
 ·rintro rfl
  have:A9 (.co z8 (.co x A7))=some [z8,x]:=by simp [A9,A7]
  rw [this]
  simp only [if_true]
theorem b0z {L:List Pk} {cur:f6} {o x:O} (h:J6 o=some x):A0 L cur o=39 :: A0 L cur x:=by
 rw [P7.1 h]
 unfold A0
 simp only [pT,if_true]
theorem b0y {L:List Pk} {cur:f6} {a d:O} (h:J6 (.co a d)=none):A0 L cur (.co a d)=40 :: (A0 L cur a ++ (pT L cur d).2.1):=by
 unfold A0
 simp only [pT]
 by_cases ha:a=z8
 ·rw [if_pos ha]
  cases hd:(pT L cur d).2.2 with
  | none=>rfl
  | some t =>
   obtain ⟨x,rfl,_⟩:=e1x.1 hd
   rw [P7.2 (by rw [ha])] at h
   cases h
 ·rw [if_neg ha]
def b1p (L:List Pk) (cur before:f6):O→f6
 | .co a d=>before ++ (A0 L cur a ++ (pT L cur d).2.1)
 | o=>(pT L cur o).2.1
theorem c61 (L:List Pk) (cur:f6) (o:O):b1p L cur [32] o=(pT L cur o).2.1:=by
 cases o <;> rfl
theorem e0y {L:List Pk} {cur:f6} {a d:O} (h:J6 (.co a d)=none):b1p L cur [40] (.co a d)=A0 L cur (.co a d):=by
 rw [b0y h];rfl
theorem c60 {L:List Pk} {cur b:f6} {o:O} (h:o.isCo=false):b1p L cur b o=if o=A7 then [41] else [32,46,32] ++ A0 L cur o ++ [41]:=by
 cases o with
 | co=>cases h
 | _=>rfl
def okP:O→Prop
 | .num n d=>0 < d∧Nat.gcd n.natAbs d=1∧(g7 n).length≤101∧(f7 d).length≤100
 | .tx t=>t.length≤200
 | .sy s=>named s=true
 | .co a d=>okP a∧okP d
 | .no=>False
theorem a8i {s:Sy} (h:named s=true):s.1.length≤40:=by
 have:=(a0d h).1
 simp [p8] at this
 exact this.1.2.1
theorem b97 {L:List Pk}:∀ {o:O},okA L o→okP o
 | .num n d,h=>by
  refine ⟨h.1,h.2.1,?_,h.2.2.2⟩
  have:=h.2.2.1
  rw [a1c,List.length_append]
  have:(LQ.sgn n).length≤1:=by unfold LQ.sgn;split <;> simp
  omega
 | .tx _,h=>h
 | .sy _,h=>h.1
 | .co _ _,h=>⟨b97 h.1,b97 h.2⟩
 | .no,h=>h.elim
theorem b2v {L:List Pk} {cur:f6} {o:O} (h:okP o) (hn:∀ a d,o ≠ .co a d):(M6 L cur o).length≤410:=by
 cases o with
 | num n d=>have:=d45 n d;have:=h.2.2.1;have:=h.2.2.2;show (b28 n d).length≤_;omega
 | sy s =>
  have h1:=d4y L cur s
  have h2:=a0d h
  have h3:=a8i h
  show (H3 L cur s).1.length≤_;omega
 | tx t=>have:=c5y 34 t;have h:t.length≤200:=h;show (D3 34 t).length≤_;omega
 | co a d=>exact absurd rfl (hn a d)
 | no=>exact h.elim
theorem c0r {L:List Pk} {cur:f6}:∀ {o:O},okP o→szA L cur o≤410 * lv o
 | .co a d,h=>by
  have h1:=c0r (L:=L) (cur:=cur) h.1
  have h2:=c0r (L:=L) (cur:=cur) h.2
  simp only [szA,lv];omega
 | .num n d,h=>b2v (o:=.num n d) h fun _ _ e=>by cases e
 | .sy s,h=>b2v (o:=.sy s) h fun _ _ e=>by cases e
 | .tx t,h=>b2v (o:=.tx t) h fun _ _ e=>by cases e
 | .no,h=>h.elim
theorem a3u {L:List Pk} {cur:f6} {o:O} (h:okP o):2 * (A0 L cur o).length≤415 * (o.size+1)∧2 * (pT L cur o).2.1.length≤415 * (o.size+1):=by
 have h1:=b3p (L:=L) (cur:=cur) o
 have h2:=c0r (L:=L) (cur:=cur) h
 have h3:=d9j o
 have h4:=e21 o
 have h5:(A0 L cur o).length=(pT L cur o).1.length:=rfl
 omega
theorem e3l (x y:Int):0 < (qn x y).2∧Nat.gcd (qn x y).1.natAbs (qn x y).2=1:=by
 by_cases hy:y=0
 ·have e:qn x y=(0,1):=by unfold qn;rw [if_pos hy]
  rw [e];decide
 have e:qn x y=((if (x < 0)=(y < 0) then 1 else -1) * ((x.natAbs / Nat.gcd x.natAbs y.natAbs:Nat):Int),y.natAbs / Nat.gcd x.natAbs y.natAbs):=by unfold qn;rw [if_neg hy]
 have hg:0 < Nat.gcd x.natAbs y.natAbs:=Nat.gcd_pos_of_pos_right _ oM
 have h1:Nat.gcd (x.natAbs / Nat.gcd x.natAbs y.natAbs) (y.natAbs / Nat.gcd x.natAbs y.natAbs)=1:=by
  rw [Nat.gcd_div (Nat.gcd_dvd_left _ _) (Nat.gcd_dvd_right _ _),Nat.div_self hg]
 have hd:0 < y.natAbs / Nat.gcd x.natAbs y.natAbs:=Nat.div_pos (Nat.le_of_dvd oM (Nat.gcd_dvd_right _ _)) hg
 rw [e]
 simp only
 refine ⟨hd,?_⟩
 have e2:((if (x < 0)=(y < 0) then (1:Int) else -1) * ((x.natAbs / Nat.gcd x.natAbs y.natAbs:Nat):Int)).natAbs=x.natAbs / Nat.gcd x.natAbs y.natAbs:=by
  generalize x.natAbs / Nat.gcd x.natAbs y.natAbs=a
  by_cases hc:(x < 0)=(y < 0)
  ·rw [if_pos hc];omega
  ·rw [if_neg hc];omega
 rw [e2];exact h1
theorem c1o {L:List Pk}:∀ {o:O},o.fm=true→v8 L o=true→okA L o
 | .num n d,h,_=>by
  have h:m7 (g7 n) (f7 d)=(g7 n,f7 d)∧A6 (g7 n)≤100∧A6 (f7 d)≤100:=by simpa [O.fm] using h
  obtain ⟨h1,h2,h3⟩:=h
  rw [a6b] at h2
  rw [a19] at h3
  rw [a3p,x7,D7] at h1
  injection h1 with e1 e2
  have e1:=Y8 e1
  have e2:=a2g e2
  have h4:=e3l n d
  rw [e1,e2] at h4
  exact ⟨h4.1,h4.2,h2,h3⟩
 | .tx t,h,_=>by
  have h:t.length≤200:=by simpa [O.fm] using h
  exact h
 | .sy s,h,k=>⟨h,k⟩
 | .co a d,h,k=>by
  have h:a.fm=true∧d.fm=true:=by simpa [O.fm] using h
  have k:v8 L a=true∧v8 L d=true:=by simpa [v8] using k
  exact ⟨c1o h.1 k.1,c1o h.2 k.2⟩
 | .no,h,_=>by cases h
set_option maxRecDepth 100000
set_option maxHeartbeats 4000000
theorem c59:j4 32 (spO fun a=>.c (.b (O.eqb a A7))):=l9 (fun fn h=>e4w h) [] .nil fun U fn hfn (a:O) vs bs hv hb=>by
 have hv:j6 [.a a.g] vs:=hv
 have hb:RBs [] bs:=hb
 show g8 U _ fun v bs'=>j7 (.ret (.c (.b (O.eqb a A7)))) v∧RBs [] bs'
 unfold r32
 rw [a.g_eq] at hv
 have hsy:a.k=2→a=.sy a.sym:=by
  intro h
  cases a with
  | sy s=>rfl
  | num=>exact absurd h (by show ¬(1:Int)=2;decide)
  | tx=>exact absurd h (by show ¬(3:Int)=2;decide)
  | co=>exact absurd h (by show ¬(4:Int)=2;decide)
  | no=>exact absurd h (by show ¬(0:Int)=2;decide)
 (refine Zq ?_;with_reducible repeat' first|intro _|apply aI)
 ·have e:=hsy ‹_›
  refine fun e2=>?_
  subst e2
  refine ⟨_,_,rfl,.ret _ _ (M5 ?_),.nil⟩
  rw [Bool.eq_iff_iff,O.eqb_t,b08,b08,a9u,a9u]
  simp only [Bool.and_true,Bool.and_eq_true,decide_eq_true_iff]
  rw [e]
  constructor
  ·intro h;injection h with h;rw [h];exact ⟨rfl,rfl⟩
  ·rintro ⟨h1,h2⟩;exact congrArg O.sy (Prod.ext h1 h2)
 ·exact i7 ⟨.ret _ _ (F2 (O.eqb_f.2 fun e=>by subst e;exact absurd rfl ‹¬_›)),.nil⟩
theorem e2g:j4 76 (spO fun a=>.c (.b a.isCo)):=l9 (fun fn h=>e5z h) [] .nil fun U fn hfn (a:O) vs bs hv hb=>by
 have hv:j6 [.a a.g] vs:=hv
 have hb:RBs [] bs:=hb
 show g8 U _ fun v bs'=>j7 (.ret (.c (.b a.isCo))) v∧RBs [] bs'
 unfold r76
 rw [a.g_eq] at hv
 (refine Zq ?_;with_reducible repeat' first|intro _|apply aI)
 ·refine D5 fun e=>?_
  subst e
  refine ⟨.ret _ _ (M5 ?_),.nil⟩
  rw [a02]
  have hk:=‹a.k=4›
  cases a <;> simp [O.k] at hk
  rfl
 ·exact i7 ⟨.ret _ _ (F2 (by have hk:=‹¬a.k=4›;cases a <;> simp [O.k] at hk <;> rfl)),.nil⟩
theorem f4c:j4 55 { ι:=O,A:=fun a=>[.a a.g,.a z8.g],B:=fun _=>[],R:=fun a=>.ret (.c (.b (O.eqb a z8))),B':=fun _=>[],inj:=fun i j vs bs h k _ _=>(by rw [(c0q h k).1];exact ⟨rfl,rfl⟩) }:=l9 (fun fn h=>e5h h) [] .nil fun U fn hfn (a:O) vs bs hv hb=>by
 have hv:j6 [.a a.g,.a z8.g] vs:=hv
 have hb:RBs [] bs:=hb
 show g8 U _ fun v bs'=>j7 (.ret (.c (.b (O.eqb a z8)))) v∧RBs [] bs'
 unfold r55
 rw [a.g_eq,z8.g_eq] at hv
 (refine Zq ?_;intros)
 refine F3 (fun (_:Unit) vs bs=>vs=[.ptr 0 0,.ptr 1 0]∧RBs [a.g,z8.g] bs) (fun _=>0) () ⟨rfl,by rw [a.g_eq,z8.g_eq];exact .k (.opa _ _ _ rfl aS) (.k (.opa _ _ _ rfl aS) .nil)⟩ (by simp only [y8];omega) ?_
 rintro self _ _ _ ⟨rfl,hb⟩ _
 rw [a.g_eq,z8.g_eq] at hb
 (refine Zq ?_;with_reducible repeat' first|intro _|apply aI)
 ·have e5:a.ps=[]:=by
   have h:=‹((a.ps.length:Nat):Int)=0›
   exact List.length_eq_zero_iff.1 oM
  have e4:=‹a.sym.1=z8.sym.1∧_›
  have e:a=z8:=O.ext ‹_› ‹_› ‹_› (Prod.ext e4.1 e4.2.1) ‹_› e5
  exact i7 ⟨.ret _ _ (F2 (O.eqb_t.2 e)),.nil⟩
 ·exfalso
  have h1:=‹((a.ps.length:Nat):Int)=((z8.ps.length:Nat):Int)›
  have h2:=‹¬((a.ps.length:Nat):Int)=0›
  exact h2 h1
 all_goals exact i7 ⟨.ret _ _ (F2 (O.eqb_f.2 fun e=>by subst e;first | exact absurd rfl ‹¬_› | exact absurd (⟨rfl,rfl,trivial⟩:z8.sym.1=z8.sym.1∧z8.sym.2=z8.sym.2∧True) ‹¬_›)),.nil⟩
def L9 (o:O):GV:=match A9 o with
 | some l=>.t [.sl 7 (l.map O.g),.c (.b true)]
 | none=>.t [.sl 7 [],.c (.b false)]
def c3j (g:O→GV):Sp where
 ι:={ o:O // o.size < 21600000 }
 A o:=[.a o.1.g]
 B _:=[]
 R o:=.ret (g o.1)
 B' _:=[]
 inj i j vs bs h k _ _:=by rw [b3y h k];exact ⟨rfl,rfl⟩
theorem b4l {o:O} (h:o.isCo=false) (hn:O.eqb o A7=false):A9 o=none:=by
 cases o with
 | sy s=>simp only [A9];rw [if_neg];intro e;subst e;exact O.eqb_f.1 hn rfl
 | co=>cases h
 | _=>rfl
theorem e2i:j4 54 (c3j L9):=l9 (fun fn h=>e5g h) [(76,_),(32,_)] (.cons e2g (.cons c59 .nil)) fun U fn hfn ⟨o,hz⟩ vs bs hv hb=>by
 have hc:=hfn 76 _ rfl
 have hn:=hfn 32 _ rfl
 have hz:o.size < 21600000:=hz
 have hv:j6 [.a o.g] vs:=hv
 have hb:RBs [] bs:=hb
 show g8 U _ fun v bs'=>j7 (.ret (L9 o)) v∧RBs [] bs'
 unfold r54
 refine W5 hv fun _ _ hv1 hv2=>?_
 refine S7 hv1 o.g_len fun q hq=>?_
 (refine Zq ?_;intros)
 refine F3 (fun (p:O × List O) vs bs=>∃ (x:O) (acc:List O) (v:V) (q:Q),p=(x,acc)∧vs=[.ptr 0 0,v]∧bs=[.opa q 7,.tok acc.length 7]∧u3 x.g q 0∧a0w 1 7 (acc.map O.g) v∧A9 o=(A9 x).map (acc ++ ·)∧acc.length+x.size≤o.size) (fun p=>p.1.size) (o,[]) ⟨o,[],_,_,rfl,rfl,rfl,aS,.b rfl,by simp,by simp⟩ (show o.size < y8 by simp only [y8];omega) ?_
 rintro self _ _ _ ⟨x,acc,v,q,rfl,rfl,rfl,hq,htok,hit,hsz⟩ ih
 have hpos:=x.size_pos
 (refine Zq ?_;intros)
 refine f9 hc x (r:=.c (.b x.isCo)) rfl (.k (oV aS) .nil) .nil fun _ _ _ _=>?_
 (refine Zq ?_;with_reducible repeat' first|intro _|apply aI)
 ·cases x with
  | co a d =>
   have hq:u3 [.i .i64 4,.s [],.s [],.s [],.s [],.s [],.l ([a,d].map O.g)] q 0:=hq
   have hs:(O.co a d).size=1+a.size+d.size:=rfl
   rw [hs] at hsz
   have hl2:([a,d]:List O).length=2:=rfl
   (refine Zq ?_;intros)
   refine T4 (xs:=acc.map O.g) (n:=7) (off:=0) aS (fun _=>a6l (by rw [O.g_len];decide) aS) (O.g_len _) (by simp) (by simp;omega) fun _ _=>?_
   (refine Zq ?_;intros)
   refine ih (d,acc ++ [a]) _ _ ⟨d,acc ++ [a],_,_,rfl,rfl,by rw [List.length_append];rfl,aS,.a _ _ (by simp) (by rw [List.map_append];assumption),?_,by simp;omega⟩ (by show d.size < 1+a.size+d.size;omega)
   rw [hit]
   simp only [A9,Option.map_map]
   congr 1
   funext l
   simp
  | _=>exact absurd ‹_› (by simp [O.isCo])
 ·refine f9 hn x (r:=.c (.b (O.eqb x A7))) rfl (.k (oV aS) .nil) .nil fun _ _ _ _=>?_
  (refine Zq ?_;with_reducible repeat' first|intro _|apply aI)
  ·have e:x=A7:=O.eqb_t.1 ‹_›
   subst e
   have e2:A9 o=some acc:=by rw [hit];simp [A9,A7]
   unfold L9
   rw [e2]
   exact i7 ⟨.ret _ _ (.t _ _ (.k (.sl _ _ _ _ _ (by simp) aS) (.k (.kn _) .nil))),.nil⟩
  ·have e2:A9 o=none:=by
    rw [hit,b4l (by simpa using ‹¬x.isCo=true›) (by simpa using ‹¬O.eqb x A7=true›)];rfl
   unfold L9
   rw [e2]
   exact i7 ⟨.ret _ _ (.t _ _ (.k (.sl0 _ _ _) (.k (.kn _) .nil))),.nil⟩
theorem a6m:∀ {l m:List Sy},l.map sg=m.map sg→l=m
 | [],[],_=>rfl
 | [],_ :: _,h=>by simp at h
 | _ :: _,[],h=>by simp at h
 | a :: l,b :: m,h=>by simp only [List.map_cons,List.cons.injEq] at h;rw [a7k h.1,a6m h.2]
theorem e3f {a b:Pk} (h:pg a=pg b):a=b:=by
 simp only [pg,List.cons.injEq,G.s.injEq,G.l.injEq,and_true] at h
 exact Prod.ext h.1 (a6m h.2)
theorem X3:∀ {l m:List Pk},l.map pg=m.map pg→l=m
 | [],[],_=>rfl
 | [],_ :: _,h=>by simp at h
 | _ :: _,[],h=>by simp at h
 | a :: l,b :: m,h=>by simp only [List.map_cons,List.cons.injEq] at h;rw [e3f h.1,X3 h.2]
def H8 (L:List Pk):Prop:=L.length < 21600000∧∀ p ∈ L,p.2.length < 21600000
def e7b (g:List Pk→f6→GV):Sp where
 ι:={ p:List Pk × f6 // H8 p.1 }
 A p:=[.sl 2 (p.1.1.map pg),.c (.s p.1.2)]
 B _:=[]
 R p:=.ret (g p.1.1 p.1.2)
 B' _:=[]
 inj i j vs bs h k _ _:=by
  obtain ⟨_,_,h1,k1,h,k⟩:=h.two k
  obtain ⟨_,_,h2,k2,h,k⟩:=h.two k
  rw [X3 (h1.sl_inj k1),F5 h2 k2];exact ⟨rfl,rfl⟩
def d75 (g:List Pk→f6→f6→GV):Sp where
 ι:={ p:List Pk × f6 × f6 // H8 p.1 }
 A p:=[.sl 2 (p.1.1.map pg),.c (.s p.1.2.1),.c (.s p.1.2.2)]
 B _:=[]
 R p:=.ret (g p.1.1 p.1.2.1 p.1.2.2)
 B' _:=[]
 inj i j vs bs h k _ _:=by
  obtain ⟨_,_,h1,k1,h,k⟩:=h.two k
  obtain ⟨_,_,h2,k2,h,k⟩:=h.two k
  obtain ⟨_,_,h3,k3,h,k⟩:=h.two k
  rw [X3 (h1.sl_inj k1),F5 h2 k2,F5 h3 k3];exact ⟨rfl,rfl⟩
def e7c (g:List Pk→Sy→GV):Sp where
 ι:={ p:List Pk × Sy // H8 p.1 }
 A p:=[.sl 2 (p.1.1.map pg),.a (sg p.1.2)]
 B _:=[]
 R p:=.ret (g p.1.1 p.1.2)
 B' _:=[]
 inj i j vs bs h k _ _:=by
  obtain ⟨_,_,h1,k1,h,k⟩:=h.two k
  obtain ⟨_,_,h2,k2,h,k⟩:=h.two k
  rw [X3 (h1.sl_inj k1),a7k (h2.a_inj k2)];exact ⟨rfl,rfl⟩
def d76 (g:List Pk→f6→Sy→GV):Sp where
 ι:={ p:List Pk × f6 × Sy // H8 p.1 }
 A p:=[.sl 2 (p.1.1.map pg),.c (.s p.1.2.1),.a (sg p.1.2.2)]
 B _:=[]
 R p:=.ret (g p.1.1 p.1.2.1 p.1.2.2)
 B' _:=[]
 inj i j vs bs h k _ _:=by
  obtain ⟨_,_,h1,k1,h,k⟩:=h.two k
  obtain ⟨_,_,h2,k2,h,k⟩:=h.two k
  obtain ⟨_,_,h3,k3,h,k⟩:=h.two k
  rw [X3 (h1.sl_inj k1),F5 h2 k2,a7k (h3.a_inj k3)];exact ⟨rfl,rfl⟩
def D4 (L:List Pk) (n:f6):GV:=match C6 L n with
 | some p=>.t [.a (pg p),.c (.b true)]
 | none=>.t [.a [.s [],.l []],.c (.b false)]
theorem c1m {L:List Pk} {n:f6} {i:Nat} (h:i < L.length) (hn:L[i].1=n):C6 (L.drop i) n=some L[i]:=by
 rw [List.drop_eq_getElem_cons h,C6,if_pos hn]
theorem c52 {L:List Pk} {n:f6} {i:Nat} (h:i < L.length) (hn:¬L[i].1=n):C6 (L.drop i) n=C6 (L.drop (i+1)) n:=by
 rw [List.drop_eq_getElem_cons h,C6,if_neg hn]
theorem c1l {L:List Pk} {n:f6} {i:Nat} (h:¬i < L.length):C6 (L.drop i) n=none:=by
 rw [List.drop_eq_nil_of_le oM];rfl
theorem c1v:j4 26 (e7b D4):=l9 (fun fn h=>e4s h) [] .nil fun U fn hfn ⟨(L,nm),hL⟩ vs bs hv hb=>by
 have hL:H8 L:=hL
 have hl:L.length < 21600000:=hL.1
 have hv:j6 [.sl 2 (L.map pg),.c (.s nm)] vs:=hv
 have hb:RBs [] bs:=hb
 show g8 U _ fun v bs'=>j7 (.ret (D4 L nm)) v∧RBs [] bs'
 unfold r26
 (refine Zq ?_;intros)
 refine F3 (fun (i:Nat) vs bs=>∃ (t:j0 Q) (off:Nat),vs=[.str nm.length (j9 nm),.ptr 0 0,.slice t 2 off L.length .no,.int .i64 L.length,.int .i64 i]∧bs=[.cells [.str 0 0,.slice .nil 0 0 0 .exact]]∧n7 2 (L.map pg) t off∧i≤L.length∧C6 (L.drop i) nm=C6 L nm) (fun i=>L.length - i) 0 ⟨_,_,rfl,rfl,aS,Nat.zero_le _,rfl⟩ (by simp only [y8];omega) ?_
 rintro self i _ _ ⟨t,off,rfl,rfl,ht,hi,he⟩ ih
 (refine Zq ?_;with_reducible repeat' first|intro _|apply aI)
 ·have hi2:i < L.length:=oM
  have e:L[i].1=nm:=‹_›
  unfold D4
  rw [← he,c1m hi2 e]
  exact i7 ⟨.ret _ _ (.t _ _ (.k (.a _ _ _ rfl aS) (.k (.kn _) .nil))),.nil⟩
 ·have hi2:i < L.length:=oM
  have e:¬L[i].1=nm:=‹_›
  exact ih (i+1) _ _ ⟨_,_,rfl,rfl,ht,oM,by rw [← he,c52 hi2 e]⟩ oM
 ·unfold D4
  rw [← he,c1l oM]
  exact i7 ⟨.ret _ _ (.t _ _ (.k (.ag _ _ j3) (.k (.kn _) .nil))),.nil⟩
theorem b4p:j4 19 (e7b D4):=l9 (fun fn h=>e4l h) [] .nil fun U fn hfn ⟨(L,nm),hL⟩ vs bs hv hb=>by
 have hL:H8 L:=hL
 have hl:L.length < 21600000:=hL.1
 have hv:j6 [.sl 2 (L.map pg),.c (.s nm)] vs:=hv
 have hb:RBs [] bs:=hb
 show g8 U _ fun v bs'=>j7 (.ret (D4 L nm)) v∧RBs [] bs'
 unfold r19
 (refine Zq ?_;intros)
 refine F3 (fun (i:Nat) vs bs=>∃ (t:j0 Q) (off:Nat),vs=[.slice t 2 off L.length .no,.str nm.length (j9 nm),.ptr 0 0,.int .i64 i]∧bs=[.cells [.str 0 0,.slice .nil 0 0 0 .exact]]∧n7 2 (L.map pg) t off∧i≤L.length∧C6 (L.drop i) nm=C6 L nm) (fun i=>L.length - i) 0 ⟨_,_,rfl,rfl,aS,Nat.zero_le _,rfl⟩ (by simp only [y8];omega) ?_
 rintro self i _ _ ⟨t,off,rfl,rfl,ht,hi,he⟩ ih
 (refine Zq ?_;with_reducible repeat' first|intro _|apply aI)
 ·have hi2:i < L.length:=oM
  have e:L[i].1=nm:=‹_›
  unfold D4
  rw [← he,c1m hi2 e]
  exact i7 ⟨.ret _ _ (.t _ _ (.k (.a _ _ _ rfl aS) (.k (.kn _) .nil))),.nil⟩
 ·have hi2:i < L.length:=oM
  have e:¬L[i].1=nm:=‹_›
  exact ih (i+1) _ _ ⟨_,_,rfl,rfl,ht,oM,by rw [← he,c52 hi2 e]⟩ oM
 ·unfold D4
  rw [← he,c1l oM]
  exact i7 ⟨.ret _ _ (.t _ _ (.k (.ag _ _ j3) (.k (.kn _) .nil))),.nil⟩
def a4d (L:List Pk) (c n:f6):GV:=.t [.a (sg (B6 L c n).1),.c (.i .i64 (B6 L c n).2)]
theorem c56 {l:List Sy} {n:f6} {i:Nat} (h:i < l.length) (hn:l[i].2=n):a07 (l.drop i) n=some l[i]:=by
 rw [List.drop_eq_getElem_cons h,a07,if_pos hn]
theorem d0z {l:List Sy} {n:f6} {i:Nat} (h:i < l.length) (hn:¬l[i].2=n):a07 (l.drop i) n=a07 (l.drop (i+1)) n:=by
 rw [List.drop_eq_getElem_cons h,a07,if_neg hn]
theorem c55 {l:List Sy} {n:f6} {i:Nat} (h:¬i < l.length):a07 (l.drop i) n=none:=by
 rw [List.drop_eq_nil_of_le oM];rfl
theorem b77 {L:List Pk} {n:f6} {p:Pk} (h:C6 L n=some p):p ∈ L∧p.1=n:=by
 induction L with
 | nil=>cases h
 | cons q L ih =>
  rw [C6] at h
  split at h
  ·rename_i e;injection h with h;subst h;exact ⟨by simp,e⟩
  ·have:=ih h;exact ⟨by simp [this.1],this.2⟩
theorem a1b (s:Sy):(sg s).length=2:=rfl
theorem b18 {L:List Pk} {c n:f6} (h:C6 L c=none):B6 L c n=(([],[]),13):=by unfold B6;rw [h]
theorem a3i {L:List Pk} {c n:f6} {p:Pk} (h:C6 L c=some p) (hn:n.length < 1∨40 < n.length):B6 L c n=(([],[]),3):=by unfold B6;rw [h];simp only [];rw [if_pos hn]
theorem b4i {L:List Pk} {c n:f6} {p:Pk} {s:Sy} (h:C6 L c=some p) (hn:¬(n.length < 1∨40 < n.length)) (hi:a07 p.2 n=some s):B6 L c n=(s,0):=by unfold B6;rw [h];simp only [];rw [if_neg hn,hi]
theorem b4j {L:List Pk} {c n:f6} {p:Pk} (h:C6 L c=some p) (hn:¬(n.length < 1∨40 < n.length)) (hi:a07 p.2 n=none):B6 L c n=((c,n),0):=by unfold B6;rw [h];simp only [];rw [if_neg hn,hi]
theorem K8 {L:List Pk} {c n:f6} {r:Sy × Int} (h:B6 L c n=r):a4d L c n=.t [.a (sg r.1),.c (.i .i64 r.2)]:=by unfold a4d;rw [h]
theorem d4k:j4 74 (d75 a4d):=l9 (fun fn h=>e5y h) [(26,_)] (.cons c1v .nil) fun U fn hfn ⟨(L,cur,nm),hL⟩ vs bs hv hb=>by
 have hf:=hfn 26 _ rfl
 have hL:H8 L:=hL
 have hv:j6 [.sl 2 (L.map pg),.c (.s cur),.c (.s nm)] vs:=hv
 have hb:RBs [] bs:=hb
 show g8 U _ fun v bs'=>j7 (.ret (a4d L cur nm)) v∧RBs [] bs'
 unfold r74
 (refine Zq ?_;with_reducible repeat' first|intro _|apply aI)
 cases hp:C6 L cur with
 | none =>
  refine f9 hf ⟨(L,cur),hL⟩ (r:=.t [.a [.s [],.l []],.c (.b false)]) (by show o8.ret (D4 L cur)=_;unfold D4;rw [hp]) (.k (.sl _ _ _ _ _ (by simp) aS) j3) .nil fun _ _ _ _=>?_
  (refine Zq ?_;intros)
  rw [K8 (b18 hp)]
  exact i7 ⟨.ret _ _ (.t _ _ (.k (.ag _ _ j3) (.k (.i _ _) .nil))),.nil⟩
 | some p =>
  refine f9 hf ⟨(L,cur),hL⟩ (r:=.t [.a (pg p),.c (.b true)]) (by show o8.ret (D4 L cur)=_;unfold D4;rw [hp]) (.k (.sl _ _ _ _ _ (by simp) aS) j3) .nil fun _ _ hv9 _=>?_
  have hv9:RV (.t [.a [.s p.1,.l (p.2.map sg)],.c (.b true)]) _:=hv9
  have hpl:=hL.2 p (b77 hp).1
  (refine Zq ?_;with_reducible repeat' first|intro _|apply aI)
  all_goals
   refine b0l (gs:=[.s [],.s []]) (.cells _ _ j3) rfl fun _ _=>?_
   (refine Zq ?_;with_reducible repeat' first|intro _|apply aI)
  ·rw [K8 (a3i hp (.inl oM))]
   exact i7 ⟨.ret _ _ (.t _ _ (.k (.ag _ _ j3) (.k (.i _ _) .nil))),.nil⟩
  ·rw [K8 (a3i hp (.inr oM))]
   exact i7 ⟨.ret _ _ (.t _ _ (.k (.ag _ _ j3) (.k (.i _ _) .nil))),.nil⟩
  (refine B5 (f:=sg) aS (u0 a1b) fun _ _ _=>?_)
  (refine Zq ?_;intros)
  have hnm:¬(nm.length < 1∨40 < nm.length):=oM
  refine F3 (fun (i:Nat) vs bs=>∃ (x q:Q),vs=[.str cur.length (j9 cur),.str nm.length (j9 nm),.ptr 0 0,.q x,.int .i64 p.2.length,.int .i64 i]∧bs=[.opa q 2]∧RG (.l (p.2.map sg)) x∧u3 [.s [],.s []] q 0∧i≤p.2.length∧a07 (p.2.drop i) nm=a07 p.2 nm) (fun i=>p.2.length - i) 0 ⟨_,_,rfl,rfl,aS,aS,Nat.zero_le _,rfl⟩ (by simp only [y8];omega) ?_
  rintro self i _ _ ⟨x,q,rfl,rfl,hx,hq,hi,he⟩ ih
  (refine Zq ?_;intros)
  refine sQV ?_
  (refine Zq ?_;with_reducible repeat' first|intro _|apply aI)
  ·(refine B5 (f:=sg) aS (u0 a1b) fun _ _ _=>?_)
   (refine Zq ?_;with_reducible repeat' first|intro _|apply aI)
   ·have hi2:i < p.2.length:=oM
    have e:p.2[i].2=nm:=‹_›
    rw [K8 (b4i hp hnm (by rw [← he,c56 hi2 e]))]
    exact i7 ⟨.ret _ _ (.t _ _ (.k (.a _ _ _ rfl aS) (.k (.i _ _) .nil))),.nil⟩
   ·have hi2:i < p.2.length:=oM
    have e:¬p.2[i].2=nm:=‹_›
    exact ih (i+1) _ _ ⟨_,_,rfl,rfl,hx,aS,oM,by rw [← he,d0z hi2 e]⟩ oM
  ·rw [K8 (b4j hp hnm (by rw [← he,c55 oM]))]
   exact i7 ⟨.ret _ _ (.t _ _ (.k (.ag _ _ j3) (.k (.i _ _) .nil))),.nil⟩
theorem d4j:j4 78 (d75 a4d):=l9 (fun fn h=>e50 h) [(19,_)] (.cons b4p .nil) fun U fn hfn ⟨(L,cur,nm),hL⟩ vs bs hv hb=>by
 have hf:=hfn 19 _ rfl
 have hL:H8 L:=hL
 have hv:j6 [.sl 2 (L.map pg),.c (.s cur),.c (.s nm)] vs:=hv
 have hb:RBs [] bs:=hb
 show g8 U _ fun v bs'=>j7 (.ret (a4d L cur nm)) v∧RBs [] bs'
 unfold r78
 (refine Zq ?_;with_reducible repeat' first|intro _|apply aI)
 cases hp:C6 L cur with
 | none =>
  refine f9 hf ⟨(L,cur),hL⟩ (r:=.t [.a [.s [],.l []],.c (.b false)]) (by show o8.ret (D4 L cur)=_;unfold D4;rw [hp]) (.k (.sl _ _ _ _ _ (by simp) aS) j3) .nil fun _ _ _ _=>?_
  (refine Zq ?_;intros)
  rw [K8 (b18 hp)]
  exact i7 ⟨.ret _ _ (.t _ _ (.k (.ag _ _ j3) (.k (.i _ _) .nil))),.nil⟩
 | some p =>
  refine f9 hf ⟨(L,cur),hL⟩ (r:=.t [.a (pg p),.c (.b true)]) (by show o8.ret (D4 L cur)=_;unfold D4;rw [hp]) (.k (.sl _ _ _ _ _ (by simp) aS) j3) .nil fun _ _ hv9 _=>?_
  have hv9:RV (.t [.a [.s p.1,.l (p.2.map sg)],.c (.b true)]) _:=hv9
  have hpl:=hL.2 p (b77 hp).1
  (refine Zq ?_;with_reducible repeat' first|intro _|apply aI)
  all_goals
   refine b0l (gs:=[.s [],.s []]) (.cells _ _ j3) rfl fun _ _=>?_
   (refine Zq ?_;with_reducible repeat' first|intro _|apply aI)
  ·rw [K8 (a3i hp (.inl oM))]
   exact i7 ⟨.ret _ _ (.t _ _ (.k (.ag _ _ j3) (.k (.i _ _) .nil))),.nil⟩
  ·rw [K8 (a3i hp (.inr oM))]
   exact i7 ⟨.ret _ _ (.t _ _ (.k (.ag _ _ j3) (.k (.i _ _) .nil))),.nil⟩
  have hnm:¬(nm.length < 1∨40 < nm.length):=oM
  refine F3 (fun (i:Nat) vs bs=>∃ (x q:Q),vs=[.str cur.length (j9 cur),.str nm.length (j9 nm),.ptr 0 0,.ptr 1 0,.int .i64 i]∧bs=[.opa q 2,.opa x 2]∧u3 [.s p.1,.l (p.2.map sg)] x 0∧u3 [.s [],.s []] q 0∧i≤p.2.length∧a07 (p.2.drop i) nm=a07 p.2 nm) (fun i=>p.2.length - i) 0 ⟨_,_,rfl,rfl,aS,aS,Nat.zero_le _,rfl⟩ (by simp only [y8];omega) ?_
  rintro self i _ _ ⟨x,q,rfl,rfl,hx,hq,hi,he⟩ ih
  (refine Zq ?_;intros)
  (refine B5 (f:=sg) aS (u0 a1b) fun _ _ _=>?_)
  (refine Zq ?_;with_reducible repeat' first|intro _|apply aI)
  ·(refine B5 (f:=sg) aS (u0 a1b) fun _ _ _=>?_)
   (refine Zq ?_;with_reducible repeat' first|intro _|apply aI)
   ·(refine B5 (f:=sg) aS (u0 a1b) fun _ _ _=>?_)
    (refine Zq ?_;intros)
    have hi2:i < p.2.length:=oM
    have e:p.2[i].2=nm:=‹_›
    rw [K8 (b4i hp hnm (by rw [← he,c56 hi2 e]))]
    exact i7 ⟨.ret _ _ (.t _ _ (.k (.a _ _ _ rfl aS) (.k (.i _ _) .nil))),.nil⟩
   ·have hi2:i < p.2.length:=oM
    have e:¬p.2[i].2=nm:=‹_›
    exact ih (i+1) _ _ ⟨_,_,rfl,rfl,hx,aS,oM,by rw [← he,d0z hi2 e]⟩ oM
  ·rw [K8 (b4j hp hnm (by rw [← he,c55 oM]))]
   exact i7 ⟨.ret _ _ (.t _ _ (.k (.ag _ _ j3) (.k (.i _ _) .nil))),.nil⟩
theorem d68:j4 52 (d76 fun L c s=>.c (.b (a1n L c s))):=l9 (fun fn h=>e5e h) [(74,_)] (.cons d4k .nil) fun U fn hfn ⟨(L,cur,s),hL⟩ vs bs hv hb=>by
 have hi:=hfn 74 _ rfl
 have hL:H8 L:=hL
 have hv:j6 [.sl 2 (L.map pg),.c (.s cur),.a [.s s.1,.s s.2]] vs:=hv
 have hb:RBs [] bs:=hb
 show g8 U _ fun v bs'=>j7 (.ret (.c (.b (a1n L cur s)))) v∧RBs [] bs'
 unfold r52
 (refine Zq ?_;intros)
 refine f9 hi ⟨(L,cur,s.2),hL⟩ (r:=.t [.a (sg (B6 L cur s.2).1),.c (.i .i64 (B6 L cur s.2).2)]) rfl (.k (.sl _ _ _ _ _ (by simp) aS) j3) .nil fun _ _ hv9 _=>?_
 have hv9:RV (.t [.a [.s (B6 L cur s.2).1.1,.s (B6 L cur s.2).1.2],.c (.i .i64 (B6 L cur s.2).2)]) _:=hv9
 unfold a1n
 generalize B6 L cur s.2=r at *
 obtain ⟨⟨r1,r2⟩,e⟩:=r
 obtain ⟨s1,s2⟩:=s
 (refine Zq ?_;with_reducible repeat' first|intro _|apply aI)
 ·have h0:e=0:=‹_›
  refine D5 fun e9=>?_
  subst e9
  refine ⟨.ret _ _ (M5 ?_),.nil⟩
  rw [b08,b08,cuS,cuS,Bool.eq_iff_iff]
  simp only [Bool.and_true,Bool.and_eq_true,decide_eq_true_iff,Prod.mk.injEq]
  exact ⟨fun h=>h.2,fun h=>⟨h0,h⟩⟩
 ·exact i7 ⟨.ret _ _ (F2 (decide_eq_false (fun h=>‹¬e=0› h.1))),.nil⟩
theorem d05:j4 49 (e7c fun L s=>.c (.b (G7 L s))):=l9 (fun fn h=>e5c h) [(52,_)] (.cons d68 .nil) fun U fn hfn ⟨(L,s),hL⟩ vs bs hv hb=>by
 have hi:=hfn 52 _ rfl
 have hL:H8 L:=hL
 have hv:j6 [.sl 2 (L.map pg),.a [.s s.1,.s s.2]] vs:=hv
 have hb:RBs [] bs:=hb
 show g8 U _ fun v bs'=>j7 (.ret (.c (.b (G7 L s)))) v∧RBs [] bs'
 unfold r49
 (refine Zq ?_;intros)
 refine f9 hi ⟨(L,s.1,s),hL⟩ (r:=.c (.b (G7 L s))) rfl (.k (.sl _ _ _ _ _ (by simp) aS) (.k (.q _ _ aS) (.k (.a _ _ _ rfl aS) .nil))) .nil fun _ _ _ _=>?_
 (refine Zq ?_;intros)
 exact i7 ⟨.ret _ _ (.b _),.nil⟩
theorem d67:j4 60 (d76 fun L c s=>.c (.b (a1n L c s))):=l9 (fun fn h=>e5l h) [(78,_)] (.cons d4j .nil) fun U fn hfn ⟨(L,cur,s),hL⟩ vs bs hv hb=>by
 have hi:=hfn 78 _ rfl
 have hL:H8 L:=hL
 have hv:j6 [.sl 2 (L.map pg),.c (.s cur),.a [.s s.1,.s s.2]] vs:=hv
 have hb:RBs [] bs:=hb
 show g8 U _ fun v bs'=>j7 (.ret (.c (.b (a1n L cur s)))) v∧RBs [] bs'
 unfold r60
 (refine Zq ?_;intros)
 refine f9 hi ⟨(L,cur,s.2),hL⟩ (r:=.t [.a (sg (B6 L cur s.2).1),.c (.i .i64 (B6 L cur s.2).2)]) rfl (.k (.sl _ _ _ _ _ (by simp) aS) j3) .nil fun _ _ hv9 _=>?_
 have hv9:RV (.t [.a [.s (B6 L cur s.2).1.1,.s (B6 L cur s.2).1.2],.c (.i .i64 (B6 L cur s.2).2)]) _:=hv9
 unfold a1n
 generalize B6 L cur s.2=r at *
 obtain ⟨⟨r1,r2⟩,e⟩:=r
 obtain ⟨s1,s2⟩:=s
 (refine Zq ?_;with_reducible repeat' first|intro _|apply aI)
 ·have h0:e=0:=‹_›
  refine D5 fun e9=>?_
  subst e9
  refine ⟨.ret _ _ (M5 ?_),.nil⟩
  rw [b08,b08,cuS,cuS,Bool.eq_iff_iff]
  simp only [Bool.and_true,Bool.and_eq_true,decide_eq_true_iff,Prod.mk.injEq]
  exact ⟨fun h=>h.2,fun h=>⟨h0,h⟩⟩
 ·exact i7 ⟨.ret _ _ (F2 (decide_eq_false (fun h=>‹¬e=0› h.1))),.nil⟩
theorem c1w:j4 36 (e7c fun L s=>.c (.b (G7 L s))):=l9 (fun fn h=>e4z h) [(60,_)] (.cons d67 .nil) fun U fn hfn ⟨(L,s),hL⟩ vs bs hv hb=>by
 have hi:=hfn 60 _ rfl
 have hL:H8 L:=hL
 have hv:j6 [.sl 2 (L.map pg),.a [.s s.1,.s s.2]] vs:=hv
 have hb:RBs [] bs:=hb
 show g8 U _ fun v bs'=>j7 (.ret (.c (.b (G7 L s)))) v∧RBs [] bs'
 unfold r36
 (refine Zq ?_;intros)
 refine f9 hi ⟨(L,s.1,s),hL⟩ (r:=.c (.b (G7 L s))) rfl (.k (.sl _ _ _ _ _ (by simp) aS) (.k (.q _ _ aS) (.k (.a _ _ _ rfl aS) .nil))) .nil fun _ _ _ _=>?_
 (refine Zq ?_;intros)
 exact i7 ⟨.ret _ _ (.b _),.nil⟩
theorem c6d:j4 35 (c0k fun s=>.c (.b (named s))):=l9 (fun fn h=>e4y h) [(59,_)] (.cons b6q .nil) fun U fn hfn ⟨s,h1,h2⟩ vs bs hv hb=>by
 have hn:=hfn 59 _ rfl
 have hv:j6 [.a (sg s)] vs:=hv
 have hb:RBs [] bs:=hb
 show g8 U _ fun v bs'=>j7 (.ret (.c (.b (named s)))) v∧RBs [] bs'
 unfold r35
 (refine Zq ?_;intros)
 refine f9 hn ⟨s,h1,h2⟩ (r:=.c (.b (named s))) rfl j3 .nil fun _ _ _ _=>?_
 (refine Zq ?_;intros)
 exact i7 ⟨.ret _ _ (.b _),.nil⟩
theorem b6v:j4 34 (sp1 fun s=>.ret (.c (.b (p8 s)))):=l9 (fun fn h=>e4x h) [(58,_)] (.cons c1z .nil) fun U fn hfn ⟨s,hs⟩ vs bs hv hb=>by
 have hn:=hfn 58 _ rfl
 have hv:j6 [.c (.s s)] vs:=hv
 have hb:RBs [] bs:=hb
 show g8 U _ fun v bs'=>j7 (.ret (.c (.b (p8 s)))) v∧RBs [] bs'
 unfold r34
 (refine Zq ?_;intros)
 refine f9 hn ⟨s,hs⟩ (r:=.c (.b (p8 s))) rfl j3 .nil fun _ _ _ _=>?_
 (refine Zq ?_;intros)
 exact i7 ⟨.ret _ _ (.b _),.nil⟩
def R8 (t:A8):List G:=[.i .i64 t.kind,.i .i64 (t.pos:Int),.s t.pkg,.s t.text,.s t.den]
theorem c7e (t:A8):(R8 t).length=5:=rfl
theorem c7d {a b:A8} (h:R8 a=R8 b):a=b:=by
 obtain ⟨k,p,g,t,d⟩:=a
 obtain ⟨k',p',g',t',d'⟩:=b
 simp only [R8,List.cons.injEq,G.i.injEq,G.s.injEq,true_and,and_true] at h
 obtain ⟨h1,h2,h3,h4,h5⟩:=h
 have:p=p':=oM
 rw [h1,this,h3,h4,h5]
def J4 (t:A8):o8:=if o7 t.text t.pkg true=0 then .ret (.t []) else a05 (o7 t.text t.pkg true) t.pos
theorem c6a (hst:j4 106 a1g):j4 117 { ι:={ t:A8 // t.pkg.length < 21600000 },A:=fun t=>[.a (R8 t.1)],B:=fun _=>[],R:=fun t=>J4 t.1,B':=fun _=>[],inj:=fun i j vs bs h k _ _=>(by
  obtain ⟨_,_,h1,k1,h,k⟩:=h.two k
  rw [c7d (h1.a_inj k1)];exact ⟨rfl,rfl⟩) }:=l9 (fun fn h=>d99 h) [(101,_),(136,_)] (.cons b4o (.cons (b6w hst) .nil)) fun U fn hfn ⟨t,ht⟩ vs bs hv hb=>by
 have hf:=hfn 101 _ rfl
 have hvp:=hfn 136 _ rfl
 have hv:j6 [.a [.i .i64 t.kind,.i .i64 (t.pos:Int),.s t.pkg,.s t.text,.s t.den]] vs:=hv
 have hb:RBs [] bs:=hb
 show g8 U _ fun v bs'=>j7 (J4 t) v∧RBs [] bs'
 unfold e3u
 have bad:∀ {e:Int} {vs:List V} {bs:List Bx} {K:V→List Bx→Om} ,e ≠ 0→o7 t.text t.pkg true=e→j6 [.c (.i .i64 e),.c (.i .i64 (t.pos:Int))] vs→RBs [] bs→g8 U (U.bind (fn 101 vs bs) K fun v=>some (.pan (U.rn0 v),[])) fun v bs'=>j7 (J4 t) v∧RBs [] bs':=fun {e vs bs K} h0 he hv hb=>by
  have e1:J4 t=a05 e t.pos:=by unfold J4;rw [he,if_neg h0]
  rw [e1]
  exact P6 hf (e,(t.pos:Int)) (r:=.fl 117 e t.pos) rfl hv hb fun _ hv=>a09 hv .nil
 have ok:∀ {bs:List Bx},o7 t.text t.pkg true=0→RBs [] bs→g8 U (some (.ret (.tuple []),bs)) fun v bs'=>j7 (J4 t) v∧RBs [] bs':=fun {bs} he hb=>by
  have e1:J4 t=.ret (.t []):=by unfold J4;rw [if_pos he]
  rw [e1]
  exact i7 ⟨.ret _ _ (.t _ _ .nil),hb⟩
 (refine Zy ?_;with_reducible repeat' first|intro _|apply aI)
 ·exact bad dE (by unfold o7;rw [if_pos oM]) (.k (.i _ _) (.k (.q _ _ aS) .nil)) .nil
 ·have hl:¬40 < t.text.length:=oM
  refine Q4 (fun vs bs=>∃ b:Bool,j6 [.p 0 0,.c (.b b)] vs∧RBs [[.i .i64 t.kind,.i .i64 (t.pos:Int),.s t.pkg,.s t.text,.s t.den]] bs∧(b=true↔(t.text.length=0∨(t.pkg.length ≠ 0∧p8 t.pkg=false)))) ?_ ?_
  ·rintro vs' bs' ⟨b,hv',hb',hbe⟩
   (refine Zq ?_;with_reducible repeat' first|intro _|apply aI)
   ·exact bad dE (by
     unfold o7
     rw [if_neg hl,if_pos]
     have:=hbe.1 ‹_›
     simpa using this) (.k (.i _ _) (.k (.q _ _ aS) .nil)) .nil
   ·exact ok (by
     unfold o7
     rw [if_neg hl,if_neg]
     intro h
     exact ‹¬b=true› (hbe.2 (by simpa using h))) .nil
  ·intro c hc
   (refine Zq ?_;with_reducible repeat' first|intro _|apply aI)
   ·have e:t.text=[]:=‹_›
    exact hc _ _ ⟨true,by (exact j3),RB.bx aS rfl,by simp [e]⟩
   ·have e:¬t.text=[]:=‹_›
    have e2:t.pkg=[]:=‹_›
    exact hc _ _ ⟨false,by (exact j3),RB.bx aS rfl,by simp [e,e2]⟩
   ·have e:¬t.text=[]:=‹_›
    have e2:¬t.pkg=[]:=‹_›
    refine f9 hvp ⟨t.pkg,ht⟩ (r:=.c (.b (p8 t.pkg))) rfl (.k (.q _ _ aS) .nil) .nil fun _ _ _ _=>?_
    (refine Zq ?_;intros)
    refine fun e9=>?_
    subst e9
    exact hc _ _ ⟨!p8 t.pkg,.k (.p _ _) (.k (M5 (b9z _).symm) .nil),RB.bx aS rfl,by simp [e,e2]⟩ rfl
def a29:Except (Int × Nat) (A8 × Nat)→o8
 | .ok (t,_)=>.ret (.a (R8 t))
 | .error (e,p)=>a05 e p
def tokB (k:Nat):Except (Int × Nat) (A8 × Nat)→Nat
 | .ok (_,j)=>j
 | .error _=>k
def wdS (s:f6) (i:Nat) (w:f6) (k:Nat):Except (Int × Nat) (A8 × Nat):=if has s k 58 58 then I7 s i w k else G4 i w k
def R2 (s:f6) (i:Nat) (by_:Int):Except (Int × Nat) (List Int × Nat):=H1 s by_ (i+1) []
def a9w:Except (Int × Nat) (List Int × Nat)→o8
 | .ok (l,_)=>.ret (.c (.s (E2 l)))
 | .error (e,p)=>a05 e p
def c08 (i:Nat):Except (Int × Nat) (List Int × Nat)→Nat
 | .ok (_,j)=>j
 | .error _=>i
def c0j:Sp where
 ι:={ p:ScI × Int // (p.2=34∨p.2=124)∧p.1.1.2 < p.1.1.1.length∧p.1.1.1.length < 1920000 }
 A p:=[.p 0 0,.c (.i .u8 p.1.2)]
 B p:=[G6 p.1.1.1.1 p.1.1.1.2]
 R p:=a9w (R2 p.1.1.1.1 p.1.1.1.2 p.1.2)
 B' p:=[G6 p.1.1.1.1 (c08 p.1.1.1.2 (R2 p.1.1.1.1 p.1.1.1.2 p.1.2))]
 inj i j vs bs hv kv h k:=by
  have:=a4h (RBs.one_inj h k)
  obtain ⟨_,_,_,_,hv,kv⟩:=hv.two kv
  obtain ⟨_,_,h2,k2,_,_⟩:=hv.two kv
  rw [this.1,this.2,Z7 h2 k2];exact ⟨rfl,rfl⟩
theorem scB {s:f6} {k:Nat} {n:Int} (hn:n=(k:Int)):RB (G6 s k) (.cells [.str s.length (j9 s),.int .i64 n]):=by
 subst hn
 exact .cells _ _ (.k (.s _ _ _ rfl rfl) (.k (.i _ _) .nil))
def z5:List G:=[.i .i64 0,.i .i64 0,.s [],.s [],.s []]
theorem z5B:RB z5 (.cells [.int .i64 0,.int .i64 0,.str 0 0,.str 0 0,.str 0 0]):=.cells _ _ j3
theorem a03 (s:f6):A6 s=O8 s:=by
 unfold A6 O8
 by_cases h:(f8 s).natAbs=0
 ·rw [h,u7];rfl
 ·rw [L2 _ h,E1 h];simp
theorem d6p (l:f6):Lib.trimS l [48]=[]↔∀ j,j < l.length→bt l j=48:=by
 rw [c3w]
 constructor
 ·intro h j hj
  have:=h l[j] (List.getElem_mem hj)
  simp only [List.contains_cons,List.contains_nil,Bool.or_false,beq_iff_eq] at this
  unfold bt;simp [List.getD,List.getElem?_eq_getElem hj,this]
 ·intro h b hb
  obtain ⟨j,hj,rfl⟩:=List.getElem_of_mem hb
  have:=h j hj
  unfold bt at this
  simp only [List.getD,List.getElem?_eq_getElem hj,Option.getD_some] at this
  simp only [List.contains_cons,List.contains_nil,Bool.or_false,beq_iff_eq]
  exact UInt8.toNat_inj.1 (by show _=48;omega)
theorem c5d {s:f6} {a:Nat} (ha:a≤s.length):F4 s a=s.length↔∀ j,a≤j→j < s.length→bt s j=48:=by
 fun_induction F4 s a with
 | case1 a h1 h2 ih =>
  rw [ih oM]
  constructor
  ·intro h j h3 h4
   by_cases hj:j=a
   ·subst hj;exact h2
   ·exact h j oM h4
  ·intro h j h3 h4;exact h j oM h4
 | case2 a h1 h2=>exact ⟨fun h=>by omega,fun h=>absurd (h a (Nat.le_refl _) h1) h2⟩
 | case3 a h1=>exact ⟨fun _ j h3 h4=>by omega,fun _=>by omega⟩
theorem b5a {l:f6} (h:E8 l=true):Lib.trimS l [48]=[]↔plain l=w9:=by
 unfold E8 at h
 obtain ⟨h0,h1⟩:=of_decide_eq_true h
 rw [a78 (Nat.zero_le _)] at h1
 have hl:=List.length_pos_iff.2 h0
 have hs:g9 l=0:=by
  unfold g9;rw [if_neg];rintro ⟨_,h2⟩;have:=h1 0 (Nat.le_refl _) hl;omega
 have hz:=a86 l 0 (Nat.zero_le _)
 rw [d6p]
 unfold plain
 simp only [hs,List.take_length]
 rw [show (∀ j,j < l.length→bt l j=48)↔F4 l 0=l.length by rw [c5d (Nat.zero_le _)];exact ⟨fun h j _=>h j,fun h j=>h j (Nat.zero_le _)⟩]
 by_cases he:F4 l 0=l.length
 ·rw [if_pos he];exact ⟨fun _=>rfl,fun _=>he⟩
 ·rw [if_neg he,if_neg dE]
  refine ⟨fun h=>absurd h he,fun h=>?_⟩
  exfalso
  have hst:∀ a,F4 l a < l.length→bt l (F4 l a) ≠ 48:=by
   intro a
   fun_induction F4 l a with
   | case1 a h1 h2 ih=>exact ih
   | case2 a h1 h2=>intro _ h;exact h2 h
   | case3 a h1=>intro h;exact absurd h h1
  have h2:=hst 0 oM
  have h3:bt (l.drop (F4 l 0)) 0=bt w9 0:=by rw [h]
  rw [a1v] at h3
  exact h2 h3
theorem a69 {w:f6} (h:(n6 w).2.2=true):(n6 w).1=(u4 w).1∧(n6 w).2.1=(u4 w).2∧E8 (u4 w).2=true:=by
 obtain ⟨h1,h2⟩:=b4y w
 obtain ⟨a,b⟩:=h2 h
 rw [h] at h1
 simp only [Bool.and_eq_true] at h1
 exact ⟨a,b,h1.2⟩
end
end Go.Proofs.YtgipbdffgfbedaaGreatDoor
