/- The reference's arithmetic, on: Small, Divide. -/
import Derived.Test.YtkojildpddaccaaGreatDoorCJ3
set_option linter.all false
namespace Go.Proofs.YtkojildpddaccaaGreatDoor
open Go.Abs LQ
set_option maxRecDepth 100000
set_option maxHeartbeats 4000000
noncomputable section
theorem e4n {l:List Nat} {m:Nat} (h:m < l.length):val (l.drop m)=l.getD m 0+10 * val (l.drop (m+1)):=by
 rw [List.drop_eq_getElem_cons h,val,a5h h]
theorem e8a {l:List Nat} (h:D9 l) (m:Nat):D9 (l.drop m):=fun d hd=>h d (List.mem_of_mem_drop hd)
def K5 (x:Int):Int × Bool:=if 9 < (p7 x.natAbs).length then (0,false) else (x,true)
theorem d5o:s9 239 (sp1 fun s=>.ret (.t [.c (.i .i64 (K5 (p8 s)).1),.c (.b (K5 (p8 s)).2)])):=u2 (fun fn h=>f1v h) [(137,_)] (.cons Z9 .nil) fun U fn hfn ⟨a,ha⟩ vs bs hv hb=>by
 have hd:=hfn 137 _ rfl
 have ha:a.length < 90000:=ha
 have hv:t7 [.c (.s a)] vs:=hv
 have hb:s5 [] bs:=hb
 show s4 U _ fun v bs'=>u0 (.ret (.t [.c (.i .i64 (K5 (p8 a)).1),.c (.b (K5 (p8 a)).2)])) v∧s5 [] bs'
 unfold e20
 (refine Zx ?_;intros)
 refine o7 hd ⟨a,oM⟩ (r:=.t [.c (.b (decide (p8 a < 0))),.sl 1 ((p7 (p8 a).natAbs).map dg)]) rfl u5 .nil fun _ _ _ _=>?_
 generalize p8 a=x at *
 have h9:=B3 x.natAbs
 have e:=C0 x.natAbs
 generalize ed:p7 x.natAbs=d at *
 (refine Zx ?_;with_reducible repeat' first|intro _|apply aI)
 ·exact p9 ⟨.ret _ _ (by unfold K5;rw [ed,if_pos oM];(exact u5)),.nil⟩
 ·have h10:d.length≤9:=oM
  refine F9 (fun (m:Nat) vs bs=>∃ (t:s6 Q) (off:Nat) (n i:Int),vs=[.bool (decide (x < 0)),.slice t 1 off d.length .no,.int .i64 n,.int .i64 i]∧bs=[]∧i=m - 1∧n=val (d.drop m)∧u6 1 (d.map dg) t off∧m≤d.length) (fun m=>m) d.length ⟨_,_,_,_,rfl,rfl,rfl,by simp [val],aS,oM⟩ (by simp only [C9];omega) ?_
  rintro self m _ _ ⟨t,off,n,i,rfl,rfl,rfl,rfl,ht,hm⟩ ih
  (refine Zx ?_;with_reducible repeat' first|intro _|apply aI)
  ·have q9:=D9.at h9 (m - 1)
   have hv2:=Z6 (d.drop m) (e8a h9 m)
   have hv3:10 ^ (d.drop m).length≤10 ^ 9:=Nat.pow_le_pow_right oM (by simp;omega)
   have ev:=e4n (l:=d) (m:=m - 1) oM
   rw [show m - 1+1=m by omega] at ev
   refine e7k oM ?_
   (refine Zx ?_;intros)
   refine a96 (m - 1) aS oM oM fun _ _=>?_
   (refine Zx ?_;intros)
   refine ih (m - 1) _ _ ?_ oM
   exact ⟨_,_,_,_,rfl,rfl,oM,oM,ht,oM⟩
  all_goals (
   have em:m=0:=oM
   subst em
   have hv2:=Z6 d h9
   have hv3:10 ^ d.length≤10 ^ 9:=Nat.pow_le_pow_right oM oM
   rw [List.drop_zero] at *)
  ·have hx:x < 0:=by simpa using ‹decide (x < 0)=true›
   (refine Zx ?_;intros)
   have e2:(0:Int) - ((val d:Nat):Int)=x:=oM
   rw [e2]
   exact p9 ⟨.ret _ _ (by unfold K5;rw [ed,if_neg oM];(exact u5)),.nil⟩
  ·have hx:¬x < 0:=by simpa using ‹¬decide (x < 0)=true›
   have e2:((val d:Nat):Int)=x:=oM
   rw [e2]
   exact p9 ⟨.ret _ _ (by unfold K5;rw [ed,if_neg oM];(exact u5)),.nil⟩
def g9x (R:Int→Int→u9):Sp where
 ι:={ p:u4 × u4 // p.1.length < 9000∧p.2.length < 9000∧0 < p8 p.2 }
 A p:=[.c (.s p.1.1),.c (.s p.1.2)]
 B _:=[]
 R p:=R (p8 p.1.1) (p8 p.1.2)
 B' _:=[]
 inj i j vs bs h k _ _:=by
  obtain ⟨_,_,h1,k1,h,k⟩:=h.two k
  obtain ⟨_,_,h2,k2,h,k⟩:=h.two k
  rw [a4l h1 k1,a4l h2 k2];exact ⟨rfl,rfl⟩
theorem g41 (d:Nat):u6 1 ([d].map dg) (.node (.int .i64 (d:Int)) .nil .nil) 0:=.cons _ _ _ _ _ rfl (N6 (.i _ _)).1 (fun g e=>(N6 (.i _ _)).2 g e) (.nil _ _ _)
theorem fdm {x q r:Int} {n:Nat} (hn:0 < n) (h1:r+n * q=x) (h2:0≤r) (h3:r < n):x.fdiv n=q∧x.fmod n=r:=by
 have h:=(Int.ediv_emod_unique (a:=x) (b:=n) (r:=r) (q:=q) oM).2 ⟨h1,h2,h3⟩
 rw [Int.fdiv_eq_ediv_of_nonneg _ oM,Int.fmod_eq_emod_of_nonneg _ oM]
 exact h
theorem d08 {x:Int} {n:Nat} (hn:0 < n) (hx:x < 0) (hr:0 < x.natAbs % n):x.fdiv n=-(((x.natAbs / n+1:Nat)):Int)∧x.fmod n=((n - x.natAbs % n:Nat):Int):=by
 have h1:=Nat.div_add_mod x.natAbs n
 have h2:=Nat.mod_lt x.natAbs hn
 have h3:((n:Int) * ((x.natAbs / n:Nat):Int))+((x.natAbs % n:Nat):Int)=x.natAbs:=by rw [← Int.natCast_mul,← Int.natCast_add,h1]
 generalize x.natAbs / n=a at *
 generalize x.natAbs % n=b at *
 refine fdm hn ?_ oM oM
 rw [Int.natCast_add,Int.mul_neg,Int.mul_add]
 generalize (n:Int) * (a:Int)=c at *
 omega
theorem d09 {x:Int} {n:Nat} (hn:0 < n) (hx:x < 0) (hr:x.natAbs % n=0):x.fdiv n=-((x.natAbs / n:Nat):Int)∧x.fmod n=((x.natAbs % n:Nat):Int):=by
 have h1:=Nat.div_add_mod x.natAbs n
 have h3:((n:Int) * ((x.natAbs / n:Nat):Int))+((x.natAbs % n:Nat):Int)=x.natAbs:=by rw [← Int.natCast_mul,← Int.natCast_add,h1]
 rw [hr] at *
 generalize x.natAbs / n=a at *
 refine fdm hn ?_ oM oM
 rw [Int.mul_neg]
 generalize (n:Int) * (a:Int)=c at *
 omega
theorem d1a {x:Int} {n:Nat} (hn:0 < n) (hx:¬x < 0):x.fdiv n=((x.natAbs / n:Nat):Int)∧x.fmod n=((x.natAbs % n:Nat):Int):=by
 have h1:=Nat.div_add_mod x.natAbs n
 have h2:=Nat.mod_lt x.natAbs hn
 have h3:((n:Int) * ((x.natAbs / n:Nat):Int))+((x.natAbs % n:Nat):Int)=x.natAbs:=by rw [← Int.natCast_mul,← Int.natCast_add,h1]
 generalize x.natAbs / n=a at *
 generalize x.natAbs % n=b at *
 refine fdm hn ?_ oM oM
 generalize (n:Int) * (a:Int)=c at *
 omega
theorem e89:s9 196 (g9x fun x y=>.ret (.t [.c (.s (p5 (x.fdiv y))),.c (.s (p5 (x.fmod y)))])):=u2 (fun fn h=>f1c h) [(137,_),(139,_),(238,_),(207,_),(140,_)] (.cons Z9 (.cons d1f (.cons e50 (.cons c30 (.cons b2w .nil))))) fun U fn hfn ⟨(a,b),ha,hbl,hp⟩ vs bs hv hb=>by
 have hd:=hfn 137 _ rfl
 have ho:=hfn 139 _ rfl
 have hpl:=hfn 238 _ rfl
 have hmi:=hfn 207 _ rfl
 have hx:=hfn 140 _ rfl
 have ha:a.length < 9000:=ha
 have hbl:b.length < 9000:=hbl
 have hp:0 < p8 b:=hp
 have hv:t7 [.c (.s a),.c (.s b)] vs:=hv
 have hb:s5 [] bs:=hb
 show s4 U _ fun v bs'=>u0 (.ret (.t [.c (.s (p5 ((p8 a).fdiv (p8 b)))),.c (.s (p5 ((p8 a).fmod (p8 b))))])) v∧s5 [] bs'
 have la:=M6 a
 have lb:=M6 b
 unfold e2h
 (refine Zx ?_;intros)
 refine o7 hd ⟨a,oM⟩ (r:=.t [.c (.b (decide (p8 a < 0))),.sl 1 ((p7 (p8 a).natAbs).map dg)]) rfl u5 .nil fun _ _ _ _=>?_
 (refine Zx ?_;intros)
 obtain ⟨n,hn⟩:∃ n:Nat,p8 b=n:=⟨(p8 b).natAbs,oM⟩
 rw [hn] at hp lb ⊢
 rw [Int.natAbs_natCast] at lb
 refine o7 hd ⟨b,oM⟩ (r:=.t [.c (.b false),.sl 1 ((p7 n).map dg)]) (by show u9.ret (GV.t [.c (.b (decide (p8 b < 0))),.sl 1 ((p7 (p8 b).natAbs).map dg)])=_;rw [hn,Int.natAbs_natCast,decide_eq_false oM]) u5 .nil fun _ _ _ _=>?_
 generalize p8 a=x at *
 have hn0:0 < n:=oM
 have hl0:0 < (p7 n).length:=by rw [E1 oM];simp
 (refine Zx ?_;with_reducible repeat' first|intro _|apply aI)
 ·omega
 refine o7 ho ⟨(x.natAbs,n),show (p7 x.natAbs).length < 80000 by omega,show (p7 n).length < 80000 by omega,hn0⟩ (r:=.t [.sl 1 ((p7 (x.natAbs / n)).map dg),.sl 1 ((p7 (x.natAbs % n)).map dg)]) rfl u5 .nil fun _ _ _ _=>?_
 have l1:(p7 (x.natAbs / n)).length < 80000:=by have:=D3 (Nat.div_le_self x.natAbs n);omega
 have l2:(p7 (x.natAbs % n)).length < 80000:=by have:=D3 (Nat.mod_le x.natAbs n);omega
 have hmod:=Nat.mod_lt x.natAbs hn0
 (refine Zx ?_;with_reducible repeat' first|intro _|apply aI)
 ·have hx0:x < 0:=by simpa using ‹(decide (x < 0) != false)=true›
  have hr0:0 < x.natAbs % n:=by
   have h3:(0:Int) < ((p7 (x.natAbs % n)).length:Int):=aS
   rcases Nat.eq_zero_or_pos (x.natAbs % n) with h | h
   ·rw [h,C5] at h3;simp at h3
   ·exact h
  obtain ⟨e1,e2⟩:=d08 hn0 hx0 hr0
  have hl:=a43 (p7 (x.natAbs / n)) [1] 0
  have h1:D9 [1]:=fun d hd=>by simp at hd;omega
  refine o7 hpl ⟨(p7 (x.natAbs / n),[1]),show (p7 (x.natAbs / n)).length < 90000 by omega,by show 1 < 90000;omega,B3 _,h1⟩ (r:=.sl 1 ((G2 (p7 (x.natAbs / n)) [1] 0).map dg)) rfl (.k u5 (.k (.sl _ _ _ _ _ rfl (g41 1)) .nil)) .nil fun _ _ _ _=>?_
  (refine Zx ?_;intros)
  have l3:(p7 (n - x.natAbs % n)).length < 90000:=by have:=D3 (Nat.sub_le n (x.natAbs % n));omega
  refine o7 hmi ⟨(p7 n,p7 (x.natAbs % n)),show (p7 n).length < 90000 by omega,show (p7 (x.natAbs % n)).length < 90000 by omega,B3 _,B3 _⟩ (r:=.sl 1 ((p7 (n - x.natAbs % n)).map dg)) (by rw [← a6w _ _ oM];rfl) u5 .nil fun _ _ _ _=>?_
  (refine Zx ?_;intros)
  refine o7 hx ⟨(decide (x < 0) != false,G2 (p7 (x.natAbs / n)) [1] 0),show (G2 (p7 (x.natAbs / n)) [1] 0).length < 90000 by simp at hl;omega,a7w _ _ _ oM (B3 _) h1⟩ (r:=.c (.s (p5 (x.fdiv n)))) (by show u9.ret (.c (.s (J0 _ (val _))))=_;rw [a45,C0,W4,e1];simp [hx0,val]) u5 .nil fun _ _ _ _=>?_
  (refine Zx ?_;intros)
  refine o7 hx ⟨(false,p7 (n - x.natAbs % n)),l3,B3 _⟩ (r:=.c (.s (p5 (x.fmod n)))) (by show u9.ret (.c (.s (J0 _ (val _))))=_;rw [C0,W4,e2];rfl) u5 .nil fun _ _ _ _=>?_
  (refine Zx ?_;intros)
  exact p9 ⟨.ret _ _ u5,.nil⟩
 ·have hx0:x < 0:=by simpa using ‹(decide (x < 0) != false)=true›
  have hr0:x.natAbs % n=0:=by
   by_cases h:x.natAbs % n=0
   ·exact h
   ·have:0 < (p7 (x.natAbs % n)).length:=by rw [E1 h];simp
    omega
  obtain ⟨e1,e2⟩:=d09 hn0 hx0 hr0
  refine o7 hx ⟨(decide (x < 0) != false,p7 (x.natAbs / n)),show (p7 (x.natAbs / n)).length < 90000 by omega,B3 _⟩ (r:=.c (.s (p5 (x.fdiv n)))) (by show u9.ret (.c (.s (J0 _ (val _))))=_;rw [C0,W4,e1];simp [hx0]) u5 .nil fun _ _ _ _=>?_
  (refine Zx ?_;intros)
  refine o7 hx ⟨(false,p7 (x.natAbs % n)),show (p7 (x.natAbs % n)).length < 90000 by omega,B3 _⟩ (r:=.c (.s (p5 (x.fmod n)))) (by show u9.ret (.c (.s (J0 _ (val _))))=_;rw [C0,W4,e2];rfl) u5 .nil fun _ _ _ _=>?_
  (refine Zx ?_;intros)
  exact p9 ⟨.ret _ _ u5,.nil⟩
 ·have hx0:¬x < 0:=by simpa using ‹¬(decide (x < 0) != false)=true›
  obtain ⟨e1,e2⟩:=d1a hn0 hx0
  refine o7 hx ⟨(decide (x < 0) != false,p7 (x.natAbs / n)),show (p7 (x.natAbs / n)).length < 90000 by omega,B3 _⟩ (r:=.c (.s (p5 (x.fdiv n)))) (by show u9.ret (.c (.s (J0 _ (val _))))=_;rw [C0,W4,e1];simp [hx0]) u5 .nil fun _ _ _ _=>?_
  (refine Zx ?_;intros)
  refine o7 hx ⟨(false,p7 (x.natAbs % n)),show (p7 (x.natAbs % n)).length < 90000 by omega,B3 _⟩ (r:=.c (.s (p5 (x.fmod n)))) (by show u9.ret (.c (.s (J0 _ (val _))))=_;rw [C0,W4,e2];rfl) u5 .nil fun _ _ _ _=>?_
  (refine Zx ?_;intros)
  exact p9 ⟨.ret _ _ u5,.nil⟩
def O.strT:O→u4
 | .tx s=>s
 | _=>[]
theorem e52:s9 197 (spO fun a=>.c (.s a.strT)):=u2 (fun fn h=>f1d h) [] .nil fun U fn hfn a vs bs hv hb=>by
 have hv:t7 [.a a.g] vs:=hv
 have hb:s5 [] bs:=hb
 show s4 U _ fun v bs'=>u0 (.ret (.c (.s a.strT))) v∧s5 [] bs'
 unfold e2i
 rw [a.g_eq] at hv
 cases a <;> simp only [O.k,O.nu,O.de,O.sym,O.txt,O.ps] at hv <;> (refine Zx ?_;with_reducible repeat' first|intro _|apply aI)
 all_goals try (exfalso;omega)
 all_goals exact p9 ⟨.ret _ _ u5,.nil⟩
theorem c7w:s9 69 (c11 fun s=>.c (.b (named s))):=u2 (fun fn h=>d6u h) [(109,_)] (.cons c7t .nil) fun U fn hfn ⟨s,h1,h2⟩ vs bs hv hb=>by
 have hN:=hfn 109 _ rfl
 have hv:t7 [.a (sg s)] vs:=hv
 have hb:s5 [] bs:=hb
 show s4 U _ fun v bs'=>u0 (.ret (.c (.b (named s)))) v∧s5 [] bs'
 unfold r69
 (refine Zx ?_;intros)
 refine o7 hN ⟨s,h1,h2⟩ (r:=.c (.b (named s))) rfl (.k (.a _ _ _ rfl aS) .nil) .nil fun _ _ _ _=>?_
 (refine Zx ?_;intros)
 exact p9 ⟨.ret _ _ u5,.nil⟩
theorem O.int_num {a:O} (h:a.isInt=true):∃ n,a=.num n 1:=by
 cases a with
 | num n d=>exact ⟨n,by rw [show d=1 by simpa [O.isInt] using h]⟩
 | _=>simp [O.isInt] at h
def T1 (a:O):Int × Bool:=if a.isInt=true∧(p7 a.na.natAbs).length≤9∧0≤a.na∧a.na≤255 then (a.na,true) else (0,false)
theorem f6g:s9 198 (c1y fun a=>.t [.c (.i .u8 (T1 a).1),.c (.b (T1 a).2)]):=u2 (fun fn h=>f1e h) [(193,_),(239,_)] (.cons a9n (.cons d5o .nil)) fun U fn hfn ⟨a,ha⟩ vs bs hv hb=>by
 have hI:=hfn 193 _ rfl
 have hS:=hfn 239 _ rfl
 have hv:t7 [.a a.g] vs:=hv
 have hb:s5 [] bs:=hb
 show s4 U _ fun v bs'=>u0 (.ret (.t [.c (.i .u8 (T1 a).1),.c (.b (T1 a).2)])) v∧s5 [] bs'
 unfold e2j
 (refine Zz ?_;intros)
 refine oR fun _ _=>?_
 (refine Zz ?_;with_reducible repeat' first|intro _|apply aI)
 cases hi:a.isInt with
 | false =>
  refine o7 hI a (r:=.c (.b false)) (by show u9.ret (.c (.b a.isInt))=_;rw [hi]) oA .nil fun _ _ _ _=>?_
  (refine Zz ?_;intros)
  exact p9 ⟨.ret _ _ (by unfold T1;rw [hi,if_neg (by simp)];(exact u5)),.nil⟩
 | true =>
  refine o7 hI a (r:=.c (.b true)) (by show u9.ret (.c (.b a.isInt))=_;rw [hi]) oA .nil fun _ _ _ _=>?_
  obtain ⟨n,rfl⟩:=a.int_num hi
  have hl:(p5 n).length < 9000:=ha.1
  (refine Zz ?_;intros)
  by_cases h9:9 < (p7 n.natAbs).length
  ·refine o7 hS ⟨p5 n,show (p5 n).length < 90000 by omega⟩ (r:=.t [.c (.i .i64 0),.c (.b false)]) (by show u9.ret (.t [.c (.i .i64 (K5 (p8 (p5 n))).1),.c (.b (K5 (p8 (p5 n))).2)])=_;rw [v7];unfold K5;rw [if_pos h9]) u5 .nil fun _ _ _ _=>?_
   have e:T1 (.num n 1)=(0,false):=by unfold T1;rw [if_neg (by simp only [O.na];omega)]
   rw [e]
   (refine Zz ?_;intros)
   exact p9 ⟨.ret _ _ u5,.nil⟩
  ·refine o7 hS ⟨p5 n,show (p5 n).length < 90000 by omega⟩ (r:=.t [.c (.i .i64 n),.c (.b true)]) (by show u9.ret (.t [.c (.i .i64 (K5 (p8 (p5 n))).1),.c (.b (K5 (p8 (p5 n))).2)])=_;rw [v7];unfold K5;rw [if_neg h9]) u5 .nil fun _ _ _ _=>?_
   by_cases hr:0≤n∧n≤255
   ·have e:T1 (.num n 1)=(n,true):=by unfold T1;rw [if_pos ⟨hi,by simp only [O.na];omega⟩];rfl
    rw [e]
    (refine Zz ?_;with_reducible repeat' first|intro _|apply aI)
    all_goals try (exfalso;omega)
    refine d3p rfl oM ?_
    (refine Zz ?_;intros)
    exact p9 ⟨.ret _ _ u5,.nil⟩
   ·have e:T1 (.num n 1)=(0,false):=by unfold T1;rw [if_neg (by simp only [O.na];omega)]
    rw [e]
    (refine Zz ?_;with_reducible repeat' first|intro _|apply aI)
    all_goals first
     | (exfalso;omega)
     | exact p9 ⟨.ret _ _ u5,.nil⟩
def T0:O→O→Int × Bool
 | .tx t,o=>if o.isInt=true∧(p7 o.na.natAbs).length≤9∧0≤o.na∧o.na < t.length then (o.na,true) else (0,false)
 | _,_=>(0,false)
theorem a8c (t:u4) (o:O):T0 (.tx t) o=if o.isInt=true∧(p7 o.na.natAbs).length≤9∧0≤o.na∧o.na < t.length then (o.na,true) else (0,false):=rfl
def g9z (R:O→O→GV):Sp where
 ι:={ p:O × O // p.2.sm }
 A p:=[.a p.1.1.g,.a p.1.2.g]
 B _:=[]
 R p:=.ret (R p.1.1 p.1.2)
 B' _:=[]
 inj i j vs bs h k _ _:=by obtain ⟨e1,e2⟩:=b0v h k;rw [e1,e2];exact ⟨rfl,rfl⟩
theorem f6d:s9 202 (g9z fun s o=>.t [.c (.i .i64 (T0 s o).1),.c (.b (T0 s o).2)]):=u2 (fun fn h=>f1i h) [(193,_),(239,_)] (.cons a9n (.cons d5o .nil)) fun U fn hfn ⟨(s,a),ha⟩ vs bs hv hb=>by
 have hI:=hfn 193 _ rfl
 have hS:=hfn 239 _ rfl
 have ha:a.sm:=ha
 have hv:t7 [.a s.g,.a a.g] vs:=hv
 have hb:s5 [] bs:=hb
 show s4 U _ fun v bs'=>u0 (.ret (.t [.c (.i .i64 (T0 s a).1),.c (.b (T0 s a).2)])) v∧s5 [] bs'
 unfold e2n
 rw [s.g_eq] at hv
 cases s with
 | tx t =>
  simp only [O.k,O.nu,O.de,O.sym,O.txt,O.ps] at hv
  (refine Zz ?_;intros)
  refine oR fun _ _=>?_
  (refine Zz ?_;with_reducible repeat' first|intro _|apply aI)
  all_goals try (exfalso;omega)
  cases hi:a.isInt with
  | false =>
   refine o7 hI a (r:=.c (.b false)) (by show u9.ret (.c (.b a.isInt))=_;rw [hi]) oA .nil fun _ _ _ _=>?_
   have e:T0 (.tx t) a=(0,false):=by rw [a8c,if_neg (by rw [hi];simp)]
   rw [e]
   (refine Zz ?_;intros)
   exact p9 ⟨.ret _ _ u5,.nil⟩
  | true =>
   refine o7 hI a (r:=.c (.b true)) (by show u9.ret (.c (.b a.isInt))=_;rw [hi]) oA .nil fun _ _ _ _=>?_
   obtain ⟨n,rfl⟩:=a.int_num hi
   have hl:(p5 n).length < 9000:=ha.1
   (refine Zz ?_;intros)
   by_cases h9:9 < (p7 n.natAbs).length
   ·refine o7 hS ⟨p5 n,show (p5 n).length < 90000 by omega⟩ (r:=.t [.c (.i .i64 0),.c (.b false)]) (by show u9.ret (.t [.c (.i .i64 (K5 (p8 (p5 n))).1),.c (.b (K5 (p8 (p5 n))).2)])=_;rw [v7];unfold K5;rw [if_pos h9]) u5 .nil fun _ _ _ _=>?_
    have e:T0 (.tx t) (.num n 1)=(0,false):=by rw [a8c,if_neg (by simp only [O.na];omega)]
    rw [e]
    (refine Zz ?_;intros)
    exact p9 ⟨.ret _ _ u5,.nil⟩
   ·refine o7 hS ⟨p5 n,show (p5 n).length < 90000 by omega⟩ (r:=.t [.c (.i .i64 n),.c (.b true)]) (by show u9.ret (.t [.c (.i .i64 (K5 (p8 (p5 n))).1),.c (.b (K5 (p8 (p5 n))).2)])=_;rw [v7];unfold K5;rw [if_neg h9]) u5 .nil fun _ _ _ _=>?_
    by_cases hr:0≤n∧n < t.length
    ·have e:T0 (.tx t) (.num n 1)=(n,true):=by rw [a8c,if_pos ⟨hi,by simp only [O.na];omega⟩];rfl
     rw [e]
     (refine Zz ?_;with_reducible repeat' first|intro _|apply aI)
     all_goals first
      | (exfalso;omega)
      | exact p9 ⟨.ret _ _ u5,.nil⟩
    ·have e:T0 (.tx t) (.num n 1)=(0,false):=by rw [a8c,if_neg (by simp only [O.na];omega)]
     rw [e]
     (refine Zz ?_;with_reducible repeat' first|intro _|apply aI)
     all_goals first
      | (exfalso;omega)
      | exact p9 ⟨.ret _ _ u5,.nil⟩
 | _ =>
  simp only [O.k,O.nu,O.de,O.sym,O.txt,O.ps] at hv
  (refine Zz ?_;intros)
  refine oR fun _ _=>?_
  (refine Zz ?_;with_reducible repeat' first|intro _|apply aI)
  all_goals try (exfalso;omega)
  all_goals exact p9 ⟨.ret _ _ (by show RV (.t [.c (.i .i64 0),.c (.b false)]) _;(exact u5)),.nil⟩
def O.isSy:O→Bool
 | .sy _=>true
 | _=>false
def O.isTx:O→Bool
 | .tx _=>true
 | _=>false
def O.isNu:O→Bool
 | .num _ _=>true
 | _=>false
theorem f6z (a:O):0≤(T1 a).1∧(T1 a).1≤255:=by
 unfold T1
 split
 ·rename_i h;exact h.2.2
 ·exact ⟨dE,dE⟩
theorem a3x:p8 Q6=1:=by rw [← a3d,A7];rfl
def O.ok (a:O):Prop:=a.fx∧a.sm∧0 < a.da
theorem O.ok.sl {a:O} (h:a.ok):a.strT.length < 9000:=by
 have h:=h.2.1
 cases a with
 | tx s=>exact h
 | _=>exact Nat.zero_lt_succ _
theorem d98 {x:Int} {n:Nat} (hn:0 < n) (h:(p5 x).length < 2000):(p5 (x.fdiv n)).length < 9000:=by
 have h1:=P7 (x.fdiv n)
 have h2:=N2 x
 have h3:(x.fdiv n).natAbs≤x.natAbs+1:=by
  have h5:=Nat.div_le_self x.natAbs n
  by_cases hx:x < 0
  ·by_cases hr:x.natAbs % n=0
   ·rw [(d09 hn hx hr).1];generalize x.natAbs / n=q at *;omega
   ·rw [(d08 hn hx (Nat.pos_of_ne_zero hr)).1];generalize x.natAbs / n=q at *;omega
  ·rw [(d1a hn hx).1];generalize x.natAbs / n=q at *;omega
 have h10:(p7 10).length=2:=by rw [E1 dE,show 10 / 10=1 from rfl,E1 dE,show 1 / 10=0 from rfl,C5];rfl
 have h4:(p7 (x.fdiv n).natAbs).length≤(p7 x.natAbs).length+2:=by
  by_cases h0:x.natAbs=0
  ·have:=D3 (show (x.fdiv n).natAbs≤10 by omega);omega
  ·have h5:=D3 (show (x.fdiv n).natAbs≤x.natAbs * 10 by omega)
   have h6:=N0 x.natAbs 10
   omega
 omega
theorem g87 {k:Nat} (h:k < 256):u6 1 ([UInt8.ofNat k].map bg) (.node (.int .u8 (k:Int)) .nil .nil) 0:=by
 have e:(UInt8.ofNat k).toNat=k:=by simp;omega
 have e2:[UInt8.ofNat k].map bg=[[.i .u8 (k:Int)]]:=by simp only [List.map,bg,e]
 rw [e2]
 exact .cons _ _ _ _ _ rfl (N6 (.i _ _)).1 (fun g e=>(N6 (.i _ _)).2 g e) (.nil _ _ _)
def G6 (s:u4) (a:O):O :=
 if s=o8 3 7496035 then d9o a else
 if s=o8 3 7496803 then d9p a else
 if s=o8 5 482972954467 then G0 a.isCo else
 if s=o8 7 31644423040104819 then G0 a.isSy else
 if s=o8 7 31638921304765555 then G0 a.isTx else
 if s=o8 9 2073844980909096591730 then G0 a.isNu else
 if s=o8 8 8102650174351109737 then G0 a.isInt else
 if s=o8 7 12716373585260149 then b8m a else
 if s=o8 7 13279323538681461 then b8t a else
 if s=o8 9 2110959975582353159534 then L1 (qn a.na 1) else
 if s=o8 11 138343872958643594702251364 then L1 (qn a.da 1) else
 if s=o8 5 491495844966 then L1 (qn (a.na.fdiv a.da) 1) else
 if s=o8 11 122618043001006431572687219 then .tx a.sym.2 else
 if s=o8 19 2261903658058535744205936875630873591400986995 then .tx a.sym.1 else
 if s=o8 13 8275754203313416711865239762035 then .num (a.strT.length:Int) 1 else
 if s=o8 11 125040764888893661906237794 then (if (T1 a).2=true then .tx [UInt8.ofNat (T1 a).1.toNat] else .tx []) else
 .no
def g0g (f:u4→O→O):Sp where
 ι:={ p:u4 × O // p.2.ok }
 A p:=[.c (.s p.1.1),.a p.1.2.g]
 B _:=[]
 R p:=.ret (.a (f p.1.1 p.1.2).g)
 B' _:=[]
 inj i j vs bs h k _ _:=by
  obtain ⟨_,_,h1,k1,h,k⟩:=h.two k
  obtain ⟨_,_,h2,k2,h,k⟩:=h.two k
  have e1:i.1.1=j.1.1:=G.s.inj (h1.c_inj k1)
  have e2:=O.g_inj (h2.a_inj k2)
  rw [e1,e2];exact ⟨rfl,rfl⟩
theorem g4c (hItoa:a0j):s9 134 (g0g G6):=u2 (fun fn h=>f0i h) [(191,_),(96,_),(193,_),(192,_),(35,_),(194,_),(195,_),(50,_),(196,_),(63,_),(197,_),(27,_),(198,_)] (.cons (b8f hItoa) (.cons e9f (.cons a9n (.cons d5p (.cons b8g (.cons (d5n hItoa) (.cons (c6c hItoa) (.cons Y8 (.cons e89 (.cons c33 (.cons e52 (.cons (c3z hItoa) (.cons f6g .nil))))))))))))) fun U fn hfn ⟨(s,a),ho⟩ vs bs hv hb=>by
 have hF:=hfn 191 _ rfl
 have hC:=hfn 96 _ rfl
 have hI:=hfn 193 _ rfl
 have hT:=hfn 192 _ rfl
 have hN:=hfn 35 _ rfl
 have hOp:=hfn 194 _ rfl
 have hRe:=hfn 195 _ rfl
 have hR:=hfn 50 _ rfl
 have hD:=hfn 196 _ rfl
 have hX:=hfn 63 _ rfl
 have hSt:=hfn 197 _ rfl
 have hIn:=hfn 27 _ rfl
 have hOc:=hfn 198 _ rfl
 change t7 [.c (.s s),.a a.g] vs at hv
 change s5 [] bs at hb
 have ho:a.ok:=ho
 have hfx:(p5 a.na).length < 2000∧(s3 a.da).length < 2000:=ho.1
 have hsm:a.sm:=ho.2.1
 have hda:0 < a.da:=ho.2.2
 have hfl:=d98 hda hfx.1
 have hsl:=ho.sl
 show s4 U _ fun v bs'=>u0 (.ret (.a (G6 s a).g)) v∧s5 [] bs'
 unfold e1l
 (refine Zw ?_;intros)
 refine oR fun _ _=>?_
 (refine Zw ?_;intros)
 refine o7 hF a (r:=.a (O.num a.na a.da).g) rfl oA .nil fun _ _ _ _=>?_
 (refine Zw ?_;intros)
 by_cases hs:s=o8 3 7496035
 ·have eo:G6 s a=d9o a:=by unfold G6;(repeat rw [if_neg (by rw [hs];decide)]);exact if_pos hs
  rw [eo]
  repeat (refine G5 (by rw [hs];decide) ?_;(refine Zw ?_;with_reducible repeat' first|intro _|apply aI))
  refine G7 hs ?_
  (refine Zw ?_;with_reducible repeat' first|intro _|apply aI)
  cases a with
  | co x y =>
   refine o7 hC (O.co x y) (r:=.c (.b true)) rfl oA .nil fun _ _ _ _=>?_
   (refine Zw ?_;intros)
   refine G7 hs ?_
   (refine Zw ?_;with_reducible repeat' first|intro _|apply aI)
   refine E5 (ys:=[x,y]) (f:=O.g) aS (v6 O.g_len) fun _ _ _=>?_
   apply d3m
   case ht=>(repeat' (first | exact trT | exact trF | apply a0f | apply V7 | exact a0e | exact Y2 | exact a1b | exact a0l | exact a1a | exact U6 | exact U7 | exact U5 | exact U4 | exact V9 | exact a0g | exact a2t | exact a1c | exact trS | exact trV))
   case hp=>simp
   (refine Zw ?_;intros)
   exact p9 ⟨.ret _ _ oV,.nil⟩
  | _ =>
   refine o7 hC _ (r:=.c (.b false)) rfl oA .nil fun _ _ _ _=>?_
   (refine Zw ?_;intros)
   refine o7 hN () (r:=.a C8.g) rfl .nil .nil fun _ _ _ _=>?_
   (refine Zw ?_;intros)
   exact p9 ⟨.ret _ _ oV,.nil⟩
 by_cases hs:s=o8 3 7496803
 ·have eo:G6 s a=d9p a:=by unfold G6;(repeat rw [if_neg (by rw [hs];decide)]);exact if_pos hs
  rw [eo]
  repeat (refine G5 (by rw [hs];decide) ?_;(refine Zw ?_;with_reducible repeat' first|intro _|apply aI))
  refine G7 hs ?_
  (refine Zw ?_;with_reducible repeat' first|intro _|apply aI)
  cases a with
  | co x y =>
   refine o7 hC (O.co x y) (r:=.c (.b true)) rfl oA .nil fun _ _ _ _=>?_
   (refine Zw ?_;intros)
   refine G5 (by rw [hs];decide) ?_
   (refine Zw ?_;with_reducible repeat' first|intro _|apply aI)
   refine E5 (ys:=[x,y]) (f:=O.g) aS (v6 O.g_len) fun _ _ _=>?_
   apply d3m
   case ht=>(repeat' (first | exact trT | exact trF | apply a0f | apply V7 | exact a0e | exact Y2 | exact a1b | exact a0l | exact a1a | exact U6 | exact U7 | exact U5 | exact U4 | exact V9 | exact a0g | exact a2t | exact a1c | exact trS | exact trV))
   case hp=>simp
   (refine Zw ?_;intros)
   exact p9 ⟨.ret _ _ oV,.nil⟩
  | _ =>
   refine o7 hC _ (r:=.c (.b false)) rfl oA .nil fun _ _ _ _=>?_
   (refine Zw ?_;intros)
   refine o7 hN () (r:=.a C8.g) rfl .nil .nil fun _ _ _ _=>?_
   (refine Zw ?_;intros)
   exact p9 ⟨.ret _ _ oV,.nil⟩
 by_cases hs:s=o8 5 482972954467
 ·have eo:G6 s a=G0 a.isCo:=by unfold G6;(repeat rw [if_neg (by rw [hs];decide)]);exact if_pos hs
  rw [eo]
  repeat (refine G5 (by rw [hs];decide) ?_;(refine Zw ?_;with_reducible repeat' first|intro _|apply aI))
  refine G7 hs ?_
  (refine Zw ?_;intros)
  refine Y1 (gs:=a.g) (g:=.i .i64 a.k) aS (by rw [O.g_eq];rfl) fun _ _=>?_
  (refine Zw ?_;intros)
  refine b1x hT a.isCo (r:=.a (G0 a.isCo).g) rfl (fun eU=>by subst eU;exact .k (N7 (by rw [a5c];cases a <;> rfl)) .nil) .nil fun _ _ _ _=>?_
  (refine Zw ?_;intros)
  first
  | (refine oR fun _ _=>?_;(refine Zw ?_;with_reducible repeat' first|intro _|apply aI);exact p9 ⟨.ret _ _ oV,.nil⟩)
  | exact p9 ⟨.ret _ _ oV,.nil⟩
 by_cases hs:s=o8 7 31644423040104819
 ·have eo:G6 s a=G0 a.isSy:=by unfold G6;(repeat rw [if_neg (by rw [hs];decide)]);exact if_pos hs
  rw [eo]
  repeat (refine G5 (by rw [hs];decide) ?_;(refine Zw ?_;with_reducible repeat' first|intro _|apply aI))
  refine G7 hs ?_
  (refine Zw ?_;intros)
  refine Y1 (gs:=a.g) (g:=.i .i64 a.k) aS (by rw [O.g_eq];rfl) fun _ _=>?_
  (refine Zw ?_;intros)
  refine b1x hT a.isSy (r:=.a (G0 a.isSy).g) rfl (fun eU=>by subst eU;exact .k (N7 (by rw [a5c];cases a <;> rfl)) .nil) .nil fun _ _ _ _=>?_
  (refine Zw ?_;intros)
  first
  | (refine oR fun _ _=>?_;(refine Zw ?_;with_reducible repeat' first|intro _|apply aI);exact p9 ⟨.ret _ _ oV,.nil⟩)
  | exact p9 ⟨.ret _ _ oV,.nil⟩
 by_cases hs:s=o8 7 31638921304765555
 ·have eo:G6 s a=G0 a.isTx:=by unfold G6;(repeat rw [if_neg (by rw [hs];decide)]);exact if_pos hs
  rw [eo]
  repeat (refine G5 (by rw [hs];decide) ?_;(refine Zw ?_;with_reducible repeat' first|intro _|apply aI))
  refine G7 hs ?_
  (refine Zw ?_;intros)
  refine Y1 (gs:=a.g) (g:=.i .i64 a.k) aS (by rw [O.g_eq];rfl) fun _ _=>?_
  (refine Zw ?_;intros)
  refine b1x hT a.isTx (r:=.a (G0 a.isTx).g) rfl (fun eU=>by subst eU;exact .k (N7 (by rw [a5c];cases a <;> rfl)) .nil) .nil fun _ _ _ _=>?_
  (refine Zw ?_;intros)
  first
  | (refine oR fun _ _=>?_;(refine Zw ?_;with_reducible repeat' first|intro _|apply aI);exact p9 ⟨.ret _ _ oV,.nil⟩)
  | exact p9 ⟨.ret _ _ oV,.nil⟩
 by_cases hs:s=o8 9 2073844980909096591730
 ·have eo:G6 s a=G0 a.isNu:=by unfold G6;(repeat rw [if_neg (by rw [hs];decide)]);exact if_pos hs
  rw [eo]
  repeat (refine G5 (by rw [hs];decide) ?_;(refine Zw ?_;with_reducible repeat' first|intro _|apply aI))
  refine G7 hs ?_
  (refine Zw ?_;intros)
  refine Y1 (gs:=a.g) (g:=.i .i64 a.k) aS (by rw [O.g_eq];rfl) fun _ _=>?_
  (refine Zw ?_;intros)
  refine b1x hT a.isNu (r:=.a (G0 a.isNu).g) rfl (fun eU=>by subst eU;exact .k (N7 (by rw [a5c];cases a <;> rfl)) .nil) .nil fun _ _ _ _=>?_
  (refine Zw ?_;intros)
  first
  | (refine oR fun _ _=>?_;(refine Zw ?_;with_reducible repeat' first|intro _|apply aI);exact p9 ⟨.ret _ _ oV,.nil⟩)
  | exact p9 ⟨.ret _ _ oV,.nil⟩
 by_cases hs:s=o8 8 8102650174351109737
 ·have eo:G6 s a=G0 a.isInt:=by unfold G6;(repeat rw [if_neg (by rw [hs];decide)]);exact if_pos hs
  rw [eo]
  repeat (refine G5 (by rw [hs];decide) ?_;(refine Zw ?_;with_reducible repeat' first|intro _|apply aI))
  refine G7 hs ?_
  (refine Zw ?_;intros)
  refine o7 hI a (r:=.c (.b a.isInt)) rfl oA .nil fun _ _ _ _=>?_
  (refine Zw ?_;intros)
  refine o7 hT a.isInt (r:=.a (G0 a.isInt).g) rfl u5 .nil fun _ _ _ _=>?_
  (refine Zw ?_;intros)
  first
  | (refine oR fun _ _=>?_;(refine Zw ?_;with_reducible repeat' first|intro _|apply aI);exact p9 ⟨.ret _ _ oV,.nil⟩)
  | exact p9 ⟨.ret _ _ oV,.nil⟩
 by_cases hs:s=o8 7 12716373585260149
 ·have eo:G6 s a=b8m a:=by unfold G6;(repeat rw [if_neg (by rw [hs];decide)]);exact if_pos hs
  rw [eo]
  repeat (refine G5 (by rw [hs];decide) ?_;(refine Zw ?_;with_reducible repeat' first|intro _|apply aI))
  refine G7 hs ?_
  (refine Zw ?_;intros)
  refine o7 hOp ⟨a,hfx⟩ (r:=.a (b8m a).g) rfl oA .nil fun _ _ _ _=>?_
  (refine Zw ?_;intros)
  first
  | (refine oR fun _ _=>?_;(refine Zw ?_;with_reducible repeat' first|intro _|apply aI);exact p9 ⟨.ret _ _ oV,.nil⟩)
  | exact p9 ⟨.ret _ _ oV,.nil⟩
 by_cases hs:s=o8 7 13279323538681461
 ·have eo:G6 s a=b8t a:=by unfold G6;(repeat rw [if_neg (by rw [hs];decide)]);exact if_pos hs
  rw [eo]
  repeat (refine G5 (by rw [hs];decide) ?_;(refine Zw ?_;with_reducible repeat' first|intro _|apply aI))
  refine G7 hs ?_
  (refine Zw ?_;intros)
  refine o7 hRe ⟨a,hfx⟩ (r:=.a (b8t a).g) rfl oA .nil fun _ _ _ _=>?_
  (refine Zw ?_;intros)
  first
  | (refine oR fun _ _=>?_;(refine Zw ?_;with_reducible repeat' first|intro _|apply aI);exact p9 ⟨.ret _ _ oV,.nil⟩)
  | exact p9 ⟨.ret _ _ oV,.nil⟩
 by_cases hs:s=o8 9 2110959975582353159534
 ·have eo:G6 s a=L1 (qn a.na 1):=by unfold G6;(repeat rw [if_neg (by rw [hs];decide)]);exact if_pos hs
  rw [eo]
  repeat (refine G5 (by rw [hs];decide) ?_;(refine Zw ?_;with_reducible repeat' first|intro _|apply aI))
  refine G7 hs ?_
  (refine Zw ?_;intros)
  refine o7 hR ⟨(p5 a.na,Q6),show (p5 a.na).length < 9000 by have:=hfx.1;omega,by show Q6.length < 9000;decide⟩ (r:=.a (L1 (qn a.na 1)).g) (by show u9.ret (.a (L1 (qn (p8 (p5 a.na)) (p8 Q6))).g)=_;rw [v7,a3x]) u5 .nil fun _ _ _ _=>?_
  (refine Zw ?_;intros)
  first
  | (refine oR fun _ _=>?_;(refine Zw ?_;with_reducible repeat' first|intro _|apply aI);exact p9 ⟨.ret _ _ oV,.nil⟩)
  | exact p9 ⟨.ret _ _ oV,.nil⟩
 by_cases hs:s=o8 11 138343872958643594702251364
 ·have eo:G6 s a=L1 (qn a.da 1):=by unfold G6;(repeat rw [if_neg (by rw [hs];decide)]);exact if_pos hs
  rw [eo]
  repeat (refine G5 (by rw [hs];decide) ?_;(refine Zw ?_;with_reducible repeat' first|intro _|apply aI))
  refine G7 hs ?_
  (refine Zw ?_;intros)
  refine o7 hR ⟨(s3 a.da,Q6),show (s3 a.da).length < 9000 by have:=hfx.2;omega,by show Q6.length < 9000;decide⟩ (r:=.a (L1 (qn (a.da:Int) 1)).g) (by show u9.ret (.a (L1 (qn (p8 (s3 a.da)) (p8 Q6))).g)=_;rw [A7,a3x]) u5 .nil fun _ _ _ _=>?_
  (refine Zw ?_;intros)
  first
  | (refine oR fun _ _=>?_;(refine Zw ?_;with_reducible repeat' first|intro _|apply aI);exact p9 ⟨.ret _ _ oV,.nil⟩)
  | exact p9 ⟨.ret _ _ oV,.nil⟩
 by_cases hs:s=o8 5 491495844966
 ·have eo:G6 s a=L1 (qn (a.na.fdiv a.da) 1):=by unfold G6;(repeat rw [if_neg (by rw [hs];decide)]);exact if_pos hs
  rw [eo]
  repeat (refine G5 (by rw [hs];decide) ?_;(refine Zw ?_;with_reducible repeat' first|intro _|apply aI))
  refine G7 hs ?_
  (refine Zw ?_;intros)
  refine o7 hD ⟨(p5 a.na,s3 a.da),show (p5 a.na).length < 9000 by have:=hfx.1;omega,show (s3 a.da).length < 9000 by have:=hfx.2;omega,by rw [A7];omega⟩ (r:=.t [.c (.s (p5 (a.na.fdiv a.da))),.c (.s (p5 (a.na.fmod a.da)))]) (by show u9.ret (GV.t [.c (.s (p5 ((p8 (p5 a.na)).fdiv (p8 (s3 a.da))))),.c (.s (p5 ((p8 (p5 a.na)).fmod (p8 (s3 a.da)))))])=_;rw [v7,A7]) u5 .nil fun _ _ _ _=>?_
  (refine Zw ?_;intros)
  refine o7 hR ⟨(p5 (a.na.fdiv a.da),Q6),show (p5 (a.na.fdiv a.da)).length < 9000 from hfl,by show Q6.length < 9000;decide⟩ (r:=.a (L1 (qn (a.na.fdiv a.da) 1)).g) (by show u9.ret (.a (L1 (qn (p8 (p5 (a.na.fdiv a.da))) (p8 Q6))).g)=_;rw [v7,a3x]) u5 .nil fun _ _ _ _=>?_
  (refine Zw ?_;intros)
  first
  | (refine oR fun _ _=>?_;(refine Zw ?_;with_reducible repeat' first|intro _|apply aI);exact p9 ⟨.ret _ _ oV,.nil⟩)
  | exact p9 ⟨.ret _ _ oV,.nil⟩
 by_cases hs:s=o8 11 122618043001006431572687219
 ·have eo:G6 s a=.tx a.sym.2:=by unfold G6;(repeat rw [if_neg (by rw [hs];decide)]);exact if_pos hs
  rw [eo]
  repeat (refine G5 (by rw [hs];decide) ?_;(refine Zw ?_;with_reducible repeat' first|intro _|apply aI))
  refine G7 hs ?_
  (refine Zw ?_;intros)
  refine Y1 (gs:=a.g) (g:=.s a.sym.2) aS (by rw [O.g_eq];rfl) fun _ _=>?_
  (refine Zw ?_;intros)
  refine o7 hX a.sym.2 (r:=.a (O.tx a.sym.2).g) rfl u5 .nil fun _ _ _ _=>?_
  (refine Zw ?_;intros)
  first
  | (refine oR fun _ _=>?_;(refine Zw ?_;with_reducible repeat' first|intro _|apply aI);exact p9 ⟨.ret _ _ oV,.nil⟩)
  | exact p9 ⟨.ret _ _ oV,.nil⟩
 by_cases hs:s=o8 19 2261903658058535744205936875630873591400986995
 ·have eo:G6 s a=.tx a.sym.1:=by unfold G6;(repeat rw [if_neg (by rw [hs];decide)]);exact if_pos hs
  rw [eo]
  repeat (refine G5 (by rw [hs];decide) ?_;(refine Zw ?_;with_reducible repeat' first|intro _|apply aI))
  refine G7 hs ?_
  (refine Zw ?_;intros)
  refine Y1 (gs:=a.g) (g:=.s a.sym.1) aS (by rw [O.g_eq];rfl) fun _ _=>?_
  (refine Zw ?_;intros)
  refine o7 hX a.sym.1 (r:=.a (O.tx a.sym.1).g) rfl u5 .nil fun _ _ _ _=>?_
  (refine Zw ?_;intros)
  first
  | (refine oR fun _ _=>?_;(refine Zw ?_;with_reducible repeat' first|intro _|apply aI);exact p9 ⟨.ret _ _ oV,.nil⟩)
  | exact p9 ⟨.ret _ _ oV,.nil⟩
 by_cases hs:s=o8 13 8275754203313416711865239762035
 ·have eo:G6 s a=.num (a.strT.length:Int) 1:=by unfold G6;(repeat rw [if_neg (by rw [hs];decide)]);exact if_pos hs
  rw [eo]
  repeat (refine G5 (by rw [hs];decide) ?_;(refine Zw ?_;with_reducible repeat' first|intro _|apply aI))
  refine G7 hs ?_
  (refine Zw ?_;intros)
  refine o7 hSt a (r:=.c (.s a.strT)) rfl oA .nil fun _ _ _ _=>?_
  (refine Zw ?_;intros)
  refine o7 hIn ⟨(a.strT.length:Int),oM,oM⟩ (r:=.a (O.num (a.strT.length:Int) 1).g) rfl u5 .nil fun _ _ _ _=>?_
  (refine Zw ?_;intros)
  first
  | (refine oR fun _ _=>?_;(refine Zw ?_;with_reducible repeat' first|intro _|apply aI);exact p9 ⟨.ret _ _ oV,.nil⟩)
  | exact p9 ⟨.ret _ _ oV,.nil⟩
 by_cases hs:s=o8 11 125040764888893661906237794
 ·have eo:G6 s a=(if (T1 a).2=true then .tx [UInt8.ofNat (T1 a).1.toNat] else .tx []):=by unfold G6;(repeat rw [if_neg (by rw [hs];decide)]);exact if_pos hs
  rw [eo]
  repeat (refine G5 (by rw [hs];decide) ?_;(refine Zw ?_;with_reducible repeat' first|intro _|apply aI))
  refine G7 hs ?_
  (refine Zw ?_;intros)
  refine o7 hOc ⟨a,hsm⟩ (r:=.t [.c (.i .u8 (T1 a).1),.c (.b (T1 a).2)]) rfl oA .nil fun _ _ _ _=>?_
  have hor:=f6z a
  generalize T1 a=oc at *
  obtain ⟨m,b⟩:=oc
  cases b with
  | false =>
   (refine Zw ?_;intros)
   rw [if_neg (by simp)]
   refine o7 hX [] (r:=.a (O.tx []).g) rfl u5 .nil fun _ _ _ _=>?_
   (refine Zw ?_;intros)
   first
   | (refine oR fun _ _=>?_;(refine Zw ?_;with_reducible repeat' first|intro _|apply aI);exact p9 ⟨.ret _ _ oV,.nil⟩)
   | exact p9 ⟨.ret _ _ oV,.nil⟩
  | true =>
   (refine Zw ?_;intros)
   rw [if_pos rfl]
   obtain ⟨k,hk⟩:∃ k:Nat,m=k:=⟨m.toNat,oM⟩
   subst hk
   rw [Int.toNat_natCast]
   refine sBT (ys:=[UInt8.ofNat k]) (g87 oM) rfl ?_
   refine o7 hX [UInt8.ofNat k] (r:=.a (O.tx [UInt8.ofNat k]).g) rfl (.k (.s _ _ _ rfl rfl) .nil) .nil fun _ _ _ _=>?_
   (refine Zw ?_;intros)
   first
   | (refine oR fun _ _=>?_;(refine Zw ?_;with_reducible repeat' first|intro _|apply aI);exact p9 ⟨.ret _ _ oV,.nil⟩)
   | exact p9 ⟨.ret _ _ oV,.nil⟩
 have eo:G6 s a=.no:=by unfold G6;(repeat rw [if_neg aS])
 rw [eo]
 repeat (refine G5 aS ?_;(refine Zw ?_;with_reducible repeat' first|intro _|apply aI))
 exact p9 ⟨.ret _ _ u5,.nil⟩
end
end Go.Proofs.YtkojildpddaccaaGreatDoor
namespace Go.Abs
theorem f67 (n:Nat):2 ^ (8 * n)=256 ^ n:=by rw [Nat.pow_mul]
theorem c67:∀ s:List UInt8,C6 s < 256 ^ s.length
 | []=>by simp [C6]
 | b :: l=>by
  have h1:=c67 l
  have h2:=b.toNat_lt
  simp only [C6,List.length_cons,Nat.pow_succ]
  omega
theorem b4c:∀ (l c:Nat),c < 256 ^ l→C6 (o8 l c)=c
 | 0,c,h=>by simp at h;subst h;rfl
 | l+1,c,h=>by
  rw [Nat.pow_succ] at h
  simp only [o8,C6]
  rw [b4c l (c / 256) oM,UInt8.toNat_ofNat']
  omega
theorem d7z {s:List UInt8} {a b:Nat} (h1:a≤b) (h2:b≤s.length):sSub (C6 s) a (b - a)=C6 ((s.take b).drop a):=by
 have h:=c9x (c:=C6 s) h1 h2
 rw [E8] at h
 rw [h,b4c]
 unfold sSub
 show Nat.mod _ (1 <<< (8 * (b - a))) < _
 rw [Nat.one_shiftLeft,f67]
 exact Nat.mod_lt _ (Nat.pow_pos dE)
theorem d7t (x y:List UInt8):sCat x.length (C6 x) (C6 y)=C6 (x ++ y):=by
 have h:=c9u x.length (C6 x) y.length (C6 y)
 rw [E8,E8] at h
 rw [h,b4c]
 unfold sCat
 show Nat.mod (C6 x) (1 <<< (8 * x.length))+C6 y <<< (8 * x.length) < _
 rw [Nat.one_shiftLeft,Nat.shiftLeft_eq,f67,Nat.pow_add]
 have h1:=c67 y
 have h2:Nat.mod (C6 x) (256 ^ x.length) < 256 ^ x.length:=Nat.mod_lt _ (Nat.pow_pos dE)
 have h3:=Nat.mul_le_mul_right (256 ^ x.length) h1
 rw [Nat.succ_mul] at h3
 rw [Nat.mul_comm (256 ^ x.length)]
 omega
theorem f3i {s:List UInt8} {a b:Nat} (h1:a≤b) (h2:b≤s.length):((s.take b).drop a).length=b - a:=by simp;omega
section
variable {U:B0} {P:H4→List Bx→Prop}
theorem e7i {s:List UInt8} {a b:Int} {K:Nat→Nat→Om} (h:0≤a∧a≤b∧b≤s.length) (k:s4 U (K ((s.take b.toNat).drop a.toNat).length (C6 ((s.take b.toNat).drop a.toNat))) P) :
  s4 U (U.fN (U.nSub (U.iNat b) (U.iNat a)) fun m=>U.fN (U.sSub (C6 s) (U.iNat a) m) fun d=>K m d) P:=fun e=>by
 have:=k e
 subst e
 rw [a83,a83]
 show ∃ v bs,K (iNat b - iNat a) (sSub (C6 s) (iNat a) (iNat b - iNat a))=some (v,bs)∧P v bs
 rw [G8,G8,d7z (show a.toNat≤b.toNat by omega) oM,← f3i (s:=s) (show a.toNat≤b.toNat by omega) oM]
 exact this
theorem g43 {s:List UInt8} {a:Int} {K:Nat→Nat→Om} (h:0≤a∧a≤s.length) (k:s4 U (K (s.drop a.toNat).length (C6 (s.drop a.toNat))) P) :
  s4 U (U.fN (U.nSub (U.iNat (U.iOfN s.length)) (U.iNat a)) fun m=>U.fN (U.sSub (C6 s) (U.iNat a) m) fun d=>K m d) P:=fun e=>by
 have:=k e
 subst e
 refine e7i (b:=(s.length:Int)) ⟨h.1,h.2,Int.le_refl _⟩ ?_ rfl
 rw [Int.toNat_natCast,List.take_length]
 exact fun _=>this
theorem c5p {n:Nat}:K8 U (U.iLe (U.iOfN n) (U.iOfN n)) (n≤n):=fun e=>by subst e;exact ⟨fun _=>Nat.le_refl _,fun _=>(a0l (U:=CU) rfl).2 (Int.le_refl _)⟩
theorem g89 {k:IntKind} {n:Int} {x:Q} {K:IntKind→Int→Om} (hx:RG (.i k n) x) (h:s4 U (K k n) P):s4 U (U.cI0 x K) P:=fun e=>by
 have:=h e;subst e;cases hx;exact this
end
end Go.Abs
namespace Go.Proofs.YtkojildpddaccaaGreatDoor
open Go.Abs LQ
theorem Zq {p q:Prop} (k:q) (h:Tr p q:=by ((repeat' (first | (with_reducible apply Tr.all) | (with_reducible intro _) | (apply Tr.b;(case f=>first | exact b3c | exact M3 aS | exact b8x | exact b3e aS | exact b3d | exact a8p aS | exact a8n | exact a8o aS | exact sP | exact sPR aS | exact sIV | exact sI aS | exact sBV | exact sBK | exact sB aS | exact sSV | exact sS aS | exact sA | exact C4 aS (by rfl) | exact b44 (by rfl) | exact b8y (by rfl) | exact b69 aS (by rfl) | exact b8z aS (by rfl) | exact a94 aS | exact sSl aS | exact sTu aS | exact sBo | exact a32 aS (by rfl) | exact sBc | exact c5c aS | exact sBt | exact sBs | exact sBr | exact a5t aS | exact b3g aS | exact Y1 aS (by rfl) | exact c5d aS (by rfl) | exact sCI' aS (by rfl) | exact sCB' aS (by rfl) | exact sCS aS | exact sCI aS | exact sCB aS | exact b12 (by first | omega | (simp only [List.length_map] at *;omega)) | exact b3f (by first | omega | (simp only [List.length_map] at *;omega)) | exact b7b | exact g43 (by first | omega | (simp only [List.length_map] at *;omega)) | exact e7i (by first | omega | (simp only [List.length_map] at *;omega)) | exact sCI0' aS (by rfl) | exact g89 aS | exact a8q | exact a8u | exact b7a | exact b13 | exact b11 | exact sfSubN | exact a8s | exact a8r | exact sfB | exact sJn | exact b68 | exact b66 | exact b67 | exact E5 aS (by (first | exact v6 O.g_len | exact v6 (fun _=>rfl))) | exact b43 aS (by (first | exact v6 O.g_len | exact v6 (fun _=>rfl))) | exact b7c (by first | omega | (simp only [List.length_map] at *;omega)) | exact b7d (by first | omega | (simp only [List.length_map] at *;omega)) | exact c5f aS (by first | assumption | omega | (simp only [List.length_map] at *;omega)) | exact sfT aS (by rfl))) | (apply Tr.chk;(case ht=>(repeat' (first | exact c5p | exact trT | exact trF | apply a0f | apply V7 | exact a0e | exact Y2 | exact a1b | exact a0l | exact a1a | exact U6 | exact U7 | exact U5 | exact U4 | exact V9 | exact a0g | exact a2t | exact a1c | exact trS | exact trV)));(case hp=>first | omega | (simp only [List.length_map] at *;omega))) | (apply Tr.cnd;(case ht=>(repeat' (first | exact c5p | exact trT | exact trF | apply a0f | apply V7 | exact a0e | exact Y2 | exact a1b | exact a0l | exact a1a | exact U6 | exact U7 | exact U5 | exact U4 | exact V9 | exact a0g | exact a2t | exact a1c | exact trS | exact trV))))));all_goals exact Tr.refl)):p:=h.go k
end Go.Proofs.YtkojildpddaccaaGreatDoor
