/- The program's table of built-in functions: Apply. -/
import Derived.Test.YtkojildpddaccaaGreatDoorCJ17
import Derived.Test.YtkojildpddaccaaGreatDoorCJ12
set_option linter.all false
namespace Go.Proofs.YtkojildpddaccaaGreatDoor
open Go.Abs LQ
set_option maxRecDepth 100000
set_option maxHeartbeats 8000000
noncomputable section
instance (o:O):Decidable (ok o):=inferInstanceAs (Decidable (o.size≤3000∧o.fm=true))
def T5:Ap:=fun f os=>if ∀ o ∈ os,ok o then apT f os else none
theorem c73 {f:Sy} {n:Int} (h:D7 f=some n):N4 K5 f.2=some n:=by
 unfold D7 at h;split at h
 ·exact h
 ·cases h
theorem f4k {c:Prop} [Decidable c] {x y:O} (h:c→x.size≤3000) (k:¬c→y.size≤3000):(if c then x else y).size≤3000:=by
 split
 ·exact h ‹_›
 ·exact k ‹_›
theorem e8g {s:u5} {a:O} (h:ok a):(H0 s a).size≤3000:=by
 have h1:=h.1;unfold H0;have hh:(b6f a).size≤3000∧(b6g a).size≤3000:=by
  cases a with
  | co x y=>have e:(O.co x y).size=1+x.size+y.size:=rfl;exact ⟨by show x.size≤_;omega,by show y.size≤_;omega⟩
  | _=>exact ⟨by show F6.size≤_;decide,by show F6.size≤_;decide⟩
 have ht:∀ b,(G0 b).size≤3000:=fun b=>by cases b <;> decide
 have ho:(b06 a).size≤3000:=by show 1≤3000;decide
 repeat' (apply f4k <;> intro _)
 all_goals first
  | exact hh.1
  | exact hh.2
  | exact ht _
  | exact ho
  | (show 1≤3000;decide)
  | decide
theorem e4g {s:u5} (hs:N4 K5 s=some 2) (n1:¬s=s5 4 1936617315) (n2:¬s=s5 8 3111276449750739298) (n3:¬s=s5 8 3039218855712811362) (n4:¬s=s5 13 7956982234992646578836044149875) (n5:¬s=s5 6 121437607456361) (n6:¬s=s5 11 122651541423547657927947379) (n7:¬s=s5 5 465491554661) (n8:¬s=s5 1 60):False:=by
 have hm:=a4p hs;simp only [K5,List.mem_cons,List.not_mem_nil,or_false,Prod.mk.injEq] at hm;rcases hm with ⟨rfl,h⟩ | ⟨rfl,h⟩ | ⟨rfl,h⟩ | ⟨rfl,h⟩ | ⟨rfl,h⟩ | ⟨rfl,h⟩ | ⟨rfl,h⟩ | ⟨rfl,h⟩ | ⟨rfl,h⟩ | ⟨rfl,h⟩ | ⟨rfl,h⟩ | ⟨rfl,h⟩ | ⟨rfl,h⟩ | ⟨rfl,h⟩ | ⟨rfl,h⟩ | ⟨rfl,h⟩ | ⟨rfl,h⟩ | ⟨rfl,h⟩ | ⟨rfl,h⟩ | ⟨rfl,h⟩ | ⟨rfl,h⟩ | ⟨rfl,h⟩ | ⟨rfl,h⟩ | ⟨rfl,h⟩ | ⟨rfl,h⟩
 all_goals first
  | contradiction
  | (revert h;decide)
theorem e4f {s:u5} (hs:N4 K5 s=some 3):s=s5 2 26217:=by
 have hm:=a4p hs;simp only [K5,List.mem_cons,List.not_mem_nil,or_false,Prod.mk.injEq] at hm;rcases hm with ⟨rfl,h⟩ | ⟨rfl,h⟩ | ⟨rfl,h⟩ | ⟨rfl,h⟩ | ⟨rfl,h⟩ | ⟨rfl,h⟩ | ⟨rfl,h⟩ | ⟨rfl,h⟩ | ⟨rfl,h⟩ | ⟨rfl,h⟩ | ⟨rfl,h⟩ | ⟨rfl,h⟩ | ⟨rfl,h⟩ | ⟨rfl,h⟩ | ⟨rfl,h⟩ | ⟨rfl,h⟩ | ⟨rfl,h⟩ | ⟨rfl,h⟩ | ⟨rfl,h⟩ | ⟨rfl,h⟩ | ⟨rfl,h⟩ | ⟨rfl,h⟩ | ⟨rfl,h⟩ | ⟨rfl,h⟩ | ⟨rfl,h⟩
 all_goals first
  | rfl
  | (revert h;decide)
theorem d2i {x y:Int} (hx:(s4 x).length≤600) (hy:(s4 y).length≤600):(O7 (K2 (qn x y))).sm:=by
 obtain ⟨h1,h2⟩:=d4p x y;have k1:=R5 (qn x y).1;have k2:=Z9 (qn x y).2;have k3:=D8 h1;have k4:=K8 x;have k5:=K8 y;have h10:(t8 1).length=1:=by rw [F2 dE,show 1 / 10=0 from rfl,C7];rfl
 have k6:(t8 (qn x y).2).length≤601:=by
  rcases Nat.le_total 1 y.natAbs with h | h
  ·rw [Nat.max_eq_right h] at h2;have:=D8 h2;omega
  ·rw [Nat.max_eq_left h] at h2;have:=D8 h2;omega
 exact ⟨⟨by show (s4 (qn x y).1).length < 8000;omega,by show (s8 (qn x y).2).length < 8000;omega,lt9,lt9⟩,trivial⟩
theorem e7n {a b:O} (h:(a1w a b).2=true):∃ k:Nat,k < a.strT.length∧(a1w a b).1.toNat=k∧(if a.isTx=true∧b.isInt=true then (F4 b.na).1 else 0)=(k:Int):=by
 cases a with
 | tx t =>
  rw [c00] at h ⊢;split at h
  ·rename_i hc;rw [if_pos hc];obtain ⟨k,hk⟩:∃ k:Nat,b.na=k:=⟨b.na.toNat,oM⟩;refine ⟨k,?_,?_,?_⟩
   ·show k < t.length;omega
   ·show b.na.toNat=k;omega
   ·rw [if_pos ⟨rfl,hc.1⟩];unfold F4;rw [if_neg oM];exact hk
  ·cases h
 | _=>cases h
theorem f4g {a b:O}:ok (inO a b):=by
 unfold inO;split
 ·rename_i h;exact ⟨by show 1≤3000;decide,h.2.2⟩
 ·exact ⟨dE,b2y⟩
theorem c8y (b:Bool):ok (G0 b):=⟨by cases b <;> decide,c6u b⟩
theorem f5c:ok F6:=⟨dE,b2y⟩
theorem b0e {o:O} {r:O × Int} (h:ok o) (hr:apV o=some r):r=(o,0):=by
 rw [d5e h] at hr;injection hr with hr;exact hr.symm
theorem e7p:v8 104 (h0h T5):=A8 (fun fn h=>e8r h) [(101,_),(103,_),(154,_),(155,_),(156,_),(157,_),(158,_),(159,_),(160,_),(161,_),(110,_),(162,_),(163,_),(164,_),(128,_)] (.cons d0z (.cons d01 (.cons f4p (.cons g4u (.cons d69 (.cons d7c (.cons e2d (.cons e7t (.cons c4o (.cons c4n (.cons g9j (.cons d05 (.cons f4v (.cons e2g (.cons e73 .nil))))))))))))))) fun U fn hfn ⟨((f,os),r),hr⟩ vs bs hv hb=>by
 have hY:=hfn 101 _ rfl;have hN:=hfn 103 _ rfl;have hIx:=hfn 159 _ rfl;have hT:=hfn 162 _ rfl;have hV:=hfn 128 _ rfl;change z7 [.a [.s f.1,.s f.2],.sl 7 (os.map O.g)] vs at hv;change u0 [] bs at hb;have hr:T5 f os=some r:=hr;show t6 U _ fun v bs'=>A3 (.ret (.t [.a r.1.g,.c (.i .i64 r.2)])) v∧u0 [] bs';unfold f5v;unfold T5 at hr;split at hr
 case isFalse=>cases hr
 rename_i hok;unfold apT at hr;cases ep:D7 f with
 | none =>
  rw [ep] at hr;injection hr with hr;subst hr;refine Zz ?_;intros;refine s6 hY f (r:=.t [.c (.i .i64 0),.c (.b false)]) (by show z8.ret (okI (D7 f))=_;rw [ep];rfl) z6 .nil fun _ _ _ _=>?_;refine Zz ?_;intros;exact s9 ⟨a12 _,.nil⟩
 | some n =>
  rw [ep] at hr;simp only at hr;have hrow:=c73 ep;have hn3:=a4o ep;by_cases hn:(os.length:Int)=n
  case neg =>
   rw [if_neg hn] at hr;injection hr with hr;subst hr;refine Zz ?_;intros;refine s6 hY f (r:=.t [.c (.i .i64 n),.c (.b true)]) (by show z8.ret (okI (D7 f))=_;rw [ep];rfl) z6 .nil fun _ _ _ _=>?_;(refine Zz ?_;with_reducible repeat' first|intro _|apply aI)
   all_goals first
    | exact s9 ⟨a12 _,.nil⟩
    | (exfalso;omega)
  rw [if_pos hn] at hr
  match os,hr,hn,hok,hv with
  | [],_,hn,_,_=>exfalso;simp at hn;omega
  | [a],hr,hn,hok,hv =>
   have ha:ok a:=hok a (by simp);have e1:n=1:=by simpa using hn.symm
   subst e1;simp only [if_pos (a5o ha.2)] at hr;rw [d5e ⟨e8g ha,e8e hrow ha⟩] at hr;injection hr with hr;subst hr;refine Zz ?_;intros;refine s6 hY f (r:=.t [.c (.i .i64 1),.c (.b true)]) (by show z8.ret (okI (D7 f))=_;rw [ep];rfl) z6 .nil fun _ _ _ _=>?_;(refine Zz ?_;with_reducible repeat' first|intro _|apply aI)
   all_goals try (exfalso;omega)
   refine Y8 (gs:=[.i .i64 0,.s [],.s [],.s [],.s [],.s [],.l []]) (.cells _ _ (by (exact Zru))) rfl fun _ _=>?_;(refine Zz ?_;with_reducible repeat' first|intro _|apply aI)
   all_goals try (exfalso;rw [‹f.2=_›] at hrow;revert hrow;decide)
   refine s6 (hfn 164 _ rfl) ⟨(f.2,a),hrow,ha⟩ (r:=.a (H0 f.2 a).g) rfl (.k (.q _ _ aS) oA) .nil fun _ _ _ _=>?_;refine Zz ?_;intros
   first
    | (refine oR fun _ _=>?_;(refine Zz ?_;with_reducible repeat' first|intro _|apply aI);exact s9 ⟨rrA aS _,.nil⟩)
    | exact s9 ⟨rrA aS _,.nil⟩
  | [a,b],hr,hn,hok,hv =>
   have ha:ok a:=hok a (by simp);have hb':ok b:=hok b (by simp);have e1:n=2:=by simpa using hn.symm
   subst e1;have la:=O4 ha;have lb:=O4 hb';have ta:=a2b ha.2;have tb:=a2b hb'.2;have m1:=M4 la.1 (Z1 hb');have m2:=M4 lb.1 (Z1 ha);have m3:=b0d m1 m2;have m4:=M4 (Z1 ha) (Z1 hb');have m5:=M4 la.1 lb.1;simp only [if_pos (And.intro (a5o ha.2) (a5o hb'.2))] at hr;refine Zz ?_;intros;refine s6 hY f (r:=.t [.c (.i .i64 2),.c (.b true)]) (by show z8.ret (okI (D7 f))=_;rw [ep];rfl) z6 .nil fun _ _ _ _=>?_;(refine Zz ?_;with_reducible repeat' first|intro _|apply aI)
   all_goals try (exfalso;omega)
   all_goals try (exfalso;rw [‹f.2=_›] at hrow;revert hrow;decide)
   all_goals try (exfalso;exact e4g hrow aS aS aS aS aS aS aS aS)
   ·have hs:f.2=s5 4 1936617315:=aS;have eo:Y9 f.2 a b=O.co a b:=by unfold Y9;(repeat rw [if_neg (by rw [hs];decide)]);exact if_pos hs
    rw [eo] at hr;refine s6 (hfn 154 _ rfl) (a,b) (r:=.a (O.co a b).g) rfl (.k oV oA) .nil fun _ _ _ _=>?_;refine Zz ?_;intros;obtain ⟨_,hrr⟩:=b0f hr;have hsm:(O7 (O.co a b)).sm:=⟨⟨lt8,lt8,lt9,lt9⟩,(a9j ha.2).1,(a9j ha.2).2,(a9j hb'.2).1,(a9j hb'.2).2,trivial⟩;cases eb:(decide ((O.co a b).size≤3000) && (O.co a b).fm) with
    | true =>
     rw [eb] at hrr;simp only [if_true,Bool.false_eq_true,if_false] at hrr;subst hrr;refine s6 hV ⟨O.co a b,hsm⟩ (r:=.c (.b true)) (by show z8.ret (.c (.b (decide ((O.co a b).size≤3000) && (O.co a b).fm)))=_;rw [eb]) oA .nil fun _ _ _ _=>?_;refine Zz ?_;intros;exact s9 ⟨rrA aS _,.nil⟩
    | false =>
     rw [eb] at hrr;simp only [if_true,Bool.false_eq_true,if_false] at hrr;subst hrr;refine s6 hV ⟨O.co a b,hsm⟩ (r:=.c (.b false)) (by show z8.ret (.c (.b (decide ((O.co a b).size≤3000) && (O.co a b).fm)))=_;rw [eb]) oA .nil fun _ _ _ _=>?_;refine Zz ?_;intros;exact s9 ⟨a12 _,.nil⟩
   ·have hs:f.2=s5 8 3111276449750739298:=aS;have eo:Y9 f.2 a b=a0b a b:=by unfold Y9;(repeat rw [if_neg (by rw [hs];decide)]);exact if_pos hs
    rw [eo] at hr;refine s6 (hfn 155 _ rfl) ⟨(a,b),ha,hb'⟩ (r:=.a (a0b a b).g) rfl (.k oV oA) .nil fun _ _ _ _=>?_;refine Zz ?_;intros;obtain ⟨_,hrr⟩:=b0f hr;have hsm:(O7 (a0b a b)).sm:=d2i oM oM;cases eb:(decide ((a0b a b).size≤3000) && (a0b a b).fm) with
    | true =>
     rw [eb] at hrr;simp only [if_true,Bool.false_eq_true,if_false] at hrr;subst hrr;refine s6 hV ⟨a0b a b,hsm⟩ (r:=.c (.b true)) (by show z8.ret (.c (.b (decide ((a0b a b).size≤3000) && (a0b a b).fm)))=_;rw [eb]) oA .nil fun _ _ _ _=>?_;refine Zz ?_;intros;exact s9 ⟨rrA aS _,.nil⟩
    | false =>
     rw [eb] at hrr;simp only [if_true,Bool.false_eq_true,if_false] at hrr;subst hrr;refine s6 hV ⟨a0b a b,hsm⟩ (r:=.c (.b false)) (by show z8.ret (.c (.b (decide ((a0b a b).size≤3000) && (a0b a b).fm)))=_;rw [eb]) oA .nil fun _ _ _ _=>?_;refine Zz ?_;intros;exact s9 ⟨a12 _,.nil⟩
   ·have hs:f.2=s5 8 3039218855712811362:=aS;have eo:Y9 f.2 a b=Y5 a b:=by unfold Y9;(repeat rw [if_neg (by rw [hs];decide)]);exact if_pos hs
    rw [eo] at hr;refine s6 (hfn 156 _ rfl) ⟨(a,b),ha,hb'⟩ (r:=.a (Y5 a b).g) rfl (.k oV oA) .nil fun _ _ _ _=>?_;refine Zz ?_;intros;obtain ⟨_,hrr⟩:=b0f hr;have hsm:(O7 (Y5 a b)).sm:=d2i oM oM;cases eb:(decide ((Y5 a b).size≤3000) && (Y5 a b).fm) with
    | true =>
     rw [eb] at hrr;simp only [if_true,Bool.false_eq_true,if_false] at hrr;subst hrr;refine s6 hV ⟨Y5 a b,hsm⟩ (r:=.c (.b true)) (by show z8.ret (.c (.b (decide ((Y5 a b).size≤3000) && (Y5 a b).fm)))=_;rw [eb]) oA .nil fun _ _ _ _=>?_;refine Zz ?_;intros;exact s9 ⟨rrA aS _,.nil⟩
    | false =>
     rw [eb] at hrr;simp only [if_true,Bool.false_eq_true,if_false] at hrr;subst hrr;refine s6 hV ⟨Y5 a b,hsm⟩ (r:=.c (.b false)) (by show z8.ret (.c (.b (decide ((Y5 a b).size≤3000) && (Y5 a b).fm)))=_;rw [eb]) oA .nil fun _ _ _ _=>?_;refine Zz ?_;intros;exact s9 ⟨a12 _,.nil⟩
   ·have hs:f.2=s5 13 7956982234992646578836044149875:=aS;have eo:Y9 f.2 a b=O.tx (a.strT ++ b.strT):=by unfold Y9;(repeat rw [if_neg (by rw [hs];decide)]);exact if_pos hs
    rw [eo] at hr;refine T3 (gs:=a.g) (g:=.s a.strT) aS (by rw [O.g_eq,a6c];rfl) fun _ _=>?_;refine T3 (gs:=b.g) (g:=.s b.strT) aS (by rw [O.g_eq,a6c];rfl) fun _ _=>?_;refine Zz ?_;intros;refine g0j rfl rfl rfl ?_;refine s6 (hfn 157 _ rfl) (a.strT ++ b.strT) (r:=.a (O.tx (a.strT ++ b.strT)).g) rfl (.k (.s _ _ _ (by simp) rfl) .nil) .nil fun _ _ _ _=>?_;refine Zz ?_;intros;obtain ⟨_,hrr⟩:=b0f hr;have hsm:(O7 (O.tx (a.strT ++ b.strT))).sm:=⟨⟨lt8,lt8,lt9,lt9⟩,trivial⟩;cases eb:(decide ((O.tx (a.strT ++ b.strT)).size≤3000) && (O.tx (a.strT ++ b.strT)).fm) with
    | true =>
     rw [eb] at hrr;simp only [if_true,Bool.false_eq_true,if_false] at hrr;subst hrr;refine s6 hV ⟨O.tx (a.strT ++ b.strT),hsm⟩ (r:=.c (.b true)) (by show z8.ret (.c (.b (decide ((O.tx (a.strT ++ b.strT)).size≤3000) && (O.tx (a.strT ++ b.strT)).fm)))=_;rw [eb]) oA .nil fun _ _ _ _=>?_;refine Zz ?_;intros;exact s9 ⟨rrA aS _,.nil⟩
    | false =>
     rw [eb] at hrr;simp only [if_true,Bool.false_eq_true,if_false] at hrr;subst hrr;refine s6 hV ⟨O.tx (a.strT ++ b.strT),hsm⟩ (r:=.c (.b false)) (by show z8.ret (.c (.b (decide ((O.tx (a.strT ++ b.strT)).size≤3000) && (O.tx (a.strT ++ b.strT)).fm)))=_;rw [eb]) oA .nil fun _ _ _ _=>?_;refine Zz ?_;intros;exact s9 ⟨a12 _,.nil⟩
   ·have hs:f.2=s5 6 121437607456361:=aS;have eo:Y9 f.2 a b=inO a b:=by unfold Y9;(repeat rw [if_neg (by rw [hs];decide)]);exact if_pos hs
    rw [eo] at hr;have:=b0e f4g hr;subst this;refine s6 (hfn 158 _ rfl) ⟨(a,b),ha,hb'⟩ (r:=.a (inO a b).g) rfl (.k oV oA) .nil fun _ _ _ _=>?_;refine Zz ?_;intros
    first
     | (refine oR fun _ _=>?_;(refine Zz ?_;with_reducible repeat' first|intro _|apply aI);exact s9 ⟨rrA aS _,.nil⟩)
     | exact s9 ⟨rrA aS _,.nil⟩
   ·have hs:f.2=s5 11 122651541423547657927947379:=aS;have eo:Y9 f.2 a b=(if (a1w a b).2=true then O.num ((a.strT.getD (a1w a b).1.toNat 0).toNat:Int) 1 else F6):=by unfold Y9;(repeat rw [if_neg (by rw [hs];decide)]);exact if_pos hs
    rw [eo] at hr;cases hx:(a1w a b).2 with
    | false =>
     rw [hx,if_neg (by simp)] at hr;have:=b0e f5c hr;subst this;refine s6 hIx ⟨(a,b),ha,hb'⟩ (r:=.t [.c (.i .i64 (if a.isTx=true∧b.isInt=true then (F4 b.na).1 else 0)),.c (.b false)]) (by show z8.ret (.t [.c (.i .i64 (if a.isTx=true∧b.isInt=true then (F4 b.na).1 else 0)),.c (.b (a1w a b).2)])=_;rw [hx]) (.k oV oA) .nil fun _ _ _ _=>?_;refine Zz ?_;intros;refine s6 (hfn 160 _ rfl) () (r:=.a F6.g) rfl .nil .nil fun _ _ _ _=>?_;refine Zz ?_;intros;exact s9 ⟨rrA aS _,.nil⟩
    | true =>
     rw [hx,if_pos rfl] at hr;obtain ⟨k,hk1,hk2,hk3⟩:=e7n hx;rw [hk2] at hr;have hby:=(a.strT.getD k 0).toNat_lt;have:=b0e ⟨by show 1≤3000;decide,d6u oM⟩ hr;subst this;refine s6 hIx ⟨(a,b),ha,hb'⟩ (r:=.t [.c (.i .i64 (k:Int)),.c (.b true)]) (by show z8.ret (.t [.c (.i .i64 (if a.isTx=true∧b.isInt=true then (F4 b.na).1 else 0)),.c (.b (a1w a b).2)])=_;rw [hx,hk3]) (.k oV oA) .nil fun _ _ _ _=>?_;refine Zz ?_;intros;refine T3 (gs:=a.g) (g:=.s a.strT) aS (by rw [O.g_eq,a6c];rfl) fun _ _=>?_;refine Zz ?_;intros;refine a94 rfl oM ?_;refine s6 (hfn 161 _ rfl) ⟨((a.strT.getD k 0).toNat:Int),oM,oM⟩ (r:=.a (O.num ((a.strT.getD k 0).toNat:Int) 1).g) rfl z6 .nil fun _ _ _ _=>?_;refine Zz ?_;intros;exact s9 ⟨rrA aS _,.nil⟩
   ·have hs:f.2=s5 5 465491554661:=aS;have eo:Y9 f.2 a b=G0 (O.eqb a b):=by unfold Y9;(repeat rw [if_neg (by rw [hs];decide)]);exact if_pos hs
    rw [eo] at hr;have:=b0e (c8y _) hr;subst this;refine s6 (hfn 110 _ rfl) ⟨(a,b),by show a.size < 90000;have:=ha.1;omega⟩ (r:=.c (.b (O.eqb a b))) rfl (.k oV oA) .nil fun _ _ _ _=>?_;refine Zz ?_;intros;refine s6 hT (O.eqb a b) (r:=.a (G0 (O.eqb a b)).g) rfl z6 .nil fun _ _ _ _=>?_;refine Zz ?_;intros
    first
     | (refine oR fun _ _=>?_;(refine Zz ?_;with_reducible repeat' first|intro _|apply aI);exact s9 ⟨rrA aS _,.nil⟩)
     | exact s9 ⟨rrA aS _,.nil⟩
   ·have hs:f.2=s5 1 60:=aS;have eo:Y9 f.2 a b=G0 (a7s a b):=by unfold Y9;(repeat rw [if_neg (by rw [hs];decide)]);exact if_pos hs
    rw [eo] at hr;have:=b0e (c8y _) hr;subst this;refine s6 (hfn 163 _ rfl) ⟨(a,b),ha,hb'⟩ (r:=.c (.b (a7s a b))) rfl (.k oV oA) .nil fun _ _ _ _=>?_;refine Zz ?_;intros;refine s6 hT (a7s a b) (r:=.a (G0 (a7s a b)).g) rfl z6 .nil fun _ _ _ _=>?_;refine Zz ?_;intros
    first
     | (refine oR fun _ _=>?_;(refine Zz ?_;with_reducible repeat' first|intro _|apply aI);exact s9 ⟨rrA aS _,.nil⟩)
     | exact s9 ⟨rrA aS _,.nil⟩
  | [a,b,c],hr,hn,hok,hv =>
   have ha:ok a:=hok a (by simp);have hb':ok b:=hok b (by simp);have hc:ok c:=hok c (by simp);have e1:n=3:=by simpa using hn.symm
   subst e1;simp only at hr;have hf:=e4f hrow;refine Zz ?_;intros;refine s6 hY f (r:=.t [.c (.i .i64 3),.c (.b true)]) (by show z8.ret (okI (D7 f))=_;rw [ep];rfl) z6 .nil fun _ _ _ _=>?_;(refine Zz ?_;with_reducible repeat' first|intro _|apply aI)
   all_goals try (exfalso;omega)
   all_goals try (exfalso;contradiction)
   cases en:O.eqb a F6 with
   | true =>
    rw [en] at hr;simp only [if_true] at hr;have:=b0e hc hr;subst this;refine s6 hN a (r:=.c (.b true)) (by show z8.ret (.c (.b (O.eqb a F6)))=_;rw [en]) oA .nil fun _ _ _ _=>?_;refine Zz ?_;intros;exact s9 ⟨rrA (o:=c) aS _,.nil⟩
   | false =>
    rw [en] at hr;simp only [Bool.false_eq_true,if_false] at hr;have:=b0e hb' hr;subst this;refine s6 hN a (r:=.c (.b false)) (by show z8.ret (.c (.b (O.eqb a F6)))=_;rw [en]) oA .nil fun _ _ _ _=>?_;refine Zz ?_;intros;exact s9 ⟨rrA (o:=b) aS _,.nil⟩
  | _ :: _ :: _ :: _ :: _,hr,hn,hok,hv=>exfalso;simp at hn;omega
structure Ty where
 w:Wd
 t:T
 env:M7
 S:Int
 l:Nat
 n:Nat
 r:Ro
 h:H1 T5 w.L n t env l=some r
 hw:w.1 ≠ []
 he:env.length < 90000
 hl:(l:Int)≤S
 hS:S < 1000000000
def d4z:Sp where
 ι:=Ty
 A x:=[.p 0 0,.a x.t.g,.sl 9 (x.env.map bd)]
 B x:=eB x.w.1 x.w.L x.S (x.S - x.l)
 R x:=.ret (.t [.a x.r.1.g,.c (.i .i64 x.r.2.1)])
 B' x:=eB x.w.1 x.w.L x.S (x.S - x.r.2.2)
 inj i j vs bs h k hb kb:=by
  obtain ⟨_,_,h1,k1,h,k⟩:=h.two k;obtain ⟨_,_,h2,k2,h,k⟩:=h.two k;obtain ⟨_,_,h3,k3,h,k⟩:=h.two k;obtain ⟨e4,e7,e8⟩:=c6g hb kb;have e1:=T.g_inj (h2.a_inj k2);have e2:=a7w (h3.sl_inj k3);have e5:i.w.L=j.w.L:=U2 e4;have e6:i.l=j.l:=oM;have hr:i.r=j.r:=c0r (n:=i.n) (m:=j.n) i.h (by rw [e5,e1,e2,e6];exact j.h);rw [hr];refine ⟨rfl,?_⟩;unfold eB;rw [e4,e7,e5]
structure Tc where
 w:Wd
 f:Sy
 xs:List T
 env:M7
 S:Int
 l:Nat
 n:Nat
 r:Ro
 h:N9 T5 w.L (H1 T5 w.L n) (.call f xs) env l=some r
 hw:w.1 ≠ []
 he:env.length < 90000
 hl:(l:Int)≤S
 hS:S < 1000000000
def e35:Sp where
 ι:=Tc
 A x:=[.p 0 0,.a (T.call x.f x.xs).g,.sl 9 (x.env.map bd)]
 B x:=eB x.w.1 x.w.L x.S (x.S - x.l)
 R x:=.ret (.t [.a x.r.1.g,.c (.i .i64 x.r.2.1)])
 B' x:=eB x.w.1 x.w.L x.S (x.S - x.r.2.2)
 inj i j vs bs h k hb kb:=by
  obtain ⟨_,_,h1,k1,h,k⟩:=h.two k;obtain ⟨_,_,h2,k2,h,k⟩:=h.two k;obtain ⟨_,_,h3,k3,h,k⟩:=h.two k;obtain ⟨e4,e7,e8⟩:=c6g hb kb;have e1:=T.g_inj (h2.a_inj k2);have e2:=a7w (h3.sl_inj k3);have e5:i.w.L=j.w.L:=U2 e4;have e6:i.l=j.l:=oM;have hr:i.r=j.r:=c0r (ap:=T5) (L:=i.w.L) (t:=T.call i.f i.xs) (n:=i.n+1) (m:=j.n+1) i.h (by rw [e5,e1,e2,e6];exact j.h);rw [hr];refine ⟨rfl,?_⟩;unfold eB;rw [e4,e7,e5]
theorem f42 (hc:∀ z,v8 37 (d4z.lt (fun x=>x.n) z)→v8 64 (e35.lt (fun x=>x.n) z)):v8 37 d4z:=Y2 (fun x=>x.n) fun z ih=>A8 (fun fn h=>d8e h) [(64,e35.lt (fun x=>x.n) z)] (.cons (hc z ih) .nil) fun U fn hfn ⟨⟨w,t,env,S,l,m,r,hr,hw,henv,hl,hS⟩,hm⟩ vs bs hv hb=>by
 have hm:m < z+1:=hm;change z7 [.p 0 0,.a t.g,.sl 9 (env.map bd)] vs at hv;change u0 (eB w.1 w.L S (S - l)) bs at hb;show t6 U _ fun v bs'=>A3 (.ret (.t [.a r.1.g,.c (.i .i64 r.2.1)])) v∧u0 (eB w.1 w.L S (S - r.2.2)) bs';obtain ⟨m,rfl⟩:∃ k,m=k+1:=by
  cases m with
  | zero=>cases hr
  | succ k=>exact ⟨k,rfl⟩
 have hr:N9 T5 w.L (H1 T5 w.L m) t env l=some r:=hr;unfold r37;cases t with
 | c o =>
  simp only [T.g] at hv;rw [N9] at hr;injection hr with hr;subst hr;refine Zm ?_;intros;refine sBE aS hw fun tw ow htw=>?_;refine Zm ?_;intros;refine sBm aS fun lm hlm=>?_;refine Zm ?_;intros;refine s9 ⟨rrA (Eq.mp ?_ (A7.take 7 (by assumption:A7 (List.drop 3 _) _ 0))) _,U3 htw hlm rfl rfl⟩;rw [O.g_eq];rfl
 | v s =>
  simp only [T.g] at hv;rw [N9,if_neg oM] at hr;refine Zm ?_;intros;refine sBE aS hw fun tw ow htw=>?_;refine Zm ?_;intros;refine sBm aS fun lm hlm=>?_;refine Zm ?_;intros;refine I7 (fun (i:Nat) vs bs=>∃ (t:u1 Q) (off:Nat) (q:Q),vs=[.ptr 2 0,.ptr 3 0,.slice t 9 off env.length .no,.int .i64 env.length,.int .i64 i]∧bs=[.cells [.slice tw 32 ow w.1.length .no,.mapp 1,.int .i64 S,.int .i64 (S - l)],.map lm,.opa q 11,.cells [.int .i64 0,.str 0 0,.str 0 0,.str 0 0,.str 0 0,.str 0 0,.slice .nil 0 0 0 .exact]]∧A7 [.i .i64 1,.s s.1,.s s.2,.i .i64 0,.s [],.s [],.s [],.s [],.s [],.l [],.l []] q 0∧A5 9 (env.map bd) t off∧i≤env.length∧Z0 (env.drop i) s=Z0 env s) (fun i=>env.length - i) 0
   ⟨_,_,_,rfl,rfl,aS,aS,oM,rfl⟩ (by simp only [E3];omega) ?_
  rintro self i _ _ ⟨t,off,q,rfl,rfl,hq,ht,hi,he⟩ ihL;(refine Zm ?_;with_reducible repeat' first|intro _|apply aI)
  ·rw [List.drop_eq_getElem_cons (by omega:i < env.length),Z0,if_pos (Prod.ext (‹_∧_∧True›).1 (‹_∧_∧True›).2.1)] at he;rw [← he] at hr;injection hr with hr;rw [← hr];exact s9 ⟨rrA (by rw [O.g_eq];exact (by assumption:A7 (List.drop 2 (bd env[i])) _ 0)) _,U3 htw hlm rfl rfl⟩
  ·rw [List.drop_eq_getElem_cons (by omega:i < env.length),Z0,if_neg (fun h=>‹¬(_∧_∧True)› ⟨congrArg Prod.fst h,congrArg Prod.snd h,trivial⟩)] at he;exact ihL (i+1) _ _ ⟨_,_,_,by simp,rfl,hq,ht,oM,he⟩ oM
  ·have ei:i=env.length:=oM;rw [ei,List.drop_length] at he;rw [← he] at hr;injection hr with hr;subst hr;exact s9 ⟨a12 _,U3 htw hlm rfl rfl⟩
 | call f xs =>
  have hTg:(T.call f xs).g=[.i .i64 3,.s f.1,.s f.2,.i .i64 0,.s [],.s [],.s [],.s [],.s [],.l [],.l (xs.map T.g)]:=by simp only [T.g,T.gs_eq]
  rw [hTg] at hv;refine Zm ?_;intros;refine sBE aS hw fun tw ow htw=>?_;refine Zm ?_;intros;refine sBm aS fun lm hlm=>?_;refine Zm ?_;intros;refine s6 (hfn 64 _ rfl) ⟨⟨w,f,xs,env,S,l,m,r,hr,hw,henv,hl,hS⟩,by show m < z;omega⟩ (r:=.t [.a r.1.g,.c (.i .i64 r.2.1)]) rfl (.k (.p _ _) (.k (by show RV (.a (T.call f xs).g) _;rw [hTg];exact .a _ _ _ rfl aS) (.k (.sl _ _ _ _ _ (by simp) aS) .nil))) (U3 htw hlm rfl rfl) fun _ _ _ hb2=>?_;change u0 (eB w.1 w.L S (S - r.2.2)) _ at hb2;refine Zm ?_;intros;refine H3 aS (O.g_len _) fun _ _=>?_;refine Zm ?_;intros;refine sBE aS hw fun tw ow htw=>?_;refine Zm ?_;intros;refine sBm aS fun lm hlm=>?_;refine Zm ?_;intros;exact s9 ⟨rrA aS _,U3 htw hlm rfl rfl⟩
instance:NX zF:=⟨rfl⟩
theorem c47 {o:O} {q:O × Int} (h:apV o=some q) (k:q.2 ≠ 0):q.1=.no:=by
 unfold apV at h;split at h
 ·injection h with h;split at h
  ·subst h;exact absurd rfl k
  ·subst h;rfl
 ·cases h
theorem d5c {f:Sy} {os:List O} {q:O × Int} (h:T5 f os=some q) (k:q.2 ≠ 0):q.1=.no:=by
 unfold T5 at h;split at h
 case isFalse=>cases h
 unfold apT at h;split at h
 ·injection h with h;subst h;rfl
 ·split at h
  ·split at h
   ·split at h
    ·exact c47 h k
    ·cases h
   ·split at h
    ·exact c47 h k
    ·cases h
   ·exact c47 h k
   ·cases h
  ·injection h with h;subst h;rfl
theorem c6n {ap:Ap} {L:List (List F)} (hap:∀ {f os q},ap f os=some q→q.2 ≠ 0→q.1=.no):∀ {n:Nat} {t env l r},H1 ap L n t env l=some r→r.2.1 ≠ 0→r.1=.no
 | 0,_,_,_,_,h,_=>by cases h
 | n+1,t,env,l,r,h,k=>by
  have ih:∀ {t env l r},H1 ap L n t env l=some r→r.2.1 ≠ 0→r.1=.no:=fun h k=>c6n hap h k;have h:N9 ap L (H1 ap L n) t env l=some r:=h;cases t with
  | v s =>
   rw [N9] at h;split at h
   ·cases h
   ·split at h
    ·injection h with h;subst h;exact absurd rfl k
    ·injection h with h;subst h;rfl
  | c o=>rw [N9] at h;injection h with h;subst h;exact absurd rfl k
  | call f xs =>
   rw [N9] at h;split at h
   ·cases h
   split at h
   ·injection h with h;subst h;rfl
   split at h
   ·injection h with h;subst h;rfl
   split at h
   case isFalse=>injection h with h;subst h;rfl
   split at h
   ·injection h with h;subst h;rfl
   split at h
   ·match xs,h with
    | [a,b,c],h =>
     rw [evI] at h;split at h
     ·cases h
     ·rename_i r1 e1;split at h
      ·split at h
       ·exact ih h k
       ·exact ih h k
      ·injection h with h;subst h;exact ih e1 k
   ·unfold evC at h;split at h
    ·cases h
    ·injection h with h;subst h;rfl
    ·split at h
     ·rename_i p _ _ _ _;cases hq:ap f p.1 with
      | none=>rw [hq] at h;cases h
      | some q=>rw [hq] at h;injection h with h;subst h;exact hap hq k
     ·split at h
      ·exact ih h k
      ·cases h
theorem e8o {f:Sy} {n:Int} (h:D7 f=some n):f.1=B0:=by
 unfold D7 at h;split at h
 ·assumption
 ·cases h
theorem f4n (z:Nat) (ih:v8 37 (d4z.lt (fun x=>x.n) z)):v8 64 (e35.lt (fun x=>x.n) z):=A8 (fun fn h=>d8m h) [(37,d4z.lt (fun x=>x.n) z),(101,_),(102,_),(103,_),(104,_)] (.cons ih (.cons d0z (.cons kFE (.cons d01 (.cons e7p .nil))))) fun U fn hfn ⟨⟨w,f,xs,env,S,l,m,r,hr,hw,henv,hl,hS⟩,hm⟩ vs bs hv hb=>by
 have hT:=hfn 37 _ rfl;have hY:=hfn 101 _ rfl;have hF:=hfn 102 _ rfl;have hN:=hfn 103 _ rfl;have hm:m < z:=hm;have hTg:(T.call f xs).g=[.i .i64 3,.s f.1,.s f.2,.i .i64 0,.s [],.s [],.s [],.s [],.s [],.l [],.l (xs.map T.g)]:=by simp only [T.g,T.gs_eq]
 change z7 [.p 0 0,.a (T.call f xs).g,.sl 9 (env.map bd)] vs at hv;change u0 (eB w.1 w.L S (S - l)) bs at hb;show t6 U _ fun v bs'=>A3 (.ret (.t [.a r.1.g,.c (.i .i64 r.2.1)])) v∧u0 (eB w.1 w.L S (S - r.2.2)) bs';rw [hTg] at hv;rw [N9] at hr;split at hr
 ·cases hr
 rename_i hxs;unfold r64;refine Zm ?_;intros;refine sBE aS hw fun tw ow htw=>?_;refine Zm ?_;intros;refine sBm aS fun lm hlm=>?_;(refine Zm ?_;with_reducible repeat' first|intro _|apply aI)
 ·rw [if_pos oM] at hr;injection hr with hr;subst hr;exact s9 ⟨a12 _,U3 htw hlm rfl rfl⟩
 rw [if_neg oM] at hr;have hl1:((l - 1:Nat):Int)=(l:Int) - 1:=oM;have hcE:S - (l:Int)+1=S - ((l - 1:Nat):Int):=oM;cases ep:D7 f with
 | none =>
  refine s6 hY f (r:=.t [.c (.i .i64 0),.c (.b false)]) (by show z8.ret (okI (D7 f))=_;rw [ep];rfl) (.k (a77 (gs:=List.drop 1 _) aS (by rfl) rfl) .nil) .nil fun _ _ _ _=>?_;(refine Zm ?_;with_reducible repeat' first|intro _|apply aI);cases eg:L9 w.L f with
  | none =>
   have e:U9 w.L f=none:=by rw [U9,ep];simp only [eg];rfl
   rw [e] at hr;injection hr with hr;subst hr;refine s6 hF ⟨((w,f),S,S - ((l - 1:Nat):Int)),hw⟩ (r:=.t [.a zF,.c (.b false)]) (by show z8.ret (okF (L9 w.L f))=_;rw [eg];rfl) (.k (.p _ _) (.k (a77 (gs:=List.drop 1 _) aS (by rfl) rfl) .nil)) (U3 htw hlm rfl hcE.symm) fun _ _ _ hb2=>?_;change u0 (eB w.1 w.L S (S - ((l - 1:Nat):Int))) _ at hb2;refine Zm ?_;intros;refine sBE aS hw fun tw ow htw=>?_;refine Zm ?_;intros;refine sBm aS fun lm hlm=>?_;refine Zm ?_;intros;exact s9 ⟨a12 _,U3 htw hlm rfl rfl⟩
  | some g =>
   have e:U9 w.L f=some (g.ps.length:Int):=by rw [U9,ep];simp only [eg];rfl
   have ec:c5h w.L f=g.cl:=by rw [c5h,eg]
   rw [e,ep,ec] at hr;simp only [Option.isNone_none,true_and] at hr;refine s6 hF ⟨((w,f),S,S - ((l - 1:Nat):Int)),hw⟩ (r:=.t [.a g.g,.c (.b true)]) (by show z8.ret (okF (L9 w.L f))=_;rw [eg];rfl) (.k (.p _ _) (.k (a77 (gs:=List.drop 1 _) aS (by rfl) rfl) .nil)) (U3 htw hlm rfl hcE.symm) fun _ _ _ hb2=>?_;change u0 (eB w.1 w.L S (S - ((l - 1:Nat):Int))) _ at hb2;refine Zm ?_;intros;refine H3 aS (by first | exact (F.g_len _).symm | exact F.g_len _) fun _ _=>?_;refine Zm ?_;intros;refine sBE aS hw fun tw ow htw=>?_;refine Zm ?_;intros;refine sBm aS fun lm hlm=>?_;refine Zm ?_;intros;refine F1 aS (B7 a95) fun _ _ _=>?_;refine Zm ?_;intros;refine F1 aS (B7 T.g_len) fun _ _ _=>?_;(refine Zm ?_;with_reducible repeat' first|intro _|apply aI)
   ·rw [if_pos oM,if_neg (by intro h;exact h aS)] at hr;have hIf:isC (.call f xs) (s5 2 26217) 3=false:=by
     rw [isC,decide_eq_false]
     ·rfl
     ·intro h;rw [h] at ep;cases ep
    rw [hIf] at hr;simp only [Bool.false_eq_true,if_false] at hr;have hpx:(xs.length:Int)=g.ps.length:=aS;refine F1 aS (B7 T.g_len) fun _ _ _=>?_;refine Zm ?_;intros;generalize hl2:l - 1=l2 at *;unfold evC at hr;rw [ep,eg] at hr;cases eA:R3 (fun t l=>H1 T5 w.L m t env l) xs l2 [] with
    | none=>rw [eA] at hr;cases hr
    | some R =>
    rw [eA] at hr;refine I7 (fun (i:Nat) vs bs=>∃ (t:u1 Q) (off:Nat) (v:V) (l3:Nat) (u:Int) (acc:List O) (q2 q3 q4:Q) (tw:u1 Q) (ow:Nat) (lm:List V),vs=[.ptr 0 0,.slice t 9 off env.length .no,.ptr 2 0,.ptr 3 0,.int .i64 g.ps.length,.bool false,.ptr 4 0,v,.q q4,.int .i64 xs.length,.int .i64 i]∧bs=[.cells [.slice tw 32 ow w.1.length .no,.mapp 1,.int .i64 S,.int .i64 u],.map lm,.opa q2 11,.cells [.int .i64 0,.str 0 0,.str 0 0,.str 0 0,.str 0 0,.str 0 0,.slice .nil 0 0 0 .exact],.opa q3 37,.tok acc.length 7]∧S4 5 7 (acc.map O.g) v∧A5 9 (env.map bd) t off∧A5 32 (w.1.map Et.g) tw ow∧a6e w.L lm∧RG (.l (xs.map T.g)) q4∧A7 [.i .i64 3,.s f.1,.s f.2,.i .i64 0,.s [],.s [],.s [],.s [],.s [],.l [],.l (xs.map T.g)] q2 0∧A7 g.g q3 0∧i≤xs.length∧acc.length=i∧l3≤l2∧u=S - l3∧R3 (fun t l=>H1 T5 w.L m t env l) (xs.drop i) l3 acc=some R) (fun i=>xs.length - i) 0
     ⟨_,_,_,_,_,[],_,_,_,_,_,_,rfl,rfl,.a _ _ rfl (.nil _ _ _),aS,aS,aS,aS,aS,aS,oM,rfl,oM,rfl,eA⟩ (by simp only [E3];omega) ?_
    rintro self i _ _ ⟨t,off,v,l3,u,acc,q2,q3,q4,tw,ow,lm,rfl,rfl,htk,ht,htw,hlm,hq4,hq2,hq3,hi,hac,hl3,hu,he⟩ ihL;refine Zm ?_;intros;refine sQV ?_;(refine Zm ?_;with_reducible repeat' first|intro _|apply aI)
    ·refine F1 aS (B7 T.g_len) fun _ _ _=>?_;refine Zm ?_;intros;have hix:i < xs.length:=oM;rw [List.drop_eq_getElem_cons hix,R3] at he;change (match H1 T5 w.L m xs[i] env l3 with | none=>none | some r=>if r.2.1=0 then R3 (fun t l=>H1 T5 w.L m t env l) (xs.drop (i+1)) r.2.2 (acc ++ [r.1]) else some (.inl (r.2.1,r.2.2)))=some R at he;cases er:H1 T5 w.L m xs[i] env l3 with
     | none=>rw [er] at he;cases he
     | some r1 =>
     rw [er] at he;obtain ⟨o1,e1,l4⟩:=r1;have hl4:l4≤l3:=a3e er;simp only at he;refine s6 hT ⟨⟨w,xs[i],env,S,l3,m,(o1,e1,l4),er,hw,henv,oM,hS⟩,by show m < z;omega⟩ (r:=.t [.a ((o1,e1,l4)).1.g,.c (.i .i64 ((o1,e1,l4)).2.1)]) rfl (.k (.p _ _) (.k (.a _ _ _ (T.g_len _).symm aS) (.k (.sl _ _ _ _ _ (by simp) ht) .nil))) (U3 htw hlm rfl hu.symm) fun _ _ _ hb2=>?_;change u0 (eB w.1 w.L S (S - ((((o1,e1,l4)).2.2:Nat):Int))) _ at hb2;refine Zm ?_;intros;refine oR fun _ _=>?_;refine Zm ?_;intros;refine sBE aS hw fun tw ow htw=>?_;refine Zm ?_;intros;refine sBm aS fun lm hlm=>?_;(refine Zm ?_;with_reducible repeat' first|intro _|apply aI)
     ·rw [if_pos aS] at he;refine S7 aS (r:=o1.g) (fun _=>a06 (by rw [O.g_len];decide) aS) (O.g_len _) (by simp) (by simp only [List.length_map];omega) fun _ _=>?_;refine Zm ?_;intros;exact ihL (i+1) _ _ ⟨_,_,_,l4,_,acc ++ [o1],_,_,_,_,_,_,rfl,(by rw [List.length_append];rfl),.a _ _ (by simp) (by rw [List.map_append];assumption),ht,htw,hlm,hq4,hq2,hq3,oM,by simp [hac],oM,rfl,he⟩ oM
     ·rw [if_neg aS] at he;injection he with he;subst he;simp only at hr;injection hr with hr;subst hr;exact s9 ⟨a12 _,U3 htw hlm rfl rfl⟩
    ·have ei:i=xs.length:=oM;rw [ei,List.drop_length,R3] at he;injection he with he;subst he;simp only at hr;have hlp:(List.zip g.ps acc).length=g.ps.length:=by rw [List.length_zip];omega
     refine F1 aS (B7 a95) fun _ _ _=>?_;refine Zm ?_;intros;refine I7 (fun (i:Nat) vs bs=>∃ (va v:V) (q3 q5:Q) (tw:u1 Q) (ow:Nat) (lm:List V) (bds:M7),vs=[.ptr 0 0,.ptr 2 0,.ptr 3 0,va,v,.q q5,.int .i64 g.ps.length,.int .i64 i]∧bs=[.cells [.slice tw 32 ow w.1.length .no,.mapp 1,.int .i64 S,.int .i64 u],.map lm,.cells [.int .i64 0,.str 0 0,.str 0 0,.str 0 0,.str 0 0,.str 0 0,.slice .nil 0 0 0 .exact],.opa q3 37,.tok acc.length 7,.tok bds.length 9]∧S4 4 7 (acc.map O.g) va∧S4 5 9 (bds.map bd) v∧A5 32 (w.1.map Et.g) tw ow∧a6e w.L lm∧RG (.l (g.ps.map sg)) q5∧A7 g.g q3 0∧bds=(List.zip g.ps acc).take i∧bds.length=i∧i≤g.ps.length) (fun i=>g.ps.length - i) 0
      ⟨_,_,_,_,_,_,_,[],rfl,rfl,.a _ _ (by simp) aS,.a _ _ rfl (.nil _ _ _),aS,aS,aS,aS,rfl,rfl,oM⟩ (by simp only [E3];omega) ?_
     rintro self2 j _ _ ⟨va,v2,q3,q5,tw,ow,lm,bds,rfl,rfl,hva,hv2,htw,hlm,hq5,hq3,hbd,hbl,hj⟩ ihJ;refine Zm ?_;intros;refine sQV ?_;(refine Zm ?_;with_reducible repeat' first|intro _|apply aI)
     ·refine F1 aS (B7 a95) fun _ _ _=>?_;refine Zm ?_;intros;have hjl:j < g.ps.length:=oM;have hja:j < acc.length:=oM;refine S7 aS (r:=bd (g.ps[j],acc[j])) (fun e=>by subst e;exact e4w aS aS) rfl (by simp) (by simp only [List.length_map];omega) fun _ _=>?_;refine Zm ?_;intros;refine ihJ (j+1) _ _ ⟨_,_,_,_,_,_,_,bds ++ [(g.ps[j],acc[j])],rfl,(by rw [List.length_append];rfl),.a _ _ (by simp) aS,.a _ _ (by simp) (by rw [List.map_append];assumption),htw,hlm,hq5,hq3,?_,by simp [hbl],oM⟩ oM;rw [hbd,b2c _ _ _ hjl hja]
     ·have e9:bds=List.zip g.ps acc:=by rw [hbd,List.take_of_length_le oM]
      subst e9;refine s6 hT ⟨⟨w,g.bo,List.zip g.ps acc,S,l3,m,r,hr,hw,oM,oM,hS⟩,by show m < z;omega⟩ (r:=.t [.a (r).1.g,.c (.i .i64 (r).2.1)]) rfl (.k (.p _ _) (.k (.a _ _ _ (T.g_len _).symm (F.body aS)) (.k (.sl _ _ _ _ _ (by simp) aS) .nil))) (U3 htw hlm rfl hu.symm) fun _ _ _ hb2=>?_;change u0 (eB w.1 w.L S (S - (((r).2.2:Nat):Int))) _ at hb2;refine Zm ?_;intros;refine oR fun _ _=>?_;refine Zm ?_;intros;refine sBE aS hw fun tw ow htw=>?_;refine Zm ?_;intros;refine sBm aS fun lm hlm=>?_;refine Zm ?_;intros;exact s9 ⟨rrA aS _,U3 htw hlm rfl rfl⟩
   ·rw [if_pos oM,if_pos aS] at hr;injection hr with hr;subst hr;exact s9 ⟨a12 _,U3 htw hlm rfl rfl⟩
   ·rw [if_neg oM] at hr;injection hr with hr;subst hr;exact s9 ⟨a12 _,U3 htw hlm rfl rfl⟩
 | some n =>
  refine s6 hY f (r:=.t [.c (.i .i64 n),.c (.b true)]) (by show z8.ret (okI (D7 f))=_;rw [ep];rfl) (.k (a77 (gs:=List.drop 1 _) aS (by rfl) rfl) .nil) .nil fun _ _ _ _=>?_;have e:U9 w.L f=some n:=by rw [U9,ep]
  have hn3:=a4o ep;rw [e,ep] at hr;simp only [Option.isNone_some,Bool.false_eq_true,false_and,if_false] at hr;refine Zm ?_;intros;refine Y8 (gs:=zF) (.cells _ _ (by unfold zF;(exact Zru))) rfl fun _ _=>?_;refine Zm ?_;intros;refine F1 aS (B7 T.g_len) fun _ _ _=>?_;(refine Zm ?_;with_reducible repeat' first|intro _|apply aI)
  ·rw [if_pos oM] at hr;have hf2:f=(B0,s5 2 26217):=Prod.ext (e8o ep) aS;have hn33:n=3:=by
    have h3:=c73 ep;rw [(by assumption:f.2=s5 2 26217)] at h3;have h4:N4 K5 (s5 2 26217)=some 3:=kR;rw [h4] at h3;injection h3 with h3;exact h3.symm
   have hx3:xs.length=3:=oM;have hIf:isC (.call f xs) (s5 2 26217) 3=true:=by rw [isC,decide_eq_true hf2,decide_eq_true oM];rfl
   rw [hIf] at hr;simp only [if_true] at hr;obtain ⟨a,b',c,rfl⟩:∃ a b c,xs=[a,b,c]:=by
    match xs,hx3 with
    | [a,b,c],_=>exact ⟨a,b,c,rfl⟩
   refine F1 aS (B7 T.g_len) fun _ _ _=>?_;refine Zm ?_;intros;rw [evI] at hr;change (match H1 T5 w.L m a env (l - 1) with | none=>none | some r=>if r.2.1=0 then (if O.eqb r.1 F6 then H1 T5 w.L m c env r.2.2 else H1 T5 w.L m b' env r.2.2) else some r)=some r at hr;generalize hl2:l - 1=l2 at *;cases er:H1 T5 w.L m a env l2 with
   | none=>rw [er] at hr;cases hr
   | some r1 =>
   rw [er] at hr;obtain ⟨o1,e1,l4⟩:=r1;have hl4:l4≤l2:=a3e er;simp only at hr;refine s6 hT ⟨⟨w,a,env,S,l2,m,(o1,e1,l4),er,hw,henv,oM,hS⟩,by show m < z;omega⟩ (r:=.t [.a ((o1,e1,l4)).1.g,.c (.i .i64 ((o1,e1,l4)).2.1)]) rfl (.k (.p _ _) (.k (.a _ _ _ (T.g_len _).symm aS) (.k (.sl _ _ _ _ _ (by simp) aS) .nil))) (U3 htw hlm rfl hcE.symm) fun _ _ _ hb2=>?_;change u0 (eB w.1 w.L S (S - ((((o1,e1,l4)).2.2:Nat):Int))) _ at hb2;refine Zm ?_;intros;refine oR fun _ _=>?_;refine Zm ?_;intros;refine sBE aS hw fun tw ow htw=>?_;refine Zm ?_;intros;refine sBm aS fun lm hlm=>?_;(refine Zm ?_;with_reducible repeat' first|intro _|apply aI)
   ·rw [if_pos aS] at hr;cases en:O.eqb o1 F6 with
    | true =>
     rw [en] at hr;simp only [if_true] at hr;refine s6 hN o1 (r:=.c (.b true)) (by show z8.ret (.c (.b (O.eqb o1 F6)))=_;rw [en]) oA .nil fun _ _ _ _=>?_;refine Zm ?_;intros;refine F1 aS (B7 T.g_len) fun _ _ _=>?_;refine Zm ?_;intros;refine s6 hT ⟨⟨w,c,env,S,l4,m,r,hr,hw,henv,oM,hS⟩,by show m < z;omega⟩ (r:=.t [.a (r).1.g,.c (.i .i64 (r).2.1)]) rfl (.k (.p _ _) (.k (.a _ _ _ (T.g_len _).symm aS) (.k (.sl _ _ _ _ _ (by simp) aS) .nil))) (U3 htw hlm rfl rfl) fun _ _ _ hb2=>?_;change u0 (eB w.1 w.L S (S - (((r).2.2:Nat):Int))) _ at hb2;refine Zm ?_;intros;refine oR fun _ _=>?_;refine Zm ?_;intros;refine sBE aS hw fun tw ow htw=>?_;refine Zm ?_;intros;refine sBm aS fun lm hlm=>?_;refine Zm ?_;intros;exact s9 ⟨rrA aS _,U3 htw hlm rfl rfl⟩
    | false =>
     rw [en] at hr;simp only [Bool.false_eq_true,if_false] at hr;refine s6 hN o1 (r:=.c (.b false)) (by show z8.ret (.c (.b (O.eqb o1 F6)))=_;rw [en]) oA .nil fun _ _ _ _=>?_;refine Zm ?_;intros;refine F1 aS (B7 T.g_len) fun _ _ _=>?_;refine Zm ?_;intros;refine s6 hT ⟨⟨w,b',env,S,l4,m,r,hr,hw,henv,oM,hS⟩,by show m < z;omega⟩ (r:=.t [.a (r).1.g,.c (.i .i64 (r).2.1)]) rfl (.k (.p _ _) (.k (.a _ _ _ (T.g_len _).symm aS) (.k (.sl _ _ _ _ _ (by simp) aS) .nil))) (U3 htw hlm rfl rfl) fun _ _ _ hb2=>?_;change u0 (eB w.1 w.L S (S - (((r).2.2:Nat):Int))) _ at hb2;refine Zm ?_;intros;refine oR fun _ _=>?_;refine Zm ?_;intros;refine sBE aS hw fun tw ow htw=>?_;refine Zm ?_;intros;refine sBm aS fun lm hlm=>?_;refine Zm ?_;intros;exact s9 ⟨rrA aS _,U3 htw hlm rfl rfl⟩
   ·rw [if_neg aS] at hr;injection hr with hr;subst hr;have hno:=c6n d5c er aS;simp only at hno;subst hno;exact s9 ⟨a12 _,U3 htw hlm rfl rfl⟩
  ·rw [if_pos oM] at hr;have hIf:isC (.call f xs) (s5 2 26217) 3=false:=by
    rw [isC,decide_eq_false]
    ·rfl
    ·intro h;exact absurd (congrArg Prod.snd h) aS
   rw [hIf] at hr;simp only [Bool.false_eq_true,if_false] at hr;have hpx:(xs.length:Int)=n:=aS;refine F1 aS (B7 T.g_len) fun _ _ _=>?_;refine Zm ?_;intros;generalize hl2:l - 1=l2 at *;unfold evC at hr;rw [ep] at hr;cases eA:R3 (fun t l=>H1 T5 w.L m t env l) xs l2 [] with
   | none=>rw [eA] at hr;cases hr
   | some R =>
   rw [eA] at hr;refine I7 (fun (i:Nat) vs bs=>∃ (t:u1 Q) (off:Nat) (v:V) (l3:Nat) (u:Int) (acc:List O) (q2 q3 q4:Q) (tw:u1 Q) (ow:Nat) (lm:List V),vs=[.ptr 0 0,.slice t 9 off env.length .no,.ptr 2 0,.ptr 3 0,.int .i64 n,.bool true,.ptr 4 0,v,.q q4,.int .i64 xs.length,.int .i64 i]∧bs=[.cells [.slice tw 32 ow w.1.length .no,.mapp 1,.int .i64 S,.int .i64 u],.map lm,.opa q2 11,.cells [.int .i64 0,.str 0 0,.str 0 0,.str 0 0,.str 0 0,.str 0 0,.slice .nil 0 0 0 .exact],.opa q3 37,.tok acc.length 7]∧S4 5 7 (acc.map O.g) v∧A5 9 (env.map bd) t off∧A5 32 (w.1.map Et.g) tw ow∧a6e w.L lm∧RG (.l (xs.map T.g)) q4∧A7 [.i .i64 3,.s f.1,.s f.2,.i .i64 0,.s [],.s [],.s [],.s [],.s [],.l [],.l (xs.map T.g)] q2 0∧A7 zF q3 0∧i≤xs.length∧acc.length=i∧l3≤l2∧u=S - l3∧R3 (fun t l=>H1 T5 w.L m t env l) (xs.drop i) l3 acc=some R) (fun i=>xs.length - i) 0
    ⟨_,_,_,_,_,[],_,_,_,_,_,_,rfl,rfl,.a _ _ rfl (.nil _ _ _),aS,aS,aS,aS,aS,aS,oM,rfl,oM,oM,eA⟩ (by simp only [E3];omega) ?_
   rintro self i _ _ ⟨t,off,v,l3,u,acc,q2,q3,q4,tw,ow,lm,rfl,rfl,htk,ht,htw,hlm,hq4,hq2,hq3,hi,hac,hl3,hu,he⟩ ihL;refine Zm ?_;intros;refine sQV ?_;(refine Zm ?_;with_reducible repeat' first|intro _|apply aI)
   ·refine F1 aS (B7 T.g_len) fun _ _ _=>?_;refine Zm ?_;intros;have hix:i < xs.length:=oM;rw [List.drop_eq_getElem_cons hix,R3] at he;change (match H1 T5 w.L m xs[i] env l3 with | none=>none | some r=>if r.2.1=0 then R3 (fun t l=>H1 T5 w.L m t env l) (xs.drop (i+1)) r.2.2 (acc ++ [r.1]) else some (.inl (r.2.1,r.2.2)))=some R at he;cases er:H1 T5 w.L m xs[i] env l3 with
    | none=>rw [er] at he;cases he
    | some r1 =>
    rw [er] at he;obtain ⟨o1,e1,l4⟩:=r1;have hl4:l4≤l3:=a3e er;simp only at he;refine s6 hT ⟨⟨w,xs[i],env,S,l3,m,(o1,e1,l4),er,hw,henv,oM,hS⟩,by show m < z;omega⟩ (r:=.t [.a ((o1,e1,l4)).1.g,.c (.i .i64 ((o1,e1,l4)).2.1)]) rfl (.k (.p _ _) (.k (.a _ _ _ (T.g_len _).symm aS) (.k (.sl _ _ _ _ _ (by simp) ht) .nil))) (U3 htw hlm rfl hu.symm) fun _ _ _ hb2=>?_;change u0 (eB w.1 w.L S (S - ((((o1,e1,l4)).2.2:Nat):Int))) _ at hb2;refine Zm ?_;intros;refine oR fun _ _=>?_;refine Zm ?_;intros;refine sBE aS hw fun tw ow htw=>?_;refine Zm ?_;intros;refine sBm aS fun lm hlm=>?_;(refine Zm ?_;with_reducible repeat' first|intro _|apply aI)
    ·rw [if_pos aS] at he;refine S7 aS (r:=o1.g) (fun _=>a06 (by rw [O.g_len];decide) aS) (O.g_len _) (by simp) (by simp only [List.length_map];omega) fun _ _=>?_;refine Zm ?_;intros;exact ihL (i+1) _ _ ⟨_,_,_,l4,_,acc ++ [o1],_,_,_,_,_,_,rfl,(by rw [List.length_append];rfl),.a _ _ (by simp) (by rw [List.map_append];assumption),ht,htw,hlm,hq4,hq2,hq3,oM,by simp [hac],oM,rfl,he⟩ oM
    ·rw [if_neg aS] at he;injection he with he;subst he;simp only at hr;injection hr with hr;subst hr;exact s9 ⟨a12 _,U3 htw hlm rfl rfl⟩
   ·have ei:i=xs.length:=oM;rw [ei,List.drop_length,R3] at he;injection he with he;subst he;simp only at hr;cases eP:T5 f acc with
    | none=>rw [eP] at hr;cases hr
    | some pr =>
    rw [eP] at hr;injection hr with hr;subst hr;refine s6 (hfn 104 _ rfl) ⟨((f,acc),pr),eP⟩ (r:=.t [.a pr.1.g,.c (.i .i64 pr.2)]) rfl (.k (a77 (gs:=List.drop 1 _) aS (by rfl) rfl) (.k z6 .nil)) .nil fun _ _ _ _=>?_;refine Zm ?_;intros;refine oR fun _ _=>?_;(refine Zm ?_;with_reducible repeat' first|intro _|apply aI)
    all_goals exact s9 ⟨rrA aS _,U3 htw hlm rfl hu.symm⟩
  ·rw [if_neg oM] at hr;injection hr with hr;subst hr;exact s9 ⟨a12 _,U3 htw hlm rfl hcE.symm⟩
instance (b:Sy × O):NX (bd b):=⟨rfl⟩
theorem g0f {U:C3} {P:K0→List Bx→Prop} {n:Nat} {gs:List G} [NX gs] {b:Bx} {K:Q→Om} (hb:U=CU→RB gs b) (hn:gs.length=n) (h:∀ q,A7 gs q 0→t6 U (K q) P):t6 U (U.uBo n b K) P:=fun e=>Y8 (hb e) hn h e
theorem f2w {s:Sy} {o:O} {x y:Q} (h:A7 (sg s) x 0) (k:A7 o.g y 0):RB (bd (s,o)) (.cells [.q (CU.celQ x 0),.q (CU.celQ x 1),.q (CU.celQ y 0),.q (CU.celQ y 1),.q (CU.celQ y 2),.q (CU.celQ y 3),.q (CU.celQ y 4),.q (CU.celQ y 5),.q (CU.celQ y 6)]):=by
 rw [o.g_eq] at k;exact .cells _ _ (.k (.q _ _ (A7.at h rfl)) (.k (.q _ _ (A7.at h rfl)) (.k (.q _ _ (A7.at k rfl)) (.k (.q _ _ (A7.at k rfl)) (.k (.q _ _ (A7.at k rfl)) (.k (.q _ _ (A7.at k rfl)) (.k (.q _ _ (A7.at k rfl)) (.k (.q _ _ (A7.at k rfl)) (.k (.q _ _ (A7.at k rfl)) .nil)))))))))
def evN (l:List Raw) (i:Nat):Sy × O:=(E1.getD i (T4,[120]),match l[i]? with
 | some r=>F9 r
 | none=>F6)
def Y0 (l:List Raw):M7:=(List.range 4).map (evN l)
def g5m:Sp where
 ι:={ l:List Raw // l.length≤1000∧∀ r ∈ l,r.okR }
 A l:=[.sl 4 (l.1.map Raw.g)]
 B _:=[]
 R l:=.ret (.sl 9 ((Y0 l.1).map bd))
 B' _:=[]
 inj i j vs bs h k _ _:=by
  obtain ⟨_,_,h1,k1,h,k⟩:=h.two k;rw [Raw.map_inj (h1.sl_inj k1)];exact ⟨rfl,rfl⟩
theorem g4n (hItoa:b57):v8 12 g5m:=A8 (fun fn h=>f6a h) [(9,_),(35,_),(36,_)] (.cons d3y (.cons f4x (.cons (d02 hItoa) .nil))) fun U fn hfn ⟨l,hl,hok⟩ vs bs hv hb=>by
 change z7 [.sl 4 (l.map Raw.g)] vs at hv;change u0 [] bs at hb;have hl:l.length≤1000:=hl;have hvl:E1.length=4:=rfl;show t6 U _ fun v bs'=>A3 (.ret (.sl 9 ((Y0 l).map bd))) v∧u0 [] bs';unfold r12;refine Zz ?_;intros;refine s6 (hfn 9 _ rfl) () (r:=.sl 2 (E1.map sg)) rfl (.k (.i _ _) .nil) .nil fun _ _ _ _=>?_;refine Zz ?_;intros;refine I7 (fun (i:Nat) vs bs=>∃ (t:u1 Q) (off:Nat) (t2:u1 Q) (off2:Nat) (v:V) (acc:M7),vs=[.slice t 4 off l.length .no,.slice t2 2 off2 E1.length .no,.int .i64 (i:Nat),v]∧bs=[.tok acc.length 9]∧S4 0 9 (acc.map bd) v∧A5 4 (l.map Raw.g) t off∧A5 2 (E1.map sg) t2 off2∧acc=(List.range i).map (evN l)∧acc.length=i∧i≤4) (fun i=>4 - i) 0
  ⟨_,_,_,_,_,[],rfl,rfl,.b rfl,aS,aS,rfl,rfl,oM⟩ (by simp only [E3];omega) ?_
 rintro self i _ _ ⟨t,off,t2,off2,v,acc,rfl,rfl,htk,ht,ht2,hacc,hlen,hi⟩ ih;(refine Zz ?_;with_reducible repeat' first|intro _|apply aI)
 ·have hi4:i < E1.length:=oM;have hgd:E1.getD i (T4,[120])=E1[i]:=by simp [List.getD,List.getElem?_eq_getElem hi4]
  refine s6 (hfn 35 _ rfl) () (r:=.a F6.g) rfl .nil .nil fun _ _ h0 _=>?_;refine H3 h0 (O.g_len _) fun _ k0=>?_;(refine Zz ?_;with_reducible repeat' first|intro _|apply aI)
  ·have hil:i < l.length:=oM;have he:evN l i=(E1[i],F9 l[i]):=by unfold evN;rw [hgd,List.getElem?_eq_getElem hil]
   refine s6 (hfn 36 _ rfl) ⟨l[i],hok _ (List.getElem_mem hil)⟩ (r:=.a (F9 l[i]).g) rfl (.k (.a _ _ _ (Raw.g_len _).symm aS) .nil) .nil fun _ _ h1 _=>?_;refine H3 h1 (O.g_len _) fun _ k1=>?_;refine Zz ?_;intros;refine g0f (gs:=bd (E1[i],F9 l[i])) (fun e=>by subst e;exact f2w aS k1) (a9b _) fun _ _=>?_;refine Zz ?_;intros;refine S7 aS (r:=bd (E1[i],F9 l[i])) (fun _=>a06 (by rw [a9b];decide) aS) rfl (by simp) (by simp only [List.length_map];omega) fun _ _=>?_;refine Zz ?_;intros;exact ih (i+1) _ _ ⟨_,_,_,_,_,acc ++ [(E1[i],F9 l[i])],rfl,(by rw [List.length_append];rfl),.a _ _ (by simp) (by rw [List.map_append];assumption),ht,ht2,(by rw [hacc,List.range_succ,List.map_append,← he];rfl),by simp [hlen],oM⟩ oM
  ·have hil:l[i]?=none:=List.getElem?_eq_none oM;have he:evN l i=(E1[i],F6):=by unfold evN;rw [hgd,hil]
   refine g0f (gs:=bd (E1[i],F6)) (fun e=>by subst e;exact f2w aS k0) (a9b _) fun _ _=>?_;refine Zz ?_;intros;refine S7 aS (r:=bd (E1[i],F6)) (fun _=>a06 (by rw [a9b];decide) aS) rfl (by simp) (by simp only [List.length_map];omega) fun _ _=>?_;refine Zz ?_;intros;exact ih (i+1) _ _ ⟨_,_,_,_,_,acc ++ [(E1[i],F6)],rfl,(by rw [List.length_append];rfl),.a _ _ (by simp) (by rw [List.map_append];assumption),ht,ht2,(by rw [hacc,List.range_succ,List.map_append,← he];rfl),by simp [hlen],oM⟩ oM
 ·have e9:acc=Y0 l:=by rw [hacc,show i=4 by omega];rfl
  rw [← e9];exact s9 ⟨.ret _ _ (.sl _ _ _ _ _ (by simp) aS),.nil⟩
end
end Go.Proofs.YtkojildpddaccaaGreatDoor
