/- The reference's numbers: decimal strings. -/
import Derived.Test.YtffaodopiifbkaaGreatDoorKL0
import Derived.Test.YtffaodopiifbkaaGreatDoorKP
set_option linter.all false
namespace Go.Proofs.YtffaodopiifbkaaGreatDoor
open Go.Abs LQ
set_option maxRecDepth 100000
set_option maxHeartbeats 4000000
noncomputable section
def dg (d:Nat):List G:=[.i .i64 (d:Int)]
theorem e9r {a b:Nat} (h:dg a=dg b):a=b:=by simp only [dg,List.cons.injEq,G.i.injEq,and_true,true_and] at h;omega
theorem V3:∀ {l m:List Nat},l.map dg=m.map dg→l=m
 | [],[],_=>rfl
 | [],_ :: _,h=>by simp at h
 | _ :: _,[],h=>by simp at h
 | a :: l,b :: m,h=>by simp only [List.map_cons,List.cons.injEq] at h;exact congr (congrArg List.cons (e9r h.1)) (V3 h.2)
theorem F2 {a b:f4} {v:V} (h:RV (.c (.s a)) v) (k:RV (.c (.s b)) v):a=b:=by have:=h.c_inj k;injection this
theorem c06 {a b:Bool} {v:V} (h:RV (.c (.b a)) v) (k:RV (.c (.b b)) v):a=b:=by have:=h.c_inj k;injection this
theorem a1q {c:IntKind} {a b:Int} {v:V} (h:RV (.c (.i c a)) v) (k:RV (.c (.i c b)) v):a=b:=by have:=h.c_inj k;injection this
theorem a4j {c:Int}:P8 c=true↔48≤c∧c≤57:=by simp [P8]
theorem c16 {s:f4} {i:Nat} (h:i < s.length) (h1:¬((s.getD i 0).toNat:Int) < 48) (h2:¬57 < ((s.getD i 0).toNat:Int)):j8 s i=j8 s (i+1):=by
 rw [j8,if_pos h,if_pos (a4j.2 (by unfold bt;omega))]
theorem b5p {s:f4} {i:Nat} (h:i < s.length) (h1:((s.getD i 0).toNat:Int) < 48∨57 < ((s.getD i 0).toNat:Int)):j8 s i=i:=by
 rw [j8,if_pos h,if_neg (mt a4j.1 (by unfold bt;omega))]
theorem b65 {s:f4} {i:Nat} (h:¬i < s.length):j8 s i=i:=by
 rw [j8,if_neg h]
theorem c0x {s:f4} (h:0 < (s.length:Int)) (h2:((s.getD 0 0).toNat:Int)=45):g7 s=1:=by unfold g7;rw [if_pos ⟨oM,h2⟩]
theorem c98 {s:f4} (h2:¬((s.getD 0 0).toNat:Int)=45):g7 s=0:=by unfold g7;rw [if_neg (fun h=>h2 h.2)]
theorem e9q {s:f4} (h:¬0 < (s.length:Int)):g7 s=0:=by unfold g7;rw [if_neg (fun k=>by omega)]
theorem d15 {s:f4} {k:Nat} (h0:¬s=k7 1 48) (h1:g7 s=k) (h:s.length≤k):w9 s=false:=by
 have h0:¬s=u6:=h0
 simp [w9,h0,h1];omega
theorem d1q {s:f4} {k:Nat} (h0:¬s=k7 1 48) (h1:g7 s=k) (h:((s.getD k 0).toNat:Int)=48):w9 s=false:=by
 have h0:¬s=u6:=h0
 have h:bt s k=48:=h
 simp [w9,h0,h1,h]
theorem e08 {s:f4} {k:Nat} (h0:¬s=k7 1 48) (h1:g7 s=k) (h2:k < s.length) (h:¬((s.getD k 0).toNat:Int)=48):w9 s=decide (j8 s k=s.length):=by
 have h0:¬s=u6:=h0
 have h:¬bt s k=48:=h
 have:k < s.length:=oM
 simp [w9,h0,h1,h,this]
def sp1 (R:f4→n5):Sp where
 ι:={ s:f4 // s.length < 90000 }
 A s:=[.c (.s s.1)]
 B _:=[]
 R s:=R s.1
 B' _:=[]
 inj i j vs bs h k _ _:=by
  obtain ⟨_,_,h1,k1,h,k⟩:=h.two k
  rw [F2 h1 k1];exact ⟨rfl,rfl⟩
theorem e2x:j5 151 (sp1 fun s=>.ret (.c (.b (w9 s)))):=k8 (fun fn h=>e51 h) [] .nil fun U fn hfn ⟨s,hs⟩ vs bs hv hb=>by
 have hv:j6 [.c (.s s)] vs:=hv
 have hb:g9 [] bs:=hb
 show g8 U _ fun v bs'=>j7 (.ret (.c (.b (w9 s)))) v∧g9 [] bs'
 unfold d42
 (refine Zx ?_;with_reducible repeat' first|intro _|apply aI)
 all_goals try (exfalso;omega)
 ·exact i6 ⟨.ret _ _ (F1 (by subst_vars;rfl)),.nil⟩
 ·exact i6 ⟨.ret _ _ (F1 (d15 (k:=1) ‹_› (c0x ‹_› ‹_›) oM)),.nil⟩
 ·exact i6 ⟨.ret _ _ (F1 (d1q (k:=1) ‹_› (c0x ‹_› ‹_›) ‹_›)),.nil⟩
 ·have hd:=e08 (k:=1) ‹_› (c0x ‹_› ‹_›) oM ‹_›
  (refine D3 (fun (i:Nat) vs bs=>vs=[.str s.length (j9 s),.int .i64 i]∧bs=[]∧i≤s.length∧j8 s i=j8 s 1) (fun i=>s.length - i) 1 ⟨rfl,rfl,oM,rfl⟩ (by simp only [v8];omega) ?_;rintro self i vs bs ⟨rfl,rfl,hi,he⟩ ih;(refine Zx ?_;with_reducible repeat' first|intro _|apply aI);all_goals first | exact ih (i+1) _ _ ⟨rfl,rfl,oM,by rw [← he,c16 (i:=i) oM ‹_› ‹_›]⟩ oM | exact i6 ⟨.ret _ _ (F1 (by rw [hd,← he,b65 (i:=i) oM];exact decide_eq_true oM)),.nil⟩ | exact i6 ⟨.ret _ _ (F1 (by rw [hd,← he,b5p (i:=i) oM oM];exact decide_eq_false oM)),.nil⟩)
 ·exact i6 ⟨.ret _ _ (F1 (d1q (k:=0) ‹_› (c98 ‹_›) ‹_›)),.nil⟩
 ·have hd:=e08 (k:=0) ‹_› (c98 ‹_›) oM ‹_›
  (refine D3 (fun (i:Nat) vs bs=>vs=[.str s.length (j9 s),.int .i64 i]∧bs=[]∧i≤s.length∧j8 s i=j8 s 0) (fun i=>s.length - i) 0 ⟨rfl,rfl,oM,rfl⟩ (by simp only [v8];omega) ?_;rintro self i vs bs ⟨rfl,rfl,hi,he⟩ ih;(refine Zx ?_;with_reducible repeat' first|intro _|apply aI);all_goals first | exact ih (i+1) _ _ ⟨rfl,rfl,oM,by rw [← he,c16 (i:=i) oM ‹_› ‹_›]⟩ oM | exact i6 ⟨.ret _ _ (F1 (by rw [hd,← he,b65 (i:=i) oM];exact decide_eq_true oM)),.nil⟩ | exact i6 ⟨.ret _ _ (F1 (by rw [hd,← he,b5p (i:=i) oM oM];exact decide_eq_false oM)),.nil⟩)
 ·exact i6 ⟨.ret _ _ (F1 (d15 (k:=0) ‹_› (e9q ‹_›) oM)),.nil⟩
theorem d39 {s:f4} (h:w9 s=true) (h0:¬s=u6):∀ j,g7 s≤j→j < s.length→48≤bt s j∧bt s j≤57:=by
 intro j h1 h2
 simp [w9,h0] at h
 exact W7 s (g7 s) j h1 oM
theorem d5w:j5 124 (sp1 fun s=>.ret (.t [.c (.b (Y2 s).1),.sl 1 ((Y2 s).2.map dg)])):=k8 (fun fn h=>e4b h) [(151,_)] (.cons e2x .nil) fun U fn hfn ⟨s,hs⟩ vs bs hv hb=>by
 have hr:=hfn 151 _ rfl
 have hv:j6 [.c (.s s)] vs:=hv
 have hb:g9 [] bs:=hb
 show g8 U _ fun v bs'=>j7 (.ret (.t [.c (.b (Y2 s).1),.sl 1 ((Y2 s).2.map dg)])) v∧g9 [] bs'
 unfold d48
 (refine Zx ?_;intros)
 refine f5 hr ⟨s,hs⟩ (r:=.c (.b (w9 s))) rfl j4 .nil fun _ _ _ _=>?_
 (refine Zx ?_;with_reducible repeat' first|intro _|apply aI)
 ·have e:Y2 s=(false,[]):=by unfold Y2;rw [if_neg];exact fun h=>h.2 ‹s=k7 1 48›
  exact i6 ⟨.ret _ _ (by rw [e];(exact j4)),.nil⟩
 ·have h1:=‹w9 s=true›
  have h2:¬s=u6:=‹_›
  have hd:=d39 h1 h2
  have hpos:g7 s < s.length:=by simp [w9,h2] at h1;omega
  have e:Y2 s=(decide (g7 s=1),s9 s (g7 s) s.length []):=by unfold Y2;rw [if_pos ⟨h1,h2⟩]
  (refine Zx ?_;with_reducible repeat' first|intro _|apply aI)
  ·have es:=c0x (s:=s) oM ‹_›
   have h45:=‹((s.getD 0 0).toNat:Int)=45›
   rw [es] at hd e
   generalize hB:U.iEq _ _=B
   (refine D3 (fun (m:Nat) vs bs=>∃ (i:Int) (v:V) (acc:List Nat),vs=[.str s.length (j9 s),.bool B,.int .i64 1,.int .i64 i,v]∧bs=[.tok acc.length 1]∧a0m 0 1 (acc.map dg) v∧i=m - 1∧1≤m∧m≤s.length∧acc.length+m=s.length∧s9 s 1 m acc=s9 s 1 s.length []) (fun m=>m) s.length ⟨_,_,[],rfl,rfl,.b rfl,rfl,oM,oM,by simp,rfl⟩ (by simp only [v8];omega) ?_;rintro self m _ _ ⟨i,v,acc,rfl,rfl,ht,hi,hk,hm,ha,he⟩ ih;subst hi;(refine Zx ?_;with_reducible repeat' first|intro _|apply aI);(have h9:=hd (m - 1) oM oM;have hx:((s.getD ((m:Int) - 1).toNat 0).toNat:Int)=bt s (m - 1):=(by unfold bt;rw [show ((m:Int) - 1).toNat=m - 1 by omega]);refine d3s (m:=((bt s (m - 1) - 48).toNat:Int)) oM oM ?_;refine b0r (m:=((bt s (m - 1) - 48).toNat:Int)) rfl oM ?_;(refine Zx ?_;with_reducible repeat' first|intro _|apply aI);refine S3 aS (fun _=>E2 (by first | exact .i _ _ | exact .s _ _ _ rfl rfl | assumption)) (by rfl) (by simp) (by simp only [List.length_map];omega) fun _ _=>?_;(refine Zx ?_;with_reducible repeat' first|intro _|apply aI);refine ih (m - 1) _ _ ?_ oM;refine ⟨_,_,acc ++ [(bt s (m - 1) - 48).toNat],rfl,by simp,.a _ _ (by simp) (by rw [List.map_append];assumption),oM,oM,oM,by simp;omega,?_⟩;rw [← he];obtain ⟨m,rfl⟩:∃ n,m=n+1:=⟨m - 1,oM⟩;rw [s9,if_pos oM];rfl))
   have em:m=1:=oM
   subst em
   rw [show s9 s 1 1 acc=acc by simp [s9]] at he
   rw [e,← he]
   exact D8 fun eU=>by subst eU;exact ⟨.ret _ _ (.t _ _ (.k (K9 (by rw [← hB,a0c];exact (decide_eq_true (rfl:1=1)).trans (decide_eq_true h45).symm)) (.k (.sl _ _ _ _ _ (by simp) aS) .nil))),.nil⟩
  ·have h45:=‹¬((s.getD 0 0).toNat:Int)=45›
   have es:=c98 h45
   rw [es] at hd e
   generalize hB:U.iEq _ _=B
   (refine D3 (fun (m:Nat) vs bs=>∃ (i:Int) (v:V) (acc:List Nat),vs=[.str s.length (j9 s),.bool B,.int .i64 0,.int .i64 i,v]∧bs=[.tok acc.length 1]∧a0m 0 1 (acc.map dg) v∧i=m - 1∧0≤m∧m≤s.length∧acc.length+m=s.length∧s9 s 0 m acc=s9 s 0 s.length []) (fun m=>m) s.length ⟨_,_,[],rfl,rfl,.b rfl,rfl,oM,oM,by simp,rfl⟩ (by simp only [v8];omega) ?_;rintro self m _ _ ⟨i,v,acc,rfl,rfl,ht,hi,hk,hm,ha,he⟩ ih;subst hi;(refine Zx ?_;with_reducible repeat' first|intro _|apply aI);(have h9:=hd (m - 1) oM oM;have hx:((s.getD ((m:Int) - 1).toNat 0).toNat:Int)=bt s (m - 1):=(by unfold bt;rw [show ((m:Int) - 1).toNat=m - 1 by omega]);refine d3s (m:=((bt s (m - 1) - 48).toNat:Int)) oM oM ?_;refine b0r (m:=((bt s (m - 1) - 48).toNat:Int)) rfl oM ?_;(refine Zx ?_;with_reducible repeat' first|intro _|apply aI);refine S3 aS (fun _=>E2 (by first | exact .i _ _ | exact .s _ _ _ rfl rfl | assumption)) (by rfl) (by simp) (by simp only [List.length_map];omega) fun _ _=>?_;(refine Zx ?_;with_reducible repeat' first|intro _|apply aI);refine ih (m - 1) _ _ ?_ oM;refine ⟨_,_,acc ++ [(bt s (m - 1) - 48).toNat],rfl,by simp,.a _ _ (by simp) (by rw [List.map_append];assumption),oM,oM,oM,by simp;omega,?_⟩;rw [← he];obtain ⟨m,rfl⟩:∃ n,m=n+1:=⟨m - 1,oM⟩;rw [s9,if_pos oM];rfl))
   have em:m=0:=oM
   subst em
   rw [show s9 s 0 0 acc=acc by simp [s9]] at he
   rw [e,← he]
   exact D8 fun eU=>by subst eU;exact ⟨.ret _ _ (.t _ _ (.k (K9 (by rw [← hB,a0c];exact (decide_eq_false (by decide:¬0=1)).trans (decide_eq_false h45).symm)) (.k (.sl _ _ _ _ _ (by simp) aS) .nil))),.nil⟩
 ·have e:Y2 s=(false,[]):=by unfold Y2;rw [if_neg];exact fun h=>absurd h.1 ‹_›
  exact i6 ⟨.ret _ _ (by rw [e];(exact j4)),.nil⟩
section
variable {U:q8} {P:H6→List Bx→Prop}
theorem b0d {l:List Nat} {t:j0 Q} {off:Nat} {i:Int} (n:Nat) {K:Q→Om} (ht:m8 1 (l.map dg) t off) (hn:i=n) (hi:n < l.length) (h:∀ x,u1 (dg (l.getD n 0)) x 0→g8 U (K x) P):g8 U (U.fQ (U.tQ t (U.nAdd off (U.iNat i))) K) P:=by
 subst hn
 refine c8j (y:=l.getD n 0) ht ?_ h
 rw [Int.toNat_natCast,List.getElem?_eq_getElem hi]
 simp [List.getD,List.getElem?_eq_getElem hi]
end
def spL (R:List Nat→n5):Sp where
 ι:={ l:List Nat // l.length < 90000 }
 A l:=[.sl 1 (l.1.map dg)]
 B _:=[]
 R l:=R l.1
 B' _:=[]
 inj i j vs bs h k _ _:=by
  obtain ⟨_,_,h1,k1,h,k⟩:=h.two k
  rw [V3 (h1.sl_inj k1)];exact ⟨rfl,rfl⟩
theorem d01:j5 152 (spL fun l=>.ret (.sl 1 ((D4 l).map dg))):=k8 (fun fn h=>e24 h) [] .nil fun U fn hfn ⟨l,hs⟩ vs bs hv hb=>by
 have hv:j6 [.sl 1 (l.map dg)] vs:=hv
 have hb:g9 [] bs:=hb
 show g8 U _ fun v bs'=>j7 (.ret (.sl 1 ((D4 l).map dg))) v∧g9 [] bs'
 unfold d69
 (refine Zx ?_;intros)
 refine D3 (fun (m:Nat) vs bs=>∃ (t:j0 Q) (off:Nat),vs=[.slice t 1 off l.length .no,.int .i64 m]∧bs=[]∧m8 1 (l.map dg) t off∧m≤l.length∧R0 l m=R0 l l.length) (fun m=>m) l.length ⟨_,_,rfl,rfl,aS,oM,rfl⟩ (by simp only [v8];omega) ?_
 rintro self m _ _ ⟨t,off,rfl,rfl,ht,hm,he⟩ ih
 (refine Zx ?_;with_reducible repeat' first|intro _|apply aI)
 ·refine b0d (m - 1) aS oM oM fun _ _=>?_
  (refine Zx ?_;with_reducible repeat' first|intro _|apply aI)
  ·refine ih (m - 1) _ _ ⟨_,_,by rw [show ((m - 1:Nat):Int)=(m:Int) - 1 by omega],rfl,ht,oM,?_⟩ oM
   have h0:=‹((l.getD (m - 1) 0:Nat):Int)=0›
   obtain ⟨m,rfl⟩:∃ n,m=n+1:=⟨m - 1,oM⟩
   rw [← he,R0,if_pos (by simpa using h0)];rfl
  ·have h0:=‹¬((l.getD (m - 1) 0:Nat):Int)=0›
   have e:D4 l=l.take m:=by
    obtain ⟨m,rfl⟩:∃ n,m=n+1:=⟨m - 1,oM⟩
    unfold D4
    rw [← he,R0,if_neg (by simpa using h0)]
   rw [e,List.map_take]
   exact i6 ⟨.ret _ _ (.sl _ _ _ _ _ (by simp;omega) (ht.take m)),.nil⟩
 ·have em:m=0:=oM
  subst em
  have e:D4 l=l.take 0:=by unfold D4;rw [← he];rfl
  rw [e,List.map_take]
  exact i6 ⟨.ret _ _ (.sl _ _ _ _ _ (by simp) (ht.take 0)),.nil⟩
theorem b57 {l:List Nat} {i:Nat} (h:i < l.length):l[i]=l.getD i 0:=by simp [List.getD,List.getElem?_eq_getElem h]
theorem D9.at {l:List Nat} (h:D9 l) (i:Nat):l.getD i 0≤9:=by
 by_cases hi:i < l.length
 ·rw [← b57 hi];exact h _ (List.getElem_mem _)
 ·simp [List.getD,List.getElem?_eq_none (Nat.le_of_not_lt hi)]
def f11 (ok:List Nat→List Nat→Prop) (R:List Nat→List Nat→n5):Sp where
 ι:={ p:List Nat × List Nat // p.1.length < 90000∧p.2.length < 90000∧ok p.1 p.2 }
 A p:=[.sl 1 (p.1.1.map dg),.sl 1 (p.1.2.map dg)]
 B _:=[]
 R p:=R p.1.1 p.1.2
 B' _:=[]
 inj i j vs bs h k _ _:=by
  obtain ⟨_,_,h1,k1,h,k⟩:=h.two k
  obtain ⟨_,_,h2,k2,h,k⟩:=h.two k
  rw [V3 (h1.sl_inj k1),V3 (h2.sl_inj k2)];exact ⟨rfl,rfl⟩
theorem e86:j5 153 (f11 (fun _ _=>True) fun a b=>.ret (.c (.i .i64 (O6 a b)))):=k8 (fun fn h=>e3d h) [] .nil fun U fn hfn ⟨(a,b),ha,hbl,_⟩ vs bs hv hb=>by
 have ha:a.length < 90000:=ha
 have hbl:b.length < 90000:=hbl
 have hv:j6 [.sl 1 (a.map dg),.sl 1 (b.map dg)] vs:=hv
 have hb:g9 [] bs:=hb
 show g8 U _ fun v bs'=>j7 (.ret (.c (.i .i64 (O6 a b)))) v∧g9 [] bs'
 unfold d5y
 (refine Zx ?_;with_reducible repeat' first|intro _|apply aI)
 ·have hl:a.length=b.length:=oM
  have e:O6 a b=E3 a b a.length:=by unfold O6;rw [if_pos hl]
  rw [e]
  refine D3 (fun (m:Nat) vs bs=>∃ (t:j0 Q) (off:Nat) (t':j0 Q) (off':Nat) (i:Int),vs=[.slice t 1 off a.length .no,.slice t' 1 off' b.length .no,.int .i64 i]∧bs=[]∧i=m - 1∧m8 1 (a.map dg) t off∧m8 1 (b.map dg) t' off'∧m≤a.length∧E3 a b m=E3 a b a.length) (fun m=>m) a.length ⟨_,_,_,_,_,rfl,rfl,rfl,aS,aS,oM,rfl⟩ (by simp only [v8];omega) ?_
  rintro self m _ _ ⟨t,off,t',off',i,rfl,rfl,rfl,ht,ht',hm,he⟩ ih
  (refine Zx ?_;with_reducible repeat' first|intro _|apply aI)
  ·refine b0d (m - 1) aS oM oM fun _ _=>?_
   (refine Zx ?_;intros)
   refine b0d (m - 1) aS oM oM fun _ _=>?_
   (refine Zx ?_;with_reducible repeat' first|intro _|apply aI)
   ·obtain ⟨m,rfl⟩:∃ n,m=n+1:=⟨m - 1,oM⟩
    exact i6 ⟨.ret _ _ (rvI (by rw [← he,E3,if_pos (by simp only [Nat.add_sub_cancel] at *;omega)])),.nil⟩
   ·refine b0d (m - 1) aS oM oM fun _ _=>?_
    (refine Zx ?_;intros)
    refine b0d (m - 1) aS oM oM fun _ _=>?_
    (refine Zx ?_;with_reducible repeat' first|intro _|apply aI)
    ·obtain ⟨m,rfl⟩:∃ n,m=n+1:=⟨m - 1,oM⟩
     exact i6 ⟨.ret _ _ (rvI (by rw [← he,E3,if_neg (by simp only [Nat.add_sub_cancel] at *;omega),if_pos (by simp only [Nat.add_sub_cancel] at *;omega)])),.nil⟩
    ·refine ih (m - 1) _ _ ?_ oM
     obtain ⟨m,rfl⟩:∃ n,m=n+1:=⟨m - 1,oM⟩
     exact ⟨_,_,_,_,_,rfl,rfl,oM,ht,ht',oM,by rw [← he,Nat.add_sub_cancel];conv=>rhs;rw [E3,if_neg (by simp only [Nat.add_sub_cancel] at *;omega),if_neg (by simp only [Nat.add_sub_cancel] at *;omega)]⟩
  ·have em:m=0:=oM
   subst em
   exact i6 ⟨.ret _ _ (rvI (by rw [← he];rfl)),.nil⟩
 ·exact i6 ⟨.ret _ _ (rvI (by unfold O6;rw [if_neg oM,if_pos oM])),.nil⟩
 ·exact i6 ⟨.ret _ _ (rvI (by unfold O6;rw [if_neg oM,if_neg oM])),.nil⟩
end
end Go.Proofs.YtffaodopiifbkaaGreatDoor
