/- The reference's numbers: decimal strings. -/
import Derived.Test.YtffaodopiifbkaaGreatDoorCL0
import Derived.Test.YtffaodopiifbkaaGreatDoorCP
set_option linter.all false
namespace Go.Proofs.YtffaodopiifbkaaGreatDoor
open Go.Abs LQ
set_option maxRecDepth 100000
set_option maxHeartbeats 4000000
noncomputable section
def dg (d:Nat):List G:=[.i .i64 (d:Int)]
theorem f6e {a b:Nat} (h:dg a=dg b):a=b:=by simp only [dg,List.cons.injEq,G.i.injEq,and_true,true_and] at h;omega
theorem a0s:∀ {l m:List Nat},l.map dg=m.map dg→l=m
 | [],[],_=>rfl
 | [],_ :: _,h=>by simp at h
 | _ :: _,[],h=>by simp at h
 | a :: l,b :: m,h=>by simp only [List.map_cons,List.cons.injEq] at h;exact congr (congrArg List.cons (f6e h.1)) (a0s h.2)
theorem I7 {a b:i6} {v:V} (h:RV (.c (.s a)) v) (k:RV (.c (.s b)) v):a=b:=by have:=h.c_inj k;injection this
theorem c4a {a b:Bool} {v:V} (h:RV (.c (.b a)) v) (k:RV (.c (.b b)) v):a=b:=by have:=h.c_inj k;injection this
theorem a4h {c:IntKind} {a b:Int} {v:V} (h:RV (.c (.i c a)) v) (k:RV (.c (.i c b)) v):a=b:=by have:=h.c_inj k;injection this
theorem d05 {c:Int}:a0x c=true↔48≤c∧c≤57:=by simp [a0x]
theorem c57 {s:i6} {i:Nat} (h:i < s.length) (h1:¬((s.getD i 0).toNat:Int) < 48) (h2:¬57 < ((s.getD i 0).toNat:Int)):s9 s i=s9 s (i+1):=by
 rw [s9,if_pos h,if_pos (d05.2 (by unfold bt;omega))]
theorem b7v {s:i6} {i:Nat} (h:i < s.length) (h1:((s.getD i 0).toNat:Int) < 48∨57 < ((s.getD i 0).toNat:Int)):s9 s i=i:=by
 rw [s9,if_pos h,if_neg (mt d05.1 (by unfold bt;omega))]
theorem b9y {s:i6} {i:Nat} (h:¬i < s.length):s9 s i=i:=by
 rw [s9,if_neg h]
theorem c4e {s:i6} (h:0 < (s.length:Int)) (h2:((s.getD 0 0).toNat:Int)=45):j7 s=1:=by unfold j7;rw [if_pos ⟨oM,h2⟩]
theorem d28 {s:i6} (h2:¬((s.getD 0 0).toNat:Int)=45):j7 s=0:=by unfold j7;rw [if_neg (fun h=>h2 h.2)]
theorem f6y {s:i6} (h:¬0 < (s.length:Int)):j7 s=0:=by unfold j7;rw [if_neg (fun k=>by omega)]
theorem d8a {s:i6} {k:Nat} (h0:¬s=n5 1 48) (h1:j7 s=k) (h:s.length≤k):B8 s=false:=by
 have h0:¬s=A9:=h0
 simp [B8,h0,h1];omega
theorem d8l {s:i6} {k:Nat} (h0:¬s=n5 1 48) (h1:j7 s=k) (h:((s.getD k 0).toNat:Int)=48):B8 s=false:=by
 have h0:¬s=A9:=h0
 have h:bt s k=48:=h
 simp [B8,h0,h1,h]
theorem e4x {s:i6} {k:Nat} (h0:¬s=n5 1 48) (h1:j7 s=k) (h2:k < s.length) (h:¬((s.getD k 0).toNat:Int)=48):B8 s=decide (s9 s k=s.length):=by
 have h0:¬s=A9:=h0
 have h:¬bt s k=48:=h
 have:k < s.length:=oM
 simp [B8,h0,h1,h,this]
def sp1 (R:i6→s8):Sp where
 ι:={ s:i6 // s.length < 90000 }
 A s:=[.c (.s s.1)]
 B _:=[]
 R s:=R s.1
 B' _:=[]
 inj i j vs bs h k _ _:=by
  obtain ⟨_,_,h1,k1,h,k⟩:=h.two k
  rw [I7 h1 k1];exact ⟨rfl,rfl⟩
theorem e78:l5 151 (sp1 fun s=>.ret (.c (.b (B8 s)))):=n6 (fun fn h=>e6v h) [] .nil fun U fn hfn ⟨s,hs⟩ vs bs hv hb=>by
 have hv:l8 [.c (.s s)] vs:=hv
 have hb:j5 [] bs:=hb
 show j6 U _ fun v bs'=>l9 (.ret (.c (.b (B8 s)))) v∧j5 [] bs'
 unfold e04
 (refine Zx ?_;with_reducible repeat' first|intro _|apply aI)
 all_goals try (exfalso;omega)
 ·exact k9 ⟨.ret _ _ (M5 (by subst_vars;rfl)),.nil⟩
 ·exact k9 ⟨.ret _ _ (M5 (d8a (k:=1) ‹_› (c4e ‹_› ‹_›) oM)),.nil⟩
 ·exact k9 ⟨.ret _ _ (M5 (d8l (k:=1) ‹_› (c4e ‹_› ‹_›) ‹_›)),.nil⟩
 ·have hd:=e4x (k:=1) ‹_› (c4e ‹_› ‹_›) oM ‹_›
  (refine H0 (fun (i:Nat) vs bs=>vs=[.str s.length (p9 s),.int .i64 i]∧bs=[]∧i≤s.length∧s9 s i=s9 s 1) (fun i=>s.length - i) 1 ⟨rfl,rfl,oM,rfl⟩ (by simp only [C2];omega) ?_;rintro self i vs bs ⟨rfl,rfl,hi,he⟩ ih;(refine Zx ?_;with_reducible repeat' first|intro _|apply aI);all_goals first | exact ih (i+1) _ _ ⟨rfl,rfl,oM,by rw [← he,c57 (i:=i) oM ‹_› ‹_›]⟩ oM | exact k9 ⟨.ret _ _ (M5 (by rw [hd,← he,b9y (i:=i) oM];exact decide_eq_true oM)),.nil⟩ | exact k9 ⟨.ret _ _ (M5 (by rw [hd,← he,b7v (i:=i) oM oM];exact decide_eq_false oM)),.nil⟩)
 ·exact k9 ⟨.ret _ _ (M5 (d8l (k:=0) ‹_› (d28 ‹_›) ‹_›)),.nil⟩
 ·have hd:=e4x (k:=0) ‹_› (d28 ‹_›) oM ‹_›
  (refine H0 (fun (i:Nat) vs bs=>vs=[.str s.length (p9 s),.int .i64 i]∧bs=[]∧i≤s.length∧s9 s i=s9 s 0) (fun i=>s.length - i) 0 ⟨rfl,rfl,oM,rfl⟩ (by simp only [C2];omega) ?_;rintro self i vs bs ⟨rfl,rfl,hi,he⟩ ih;(refine Zx ?_;with_reducible repeat' first|intro _|apply aI);all_goals first | exact ih (i+1) _ _ ⟨rfl,rfl,oM,by rw [← he,c57 (i:=i) oM ‹_› ‹_›]⟩ oM | exact k9 ⟨.ret _ _ (M5 (by rw [hd,← he,b9y (i:=i) oM];exact decide_eq_true oM)),.nil⟩ | exact k9 ⟨.ret _ _ (M5 (by rw [hd,← he,b7v (i:=i) oM oM];exact decide_eq_false oM)),.nil⟩)
 ·exact k9 ⟨.ret _ _ (M5 (d8a (k:=0) ‹_› (f6y ‹_›) oM)),.nil⟩
theorem d8c {s:i6} (h:B8 s=true) (h0:¬s=A9):∀ j,j7 s≤j→j < s.length→48≤bt s j∧bt s j≤57:=by
 intro j h1 h2
 simp [B8,h0] at h
 exact a0y s (j7 s) j h1 oM
theorem e2q:l5 124 (sp1 fun s=>.ret (.t [.c (.b (a1e s).1),.sl 1 ((a1e s).2.map dg)])):=n6 (fun fn h=>e7o h) [(151,_)] (.cons e78 .nil) fun U fn hfn ⟨s,hs⟩ vs bs hv hb=>by
 have hr:=hfn 151 _ rfl
 have hv:l8 [.c (.s s)] vs:=hv
 have hb:j5 [] bs:=hb
 show j6 U _ fun v bs'=>l9 (.ret (.t [.c (.b (a1e s).1),.sl 1 ((a1e s).2.map dg)])) v∧j5 [] bs'
 unfold e3g
 (refine Zx ?_;intros)
 refine j3 hr ⟨s,hs⟩ (r:=.c (.b (B8 s))) rfl l6 .nil fun _ _ _ _=>?_
 (refine Zx ?_;with_reducible repeat' first|intro _|apply aI)
 ·have e:a1e s=(false,[]):=by unfold a1e;rw [if_neg];exact fun h=>h.2 ‹s=n5 1 48›
  exact k9 ⟨.ret _ _ (by rw [e];(exact l6)),.nil⟩
 ·have h1:=‹B8 s=true›
  have h2:¬s=A9:=‹_›
  have hd:=d8c h1 h2
  have hpos:j7 s < s.length:=by simp [B8,h2] at h1;omega
  have e:a1e s=(decide (j7 s=1),y9 s (j7 s) s.length []):=by unfold a1e;rw [if_pos ⟨h1,h2⟩]
  (refine Zx ?_;with_reducible repeat' first|intro _|apply aI)
  ·have es:=c4e (s:=s) oM ‹_›
   have h45:=‹((s.getD 0 0).toNat:Int)=45›
   rw [es] at hd e
   generalize hB:U.iEq _ _=B
   (refine H0 (fun (m:Nat) vs bs=>∃ (i:Int) (v:V) (acc:List Nat),vs=[.str s.length (p9 s),.bool B,.int .i64 1,.int .i64 i,v]∧bs=[.tok acc.length 1]∧a1c 0 1 (acc.map dg) v∧i=m - 1∧1≤m∧m≤s.length∧acc.length+m=s.length∧y9 s 1 m acc=y9 s 1 s.length []) (fun m=>m) s.length ⟨_,_,[],rfl,rfl,.b rfl,rfl,oM,oM,by simp,rfl⟩ (by simp only [C2];omega) ?_;rintro self m _ _ ⟨i,v,acc,rfl,rfl,ht,hi,hk,hm,ha,he⟩ ih;subst hi;(refine Zx ?_;with_reducible repeat' first|intro _|apply aI);(have h9:=hd (m - 1) oM oM;have hx:((s.getD ((m:Int) - 1).toNat 0).toNat:Int)=bt s (m - 1):=(by unfold bt;rw [show ((m:Int) - 1).toNat=m - 1 by omega]);refine d7m (m:=((bt s (m - 1) - 48).toNat:Int)) oM oM ?_;refine b2n (m:=((bt s (m - 1) - 48).toNat:Int)) rfl oM ?_;(refine Zx ?_;with_reducible repeat' first|intro _|apply aI);refine a12 aS (fun _=>L8 (by first | exact .i _ _ | exact .s _ _ _ rfl rfl | assumption)) (by rfl) (by simp) (by simp only [List.length_map];omega) fun _ _=>?_;(refine Zx ?_;with_reducible repeat' first|intro _|apply aI);refine ih (m - 1) _ _ ?_ oM;refine ⟨_,_,acc ++ [(bt s (m - 1) - 48).toNat],rfl,by simp,.a _ _ (by simp) (by rw [List.map_append];assumption),oM,oM,oM,by simp;omega,?_⟩;rw [← he];obtain ⟨m,rfl⟩:∃ n,m=n+1:=⟨m - 1,oM⟩;rw [y9,if_pos oM];rfl))
   have em:m=1:=oM
   subst em
   rw [show y9 s 1 1 acc=acc by simp [y9]] at he
   rw [e,← he]
   exact L7 fun eU=>by subst eU;exact ⟨.ret _ _ (.t _ _ (.k (V9 (by rw [← hB,b3m];exact (decide_eq_true (rfl:1=1)).trans (decide_eq_true h45).symm)) (.k (.sl _ _ _ _ _ (by simp) aS) .nil))),.nil⟩
  ·have h45:=‹¬((s.getD 0 0).toNat:Int)=45›
   have es:=d28 h45
   rw [es] at hd e
   generalize hB:U.iEq _ _=B
   (refine H0 (fun (m:Nat) vs bs=>∃ (i:Int) (v:V) (acc:List Nat),vs=[.str s.length (p9 s),.bool B,.int .i64 0,.int .i64 i,v]∧bs=[.tok acc.length 1]∧a1c 0 1 (acc.map dg) v∧i=m - 1∧0≤m∧m≤s.length∧acc.length+m=s.length∧y9 s 0 m acc=y9 s 0 s.length []) (fun m=>m) s.length ⟨_,_,[],rfl,rfl,.b rfl,rfl,oM,oM,by simp,rfl⟩ (by simp only [C2];omega) ?_;rintro self m _ _ ⟨i,v,acc,rfl,rfl,ht,hi,hk,hm,ha,he⟩ ih;subst hi;(refine Zx ?_;with_reducible repeat' first|intro _|apply aI);(have h9:=hd (m - 1) oM oM;have hx:((s.getD ((m:Int) - 1).toNat 0).toNat:Int)=bt s (m - 1):=(by unfold bt;rw [show ((m:Int) - 1).toNat=m - 1 by omega]);refine d7m (m:=((bt s (m - 1) - 48).toNat:Int)) oM oM ?_;refine b2n (m:=((bt s (m - 1) - 48).toNat:Int)) rfl oM ?_;(refine Zx ?_;with_reducible repeat' first|intro _|apply aI);refine a12 aS (fun _=>L8 (by first | exact .i _ _ | exact .s _ _ _ rfl rfl | assumption)) (by rfl) (by simp) (by simp only [List.length_map];omega) fun _ _=>?_;(refine Zx ?_;with_reducible repeat' first|intro _|apply aI);refine ih (m - 1) _ _ ?_ oM;refine ⟨_,_,acc ++ [(bt s (m - 1) - 48).toNat],rfl,by simp,.a _ _ (by simp) (by rw [List.map_append];assumption),oM,oM,oM,by simp;omega,?_⟩;rw [← he];obtain ⟨m,rfl⟩:∃ n,m=n+1:=⟨m - 1,oM⟩;rw [y9,if_pos oM];rfl))
   have em:m=0:=oM
   subst em
   rw [show y9 s 0 0 acc=acc by simp [y9]] at he
   rw [e,← he]
   exact L7 fun eU=>by subst eU;exact ⟨.ret _ _ (.t _ _ (.k (V9 (by rw [← hB,b3m];exact (decide_eq_false (by decide:¬0=1)).trans (decide_eq_false h45).symm)) (.k (.sl _ _ _ _ _ (by simp) aS) .nil))),.nil⟩
 ·have e:a1e s=(false,[]):=by unfold a1e;rw [if_neg];exact fun h=>absurd h.1 ‹_›
  exact k9 ⟨.ret _ _ (by rw [e];(exact l6)),.nil⟩
section
variable {U:x5} {P:L3→List Bx→Prop}
theorem b2e {l:List Nat} {t:j9 Q} {off:Nat} {i:Int} (n:Nat) {K:Q→Om} (ht:r7 1 (l.map dg) t off) (hn:i=n) (hi:n < l.length) (h:∀ x,A8 (dg (l.getD n 0)) x 0→j6 U (K x) P):j6 U (U.fQ (U.tQ t (U.nAdd off (U.iNat i))) K) P:=by
 subst hn
 refine b93 (y:=l.getD n 0) ht ?_ h
 rw [Int.toNat_natCast,List.getElem?_eq_getElem hi]
 simp [List.getD,List.getElem?_eq_getElem hi]
end
def spL (R:List Nat→s8):Sp where
 ι:={ l:List Nat // l.length < 90000 }
 A l:=[.sl 1 (l.1.map dg)]
 B _:=[]
 R l:=R l.1
 B' _:=[]
 inj i j vs bs h k _ _:=by
  obtain ⟨_,_,h1,k1,h,k⟩:=h.two k
  rw [a0s (h1.sl_inj k1)];exact ⟨rfl,rfl⟩
theorem d38:l5 152 (spL fun l=>.ret (.sl 1 ((G0 l).map dg))):=n6 (fun fn h=>f0h h) [] .nil fun U fn hfn ⟨l,hs⟩ vs bs hv hb=>by
 have hv:l8 [.sl 1 (l.map dg)] vs:=hv
 have hb:j5 [] bs:=hb
 show j6 U _ fun v bs'=>l9 (.ret (.sl 1 ((G0 l).map dg))) v∧j5 [] bs'
 unfold e24
 (refine Zx ?_;intros)
 refine H0 (fun (m:Nat) vs bs=>∃ (t:j9 Q) (off:Nat),vs=[.slice t 1 off l.length .no,.int .i64 m]∧bs=[]∧r7 1 (l.map dg) t off∧m≤l.length∧U5 l m=U5 l l.length) (fun m=>m) l.length ⟨_,_,rfl,rfl,aS,oM,rfl⟩ (by simp only [C2];omega) ?_
 rintro self m _ _ ⟨t,off,rfl,rfl,ht,hm,he⟩ ih
 (refine Zx ?_;with_reducible repeat' first|intro _|apply aI)
 ·refine b2e (m - 1) aS oM oM fun _ _=>?_
  (refine Zx ?_;with_reducible repeat' first|intro _|apply aI)
  ·refine ih (m - 1) _ _ ⟨_,_,by rw [show ((m - 1:Nat):Int)=(m:Int) - 1 by omega],rfl,ht,oM,?_⟩ oM
   have h0:=‹((l.getD (m - 1) 0:Nat):Int)=0›
   obtain ⟨m,rfl⟩:∃ n,m=n+1:=⟨m - 1,oM⟩
   rw [← he,U5,if_pos (by simpa using h0)];rfl
  ·have h0:=‹¬((l.getD (m - 1) 0:Nat):Int)=0›
   have e:G0 l=l.take m:=by
    obtain ⟨m,rfl⟩:∃ n,m=n+1:=⟨m - 1,oM⟩
    unfold G0
    rw [← he,U5,if_neg (by simpa using h0)]
   rw [e,List.map_take]
   exact k9 ⟨.ret _ _ (.sl _ _ _ _ _ (by simp;omega) (ht.take m)),.nil⟩
 ·have em:m=0:=oM
  subst em
  have e:G0 l=l.take 0:=by unfold G0;rw [← he];rfl
  rw [e,List.map_take]
  exact k9 ⟨.ret _ _ (.sl _ _ _ _ _ (by simp) (ht.take 0)),.nil⟩
theorem b9l {l:List Nat} {i:Nat} (h:i < l.length):l[i]=l.getD i 0:=by simp [List.getD,List.getElem?_eq_getElem h]
theorem D9.at {l:List Nat} (h:D9 l) (i:Nat):l.getD i 0≤9:=by
 by_cases hi:i < l.length
 ·rw [← b9l hi];exact h _ (List.getElem_mem _)
 ·simp [List.getD,List.getElem?_eq_none (Nat.le_of_not_lt hi)]
def f3h (ok:List Nat→List Nat→Prop) (R:List Nat→List Nat→s8):Sp where
 ι:={ p:List Nat × List Nat // p.1.length < 90000∧p.2.length < 90000∧ok p.1 p.2 }
 A p:=[.sl 1 (p.1.1.map dg),.sl 1 (p.1.2.map dg)]
 B _:=[]
 R p:=R p.1.1 p.1.2
 B' _:=[]
 inj i j vs bs h k _ _:=by
  obtain ⟨_,_,h1,k1,h,k⟩:=h.two k
  obtain ⟨_,_,h2,k2,h,k⟩:=h.two k
  rw [a0s (h1.sl_inj k1),a0s (h2.sl_inj k2)];exact ⟨rfl,rfl⟩
theorem f3v:l5 153 (f3h (fun _ _=>True) fun a b=>.ret (.c (.i .i64 (S5 a b)))):=n6 (fun fn h=>e9c h) [] .nil fun U fn hfn ⟨(a,b),ha,hbl,_⟩ vs bs hv hb=>by
 have ha:a.length < 90000:=ha
 have hbl:b.length < 90000:=hbl
 have hv:l8 [.sl 1 (a.map dg),.sl 1 (b.map dg)] vs:=hv
 have hb:j5 [] bs:=hb
 show j6 U _ fun v bs'=>l9 (.ret (.c (.i .i64 (S5 a b)))) v∧j5 [] bs'
 unfold e4d
 (refine Zx ?_;with_reducible repeat' first|intro _|apply aI)
 ·have hl:a.length=b.length:=oM
  have e:S5 a b=H4 a b a.length:=by unfold S5;rw [if_pos hl]
  rw [e]
  refine H0 (fun (m:Nat) vs bs=>∃ (t:j9 Q) (off:Nat) (t':j9 Q) (off':Nat) (i:Int),vs=[.slice t 1 off a.length .no,.slice t' 1 off' b.length .no,.int .i64 i]∧bs=[]∧i=m - 1∧r7 1 (a.map dg) t off∧r7 1 (b.map dg) t' off'∧m≤a.length∧H4 a b m=H4 a b a.length) (fun m=>m) a.length ⟨_,_,_,_,_,rfl,rfl,rfl,aS,aS,oM,rfl⟩ (by simp only [C2];omega) ?_
  rintro self m _ _ ⟨t,off,t',off',i,rfl,rfl,rfl,ht,ht',hm,he⟩ ih
  (refine Zx ?_;with_reducible repeat' first|intro _|apply aI)
  ·refine b2e (m - 1) aS oM oM fun _ _=>?_
   (refine Zx ?_;intros)
   refine b2e (m - 1) aS oM oM fun _ _=>?_
   (refine Zx ?_;with_reducible repeat' first|intro _|apply aI)
   ·obtain ⟨m,rfl⟩:∃ n,m=n+1:=⟨m - 1,oM⟩
    exact k9 ⟨.ret _ _ (rvI (by rw [← he,H4,if_pos (by simp only [Nat.add_sub_cancel] at *;omega)])),.nil⟩
   ·refine b2e (m - 1) aS oM oM fun _ _=>?_
    (refine Zx ?_;intros)
    refine b2e (m - 1) aS oM oM fun _ _=>?_
    (refine Zx ?_;with_reducible repeat' first|intro _|apply aI)
    ·obtain ⟨m,rfl⟩:∃ n,m=n+1:=⟨m - 1,oM⟩
     exact k9 ⟨.ret _ _ (rvI (by rw [← he,H4,if_neg (by simp only [Nat.add_sub_cancel] at *;omega),if_pos (by simp only [Nat.add_sub_cancel] at *;omega)])),.nil⟩
    ·refine ih (m - 1) _ _ ?_ oM
     obtain ⟨m,rfl⟩:∃ n,m=n+1:=⟨m - 1,oM⟩
     exact ⟨_,_,_,_,_,rfl,rfl,oM,ht,ht',oM,by rw [← he,Nat.add_sub_cancel];conv=>rhs;rw [H4,if_neg (by simp only [Nat.add_sub_cancel] at *;omega),if_neg (by simp only [Nat.add_sub_cancel] at *;omega)]⟩
  ·have em:m=0:=oM
   subst em
   exact k9 ⟨.ret _ _ (rvI (by rw [← he];rfl)),.nil⟩
 ·exact k9 ⟨.ret _ _ (rvI (by unfold S5;rw [if_neg oM,if_pos oM])),.nil⟩
 ·exact k9 ⟨.ret _ _ (rvI (by unfold S5;rw [if_neg oM,if_neg oM])),.nil⟩
end
end Go.Proofs.YtffaodopiifbkaaGreatDoor
