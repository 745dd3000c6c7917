/- The reference's reader: all objects of a text; the only one. -/
import Derived.Test.YtffaodopiifbkaaGreatDoorCJ3
import Derived.Test.YtffaodopiifbkaaGreatDoorCJ0
set_option linter.all false
namespace Go.Proofs.YtffaodopiifbkaaGreatDoor
open Go.Abs LQ
set_option maxRecDepth 100000
set_option maxHeartbeats 16000000
noncomputable section
theorem c33 {s:j0}:∀ (m:Nat) {i:Nat} {acc:List y3} {e:Int} {p:Nat},s.length - i≤m→i≤s.length→D7 s i acc=.error (e,p)→e ≠ 0:=by
 have one:∀ {j:Nat} {e:Int} {p:Nat},B3 s j=.error (e,p)→e ≠ 0:=fun {j e p} h=>by
  rw [b6m] at h
  unfold exT at h
  split at h
  ·cases h
  ·injection h with h;injection h with h _;rw [← h];assumption
 intro m
 induction m with
 | zero =>
  intro i acc e p hm hi h
  rw [Y5 hi] at h
  split at h
  ·injection h with h;injection h with h _;omega
  ·rename_i j hs
   have hj:=R5 hi hs
   rw [if_neg oM] at h
   cases h
 | succ m ih =>
  intro i acc e p hm hi h
  rw [Y5 hi] at h
  split at h
  ·injection h with h;injection h with h _;omega
  ·rename_i j hs
   have hj:=R5 hi hs
   split at h
   ·split at h
    ·rename_i ht
     injection h with h
     rw [h] at ht
     exact one ht
    ·rename_i hlt _ t k ht
     have h1:=X5 hlt ht
     exact ih oM h1.2 h
   ·cases h
theorem b6k {s:j0} {e:Int} {p:Nat} (h:A7 s=.error (e,p)):e ≠ 0:=by
 unfold A7 at h
 split at h
 ·injection h with h;injection h with h _;omega
 ·exact c33 _ (Nat.le_refl _) (Nat.zero_le _) h
theorem c2l {L:List Pk} {cur:j0} {T:List y3} (hT:a5u T):∀ (m i:Nat) (acc:List (O × Nat)) {e:Int} {p:Nat},i < T.length→T.length+1≤m+i→D8 L cur T m i acc=.error (e,p)→e ≠ 0
 | 0,i,acc,e,p,hi,hm,h=>oM
 | m+1,i,acc,e,p,hi,hm,h=>by
  rw [D8] at h
  rw [show N7 L cur T (2 * T.length+2) 0 i=v7 L cur T 0 i from rfl] at h
  split at h
  ·cases h
  split at h
  ·injection h with h;injection h with h _;omega
  split at h
  ·rename_i hx
   injection h with h
   rw [h] at hx
   exact (a5f hT _).1 0 i e p (Nat.lt_succ_self _) hi hx
  ·rename_i x j hx
   have hj:=Y0 hT hx
   split at h
   ·injection h with h;injection h with h _;omega
   ·exact c2l hT m j _ hj.2 oM h
theorem d3f {L:List Pk} {cur s:j0} {e:Int} {p:Nat} (h:y7 L cur s=.error (e,p)):e ≠ 0:=by
 unfold y7 at h
 split at h
 ·rename_i hx
  injection h with h
  rw [h] at hx
  exact b6k hx
 ·rename_i T hx
  have hT:=a6n hx
  exact c2l hT _ _ _ hT.pos oM h
theorem b3v {L:List Pk} {cur:j0} {T:List y3}:∀ (m i:Nat) (acc l:List (O × Nat)),D8 L cur T m i acc=.ok l→∃ r,l=acc ++ r
 | 0,i,acc,l,h=>by rw [D8] at h;cases h
 | m+1,i,acc,l,h=>by
  rw [D8] at h
  split at h
  ·injection h with h;exact ⟨[],by rw [h,List.append_nil]⟩
  split at h
  ·cases h
  split at h
  ·cases h
  split at h
  ·cases h
  ·obtain ⟨r,e⟩:=b3v m _ _ _ h
   exact ⟨_,by rw [e,List.append_assoc]⟩
theorem d02 {L:List Pk} {cur s:j0} {a b:O × Nat} {l:List (O × Nat)} (h:y7 L cur s=.ok (a :: b :: l)):∃ T j,A7 s=.ok T∧v7 L cur T 0 0=.ok (a.1,j)∧(T.getD j t0).pos=b.2:=by
 unfold y7 at h
 split at h
 ·cases h
 ·rename_i T hx
  refine ⟨T,?_⟩
  rw [D8] at h
  rw [show N7 L cur T (2 * T.length+2) 0 0=v7 L cur T 0 0 from rfl] at h
  split at h
  ·cases h
  split at h
  ·cases h
  split at h
  ·cases h
  rename_i x j ho
  split at h
  ·cases h
  obtain ⟨r,e⟩:=b3v _ _ _ _ h
  simp only [List.nil_append,List.cons_append,List.cons.injEq] at e
  obtain ⟨rfl,e2⟩:=e
  refine ⟨j,hx,ho,?_⟩
  cases hl:T.length with
  | zero=>rw [hl,D8] at h;cases h
  | succ n =>
   rw [hl,D8] at h
   split at h
   ·injection h with h;simp at h
   split at h
   ·cases h
   split at h
   ·cases h
   split at h
   ·cases h
   obtain ⟨r,e⟩:=b3v _ _ _ _ h
   simp only [List.nil_append,List.cons_append,List.cons.injEq] at e
   rw [e.2.1]
theorem b5m:l6 27 (a63 fun L cur s=>rdT (y7 L cur s)):=o7 (fun fn h=>e7m h) [(53,_),(54,_),(24,_),(40,_)] (.cons a4h (.cons d86 (.cons c31 (.cons e4e .nil)))) fun U fn hfn ⟨(L,cur,s),hL,hs⟩ vs bs hv hb=>by
 have hbd:=hfn 53 _ rfl
 have ho:=hfn 54 _ rfl
 have htk:=hfn 24 _ rfl
 have hno:=hfn 40 _ rfl
 have hL:L9 L:=hL
 have hs:s.length < 8000:=hs
 have hv:l8 [.sl 2 (L.map pg),.c (.s cur),.c (.s s)] vs:=hv
 have hb:RBs [] bs:=hb
 show j3 U _ fun v bs'=>l7 (rdT (y7 L cur s)) v∧RBs [] bs'
 unfold r27
 have err:∀ {e:Int} {p:Nat} {x:Q},y7 L cur s=.error (e,p)→x4 [.i .i64 e,.i .i64 (p:Int)] x 0→j3 U (some (.ret (.tuple [.slice .nil 0 0 0 .no,.a x 2]),[])) fun v bs'=>l7 (rdT (y7 L cur s)) v∧RBs [] bs':=fun {e p x} h hx=>by
  rw [h]
  exact k9 ⟨.ret _ _ (.t _ _ (.k (.sl0 _ _ _) (.k (.a _ _ _ rfl hx) .nil))),.nil⟩
 (refine Zq ?_;with_reducible repeat' first|intro _|apply aI)
 cases ht:A7 s with
 | error er =>
  obtain ⟨er,p⟩:=er
  have h0:=b6k ht
  have e1:y7 L cur s=.error (er,p):=by unfold y7;rw [ht]
  refine i6 htk ⟨s,hs⟩ (r:=.t [.sl 5 ([].map p9),.a [.i .i64 er,.i .i64 (p:Int)]]) (by show b1y (A7 s)=_;rw [ht];rfl) j7 .nil fun _ _ _ _=>?_
  (refine Zq ?_;with_reducible repeat' first|intro _|apply aI)
  ·exact absurd ‹er=0› h0
  ·exact err e1 aS
 | ok T =>
  have hT:=a6n ht
  have hTl:=hT.len
  have e1:y7 L cur s=D8 L cur T (T.length+1) 0 []:=by unfold y7;rw [ht]
  refine i6 htk ⟨s,hs⟩ (r:=.t [.sl 5 (T.map p9),.a [.i .i64 0,.i .i64 0]]) (by show b1y (A7 s)=_;rw [ht];rfl) j7 .nil fun _ _ _ _=>?_
  (refine Zq ?_;with_reducible repeat' first|intro _|apply aI)
  ·refine C7 (fun (i:Nat) vs bs=>∃ (m:Nat) (acc:List (O × Nat)) (v1:V) (b0 b1:Bx),vs=[.ptr 0 0,.ptr 1 0,v1]∧bs=[b0,b1,.tok acc.length 7]∧RB [.i .i64 0,.i .i64 0] b0∧RB (A5 L cur T i) b1∧V4 2 7 (acc.map G6) v1∧i < T.length∧T.length+1≤m+i∧acc.length≤100∧y7 L cur s=D8 L cur T m i acc) (fun i=>T.length - i) 0
    ⟨_,[],_,_,_,by rfl,rfl,.cells _ _ (.k (.i _ _) (.k (.i _ _) .nil)),pzC aS aS rfl,.b rfl,hT.pos,Nat.le_refl _,dE,e1⟩ (by simp only [x8];omega) ?_
   rintro self i _ _ ⟨m,acc,v1,b0,b1,rfl,rfl,hb0,hb1,ht1,hi,hm,ha,he⟩ ih
   have hb1:RB [.l (L.map pg),.s cur,.l (T.map p9),.i .i64 (i:Int)] b1:=hb1
   obtain ⟨m,rfl⟩:∃ m',m=m'+1:=⟨m - 1,oM⟩
   rw [D8] at he
   have hof:N7 L cur T (2 * T.length+2) 0 i=v7 L cur T 0 i:=rfl
   rw [hof] at he
   have e9:=a73 (L:=L) (cur:=cur) (d:=0) hi
   have hgt:T.getD i t0=T[i]:=by simp [List.getD,List.getElem?_eq_getElem hi]
   rw [hgt] at e9 he
   (refine Zy ?_;intros)
   refine D1 (f:=p9) aS (w8 F7) fun _ _ _=>?_
   refine b4n aS ?_
   (refine Zy ?_;with_reducible repeat' first|intro _|apply aI)
   ·have k0:T[i].kind=0:=‹_›
    rw [if_pos k0] at he
    rw [he]
    exact k9 ⟨.ret _ _ (.t _ _ (.k (.sl _ _ _ _ _ (by simp) aS) (.k (N8 0 0) .nil))),.nil⟩
   ·have k0:¬T[i].kind=0:=‹_›
    rw [if_neg k0] at he
    refine D1 (f:=p9) aS (w8 F7) fun _ _ _=>?_
    refine b4n aS ?_
    (refine Zy ?_;intros)
    refine D1 (f:=p9) aS (w8 F7) fun _ _ _=>?_
    refine b4n aS ?_
    (refine Zy ?_;intros)
    refine C9 (fun vs bs=>∃ (z:Bool) (x':Q) (v:V) (b0 b1:Bx) (tt:j9 Q),vs=[.ptr 0 0,.ptr 1 0,.slice tt 7 0 acc.length (.tok 2),.q x',v]∧RV (.c (.b z)) v∧RG (.i .i64 (T[i].pos:Int)) x'∧bs=[b0,b1,.tok acc.length 7]∧RB [.i .i64 0,.i .i64 0] b0∧RB (A5 L cur T i) b1∧p5 7 (acc.map G6) tt 0∧(z=true↔100≤acc.length∧T[i].kind ≠ 2∧T[i].kind ≠ 3)) ?_ ?_
    ·rintro _ _ ⟨z,x',v,b0,b1,tt,rfl,hvz,hx',rfl,hb0,hb1,htt,hz⟩
     have hb1:RB [.l (L.map pg),.s cur,.l (T.map p9),.i .i64 (i:Int)] b1:=hb1
     (refine Zy ?_;intros)
     refine I6 (.q _ _ hx') fun _ _=>?_
     (refine Zy ?_;with_reducible repeat' first|intro _|apply aI)
     ·rw [if_pos (hz.1 ‹_›)] at he
      refine i6 hbd (2,(T[i].pos:Int)) (r:=v8 2 T[i].pos) rfl (.k (.i _ _) (.k (.q _ _ aS) .nil)) .nil fun _ _ hv6 _=>?_
      have hv6:RV (.a [.i .i64 2,.i .i64 (T[i].pos:Int)]) _:=hv6
      (refine Zy ?_;intros)
      exact err he aS
     ·have hz0:¬(100≤acc.length∧T[i].kind ≠ 2∧T[i].kind ≠ 3):=fun h=>‹¬z=true› (hz.2 h)
      rw [if_neg hz0] at he
      cases hob:v7 L cur T 0 i with
      | error er =>
       obtain ⟨er,p⟩:=er
       have h0:=(a5f hT _).1 0 i er p (Nat.lt_succ_self _) hi hob
       rw [hob] at he
       refine i6 ho ⟨((L,cur,T,i),0),⟨hL,hT,hi⟩,Nat.zero_le _⟩ (r:=.t [.a O.no.g,v8 er p]) (by show V5 (v7 L cur T 0 i)=_;rw [hob];rfl) j7 (RB.bx aS rfl) fun _ _ hv3 hb3=>?_
       have hv3:RV (.t [.a O.no.g,.a [.i .i64 er,.i .i64 (p:Int)]]) _:=hv3
       have hb3:RBs [A5 L cur T (O8 (Z3 L cur T 0 i) (v7 L cur T 0 i))] _:=hb3
       rw [hob] at hb3
       have hb3:RBs [[.l (L.map pg),.s cur,.l (T.map p9),.i .i64 ((Z3 L cur T 0 i:Nat):Int)]] _:=hb3
       (refine Zy ?_;with_reducible repeat' first|intro _|apply aI)
       ·exact absurd ‹er=0› h0
       ·exact err he aS
      | ok oj =>
       obtain ⟨o,j⟩:=oj
       have hj:=Y0 hT hob
       rw [hob] at he e9
       simp only [] at he
       have k23:¬(T[i].kind=2∨T[i].kind=3):=fun h=>by rw [if_neg k0,if_pos h] at e9;cases e9
       have ha2:acc.length < 100:=oM
       refine i6 ho ⟨((L,cur,T,i),0),⟨hL,hT,hi⟩,Nat.zero_le _⟩ (r:=.t [.a o.g,v8 0 0]) (by show V5 (v7 L cur T 0 i)=_;rw [hob];rfl) j7 (RB.bx aS rfl) fun _ _ hv3 hb3=>?_
       have hv3:RV (.t [.a o.g,.a [.i .i64 0,.i .i64 0]]) _:=hv3
       have hb3:RBs [A5 L cur T (O8 (Z3 L cur T 0 i) (v7 L cur T 0 i))] _:=hb3
       rw [hob] at hb3
       have hb3:RBs [[.l (L.map pg),.s cur,.l (T.map p9),.i .i64 (j:Int)]] _:=hb3
       (refine Zy ?_;intros)
       refine H4 aS (O.g_len _) fun _ _=>?_
       (refine Zy ?_;with_reducible repeat' first|intro _|apply aI)
       ·refine i6 hno o (r:=.c (.i .i64 (min o.size 3001:Nat))) rfl oA .nil fun _ _ _ _=>?_
        (refine Zy ?_;with_reducible repeat' first|intro _|apply aI)
        ·have hsz:3000 < o.size:=by have:=‹(3000:Int) < ((min o.size 3001:Nat):Int)›;omega
         rw [if_pos hsz] at he
         refine i6 hbd (2,(T[i].pos:Int)) (r:=v8 2 T[i].pos) rfl (.k (.i _ _) (.k (.q _ _ aS) .nil)) .nil fun _ _ hv6 _=>?_
         have hv6:RV (.a [.i .i64 2,.i .i64 (T[i].pos:Int)]) _:=hv6
         (refine Zy ?_;intros)
         exact err he aS
        ·have hsz:¬3000 < o.size:=by have:=‹¬(3000:Int) < ((min o.size 3001:Nat):Int)›;omega
         rw [if_neg hsz] at he
         refine d0u (f:=G6) (x:=(o,T[i].pos)) aS (fun _=>T0 (by rw [a9m];decide) aS) (a9m _) oM fun _ _=>?_
         (refine Zy ?_;intros)
         exact ih j _ _ ⟨m,acc ++ [(o,T[i].pos)],_,_,_,rfl,by rw [List.length_append];rfl,.opa _ _ _ rfl aS,.opa _ _ _ rfl aS,.a _ _ (by simp) aS,hj.2,oM,by simp;omega,he⟩ oM
       ·exact absurd rfl ‹_›
    ·intro c hc
     (refine Zy ?_;with_reducible repeat' first|intro _|apply aI)
     ·exact hc _ _ ⟨false,_,_,_,_,_,rfl,.kn _,aS,rfl,.opa _ _ _ rfl aS,.opa _ _ _ rfl aS,aS,by simp;omega⟩
     ·exact fun e=>hc _ _ ⟨decide (T[i].kind ≠ 3),_,_,_,_,_,rfl,J3 (by subst e;rw [a1h,T8];simp),aS,rfl,.opa _ _ _ rfl aS,.opa _ _ _ rfl aS,aS,by rw [decide_eq_true_iff];omega⟩ e
     ·exact hc _ _ ⟨false,_,_,_,_,_,rfl,.kn _,aS,rfl,.opa _ _ _ rfl aS,.opa _ _ _ rfl aS,aS,by simp;omega⟩
  ·exact absurd rfl ‹_›
theorem e8j:l6 21 (a63 fun L cur s=>a8z s.length (y7 L cur s)):=o7 (fun fn h=>e8d h) [(53,_),(54,_),(24,_),(27,_)] (.cons a4h (.cons d86 (.cons c31 (.cons b5m .nil)))) fun U fn hfn ⟨(L,cur,s),hL,hs⟩ vs bs hv hb=>by
 have hbd:=hfn 53 _ rfl
 have ho:=hfn 54 _ rfl
 have htk:=hfn 24 _ rfl
 have hrd:=hfn 27 _ rfl
 have hL:L9 L:=hL
 have hs:s.length < 8000:=hs
 have hv:l8 [.sl 2 (L.map pg),.c (.s cur),.c (.s s)] vs:=hv
 have hb:RBs [] bs:=hb
 show j3 U _ fun v bs'=>l7 (a8z s.length (y7 L cur s)) v∧RBs [] bs'
 unfold r21
 (refine Zq ?_;intros)
 match hr:y7 L cur s with
 | .error (er,p) =>
  have h0:=d3f hr
  refine i6 hrd ⟨(L,cur,s),hL,hs⟩ (r:=.t [.sl 7 [],.a [.i .i64 er,.i .i64 (p:Int)]]) (by show rdT (y7 L cur s)=_;rw [hr];rfl) (.k (.sl _ _ _ _ _ (by simp) aS) j7) .nil fun _ _ hv3 _=>?_
  have hv3:RV (.t [.sl 7 (([]:List (O × Nat)).map G6),.a [.i .i64 er,.i .i64 (p:Int)]]) _:=hv3
  (refine Zq ?_;with_reducible repeat' first|intro _|apply aI)
  all_goals first
   | exact absurd ‹er=0› h0
   | exact k9 ⟨.ret _ _ (.t _ _ (.k a0p (.k (A3 er p aS) .nil))),.nil⟩
 | .ok [] =>
  refine i6 hrd ⟨(L,cur,s),hL,hs⟩ (r:=.t [.sl 7 (([]:List (O × Nat)).map G6),.a [.i .i64 0,.i .i64 0]]) (by show rdT (y7 L cur s)=_;rw [hr];rfl) (.k (.sl _ _ _ _ _ (by simp) aS) j7) .nil fun _ _ hv3 _=>?_
  (refine Zq ?_;with_reducible repeat' first|intro _|apply aI)
  ·refine i6 hbd (11,(s.length:Int)) (r:=v8 11 s.length) rfl j7 .nil fun _ _ hv6 _=>?_
   have hv6:RV (.a [.i .i64 11,.i .i64 (s.length:Int)]) _:=hv6
   (refine Zq ?_;intros)
   exact k9 ⟨.ret _ _ (.t _ _ (.k a0p (.k (A3 11 s.length aS) .nil))),.nil⟩
  all_goals first
   | exact absurd rfl ‹¬(((([]:List (O × Nat)).length:Nat):Int)=0)›
   | exact absurd rfl ‹¬((0:Int)=0)›
 | .ok [(o,k)] =>
  refine i6 hrd ⟨(L,cur,s),hL,hs⟩ (r:=.t [.sl 7 ([(o,k)].map G6),.a [.i .i64 0,.i .i64 0]]) (by show rdT (y7 L cur s)=_;rw [hr];rfl) (.k (.sl _ _ _ _ _ (by simp) aS) j7) .nil fun _ _ hv3 _=>?_
  (refine Zq ?_;with_reducible repeat' first|intro _|apply aI)
  ·exact absurd ‹((([(o,k)]:List (O × Nat)).length:Nat):Int)=0› (show ¬(1:Int)=0 by decide)
  ·exact absurd ‹1 < ((([(o,k)]:List (O × Nat)).length:Nat):Int)› (show ¬(1:Int) < 1 by decide)
  ·exact k9 ⟨.ret _ _ (.t _ _ (.k (.a o.g _ _ (O.g_len _).symm aS) (.k (A3 0 0 aS) .nil))),.nil⟩
  ·exact absurd rfl ‹¬((0:Int)=0)›
 | .ok ((o,k) :: (o2,p) :: l) =>
  obtain ⟨T,j,ht,hob,hpos⟩:=d02 hr
  have hT:=a6n ht
  have hTl:=hT.len
  have hj:=Y0 hT hob
  have hgj:T.getD j t0=T[j]:=by simp [List.getD,List.getElem?_eq_getElem hj.2]
  rw [hgj] at hpos
  refine i6 hrd ⟨(L,cur,s),hL,hs⟩ (r:=.t [.sl 7 (((o,k) :: (o2,p) :: l).map G6),.a [.i .i64 0,.i .i64 0]]) (by show rdT (y7 L cur s)=_;rw [hr];rfl) (.k (.sl _ _ _ _ _ (by simp) aS) j7) .nil fun _ _ hv3 _=>?_
  (refine Zq ?_;with_reducible repeat' first|intro _|apply aI)
  ·have h:(((((o,k) :: (o2,p) :: l):List (O × Nat)).length:Nat):Int)=0:=‹_›
   simp at h
   omega
  ·refine i6 htk ⟨s,hs⟩ (r:=.t [.sl 5 (T.map p9),.a [.i .i64 0,.i .i64 0]]) (by show b1y (A7 s)=_;rw [ht];rfl) j7 .nil fun _ _ _ _=>?_
   (refine Zq ?_;intros)
   refine i6 ho ⟨((L,cur,T,0),0),⟨hL,hT,hT.pos⟩,Nat.zero_le _⟩ (r:=.t [.a o.g,v8 0 0]) (by show V5 (v7 L cur T 0 0)=_;rw [hob];rfl) j7 (.k (pzC aS aS rfl) .nil) fun _ _ hv3 hb3=>?_
   have hv3:RV (.t [.a o.g,.a [.i .i64 0,.i .i64 0]]) _:=hv3
   have hb3:RBs [A5 L cur T (O8 (Z3 L cur T 0 0) (v7 L cur T 0 0))] _:=hb3
   rw [hob] at hb3
   have hb3:RBs [[.l (L.map pg),.s cur,.l (T.map p9),.i .i64 (j:Int)]] _:=hb3
   (refine Zq ?_;intros)
   refine H4 aS (O.g_len _) fun _ _=>?_
   (refine Zq ?_;intros)
   refine V9 aS a1a fun _ _ _=>?_
   (refine Zq ?_;intros)
   refine V9 aS F7 fun _ _ _=>?_
   (refine Zq ?_;intros)
   refine i6 hbd (12,(p:Int)) (r:=v8 12 p) rfl (.k (.i _ _) (.k (.q _ _ (by show RG (.i .i64 (p:Int)) _;rw [← show T[j].pos=p from hpos];assumption)) .nil)) .nil fun _ _ hv6 _=>?_
   have hv6:RV (.a [.i .i64 12,.i .i64 (p:Int)]) _:=hv6
   (refine Zq ?_;intros)
   exact k9 ⟨.ret _ _ (.t _ _ (.k a0p (.k (A3 12 p aS) .nil))),.nil⟩
  ·have h:¬1 < (((((o,k) :: (o2,p) :: l):List (O × Nat)).length:Nat):Int):=‹_›
   simp at h
   omega
  ·exact absurd rfl ‹¬((0:Int)=0)›
set_option maxHeartbeats 8000000
abbrev d7u:List Sy:=[(y8,[99,97,114]),(y8,[110,105,108]),(y8,[116])]
abbrev a3q:List Pk:=[(y8,[])]
abbrev L8:List Pk:=[(y8,[]),(G4,d7u)]
structure c9s (l:List Sy):Prop where
 len:l.length≤200
 ok:∀ s ∈ l,named s=true∧a1p a3q s=true∧s.1.length < 90000∧s.2.length < 90000
 dist:∀ i k (hi:i < l.length) (hk:k < i),(l[k]'(Nat.lt_trans hk hi)).2 ≠ l[i].2
theorem e2i:c9s d7u where
 len:=dE
 ok s h:=by
  rcases List.mem_cons.1 h with rfl | h
  ·exact ⟨kR,kR,dE,dE⟩
  rcases List.mem_cons.1 h with rfl | h
  ·exact ⟨kR,kR,dE,dE⟩
  rcases List.mem_cons.1 h with rfl | h
  ·exact ⟨kR,kR,dE,dE⟩
  ·cases h
 dist i k hi hk:=by
  have hi:i < 3:=hi
  match i,k,hi,hk with
  | 1,0,_,_=>exact (by decide:([99,97,114]:j0) ≠ [110,105,108])
  | 2,0,_,_=>exact (by decide:([99,97,114]:j0) ≠ [116])
  | 2,1,_,_=>exact (by decide:([110,105,108]:j0) ≠ [116])
def f0n:Sp where
 ι:={ l:List Sy // c9s l }
 A l:=[.sl 2 (a3q.map pg),.a (pg (G4,l.1))]
 B _:=[]
 R l:=.ret (.t [.sl 2 ([(y8,[]),(G4,l.1)].map pg),.c (.i .i64 0)])
 B' _:=[]
 inj i j vs bs h k _ _:=by
  obtain ⟨_,_,h1,k1,h,k⟩:=h.two k
  obtain ⟨_,_,h2,k2,h,k⟩:=h.two k
  have e:=h2.a_inj k2
  simp only [pg,List.cons.injEq,G.l.injEq,true_and,and_true] at e
  rw [a64 e];exact ⟨rfl,rfl⟩
theorem d5l:u5 G4=true:=kR
theorem c91:O6 a3q G4=.t [.a [.s [],.l []],.c (.b false)]:=by rfl
theorem e11:l6 52 f0n:=o7 (fun fn h=>e8y h) [(90,_),(65,_),(64,_),(66,_)] (.cons a77 (.cons d3c (.cons e2m (.cons e7q .nil)))) fun U fn hfn ⟨im,him⟩ vs bs hv hb=>by
 have hvp:=hfn 90 _ rfl
 have hfi:=hfn 65 _ rfl
 have hva:=hfn 64 _ rfl
 have hho:=hfn 66 _ rfl
 have him:c9s im:=him
 have hl:=him.len
 have hv:l8 [.sl 2 (a3q.map pg),.a [.s G4,.l (im.map sg)]] vs:=hv
 have hb:RBs [] bs:=hb
 show j3 U _ fun v bs'=>l7 (.ret (.t [.sl 2 ([(y8,[]),(G4,im)].map pg),.c (.i .i64 0)])) v∧RBs [] bs'
 unfold r52
 (refine Zq ?_;intros)
 refine i6 hvp ⟨G4,dE⟩ (r:=.c (.b true)) (by show t7.ret (.c (.b (u5 G4)))=_;rw [d5l]) (.k (.q _ _ aS) .nil) .nil fun _ _ _ _=>?_
 (refine Zq ?_;intros)
 refine i6 hfi ⟨(a3q,G4),b0e⟩ (r:=.t [.a [.s [],.l []],.c (.b false)]) (by show t7.ret (O6 a3q G4)=_;rw [c91]) (.k (.sl _ _ _ _ _ rfl aS) (.k (.q _ _ aS) .nil)) .nil fun _ _ _ _=>?_
 (refine Zq ?_;intros)
 (refine D1 (f:=sg) aS (w8 a1n) fun _ _ _=>?_)
 (refine Zq ?_;with_reducible repeat' first|intro _|apply aI)
 ·have h:200 < ((im.length:Nat):Int):=‹_›
  omega
 ·refine C7 (fun (i:Nat) vs bs=>∃ (t:j9 Q) (off:Nat) (b0:Bx),vs=[.slice t 2 off 1 .no,.ptr 0 0,.int .i64 i]∧bs=[b0]∧p5 2 (a3q.map pg) t off∧RB [.s G4,.l (im.map sg)] b0∧i≤im.length) (fun i=>im.length - i) 0 ⟨_,_,_,rfl,rfl,aS,.opa _ _ _ rfl aS,Nat.zero_le _⟩ (by simp only [x8];omega) ?_
  rintro self i _ _ ⟨t,off,b0,rfl,rfl,ht,hb0,hi⟩ ih
  (refine Zq ?_;intros)
  (refine D1 (f:=sg) aS (w8 a1n) fun _ _ _=>?_)
  (refine Zq ?_;with_reducible repeat' first|intro _|apply aI)
  ·(refine D1 (f:=sg) aS (w8 a1n) fun _ _ _=>?_)
   (refine Zq ?_;intros)
   have hil:i < im.length:=oM
   have hs:=him.ok _ (List.getElem_mem hil)
   have hds:=him.dist i
   refine i6 hva ⟨im[i],hs.2.2.1,hs.2.2.2⟩ (r:=.c (.b true)) (by show t7.ret (.c (.b (named im[i])))=_;rw [hs.1]) (.k (.a _ _ _ rfl aS) .nil) .nil fun _ _ _ _=>?_
   (refine Zq ?_;intros)
   refine i6 hho ⟨(a3q,im[i]),b0e⟩ (r:=.c (.b true)) (by show t7.ret (.c (.b (a1p a3q im[i])))=_;rw [hs.2.1]) (.k (.sl _ _ _ _ _ rfl aS) (.k (.a _ _ _ rfl aS) .nil)) .nil fun _ _ _ _=>?_
   (refine Zq ?_;intros)
   refine C7 (fun (k:Nat) vs bs=>∃ (t:j9 Q) (off:Nat) (b0 b1:Bx),vs=[.slice t 2 off 1 .no,.ptr 0 0,.int .i64 i,.ptr 1 0,.int .i64 k]∧bs=[b0,b1]∧p5 2 (a3q.map pg) t off∧RB [.s G4,.l (im.map sg)] b0∧RB [.s im[i].1,.s im[i].2] b1∧k≤i) (fun k=>i - k) 0 ⟨_,_,_,_,rfl,rfl,aS,.opa _ _ _ rfl aS,.opa _ _ _ rfl aS,Nat.zero_le _⟩ (by simp only [x8];omega) ?_
   rintro self2 k _ _ ⟨t,off,b0,b1,rfl,rfl,ht,hb0,hb1,hk⟩ ih2
   (refine Zq ?_;with_reducible repeat' first|intro _|apply aI)
   ·(refine D1 (f:=sg) aS (w8 a1n) fun _ _ _=>?_)
    (refine Zq ?_;with_reducible repeat' first|intro _|apply aI)
    ·exact absurd ‹im[k].2=im[i].2› (hds k hil oM)
    ·exact ih2 (k+1) _ _ ⟨_,_,_,_,rfl,rfl,aS,.opa _ _ _ rfl aS,.opa _ _ _ rfl aS,oM⟩ oM
   ·exact ih (i+1) _ _ ⟨_,_,_,rfl,rfl,aS,.opa _ _ _ rfl aS,oM⟩ oM
  ·refine sAT (xs:=[]) (ys:=a3q.map pg) (n:=2) (off:=0) (.nil _ _ _) aS rfl rfl dE fun t' ht'=>?_
   (refine Zq ?_;intros)
   refine V8 (xs:=a3q.map pg) (r:=pg (G4,im)) (n:=2) (off:=0) ht' (fun _=>T0 (by simp [pg]) aS) rfl rfl dE fun t2 ht2=>?_
   (refine Zq ?_;intros)
   exact k9 ⟨.ret _ _ (.t _ _ (.k (.sl _ _ _ _ _ rfl ht2) (.k (.i _ _) .nil))),.nil⟩
theorem f1j {a b c:Sy} {x y z:Q} (h1:x4 [.s a.1,.s a.2] x 0) (h2:x4 [.s b.1,.s b.2] y 0) (h3:x4 [.s c.1,.s c.2] z 0):p5 2 ([a,b,c].map sg) (.node x (.node y .nil .nil) (.node z .nil .nil)) 0:=.of fun j r h=>by
 match j,h with
 | 0,h=>simp at h;subst h;exact ⟨rfl,T0 (by simp [sg]) h1⟩
 | 1,h=>simp at h;subst h;exact ⟨rfl,T0 (by simp [sg]) h2⟩
 | 2,h=>simp at h;subst h;exact ⟨rfl,T0 (by simp [sg]) h3⟩
 | j+3,h=>simp at h
theorem a3h:L9 L8:=⟨dE,fun p hp=>by
 rcases List.mem_cons.1 hp with rfl | hp
 ·decide
 ·cases List.mem_singleton.1 hp;decide⟩
theorem a4g:l6 20 (sp0 (.sl 2 (L8.map pg))):=o7 (fun fn h=>e5z h) [(45,_),(52,_),(47,_)] (.cons c3r (.cons e11 (.cons c06 .nil))) fun U fn hfn _ vs bs hv hb=>by
 have hi:=hfn 45 _ rfl
 have hd:=hfn 52 _ rfl
 have hl:=hfn 47 _ rfl
 have hv:l8 [] vs:=hv
 have hb:RBs [] bs:=hb
 show j3 U _ fun v bs'=>l7 (.ret (.sl 2 (L8.map pg))) v∧RBs [] bs'
 unfold r20
 (refine Zq ?_;intros)
 refine i6 hl ([99,97,114]:j0) (r:=.a (sg (y8,[99,97,114]))) rfl (.k (.s _ _ _ rfl dE) .nil) .nil fun _ _ hv3 _=>?_
 have hv3:RV (.a [.s y8,.s [99,97,114]]) _:=hv3
 (refine Zq ?_;intros)
 refine i6 hi () (r:=.fr 2 [pg (y8,[])]) rfl .nil .nil fun _ _ hv1 _=>?_
 refine e59 hv1 rfl fun t off ht=>?_
 (refine Zq ?_;intros)
 refine i6 hl ([110,105,108]:j0) (r:=.a (sg (y8,[110,105,108]))) rfl (.k (.s _ _ _ rfl dE) .nil) .nil fun _ _ hv4 _=>?_
 have hv4:RV (.a [.s y8,.s [110,105,108]]) _:=hv4
 (refine Zq ?_;intros)
 refine i6 hl ([116]:j0) (r:=.a (sg (y8,[116]))) rfl (.k (.s _ _ _ rfl dE) .nil) .nil fun _ _ hv5 _=>?_
 have hv5:RV (.a [.s y8,.s [116]]) _:=hv5
 (refine Zq ?_;intros)
 refine i6 hd ⟨d7u,e2i⟩ (r:=.t [.sl 2 (L8.map pg),.c (.i .i64 0)]) rfl (.k (.sl _ _ _ _ _ rfl ht) (.k (.ag _ _ (.k (.s _ _ _ rfl dE) (.k (.cl _ _ _ _ _ rfl (f1j aS aS aS)) .nil))) .nil)) .nil fun _ _ hv6 _=>?_
 (refine Zq ?_;intros)
 exact k9 ⟨.ret _ _ (.sl _ _ _ _ _ (by simp) aS),.nil⟩
def f46:Sp where
 ι:={ p:List (O × Nat) × List (O × Nat) // p.1.length < 90000∧p.1=p.2 }
 A p:=[.sl 7 (p.1.1.map G6),.sl 7 (p.1.2.map G6)]
 B _:=[]
 R _:=.ret (.c (.b true))
 B' _:=[]
 inj _ _ _ _ _ _ _ _:=⟨rfl,rfl⟩
theorem c2p:l6 28 f46:=o7 (fun fn h=>e8b h) [(22,_)] (.cons c41 .nil) fun U fn hfn ⟨(l,m),hl,e⟩ vs bs hv hb=>by
 have he:=hfn 22 _ rfl
 change l.length < 90000 at hl
 change l=m at e
 subst e
 have hv:l8 [.sl 7 (l.map G6),.sl 7 (l.map G6)] vs:=hv
 have hb:RBs [] bs:=hb
 show j3 U _ fun v bs'=>l7 (.ret (.c (.b true))) v∧RBs [] bs'
 unfold r28
 (refine Zq ?_;with_reducible repeat' first|intro _|apply aI)
 ·refine C7 (fun (i:Nat) vs bs=>∃ (t1 t2:j9 Q) (o1 o2:Nat),vs=[.slice t1 7 o1 l.length .no,.slice t2 7 o2 l.length .no,.int .i64 i]∧bs=[]∧p5 7 (l.map G6) t1 o1∧p5 7 (l.map G6) t2 o2∧i≤l.length) (fun i=>l.length - i) 0 ⟨_,_,_,_,by simp;exact ⟨⟨rfl,rfl⟩,rfl,rfl⟩,rfl,aS,aS,oM⟩ (by simp only [x8];omega) ?_
  rintro self i _ _ ⟨t1,t2,o1,o2,rfl,rfl,ht1,ht2,hi⟩ ih
  (refine Zq ?_;with_reducible repeat' first|intro _|apply aI)
  ·have hil:i < l.length:=oM
   refine i6 he (l[i].1,l[i].1) (r:=.c (.b true)) (congrArg (fun b=>t7.ret (.c (.b b))) (O.eqb_t.2 rfl)) (.k oV oA) .nil fun _ _ _ _=>?_
   (refine Zq ?_;intros)
   exact ih (i+1) _ _ ⟨t1,t2,o1,o2,rfl,rfl,ht1,ht2,oM⟩ oM
  ·exact k9 ⟨.ret _ _ (.kn _),.nil⟩
 ·contradiction
theorem c4t {L:List Pk} {cur:j0} {T:List y3}:∀ (m i:Nat) (acc l:List (O × Nat)),D8 L cur T m i acc=.ok l→l.length≤acc.length+m
 | 0,i,acc,l,h=>by rw [D8] at h;cases h
 | m+1,i,acc,l,h=>by
  rw [D8] at h
  split at h
  ·injection h with h;rw [h];omega
  split at h
  ·cases h
  split at h
  ·cases h
  split at h
  ·cases h
  ·have:=c4t m _ _ _ h
   simp at this
   omega
theorem d2r {L:List Pk} {cur s:j0} {l:List (O × Nat)} (h:y7 L cur s=.ok l):l.length≤s.length+2:=by
 unfold y7 at h
 split at h
 ·cases h
 ·rename_i T hx
  have:=c4t _ _ _ _ h
  have h2:T.length≤s.length+1:=by
   unfold A7 at hx
   split at hx
   ·cases hx
   ·obtain ⟨T',e,_,_,hl⟩:=a9o (s.length) oM (Nat.zero_le _) hx
    subst e
    simp at hl ⊢
    omega
  simp at this
  omega
theorem b4g (L:List Pk) (cur s:j0) (hs:s.length < 8000):∃ (l:List (O × Nat)) (e p:Int),rdT (y7 L cur s)=.ret (.t [.sl 7 (l.map G6),.a [.i .i64 e,.i .i64 p]])∧l.length < 90000:=by
 cases hx:y7 L cur s with
 | ok l=>exact ⟨l,0,0,rfl,by have:=d2r hx;omega⟩
 | error ep=>exact ⟨[],ep.1,ep.2,rfl,dE⟩
theorem e3u (n:Nat):∀ r:Except (Int × Nat) (List (O × Nat)),∃ (o:O) (e p:Int),a8z n r=.ret (.t [.a o.g,.a [.i .i64 e,.i .i64 p]])
 | .error (e,p)=>⟨O.no,e,p,rfl⟩
 | .ok []=>⟨O.no,11,n,rfl⟩
 | .ok [(o,_)]=>⟨o,0,0,rfl⟩
 | .ok (_ :: (_,p) :: _)=>⟨O.no,12,p,rfl⟩
abbrev d23:j0:=[111,116,104,101,114]
theorem c5w:m8 d23=491327616111:=dE
theorem a2i:1919251317=m8 G4:=dE
def f44:Sp where
 ι:={ p:List Int × Bool // True }
 A p:=[.sl 1 (p.1.1.map Q5),.c (.b p.1.2)]
 B _:=[]
 R _:=.ret (.c (.b true))
 B' _:=[]
 inj _ _ _ _ _ _ _ _:=⟨rfl,rfl⟩
theorem c2a:l6 6 f44:=o7 (fun fn h=>f3k h) [(17,_),(18,_),(20,_),(26,_),(27,_),(28,_)] (.cons b2h (.cons c69 (.cons a4g (.cons b7u (.cons b5m (.cons c2p .nil)))))) fun U fn hfn ⟨(l,other),_⟩ vs bs hv hb=>by
 have hf:=hfn 17 _ rfl
 have hp:=hfn 18 _ rfl
 have hk:=hfn 20 _ rfl
 have hr:=hfn 26 _ rfl
 have h5:=hfn 27 _ rfl
 have hs:=hfn 28 _ rfl
 have hv:l8 [.sl 1 (l.map Q5),.c (.b other)] vs:=hv
 have hb:RBs [] bs:=hb
 show j3 U _ fun v bs'=>l7 (.ret (.c (.b true))) v∧RBs [] bs'
 unfold r6
 have good:j3 U (some (.ret (.known true),[])) fun v bs'=>l7 (.ret (.c (.b true))) v∧RBs [] bs':=k9 ⟨.ret _ _ (.kn _),.nil⟩
 (refine Zy ?_;intros)
 refine i6 hf () (r:=.c (.b true)) rfl .nil .nil fun _ _ _ _=>?_
 (refine Zy ?_;with_reducible repeat' first|intro _|apply aI)
 ·exact good
 refine C9 (fun vs bs=>∃ (t:j9 Q) (off:Nat) (cur:j0),vs=[.slice t 1 off l.length .no,.str cur.length (m8 cur)]∧bs=[]∧p5 1 (l.map Q5) t off) ?_ ?_
 ·rintro _ _ ⟨t,off,cur,rfl,rfl,ht⟩
  have hl1:=a2z l
  (refine Zq ?_;intros)
  refine i6 hp ⟨l,by show l.length≤100;omega⟩ (r:=.c (.s (H0 l))) rfl (.k (.sl _ _ _ _ _ (by simp) ht) .nil) .nil fun _ _ _ _=>?_
  (refine Zq ?_;intros)
  have hsl:(H0 l).length < 8000:=oM
  generalize H0 l=s at *
  obtain ⟨o,e,p,hT,hTl⟩:=b4g L8 cur s hsl
  refine i6 hk () (r:=.sl 2 (L8.map pg)) rfl .nil .nil fun _ _ _ _=>?_
  (refine Zq ?_;intros)
  refine i6 hr ⟨(L8,cur,s),a3h,hsl⟩ (r:=.t [.sl 7 (o.map G6),.a [.i .i64 e,.i .i64 p]]) hT (.k (.sl _ _ _ _ _ rfl aS) j7) .nil fun _ _ _ _=>?_
  (refine Zq ?_;intros)
  refine i6 hk () (r:=.sl 2 (L8.map pg)) rfl .nil .nil fun _ _ _ _=>?_
  (refine Zq ?_;intros)
  refine i6 h5 ⟨(L8,cur,s),a3h,hsl⟩ (r:=.t [.sl 7 (o.map G6),.a [.i .i64 e,.i .i64 p]]) hT (.k (.sl _ _ _ _ _ rfl aS) j7) .nil fun _ _ _ _=>?_
  (refine Zq ?_;intros)
  refine sIk ?_
  (refine Zq ?_;intros)
  refine sIk ?_
  (refine Zq ?_;with_reducible repeat' first|intro _|apply aI)
  ·refine i6 hs ⟨(o,o),hTl,rfl⟩ (r:=.c (.b true)) rfl (.k (.sl _ _ _ _ _ (by simp) aS) (.k (.sl _ _ _ _ _ (by simp) aS) .nil)) .nil fun _ _ _ _=>?_
   (refine Zq ?_;intros)
   exact k9 ⟨.ret _ _ (.b _),.nil⟩
  ·rename_i hh
   exact absurd ⟨rfl,rfl,trivial⟩ hh
 ·intro c hc
  (refine Zy ?_;with_reducible repeat' first|intro _|apply aI)
  ·exact hc _ _ ⟨_,_,d23,by rw [c5w];rfl,rfl,aS⟩
  ·exact hc _ _ ⟨_,_,G4,by rw [← a2i];rfl,rfl,aS⟩
def f5n:Sp where
 ι:={ p:List Int // True }
 A p:=[.sl 1 (p.1.map Q5)]
 B _:=[]
 R _:=.ret (.c (.b true))
 B' _:=[]
 inj _ _ _ _ _ _ _ _:=⟨rfl,rfl⟩
theorem c5j:l6 3 f5n:=o7 (fun fn h=>f1d h) [(17,_),(18,_),(20,_),(19,_),(21,_),(22,_)] (.cons b2h (.cons c69 (.cons a4g (.cons d8y (.cons e8j (.cons c41 .nil)))))) fun U fn hfn ⟨l,_⟩ vs bs hv hb=>by
 have hf:=hfn 17 _ rfl
 have hp:=hfn 18 _ rfl
 have hk:=hfn 20 _ rfl
 have hr:=hfn 19 _ rfl
 have h5:=hfn 21 _ rfl
 have hs:=hfn 22 _ rfl
 have hv:l8 [.sl 1 (l.map Q5)] vs:=hv
 have hb:RBs [] bs:=hb
 show j3 U _ fun v bs'=>l7 (.ret (.c (.b true))) v∧RBs [] bs'
 unfold r3
 have good:j3 U (some (.ret (.known true),[])) fun v bs'=>l7 (.ret (.c (.b true))) v∧RBs [] bs':=k9 ⟨.ret _ _ (.kn _),.nil⟩
 have hl1:=a2z l
 (refine Zq ?_;intros)
 rename_i t off ht _ _
 refine i6 hf () (r:=.c (.b true)) rfl .nil .nil fun _ _ _ _=>?_
 (refine Zq ?_;with_reducible repeat' first|intro _|apply aI)
 ·exact good
 refine i6 hp ⟨l,by show l.length≤100;omega⟩ (r:=.c (.s (H0 l))) rfl (.k (.sl _ _ _ _ _ (by simp) aS) .nil) .nil fun _ _ _ _=>?_
 (refine Zq ?_;intros)
 have hsl:(H0 l).length < 8000:=oM
 generalize H0 l=s at *
 obtain ⟨o,e,p,hT⟩:=e3u s.length (y7 L8 G4 s)
 refine i6 hk () (r:=.sl 2 (L8.map pg)) rfl .nil .nil fun _ _ _ _=>?_
 (refine Zq ?_;intros)
 refine i6 hr ⟨(L8,G4,s),a3h,hsl⟩ (r:=.t [.a o.g,.a [.i .i64 e,.i .i64 p]]) hT (.k (.sl _ _ _ _ _ rfl aS) (.k (.s _ _ _ rfl a2i) j7)) .nil fun _ _ _ _=>?_
 (refine Zq ?_;intros)
 refine H4 aS (O.g_len _) fun _ _=>?_
 (refine Zq ?_;intros)
 refine i6 hk () (r:=.sl 2 (L8.map pg)) rfl .nil .nil fun _ _ _ _=>?_
 (refine Zq ?_;intros)
 refine i6 h5 ⟨(L8,G4,s),a3h,hsl⟩ (r:=.t [.a o.g,.a [.i .i64 e,.i .i64 p]]) hT (.k (.sl _ _ _ _ _ rfl aS) (.k (.s _ _ _ rfl a2i) j7)) .nil fun _ _ _ _=>?_
 (refine Zq ?_;intros)
 refine H4 aS (O.g_len _) fun _ _=>?_
 (refine Zq ?_;intros)
 refine sIk ?_
 (refine Zq ?_;intros)
 refine sIk ?_
 (refine Zq ?_;with_reducible repeat' first|intro _|apply aI)
 ·refine i6 hs (o,o) (r:=.c (.b true)) (congrArg (fun b=>t7.ret (.c (.b b))) (O.eqb_t.2 rfl)) (.k oV oA) .nil fun _ _ _ _=>?_
  (refine Zq ?_;intros)
  exact k9 ⟨.ret _ _ (.b _),.nil⟩
 ·rename_i hh
  exact absurd ⟨rfl,rfl,trivial⟩ hh
def f4h:Sp where
 ι:={ p:Int × Bool // True }
 A p:=[.c (.i .i64 p.1.1),.c (.b p.1.2)]
 B _:=[]
 R _:=.ret (.c (.b true))
 B' _:=[]
 inj _ _ _ _ _ _ _ _:=⟨rfl,rfl⟩
theorem c6g:l6 7 f4h:=o7 (fun fn h=>f0j h) [(17,_),(29,_),(20,_),(26,_),(27,_)] (.cons b2h (.cons d6g (.cons a4g (.cons b7u (.cons b5m .nil))))) fun U fn hfn ⟨(n,quote),_⟩ vs bs hv hb=>by
 have hf:=hfn 17 _ rfl
 have hm:=hfn 29 _ rfl
 have hk:=hfn 20 _ rfl
 have hr:=hfn 26 _ rfl
 have h5:=hfn 27 _ rfl
 have hv:l8 [.c (.i .i64 n),.c (.b quote)] vs:=hv
 have hb:RBs [] bs:=hb
 show j3 U _ fun v bs'=>l7 (.ret (.c (.b true))) v∧RBs [] bs'
 unfold r7
 (refine Zq ?_;intros)
 refine i6 hf () (r:=.c (.b true)) rfl .nil .nil fun _ _ _ _=>?_
 (refine Zq ?_;intros)
 refine i6 hm ⟨(n,4),Nat.zero_lt_succ _,by show 4 < 1000000;decide⟩ (r:=.c (.i .i64 (n % (4:Nat)))) rfl j7 .nil fun _ _ _ _=>?_
 have hm0:0≤n % ((4:Nat):Int):=Int.emod_nonneg _ dE
 have hm1:n % ((4:Nat):Int) < ((4:Nat):Int):=Int.emod_lt_of_pos _ dE
 generalize n % ((4:Nat):Int)=m at *
 (refine Zy ?_;intros)
 refine C7 (fun (i:Nat) vs bs=>∃ s:j0,vs=[.int .i64 (199+m),.bool quote,.str s.length (m8 s),.int .i64 i]∧bs=[]∧s.length=i∧i≤300) (fun i=>300 - i) 0 ⟨[],rfl,rfl,rfl,oM⟩ (by simp only [x8];omega) ?_
 rintro self i _ _ ⟨s,rfl,rfl,hsl,hi⟩ ih
 (refine Zy ?_;with_reducible repeat' first|intro _|apply aI)
 ·refine C9 (fun vs bs=>∃ s:j0,vs=[.int .i64 (199+m),.bool quote,.str s.length (m8 s),.int .i64 i]∧bs=[]∧s.length=i+1) ?_ ?_
  ·rintro _ _ ⟨s,rfl,rfl,hsl⟩
   (refine Zy ?_;intros)
   exact ih (i+1) _ _ ⟨s,by simp,rfl,hsl,oM⟩ oM
  ·intro c hc
   (refine Zy ?_;with_reducible repeat' first|intro _|apply aI)
   ·refine a58 (x:=s) (y:=[39]) rfl rfl rfl ?_
    exact hc _ _ ⟨s ++ [39],by simp,rfl,by simp;omega⟩
   ·refine a58 (x:=s) (y:=[40]) rfl rfl rfl ?_
    exact hc _ _ ⟨s ++ [40],by simp,rfl,by simp;omega⟩
 ·refine a58 (x:=s) (y:=[97]) rfl rfl rfl ?_
  refine C7 (fun (j:Nat) vs bs=>∃ s:j0,vs=[.int .i64 (199+m),.bool quote,.str s.length (m8 s),.int .i64 j]∧bs=[]∧s.length≤301+j∧j≤300) (fun j=>300 - j) 0 ⟨s ++ [97],by simp,rfl,by simp;omega,oM⟩ (by simp only [x8];omega) ?_
  rintro self2 j _ _ ⟨s,rfl,rfl,hsl,hj⟩ ih2
  (refine Zy ?_;intros)
  refine C9 (fun vs bs=>∃ (z:Bool) (v:V),vs=[.int .i64 (199+m),.bool quote,.str s.length (m8 s),.int .i64 j,v]∧bs=[]∧RV (.c (.b z)) v∧(z=true→(j:Int) < 199+m)) ?_ ?_
  ·rintro _ _ ⟨z,v,rfl,rfl,hvz,hz⟩
   (refine Zy ?_;with_reducible repeat' first|intro _|apply aI)
   ·have hz1:=hz ‹_›
    refine a58 (x:=s) (y:=[41]) rfl rfl rfl ?_
    (refine Zy ?_;intros)
    exact ih2 (j+1) _ _ ⟨s ++ [41],by simp,rfl,by simp;omega,oM⟩ oM
   ·have hs8:s.length < 8000:=oM
    obtain ⟨o,e,p,hT,hTl⟩:=b4g L8 G4 s hs8
    refine i6 hk () (r:=.sl 2 (L8.map pg)) rfl .nil .nil fun _ _ _ _=>?_
    (refine Zq ?_;intros)
    refine i6 hr ⟨(L8,G4,s),a3h,hs8⟩ (r:=.t [.sl 7 (o.map G6),.a [.i .i64 e,.i .i64 p]]) hT (.k (.sl _ _ _ _ _ rfl aS) (.k (.s _ _ _ rfl a2i) j7)) .nil fun _ _ _ _=>?_
    (refine Zq ?_;intros)
    refine i6 hk () (r:=.sl 2 (L8.map pg)) rfl .nil .nil fun _ _ _ _=>?_
    (refine Zq ?_;intros)
    refine i6 h5 ⟨(L8,G4,s),a3h,hs8⟩ (r:=.t [.sl 7 (o.map G6),.a [.i .i64 e,.i .i64 p]]) hT (.k (.sl _ _ _ _ _ rfl aS) (.k (.s _ _ _ rfl a2i) j7)) .nil fun _ _ _ _=>?_
    (refine Zq ?_;intros)
    refine sIk ?_
    (refine Zq ?_;intros)
    refine sIk ?_
    refine sfB ?_
    refine I7 fun e9=>?_
    subst e9
    exact ⟨.ret _ _ (J3 (by rw [T8,T8,b11,b11];simp)),.nil⟩
  ·intro c hc
   (refine Zy ?_;with_reducible repeat' first|intro _|apply aI)
   ·refine fun e=>?_
    subst e
    exact hc _ _ ⟨!quote,_,rfl,rfl,J3 (a1h _).symm,fun _=>by assumption⟩ rfl
   ·exact hc _ _ ⟨false,_,rfl,rfl,.kn _,fun h=>by cases h⟩
def f5o:Sp where
 ι:={ p:Int × Int // True }
 A p:=[.c (.i .i64 p.1.1),.c (.i .i64 p.1.2)]
 B _:=[]
 R _:=.ret (.c (.b true))
 B' _:=[]
 inj _ _ _ _ _ _ _ _:=⟨rfl,rfl⟩
theorem c5o:l6 8 f5o:=o7 (fun fn h=>f0k h) [(17,_),(29,_),(20,_),(26,_),(27,_),(28,_)] (.cons b2h (.cons d6g (.cons a4g (.cons b7u (.cons b5m (.cons c2p .nil)))))) fun U fn hfn ⟨(kind,n),_⟩ vs bs hv hb=>by
 have hf:=hfn 17 _ rfl
 have hm:=hfn 29 _ rfl
 have hk:=hfn 20 _ rfl
 have hr:=hfn 26 _ rfl
 have h5:=hfn 27 _ rfl
 have hsa:=hfn 28 _ rfl
 have hv:l8 [.c (.i .i64 kind),.c (.i .i64 n)] vs:=hv
 have hb:RBs [] bs:=hb
 show j3 U _ fun v bs'=>l7 (.ret (.c (.b true))) v∧RBs [] bs'
 unfold r8
 (refine Zy ?_;intros)
 refine i6 hf () (r:=.c (.b true)) rfl .nil .nil fun _ _ _ _=>?_
 (refine Zy ?_;intros)
 refine C9 (fun vs bs=>∃ (u b a:j0) (most:Nat),vs=[.int .i64 n,.str u.length (m8 u),.int .i64 most,.str b.length (m8 b),.str a.length (m8 a)]∧bs=[]∧b.length≤1∧a.length≤1∧1≤most∧u.length * (most+1)≤7000∧most≤6000) ?_ ?_
 ·rintro _ _ ⟨u,b,a,most,rfl,rfl,hbl,hal,hm0,hmu,hm6⟩
  (refine Zy ?_;intros)
  refine C7 (fun (i:Nat) vs bs=>∃ s:j0,vs=[.int .i64 n,.str u.length (m8 u),.int .i64 most,.str a.length (m8 a),.str s.length (m8 s),.int .i64 i]∧bs=[]∧s.length=b.length+u.length * i∧i≤most+1) (fun i=>most+1 - i) 0 ⟨b,rfl,rfl,by simp,oM⟩ (by simp only [x8];omega) ?_
  rintro self i _ _ ⟨s,rfl,rfl,hsl,hi⟩ ih
  have hmul:u.length * i≤u.length * (most+1):=Nat.mul_le_mul_left _ hi
  (refine Zy ?_;intros)
  refine i6 hm ⟨(n,3),Nat.zero_lt_succ _,by show 3 < 1000000;decide⟩ (r:=.c (.i .i64 (n % (3:Nat)))) rfl j7 .nil fun _ _ _ _=>?_
  have hq0:0≤n % ((3:Nat):Int):=Int.emod_nonneg _ dE
  have hq1:n % ((3:Nat):Int) < ((3:Nat):Int):=Int.emod_lt_of_pos _ dE
  generalize n % ((3:Nat):Int)=m at *
  have hul:u.length≤7000:=Nat.le_trans (Nat.le_mul_of_pos_right _ oM) hmu
  (refine Zy ?_;with_reducible repeat' first|intro _|apply aI)
  ·refine a58 (x:=s) (y:=u) rfl rfl rfl ?_
   (refine Zy ?_;intros)
   exact ih (i+1) _ _ ⟨s ++ u,by simp,rfl,by rw [List.length_append,hsl,Nat.mul_succ];omega,oM⟩ oM
  ·refine a58 (x:=s) (y:=a) rfl rfl rfl ?_
   have hs8:(s ++ a).length < 8000:=by rw [List.length_append];omega
   rw [← List.length_append]
   generalize s ++ a=t at *
   obtain ⟨o,e,p,hT,hTl⟩:=b4g L8 G4 t hs8
   refine i6 hk () (r:=.sl 2 (L8.map pg)) rfl .nil .nil fun _ _ _ _=>?_
   (refine Zq ?_;intros)
   refine i6 hr ⟨(L8,G4,t),a3h,hs8⟩ (r:=.t [.sl 7 (o.map G6),.a [.i .i64 e,.i .i64 p]]) hT (.k (.sl _ _ _ _ _ rfl aS) (.k (.s _ _ _ rfl a2i) j7)) .nil fun _ _ _ _=>?_
   (refine Zq ?_;intros)
   refine i6 hk () (r:=.sl 2 (L8.map pg)) rfl .nil .nil fun _ _ _ _=>?_
   (refine Zq ?_;intros)
   refine i6 h5 ⟨(L8,G4,t),a3h,hs8⟩ (r:=.t [.sl 7 (o.map G6),.a [.i .i64 e,.i .i64 p]]) hT (.k (.sl _ _ _ _ _ rfl aS) (.k (.s _ _ _ rfl a2i) j7)) .nil fun _ _ _ _=>?_
   (refine Zq ?_;intros)
   refine sIk ?_
   (refine Zq ?_;intros)
   refine sIk ?_
   (refine Zq ?_;with_reducible repeat' first|intro _|apply aI)
   ·refine i6 hsa ⟨(o,o),hTl,rfl⟩ (r:=.c (.b true)) rfl (.k (.sl _ _ _ _ _ (by simp) aS) (.k (.sl _ _ _ _ _ (by simp) aS) .nil)) .nil fun _ _ _ _=>?_
    (refine Zq ?_;intros)
    exact k9 ⟨.ret _ _ (.b _),.nil⟩
   ·rename_i hh
    exact absurd ⟨rfl,rfl,trivial⟩ hh
 ·intro c hc
  refine i6 hm ⟨(kind,5),Nat.zero_lt_succ _,by show 5 < 1000000;decide⟩ (r:=.c (.i .i64 (kind % (5:Nat)))) rfl j7 .nil fun _ _ _ _=>?_
  (refine Zy ?_;with_reducible repeat' first|intro _|apply aI)
  ·exact hc _ _ ⟨[97],[],[],40,rfl,rfl,dE,dE,dE,dE,dE⟩
  ·exact hc _ _ ⟨[97],[34],[34],200,rfl,rfl,dE,dE,dE,dE,dE⟩
  ·exact hc _ _ ⟨[49],[45],[],100,rfl,rfl,dE,dE,dE,dE,dE⟩
  ·exact hc _ _ ⟨[32],[],[],6000,rfl,rfl,dE,dE,dE,dE,dE⟩
  ·exact hc _ _ ⟨[97,32],[],[],100,rfl,rfl,dE,dE,dE,dE,dE⟩
end
end Go.Proofs.YtffaodopiifbkaaGreatDoor
