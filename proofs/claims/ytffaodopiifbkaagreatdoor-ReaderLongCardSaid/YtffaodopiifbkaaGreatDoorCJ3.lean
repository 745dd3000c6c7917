/- The reference's parser: objects. -/
import Derived.Test.YtffaodopiifbkaaGreatDoorCJ2
set_option linter.all false
namespace Go.Proofs.YtffaodopiifbkaaGreatDoor
open Go.Abs LQ
set_option maxRecDepth 100000
set_option maxHeartbeats 16000000
noncomputable section
mutual
/-- The place where the reading of an object ends, also where it fails. -/
def Z3 (L:List Pk) (cur:j0) (T:List y3) (d i:Nat):Nat :=
 if (T.getD i t0).kind=5∨(T.getD i t0).kind=6∨(T.getD i t0).kind=7 then i+1
 else if (T.getD i t0).kind=4∧d≤200∧i+1 < T.length then Z3 L cur T (d+1) (i+1)
 else if (T.getD i t0).kind=1∧d≤200∧i+1 < T.length then P2 L cur T (d+1) (i+1) true
 else i
termination_by 2 * (T.length - i)
decreasing_by all_goals omega
def P2 (L:List Pk) (cur:j0) (T:List y3) (d k:Nat) (e:Bool):Nat :=
 if (T.getD k t0).kind=2 then k+1
 else if (T.getD k t0).kind=3∧e=false∧k+1 < T.length then
  match v7 L cur T d (k+1) with
  | .ok (_,j)=>if (T.getD j t0).kind=2 then j+1 else j
  | .error _=>Z3 L cur T d (k+1)
 else
  match v7 L cur T d k with
  | .ok (_,j)=>if k < j∧j < T.length then P2 L cur T d j false else j
  | .error _=>Z3 L cur T d k
termination_by 2 * (T.length - k)+1
decreasing_by all_goals omega
end
def V5:Except (Int × Nat) (O × Nat)→t7
 | .ok (o,_)=>.ret (.t [.a o.g,v8 0 0])
 | .error (e,p)=>.ret (.t [.a O.no.g,v8 e p])
def O8 (k:Nat):Except (Int × Nat) (O × Nat)→Nat
 | .ok (_,j)=>j
 | .error _=>k
def a80:Sp where
 ι:=PoI
 A p:=[.p 0 0,.c (.i .i64 (p.1.2:Int))]
 B p:=[A5 p.1.1.1 p.1.1.2.1 p.1.1.2.2.1 p.1.1.2.2.2]
 R p:=V5 (v7 p.1.1.1 p.1.1.2.1 p.1.1.2.2.1 p.1.2 p.1.1.2.2.2)
 B' p:=[A5 p.1.1.1 p.1.1.2.1 p.1.1.2.2.1 (O8 (Z3 p.1.1.1 p.1.1.2.1 p.1.1.2.2.1 p.1.2 p.1.1.2.2.2) (v7 p.1.1.1 p.1.1.2.1 p.1.1.2.2.1 p.1.2 p.1.1.2.2.2))]
 inj i j vs bs hv kv h k:=by rw [b5t hv kv h k];exact ⟨rfl,rfl⟩
def c1a:Sp where
 ι:=PoI
 A p:=[.p 0 0,.c (.i .i64 (p.1.2:Int))]
 B p:=[A5 p.1.1.1 p.1.1.2.1 p.1.1.2.2.1 p.1.1.2.2.2]
 R p:=V5 (C5 p.1.1.1 p.1.1.2.1 p.1.1.2.2.1 p.1.2 p.1.1.2.2.2 [])
 B' p:=[A5 p.1.1.1 p.1.1.2.1 p.1.1.2.2.1 (O8 (P2 p.1.1.1 p.1.1.2.1 p.1.1.2.2.1 p.1.2 p.1.1.2.2.2 true) (C5 p.1.1.1 p.1.1.2.1 p.1.1.2.2.1 p.1.2 p.1.1.2.2.2 []))]
 inj i j vs bs hv kv h k:=by rw [b5t hv kv h k];exact ⟨rfl,rfl⟩
abbrev zV:V:=.agg [.int .i64 0,.str 0 0,.str 0 0,.str 0 0,.str 0 0,.str 0 0,.slice .nil 0 0 0 .no]
theorem a0p:RV (.a O.no.g) zV:=.ag _ _ (.k (.i _ _) (.k (.s _ _ _ rfl rfl) (.k (.s _ _ _ rfl rfl) (.k (.s _ _ _ rfl rfl) (.k (.s _ _ _ rfl rfl) (.k (.s _ _ _ rfl rfl) (.k (.cl _ _ _ _ _ rfl (.nil _ _ _)) .nil)))))))
theorem a5f {L:List Pk} {cur:j0} {T:List y3} (hT:a5u T):∀ n,(∀ d i e p,2 * (T.length - i) < n→i < T.length→v7 L cur T d i=.error (e,p)→e ≠ 0)∧(∀ d i acc e p,2 * (T.length - i)+1 < n→i < T.length→C5 L cur T d i acc=.error (e,p)→e ≠ 0)
 | 0=>⟨fun _ _ _ _ h=>absurd h (Nat.not_lt_zero _),fun _ _ _ _ _ h=>absurd h (Nat.not_lt_zero _)⟩
 | n+1=>by
  obtain ⟨ih1,ih2⟩:=a5f hT n
  have hlast:∀ {k},k < T.length→(T.getD k t0).kind ≠ 0→k+1 < T.length:=fun {k} hk h=>by
   rcases Nat.lt_or_ge (k+1) T.length with h3 | h3
   ·exact h3
   ·exact absurd (hT.last k oM) h
  constructor
  ·intro d i e p hn hi h
   rw [a73 hi] at h
   have hl:=hlast hi
   generalize T.getD i t0=t at *
   generalize y4 L (if t.pkg=[] then cur else t.pkg) t.text=r at h
   split at h
   ·injection h with h;injection h with h _;omega
   split at h
   ·injection h with h;injection h with h _;omega
   split at h
   ·cases h
   split at h
   ·cases h
   split at h
   ·split at h
    ·cases h
    ·injection h with h;injection h with h _;rw [← h];assumption
   have hi1:=hl ‹_›
   split at h
   ·injection h with h;injection h with h _;omega
   split at h
   ·split at h
    ·rename_i hx
     injection h with h
     rw [h] at hx
     exact ih1 _ _ _ _ oM hi1 hx
    ·cases h
   ·exact ih2 _ _ _ _ _ oM hi1 h
  ·intro d i acc e p hn hi h
   rw [b4f hi] at h
   have hl:=hlast hi
   generalize T.getD i t0=t at *
   split at h
   ·cases h
   split at h
   ·rename_i h3
    have hi1:=hl oM
    split at h
    ·rename_i hx
     injection h with h
     rw [h] at hx
     exact ih1 _ _ _ _ oM hi1 hx
    ·split at h
     ·cases h
     split at h
     ·injection h with h;injection h with h _;omega
     ·injection h with h;injection h with h _;omega
   ·split at h
    ·rename_i hx
     injection h with h
     rw [h] at hx
     exact ih1 _ _ _ _ oM hi hx
    ·rename_i x j hx
     have hj:=Y0 hT hx
     exact ih2 _ _ _ _ _ oM hj.2 h
theorem f12 (n:Nat) (ih1:l6 54 (a80.lt μO n)) (ih2:l6 92 (c1a.lt μL n)):l6 54 (a80.lt μO (n+1)):=o7 (fun fn h=>e9i h) [(53,_),(54,a80.lt μO n),(92,c1a.lt μL n),(72,_),(43,_),(46,_),(47,_),(91,_)] (.cons a4h (.cons ih1 (.cons ih2 (.cons e81 (.cons b7q (.cons d82 (.cons c06 (.cons c43 .nil)))))))) fun U fn hfn ⟨⟨((L,cur,T,i),d),⟨hL,hT,hi⟩,hd⟩,hn⟩ vs bs hv hb=>by
 have hbd:=hfn 53 _ rfl
 have ho:=hfn 54 _ rfl
 have hl:=hfn 92 _ rfl
 have ht:=hfn 72 _ rfl
 have hsy:=hfn 43 _ rfl
 have hls:=hfn 46 _ rfl
 have hli:=hfn 47 _ rfl
 have hin:=hfn 91 _ rfl
 have hL:L9 L:=hL
 have hT:a5u T:=hT
 have hi:i < T.length:=hi
 have hd:d≤i:=hd
 have hTl:=hT.len
 have hn:2 * (T.length - i) < n+1:=hn
 have hv:l8 [.p 0 0,.c (.i .i64 (d:Int))] vs:=hv
 have hb:RBs [[.l (L.map pg),.s cur,.l (T.map p9),.i .i64 (i:Int)]] bs:=hb
 show j3 U _ fun v bs'=>l7 (V5 (v7 L cur T d i)) v∧RBs [A5 L cur T (O8 (Z3 L cur T d i) (v7 L cur T d i))] bs'
 unfold r54
 have e0:=a73 (L:=L) (cur:=cur) (d:=d) hi
 have ea:=Z3.eq_1 L cur T d i
 have hgt:T.getD i t0=T[i]:=by simp [List.getD,List.getElem?_eq_getElem hi]
 have hok:OkT (T.getD i t0):=hT.ok _ (by rw [hgt];exact List.getElem_mem hi)
 have hkd:0≤(T.getD i t0).kind∧(T.getD i t0).kind≤7:=hT.kinds _ (by rw [hgt];exact List.getElem_mem hi)
 have hlast:(T.getD i t0).kind ≠ 0→i+1 < T.length:=fun h=>by
  rcases Nat.lt_or_ge (i+1) T.length with h3 | h3
  ·exact h3
  ·exact absurd (hT.last i oM) h
 have err:∀ {e:Int} {p k:Nat} {v0 v:V} {b:Bx},v7 L cur T d i=.error (e,p)→Z3 L cur T d i=k→RV (.a O.no.g) v0→RV (v8 e p) v→RB (A5 L cur T k) b→j3 U (some (.ret (.tuple [v0,v]),[b])) fun v bs'=>l7 (V5 (v7 L cur T d i)) v∧RBs [A5 L cur T (O8 (Z3 L cur T d i) (v7 L cur T d i))] bs':=fun {e p k v0 v b} he hk h0 h1 hb=>by
  rw [he,hk]
  exact k9 ⟨.ret _ _ (.t _ _ (.k h0 (.k h1 .nil))),.k hb .nil⟩
 have good:∀ {o:O} {j:Nat} {v0 v:V} {b:Bx},v7 L cur T d i=.ok (o,j)→RV (.a o.g) v0→RV (v8 0 0) v→RB (A5 L cur T j) b→j3 U (some (.ret (.tuple [v0,v]),[b])) fun v bs'=>l7 (V5 (v7 L cur T d i)) v∧RBs [A5 L cur T (O8 (Z3 L cur T d i) (v7 L cur T d i))] bs':=fun {o j v0 v b} he h0 h1 hb=>by
  rw [he]
  exact k9 ⟨.ret _ _ (.t _ _ (.k h0 (.k h1 .nil))),.k hb .nil⟩
 rw [hgt] at e0 ea hok hkd hlast
 (refine Zq ?_;intros)
 refine V9 aS a1a fun ta oa hta=>?_
 (refine Zq ?_;intros)
 refine V9 aS F7 fun tb ob htb=>?_
 (refine Zy ?_;with_reducible repeat' first|intro _|apply aI)
 all_goals generalize htk:T[i]=t at *
 ·have k0:t.kind=0:=‹_›
  rw [if_pos k0] at e0
  rw [if_neg oM,if_neg oM,if_neg oM] at ea
  refine i6 hbd (11,(t.pos:Int)) (r:=v8 11 t.pos) rfl (.k (.i _ _) (.k (.q _ _ aS) .nil)) .nil fun _ _ hv6 _=>?_
  have hv6:RV (.a [.i .i64 11,.i .i64 (t.pos:Int)]) _:=hv6
  (refine Zq ?_;intros)
  exact err e0 ea a0p (A3 11 t.pos aS) (pzC hta htb rfl)
 ·have k0:¬t.kind=0:=‹_›
  rw [if_neg k0] at e0
  have hi1:=hlast k0
  refine C9 (fun vs bs=>∃ (z:Bool) (x:Q) (v:V) (b0 b2 b3:Bx),vs=[.ptr 0 0,.int .i64 d,.ptr 1 0,.ptr 2 0,.ptr 3 0,.ptr 4 0,.q x,v]∧RG (.i .i64 t.kind) x∧RV (.c (.b z)) v∧bs=[b0,zOb,b2,b3,zOb]∧RB (A5 L cur T i) b0∧RB [.i .i64 0,.i .i64 0] b2∧RB (p9 t) b3∧(z=true↔t.kind=2∨t.kind=3)) ?_ ?_
  ·rintro _ _ ⟨z,x,v,b0,b2,b3,rfl,hx,hvz,rfl,hb0,hb2,hb3,hz⟩
   have hb0:RB [.l (L.map pg),.s cur,.l (T.map p9),.i .i64 (i:Int)] b0:=hb0
   have hb3:RB [.i .i64 t.kind,.i .i64 (t.pos:Int),.s t.pkg,.s t.text,.s t.den] b3:=hb3
   (refine Zy ?_;intros)
   refine I6 (.q _ _ hx) fun x hx=>?_
   (refine Zy ?_;with_reducible repeat' first|intro _|apply aI)
   ·have k23:=hz.1 ‹_›
    rw [if_pos k23] at e0
    rw [if_neg oM,if_neg oM,if_neg oM] at ea
    refine i6 hbd (12,(t.pos:Int)) (r:=v8 12 t.pos) rfl (.k (.i _ _) (.k (.q _ _ aS) .nil)) .nil fun _ _ hv6 _=>?_
    have hv6:RV (.a [.i .i64 12,.i .i64 (t.pos:Int)]) _:=hv6
    (refine Zy ?_;intros)
    exact err e0 ea a0p (A3 12 t.pos aS) (.opa _ _ _ rfl aS)
   all_goals
    have k23:¬(t.kind=2∨t.kind=3):=fun h=>‹¬z=true› (hz.2 h)
    rw [if_neg k23] at e0
   ·have k5:t.kind=5:=‹_›
    rw [if_pos k5] at e0
    obtain ⟨m,dd,e1,e2,hdd,_,_,_⟩:=hok.1 k5
    have eN:b4u t=.num m dd:=by unfold b4u;rw [e1,e2,x7,C4,Int.natAbs_natCast]
    rw [eN] at e0
    refine fun e=>good e0 (.ag _ _ (.k (.i _ _) (.k (.q _ _ (by rw [← e1];assumption)) (.k (.q _ _ (by rw [← e2];assumption)) (.k (.s _ _ _ rfl rfl) (.k (.s _ _ _ rfl rfl) (.k (.s _ _ _ rfl rfl) (.k (.cl _ _ _ _ _ rfl (.nil _ _ _)) .nil)))))))) (N8 0 0) (Z4 e aS oM) e
   ·have k5:¬t.kind=5:=‹_›
    have k7:t.kind=7:=‹_›
    rw [if_neg k5,if_pos k7] at e0
    refine i6 ht t.text (r:=.a (O.tx t.text).g) rfl (.k (.q _ _ aS) .nil) .nil fun _ _ hv2 _=>?_
    refine H4 hv2 (O.g_len _) fun _ _=>?_
    (refine Zy ?_;intros)
    exact fun e=>good e0 oV (N8 0 0) (Z4 e aS oM) e
   ·have k5:¬t.kind=5:=‹_›
    have k7:¬t.kind=7:=‹_›
    have k6:t.kind=6:=‹_›
    rw [if_neg k5,if_neg k7,if_pos k6] at e0
    rw [if_pos oM] at ea
    generalize hcd:(if t.pkg=[] then cur else t.pkg)=c at e0
    refine C9 (fun vs bs=>∃ v b0 b2 b3,vs=[.ptr 0 0,.ptr 1 0,.ptr 2 0,.ptr 3 0,.ptr 4 0,v]∧RV (.c (.s c)) v∧bs=[b0,zOb,b2,b3,zOb]∧RB (A5 L cur T (i+1)) b0∧RB [.i .i64 0,.i .i64 0] b2∧RB (p9 t) b3) ?_ ?_
    ·rintro _ _ ⟨v,b0,b2,b3,rfl,hvc,rfl,hb0,hb2,hb3⟩
     have hb0:RB [.l (L.map pg),.s cur,.l (T.map p9),.i .i64 ((i+1:Nat):Int)] b0:=hb0
     have hb3:RB [.i .i64 t.kind,.i .i64 (t.pos:Int),.s t.pkg,.s t.text,.s t.den] b3:=hb3
     (refine Zy ?_;intros)
     refine I6 hvc fun _ _=>?_
     (refine Zy ?_;intros)
     refine i6 hin ⟨(L,c,t.text),hL⟩ (r:=.t [.a (sg (y4 L c t.text).1),.c (.i .i64 (y4 L c t.text).2)]) rfl (.k (.slq _ _ _ aS (w8 a1a)) (.k (.q _ _ aS) (.k (.q _ _ aS) .nil))) .nil fun _ _ hv2 _=>?_
     generalize y4 L c t.text=r at *
     obtain ⟨sy,er⟩:=r
     have hv2:RV (.t [.a [.s sy.1,.s sy.2],.c (.i .i64 er)]) _:=hv2
     have e0:v7 L cur T d i=if er=0 then .ok (.sy sy,i+1) else .error (er,t.pos):=e0
     (refine Zy ?_;with_reducible repeat' first|intro _|apply aI)
     ·have her:er=0:=‹_›
      rw [if_pos her] at e0
      refine i6 hsy sy (r:=.a (O.sy sy).g) rfl (.k (.a _ _ _ rfl aS) .nil) .nil fun _ _ hv2 _=>?_
      refine H4 hv2 (O.g_len _) fun _ _=>?_
      (refine Zy ?_;intros)
      exact good e0 oV (N8 0 0) (.opa _ _ _ rfl aS)
     ·have her:¬er=0:=‹_›
      rw [if_neg her] at e0
      refine i6 hbd (er,(t.pos:Int)) (r:=v8 er t.pos) rfl (.k (.i _ _) (.k (.q _ _ aS) .nil)) .nil fun _ _ hv6 _=>?_
      have hv6:RV (.a [.i .i64 er,.i .i64 (t.pos:Int)]) _:=hv6
      (refine Zy ?_;intros)
      exact err e0 ea a0p (A3 er t.pos aS) (.opa _ _ _ rfl aS)
    ·intro cc hcc
     (refine Zy ?_;with_reducible repeat' first|intro _|apply aI)
     ·have hz:t.pkg=[]:=‹t.pkg=q8 0 0›
      rw [if_pos hz] at hcd
      subst hcd
      exact fun e=>hcc _ _ ⟨_,_,_,_,rfl,.q _ _ (by subst e;exact x4.at aS (by rfl)),rfl,Z4 e aS oM,.opa _ _ _ rfl aS,.opa _ _ _ rfl aS⟩ e
     ·have hz:¬t.pkg=[]:=‹¬t.pkg=q8 0 0›
      rw [if_neg hz] at hcd
      subst hcd
      exact fun e=>hcc _ _ ⟨_,_,_,_,rfl,.q _ _ aS,rfl,Z4 e aS oM,.opa _ _ _ rfl aS,.opa _ _ _ rfl aS⟩ e
   all_goals
    have k5:¬t.kind=5:=‹_›
    have k7:¬t.kind=7:=‹_›
    have k6:¬t.kind=6:=‹_›
    rw [if_neg k5,if_neg k7,if_neg k6] at e0
    rw [if_neg oM] at ea
   ·rw [if_pos oM] at e0
    rw [if_neg oM,if_neg oM] at ea
    refine i6 hbd (2,(t.pos:Int)) (r:=v8 2 t.pos) rfl (.k (.i _ _) (.k (.q _ _ aS) .nil)) .nil fun _ _ hv6 _=>?_
    have hv6:RV (.a [.i .i64 2,.i .i64 (t.pos:Int)]) _:=hv6
    (refine Zy ?_;intros)
    exact err e0 ea a0p (A3 2 t.pos aS) (.opa _ _ _ rfl aS)
   ·have k4:t.kind=4:=‹_›
    rw [if_neg oM,if_pos k4] at e0
    rw [if_pos ⟨k4,oM,hi1⟩] at ea
    cases hx:v7 L cur T (d+1) (i+1) with
    | error er =>
     obtain ⟨er,p⟩:=er
     rw [hx] at e0
     refine fun e=>i6 ho ⟨⟨((L,cur,T,i+1),d+1),⟨hL,hT,hi1⟩,by show d+1≤i+1;omega⟩,by show 2 * (T.length - (i+1)) < n;omega⟩ (r:=.t [.a O.no.g,v8 er p]) (by show V5 (v7 L cur T (d+1) (i+1))=_;rw [hx];rfl) (.k (.p _ _) (.k (S7 (show ((d+1:Nat):Int)=(d:Int)+1 by omega)) .nil)) (.k (Z4 (j:=i+1) e aS oM) .nil) (fun _ _ hv3 hb3=>?_) e
     have hv3:RV (.t [.a O.no.g,.a [.i .i64 er,.i .i64 (p:Int)]]) _:=hv3
     have hb3:RBs [A5 L cur T (O8 (Z3 L cur T (d+1) (i+1)) (v7 L cur T (d+1) (i+1)))] _:=hb3
     rw [hx] at hb3
     have hb3:RBs [[.l (L.map pg),.s cur,.l (T.map p9),.i .i64 ((Z3 L cur T (d+1) (i+1):Nat):Int)]] _:=hb3
     have h0:=(a5f hT _).1 (d+1) (i+1) er p (Nat.lt_succ_self _) hi1 hx
     (refine Zy ?_;intros)
     refine I6 aS fun _ _=>?_
     (refine Zy ?_;intros)
     refine I6 aS fun _ _=>?_
     (refine Zy ?_;intros)
     refine I6 aS fun _ _=>?_
     (refine Zy ?_;with_reducible repeat' first|intro _|apply aI)
     ·exact absurd ‹er=0› h0
     ·exact err e0 ea a0p (A3 er p aS) (a2l aS aS aS rfl)
    | ok oj =>
     obtain ⟨o,j⟩:=oj
     rw [hx] at e0
     refine fun e=>i6 ho ⟨⟨((L,cur,T,i+1),d+1),⟨hL,hT,hi1⟩,by show d+1≤i+1;omega⟩,by show 2 * (T.length - (i+1)) < n;omega⟩ (r:=.t [.a o.g,v8 0 0]) (by show V5 (v7 L cur T (d+1) (i+1))=_;rw [hx];rfl) (.k (.p _ _) (.k (S7 (show ((d+1:Nat):Int)=(d:Int)+1 by omega)) .nil)) (.k (Z4 (j:=i+1) e aS oM) .nil) (fun _ _ hv3 hb3=>?_) e
     have hv3:RV (.t [.a o.g,.a [.i .i64 0,.i .i64 0]]) _:=hv3
     have hb3:RBs [A5 L cur T (O8 (Z3 L cur T (d+1) (i+1)) (v7 L cur T (d+1) (i+1)))] _:=hb3
     rw [hx] at hb3
     have hb3:RBs [[.l (L.map pg),.s cur,.l (T.map p9),.i .i64 (j:Int)]] _:=hb3
     (refine Zy ?_;intros)
     refine H4 aS (O.g_len _) fun _ _=>?_
     (refine Zy ?_;intros)
     refine I6 aS fun _ _=>?_
     (refine Zy ?_;intros)
     refine I6 aS fun _ _=>?_
     (refine Zy ?_;intros)
     refine I6 aS fun _ _=>?_
     (refine Zy ?_;with_reducible repeat' first|intro _|apply aI)
     ·refine i6 hli ([113,117,111,116,101]:j0) (r:=.a (sg (y8,[113,117,111,116,101]))) rfl (.k (.s _ _ _ rfl dE) .nil) .nil fun _ _ hv4 _=>?_
      have hv4:RV (.a [.s y8,.s [113,117,111,116,101]]) _:=hv4
      (refine Zy ?_;intros)
      refine i6 hsy (y8,[113,117,111,116,101]) (r:=.a U4.g) rfl (.k (.a _ _ _ rfl aS) .nil) .nil fun _ _ hv5 _=>?_
      refine H4 hv5 (O.g_len _) fun _ _=>?_
      (refine Zy ?_;intros)
      have r1:=T0 (r:=U4.g) (by rw [O.g_len];decide) aS
      have r2:=T0 (r:=o.g) (by rw [O.g_len];decide) aS
      refine i6 hls ⟨[U4,o],by show 2 < 90000;decide⟩ (r:=.a (Q3 [U4,o]).g) rfl (.k (.sl _ _ _ _ _ rfl (.cons _ _ _ _ _ U4.g_len r1.1 r1.2 (.cons _ _ _ _ _ o.g_len r2.1 r2.2 (.nil _ _ _)))) .nil) .nil fun _ _ hv6 _=>?_
      refine H4 hv6 (O.g_len _) fun _ _=>?_
      (refine Zy ?_;intros)
      exact good e0 oV (A3 0 0 aS) (a2l aS aS aS rfl)
     ·exact absurd rfl ‹_›
   ·have k4:¬t.kind=4:=‹_›
    have k1:t.kind=1:=oM
    rw [if_neg oM,if_neg k4] at e0
    rw [if_neg oM,if_pos ⟨k1,oM,hi1⟩] at ea
    cases hx:C5 L cur T (d+1) (i+1) [] with
    | error er =>
     obtain ⟨er,p⟩:=er
     rw [hx] at e0
     refine fun e=>i6 hl ⟨⟨((L,cur,T,i+1),d+1),⟨hL,hT,hi1⟩,by show d+1≤i+1;omega⟩,by show 2 * (T.length - (i+1))+1 < n;omega⟩ (r:=.t [.a O.no.g,v8 er p]) (by show V5 (C5 L cur T (d+1) (i+1) [])=_;rw [hx];rfl) (.k (.p _ _) (.k (S7 (show ((d+1:Nat):Int)=(d:Int)+1 by omega)) .nil)) (.k (Z4 (j:=i+1) e aS oM) .nil) (fun _ _ hv3 hb3=>?_) e
     have hv3:RV (.t [.a O.no.g,.a [.i .i64 er,.i .i64 (p:Int)]]) _:=hv3
     have hb3:RBs [A5 L cur T (O8 (P2 L cur T (d+1) (i+1) true) (C5 L cur T (d+1) (i+1) []))] _:=hb3
     rw [hx] at hb3
     have hb3:RBs [[.l (L.map pg),.s cur,.l (T.map p9),.i .i64 ((P2 L cur T (d+1) (i+1) true:Nat):Int)]] _:=hb3
     (refine Zy ?_;intros)
     refine I6 aS fun _ _=>?_
     (refine Zy ?_;intros)
     refine I6 aS fun _ _=>?_
     (refine Zy ?_;intros)
     refine I6 aS fun _ _=>?_
     (refine Zy ?_;intros)
     exact err e0 ea (.a _ _ _ rfl aS) (A3 er p aS) (a2l aS aS aS rfl)
    | ok oj =>
     obtain ⟨o,j⟩:=oj
     rw [hx] at e0
     refine fun e=>i6 hl ⟨⟨((L,cur,T,i+1),d+1),⟨hL,hT,hi1⟩,by show d+1≤i+1;omega⟩,by show 2 * (T.length - (i+1))+1 < n;omega⟩ (r:=.t [.a o.g,v8 0 0]) (by show V5 (C5 L cur T (d+1) (i+1) [])=_;rw [hx];rfl) (.k (.p _ _) (.k (S7 (show ((d+1:Nat):Int)=(d:Int)+1 by omega)) .nil)) (.k (Z4 (j:=i+1) e aS oM) .nil) (fun _ _ hv3 hb3=>?_) e
     have hv3:RV (.t [.a o.g,.a [.i .i64 0,.i .i64 0]]) _:=hv3
     have hb3:RBs [A5 L cur T (O8 (P2 L cur T (d+1) (i+1) true) (C5 L cur T (d+1) (i+1) []))] _:=hb3
     rw [hx] at hb3
     have hb3:RBs [[.l (L.map pg),.s cur,.l (T.map p9),.i .i64 (j:Int)]] _:=hb3
     (refine Zy ?_;intros)
     refine H4 aS (O.g_len _) fun _ _=>?_
     (refine Zy ?_;intros)
     refine I6 aS fun _ _=>?_
     (refine Zy ?_;intros)
     refine I6 aS fun _ _=>?_
     (refine Zy ?_;intros)
     refine I6 aS fun _ _=>?_
     (refine Zy ?_;intros)
     exact good e0 oV (A3 0 0 aS) (a2l aS aS aS rfl)
  ·intro c hc
   (refine Zy ?_;with_reducible repeat' first|intro _|apply aI)
   ·exact hc _ _ ⟨true,_,_,_,_,_,rfl,aS,.kn _,rfl,pzC hta htb rfl,.cells _ _ (.k (.i _ _) (.k (.i _ _) .nil)),.opa _ _ _ rfl aS,by simp [‹t.kind=2›]⟩
   ·have k2:¬t.kind=2:=‹_›
    exact fun e=>hc _ _ ⟨decide (t.kind=3),_,_,_,_,_,rfl,aS,J3 (by subst e;rw [T8]),rfl,pzC hta htb rfl,.cells _ _ (.k (.i _ _) (.k (.i _ _) .nil)),.opa _ _ _ rfl aS,by simp [k2]⟩ e
theorem f1a (n:Nat) (ih1:l6 54 (a80.lt μO n)):l6 92 (c1a.lt μL (n+1)):=o7 (fun fn h=>e41 h) [(53,_),(54,a80.lt μO n),(84,_),(73,_)] (.cons a4h (.cons ih1 (.cons e92 (.cons d9c .nil)))) fun U fn hfn ⟨⟨((L,cur,T,i),d),⟨hL,hT,hi⟩,hd⟩,hn⟩ vs bs hv hb=>by
 have hbd:=hfn 53 _ rfl
 have ho:=hfn 54 _ rfl
 have hni:=hfn 84 _ rfl
 have hco:=hfn 73 _ rfl
 have hL:L9 L:=hL
 have hT:a5u T:=hT
 have hi:i < T.length:=hi
 have hd:d≤i:=hd
 have hTl:=hT.len
 have hn:2 * (T.length - i)+1 < n+1:=hn
 have hv:l8 [.p 0 0,.c (.i .i64 (d:Int))] vs:=hv
 have hb:RBs [[.l (L.map pg),.s cur,.l (T.map p9),.i .i64 (i:Int)]] bs:=hb
 show j3 U _ fun v bs'=>l7 (V5 (C5 L cur T d i [])) v∧RBs [A5 L cur T (O8 (P2 L cur T d i true) (C5 L cur T d i []))] bs'
 unfold r92
 have hlast:∀ {k},k < T.length→(T.getD k t0).kind ≠ 0→k+1 < T.length:=fun {k} hk h=>by
  rcases Nat.lt_or_ge (k+1) T.length with h3 | h3
  ·exact h3
  ·exact absurd (hT.last k oM) h
 have err:∀ {e:Int} {p k:Nat} {v0 v:V} {b:Bx},C5 L cur T d i []=.error (e,p)→P2 L cur T d i true=k→RV (.a O.no.g) v0→RV (v8 e p) v→RB (A5 L cur T k) b→j3 U (some (.ret (.tuple [v0,v]),[b])) fun v bs'=>l7 (V5 (C5 L cur T d i [])) v∧RBs [A5 L cur T (O8 (P2 L cur T d i true) (C5 L cur T d i []))] bs':=fun {e p k v0 v b} he hk h0 h1 hb=>by
  rw [he,hk]
  exact k9 ⟨.ret _ _ (.t _ _ (.k h0 (.k h1 .nil))),.k hb .nil⟩
 (refine Zq ?_;intros)
 refine V9 aS a1a fun ta oa hta=>?_
 (refine Zq ?_;intros)
 refine V9 aS F7 fun tb ob htb=>?_
 (refine Zq ?_;intros)
 refine i6 hni () (r:=.a R3.g) rfl .nil .nil fun _ _ hv1 _=>?_
 refine H4 hv1 (O.g_len _) fun _ hnil=>?_
 (refine Zy ?_;intros)
 refine C9 (fun vs bs=>∃ (k:Nat) (x:O) (acc:List O) (t:j9 Q) (b0 b2 b3:Bx),vs=[.ptr 0 0,.ptr 1 0,.ptr 2 0,.ptr 3 0,.slice t 7 0 acc.length (.tok 4)]∧bs=[b0,zOb,b2,b3,.tok acc.length 7]∧RB (A5 L cur T k) b0∧RB [.i .i64 0,.i .i64 0] b2∧RB x.g b3∧p5 7 (acc.map O.g) t 0∧k < T.length∧acc.length≤k∧C5 L cur T d i []=.ok (U1 acc x,k+1)) ?_ ?_
 ·rintro _ _ ⟨k,x,acc,t,b0,b2,b3,rfl,rfl,hb0,hb2,hb3,ht,hk,ha,he⟩
  have hb0:RB [.l (L.map pg),.s cur,.l (T.map p9),.i .i64 (k:Int)] b0:=hb0
  (refine Zy ?_;intros)
  refine X8 hb3 (O.g_len _) fun _ _=>?_
  (refine Zy ?_;intros)
  refine fun e=>C7 (fun (m:Nat) vs bs=>∃ (t:j9 Q) (i:Int) (b0 b2 b3:Bx),vs=[.ptr 1 0,.ptr 2 0,.slice t 7 0 acc.length (.tok 3),.ptr 4 0,.int .i64 i]∧bs=[b0,zOb,b2,.tok acc.length 7,b3]∧RB (A5 L cur T (k+1)) b0∧RB [.i .i64 0,.i .i64 0] b2∧RB (U1 (acc.drop m) x).g b3∧p5 7 (acc.map O.g) t 0∧i=m - 1∧m≤acc.length) (fun m=>m) acc.length
   ⟨_,_,_,_,_,rfl,rfl,Z4 e aS oM,.opa _ _ _ rfl aS,by rw [List.drop_length];exact .opa _ _ _ (O.g_len _).symm aS,ht,oM,Nat.le_refl _⟩ (by simp only [x8];omega) ?_ e
  rintro self m _ _ ⟨t,i',b0,b2,b3,rfl,rfl,hb0,hb2,hb3,ht,rfl,hm⟩ ih
  have hb0:RB [.l (L.map pg),.s cur,.l (T.map p9),.i .i64 ((k+1:Nat):Int)] b0:=hb0
  (refine Zy ?_;intros)
  refine X8 hb3 (O.g_len _) fun _ _=>?_
  (refine Zy ?_;with_reducible repeat' first|intro _|apply aI)
  ·refine b1r (y:=acc[m - 1]) aS (by rw [show ((m:Int) - 1).toNat=m - 1 by omega];exact List.getElem?_eq_getElem oM) fun _ _=>?_
   (refine Zy ?_;intros)
   refine i6 hco (acc[m - 1],U1 (acc.drop m) x) (r:=.a (O.co acc[m - 1] (U1 (acc.drop m) x)).g) rfl (.k oV oA) .nil fun _ _ hv2 _=>?_
   refine H4 hv2 (O.g_len _) fun _ _=>?_
   (refine Zy ?_;intros)
   refine ih (m - 1) _ _ ⟨_,_,_,_,_,rfl,rfl,.opa _ _ _ rfl aS,.opa _ _ _ rfl aS,?_,ht,oM,oM⟩ oM
   rw [b6f oM oM]
   exact .opa _ _ _ (O.g_len _).symm aS
  ·have em:m=0:=oM
   subst em
   rw [List.drop_zero] at *
   rw [he]
   exact k9 ⟨.ret _ _ (.t _ _ (.k oV (.k (N8 0 0) .nil))),.k (.opa _ _ _ rfl aS) .nil⟩
 ·intro c hc
  refine C7 (fun (k:Nat) vs bs=>∃ (acc:List O) (v:V) (b0 b2 b3:Bx),vs=[.ptr 0 0,.int .i64 d,.ptr 1 0,.ptr 2 0,.ptr 3 0,v]∧bs=[b0,zOb,b2,b3,.tok acc.length 7]∧RB (A5 L cur T k) b0∧RB [.i .i64 0,.i .i64 0] b2∧RB R3.g b3∧V4 4 7 (acc.map O.g) v∧i≤k∧k < T.length∧acc.length≤k∧C5 L cur T d i []=C5 L cur T d k acc∧P2 L cur T d i true=P2 L cur T d k acc.isEmpty) (fun k=>T.length - k) i
   ⟨[],_,_,_,_,rfl,rfl,pzC hta htb rfl,.cells _ _ (.k (.i _ _) (.k (.i _ _) .nil)),.opa _ _ _ (O.g_len _).symm aS,.b rfl,Nat.le_refl _,hi,Nat.zero_le _,rfl,rfl⟩ (by simp only [x8];omega) ?_
  rintro self k _ _ ⟨acc,v,b0,b2,b3,rfl,rfl,hb0,hb2,hb3,htk,hik,hk,hak,he,hat⟩ ih
  have hb0:RB [.l (L.map pg),.s cur,.l (T.map p9),.i .i64 (k:Int)] b0:=hb0
  have e0:=b4f (L:=L) (cur:=cur) (d:=d) (acc:=acc) hk
  have ea:=P2.eq_1 L cur T d k acc.isEmpty
  rw [← he] at e0
  rw [← hat] at ea
  have hlk:=hlast hk
  have hgt:T.getD k t0=T[k]:=by simp [List.getD,List.getElem?_eq_getElem hk]
  rw [hgt] at e0 ea hlk
  (refine Zy ?_;intros)
  refine D1 (f:=p9) aS (w8 F7) fun _ _ _=>?_
  refine b4n aS ?_
  (refine Zy ?_;with_reducible repeat' first|intro _|apply aI)
  ·have k2:T[k].kind=2:=‹_›
   rw [if_pos k2] at e0
   exact hc _ _ ⟨k,R3,acc,_,_,_,_,rfl,rfl,.opa _ _ _ rfl aS,.opa _ _ _ rfl aS,.opa _ _ _ (O.g_len _).symm aS,aS,hk,hak,e0⟩
  ·have k2:¬T[k].kind=2:=‹_›
   rw [if_neg k2] at e0 ea
   refine C9 (fun vs bs=>∃ (z:Bool) (t':j9 Q) (v:V) (b0 b2 b3:Bx),vs=[.ptr 0 0,.int .i64 d,.ptr 1 0,.ptr 2 0,.slice t' 7 0 acc.length (.tok 3),.ptr 4 0,v]∧RV (.c (.b z)) v∧bs=[b0,zOb,b2,.tok acc.length 7,b3]∧RB (A5 L cur T k) b0∧RB [.i .i64 0,.i .i64 0] b2∧RB R3.g b3∧p5 7 (acc.map O.g) t' 0∧(z=true↔T[k].kind=3∧acc ≠ [])) ?_ ?_
   ·rintro _ _ ⟨z,t',v,b0,b2,b3,rfl,hvz,rfl,hb0,hb2,hb3,ht',hz⟩
    have hb0:RB [.l (L.map pg),.s cur,.l (T.map p9),.i .i64 (k:Int)] b0:=hb0
    (refine Zy ?_;with_reducible repeat' first|intro _|apply aI)
    ·have hz1:=hz.1 ‹_›
     have hk1:=hlk oM
     rw [if_pos hz1] at e0
     rw [if_pos ⟨hz1.1,by simpa using hz1.2,hk1⟩] at ea
     cases hx:v7 L cur T d (k+1) with
     | error er =>
      obtain ⟨er,p⟩:=er
      rw [hx] at e0 ea
      have h0:=(a5f hT _).1 d (k+1) er p (Nat.lt_succ_self _) hk1 hx
      refine fun e=>i6 ho ⟨⟨((L,cur,T,k+1),d),⟨hL,hT,hk1⟩,by show d≤k+1;omega⟩,by show 2 * (T.length - (k+1)) < n;omega⟩ (r:=.t [.a O.no.g,v8 er p]) (by show V5 (v7 L cur T d (k+1))=_;rw [hx];rfl) (.k (.p _ _) (.k (.i _ _) .nil)) (.k (Z4 (j:=k+1) e aS oM) .nil) (fun _ _ hv3 hb3=>?_) e
      have hv3:RV (.t [.a O.no.g,.a [.i .i64 er,.i .i64 (p:Int)]]) _:=hv3
      have hb3:RBs [A5 L cur T (O8 (Z3 L cur T d (k+1)) (v7 L cur T d (k+1)))] _:=hb3
      rw [hx] at hb3
      have hb3:RBs [[.l (L.map pg),.s cur,.l (T.map p9),.i .i64 ((Z3 L cur T d (k+1):Nat):Int)]] _:=hb3
      (refine Zy ?_;intros)
      refine I6 aS fun _ _=>?_
      (refine Zy ?_;intros)
      refine I6 aS fun _ _=>?_
      (refine Zy ?_;intros)
      refine I6 aS fun _ _=>?_
      (refine Zy ?_;with_reducible repeat' first|intro _|apply aI)
      ·exact absurd ‹er=0› h0
      ·exact err e0 ea a0p (A3 er p aS) (a2l aS aS aS rfl)
     | ok oj =>
      obtain ⟨o,j⟩:=oj
      rw [hx] at e0 ea
      simp only [] at e0 ea
      have hj:=Y0 hT hx
      have hgj:T.getD j t0=T[j]:=by simp [List.getD,List.getElem?_eq_getElem hj.2]
      rw [hgj] at e0 ea
      refine fun e=>i6 ho ⟨⟨((L,cur,T,k+1),d),⟨hL,hT,hk1⟩,by show d≤k+1;omega⟩,by show 2 * (T.length - (k+1)) < n;omega⟩ (r:=.t [.a o.g,v8 0 0]) (by show V5 (v7 L cur T d (k+1))=_;rw [hx];rfl) (.k (.p _ _) (.k (.i _ _) .nil)) (.k (Z4 (j:=k+1) e aS oM) .nil) (fun _ _ hv3 hb3=>?_) e
      have hv3:RV (.t [.a o.g,.a [.i .i64 0,.i .i64 0]]) _:=hv3
      have hb3:RBs [A5 L cur T (O8 (Z3 L cur T d (k+1)) (v7 L cur T d (k+1)))] _:=hb3
      rw [hx] at hb3
      have hb3:RBs [[.l (L.map pg),.s cur,.l (T.map p9),.i .i64 (j:Int)]] _:=hb3
      (refine Zy ?_;intros)
      refine H4 aS (O.g_len _) fun _ _=>?_
      (refine Zy ?_;intros)
      refine I6 aS fun _ _=>?_
      (refine Zy ?_;intros)
      refine I6 aS fun _ _=>?_
      (refine Zy ?_;intros)
      refine I6 aS fun _ _=>?_
      (refine Zy ?_;with_reducible repeat' first|intro _|apply aI)
      ·refine D1 (f:=p9) aS (w8 F7) fun _ _ _=>?_
       (refine Zy ?_;with_reducible repeat' first|intro _|apply aI)
       ·have u2:T[j].kind=2:=‹_›
        rw [if_pos u2] at e0
        exact hc _ _ ⟨j,o,acc,_,_,_,_,rfl,rfl,a2l aS aS aS rfl,.opa _ _ _ rfl aS,.opa _ _ _ (O.g_len _).symm aS,aS,hj.2,oM,e0⟩
       ·have u2:¬T[j].kind=2:=‹_›
        have u0:T[j].kind=0:=‹_›
        rw [if_neg u2,if_pos u0] at e0
        rw [if_neg u2] at ea
        refine i6 hbd (11,(T[j].pos:Int)) (r:=v8 11 T[j].pos) rfl (.k (.i _ _) (.k (.q _ _ aS) .nil)) .nil fun _ _ hv6 _=>?_
        have hv6:RV (.a [.i .i64 11,.i .i64 (T[j].pos:Int)]) _:=hv6
        (refine Zy ?_;intros)
        exact err e0 ea a0p (A3 11 T[j].pos aS) (a2l aS aS aS rfl)
       ·have u2:¬T[j].kind=2:=‹_›
        have u0:¬T[j].kind=0:=‹_›
        rw [if_neg u2,if_neg u0] at e0
        rw [if_neg u2] at ea
        refine i6 hbd (12,(T[j].pos:Int)) (r:=v8 12 T[j].pos) rfl (.k (.i _ _) (.k (.q _ _ aS) .nil)) .nil fun _ _ hv6 _=>?_
        have hv6:RV (.a [.i .i64 12,.i .i64 (T[j].pos:Int)]) _:=hv6
        (refine Zy ?_;intros)
        exact err e0 ea a0p (A3 12 T[j].pos aS) (a2l aS aS aS rfl)
      ·exact absurd rfl ‹_›
    ·have hz0:¬(T[k].kind=3∧acc ≠ []):=fun h=>‹¬z=true› (hz.2 h)
     rw [if_neg hz0] at e0
     rw [if_neg (fun h=>hz0 ⟨h.1,by simpa using h.2.1⟩)] at ea
     cases hx:v7 L cur T d k with
     | error er =>
      obtain ⟨er,p⟩:=er
      rw [hx] at e0 ea
      have h0:=(a5f hT _).1 d k er p (Nat.lt_succ_self _) hk hx
      refine i6 ho ⟨⟨((L,cur,T,k),d),⟨hL,hT,hk⟩,by show d≤k;omega⟩,by show 2 * (T.length - k) < n;omega⟩ (r:=.t [.a O.no.g,v8 er p]) (by show V5 (v7 L cur T d k)=_;rw [hx];rfl) (.k (.p _ _) (.k (.i _ _) .nil)) (RB.bx aS rfl) (fun _ _ hv3 hb3=>?_)
      have hv3:RV (.t [.a O.no.g,.a [.i .i64 er,.i .i64 (p:Int)]]) _:=hv3
      have hb3:RBs [A5 L cur T (O8 (Z3 L cur T d k) (v7 L cur T d k))] _:=hb3
      rw [hx] at hb3
      have hb3:RBs [[.l (L.map pg),.s cur,.l (T.map p9),.i .i64 ((Z3 L cur T d k:Nat):Int)]] _:=hb3
      (refine Zy ?_;with_reducible repeat' first|intro _|apply aI)
      ·exact absurd ‹er=0› h0
      ·exact err e0 ea a0p (A3 er p aS) (.opa _ _ _ rfl aS)
     | ok oj =>
      obtain ⟨o,j⟩:=oj
      rw [hx] at e0 ea
      simp only [] at e0 ea
      have hj:=Y0 hT hx
      rw [if_pos hj] at ea
      refine i6 ho ⟨⟨((L,cur,T,k),d),⟨hL,hT,hk⟩,by show d≤k;omega⟩,by show 2 * (T.length - k) < n;omega⟩ (r:=.t [.a o.g,v8 0 0]) (by show V5 (v7 L cur T d k)=_;rw [hx];rfl) (.k (.p _ _) (.k (.i _ _) .nil)) (RB.bx aS rfl) (fun _ _ hv3 hb3=>?_)
      have hv3:RV (.t [.a o.g,.a [.i .i64 0,.i .i64 0]]) _:=hv3
      have hb3:RBs [A5 L cur T (O8 (Z3 L cur T d k) (v7 L cur T d k))] _:=hb3
      rw [hx] at hb3
      have hb3:RBs [[.l (L.map pg),.s cur,.l (T.map p9),.i .i64 (j:Int)]] _:=hb3
      (refine Zy ?_;intros)
      refine H4 aS (O.g_len _) fun _ _=>?_
      (refine Zy ?_;with_reducible repeat' first|intro _|apply aI)
      ·refine V8 (xs:=acc.map O.g) (r:=o.g) (n:=7) (off:=0) aS (fun _=>T0 (by rw [O.g_len];decide) aS) (O.g_len _) (by simp) (by simp;omega) fun _ ht2=>?_
       rw [show acc.map O.g ++ [o.g]=(acc ++ [o]).map O.g by simp] at ht2
       (refine Zy ?_;intros)
       exact ih j _ _ ⟨acc ++ [o],_,_,_,_,rfl,by rw [List.length_append];rfl,.opa _ _ _ rfl aS,.opa _ _ _ rfl aS,.opa _ _ _ (O.g_len _).symm aS,.a _ _ (by simp) ht2,oM,hj.2,by simp;omega,e0,by rw [ea];cases acc <;> rfl⟩ oM
      ·exact absurd rfl ‹_›
   ·intro c2 hc2
    (refine Zy ?_;intros)
    refine D1 (f:=p9) aS (w8 F7) fun _ _ _=>?_
    refine b4n aS ?_
    (refine Zy ?_;with_reducible repeat' first|intro _|apply aI)
    ·have k3:T[k].kind=3:=‹_›
     exact fun e=>hc2 _ _ ⟨decide (acc ≠ []),_,_,_,_,_,rfl,J3 (by subst e;rw [b0s,decide_eq_decide];cases acc <;> simp <;> omega),rfl,.opa _ _ _ rfl aS,.opa _ _ _ rfl aS,.opa _ _ _ (O.g_len _).symm aS,aS,by simp [k3]⟩ e
    ·have k3:¬T[k].kind=3:=‹_›
     exact hc2 _ _ ⟨false,_,_,_,_,_,rfl,.kn _,rfl,.opa _ _ _ rfl aS,.opa _ _ _ rfl aS,.opa _ _ _ (O.g_len _).symm aS,aS,by simp [k3]⟩
theorem c07:∀ n,l6 54 (a80.lt μO n)∧l6 92 (c1a.lt μL n)
 | 0=>⟨fun i=>absurd i.2 (Nat.not_lt_zero _),fun i=>absurd i.2 (Nat.not_lt_zero _)⟩
 | n+1=>⟨f12 n (c07 n).1 (c07 n).2,f1a n (c07 n).1⟩
theorem d86:l6 54 a80:=fun i=>(c07 (μO i+1)).1 ⟨i,Nat.lt_succ_self _⟩
end
end Go.Proofs.YtffaodopiifbkaaGreatDoor
