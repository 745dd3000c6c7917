/- The reference's evaluator: what it computes, and that it does. -/
import Derived.Test.YtkojildpddaccaaGreatDoorCJ2
set_option linter.all false
namespace Go.Proofs.YtkojildpddaccaaGreatDoor
open Go.Abs LQ
set_option maxRecDepth 100000
set_option maxHeartbeats 8000000
noncomputable section
abbrev Ro:=O × Int × Nat
abbrev Q1:=List (Sy × O)
def P4 (rec:T→Nat→Option Ro):List T→Nat→List O→Option ((Int × Nat) ⊕ (List O × Nat))
 | [],l,acc=>some (.inr (acc,l))
 | t :: ts,l,acc=>match rec t l with
  | none=>none
  | some r=>if r.2.1=0 then P4 rec ts r.2.2 (acc ++ [r.1]) else some (.inl (r.2.1,r.2.2))
def evI (rec:T→Nat→Option Ro):List T→Nat→Option Ro
 | [a,b,c],l=>match rec a l with
  | none=>none
  | some r=>if r.2.1=0 then (if O.eqb r.1 C8 then rec c r.2.2 else rec b r.2.2) else some r
 | _,_=>none
def c2g (L:List (List F)) (s:Sy):Int:=match K1 L s with
 | some f=>f.cl
 | none=>0
def K9 (L:List (List F)) (s:Sy):Option Int:=match D5 s with
 | some n=>some n
 | none=>(K1 L s).map fun f=>(f.ps.length:Int)
abbrev Ap:=Sy→List O→Option (O × Int)
def evC (ap:Ap) (L:List (List F)) (rec:T→Q1→Nat→Option Ro) (f:Sy) (xs:List T) (env:Q1) (l:Nat):Option Ro :=
 match P4 (fun t l=>rec t env l) xs l [] with
 | none=>none
 | some (.inl p)=>some (.no,p.1,p.2)
 | some (.inr p)=>match D5 f with
  | some _=>(ap f p.1).map fun q=>(q.1,q.2,p.2)
  | none=>match K1 L f with
   | some fn=>rec fn.bo (List.zip fn.ps p.1) p.2
   | none=>none
def P5 (ap:Ap) (L:List (List F)) (rec:T→Q1→Nat→Option Ro):T→Q1→Nat→Option Ro
 | .v s,env,l=>if 90000≤env.length then none else match O1 env s with
  | some o=>some (o,0,l)
  | none=>some (.no,6,l)
 | .c o,_,l=>some (o,0,l)
 | .call f xs,env,l =>
  if 90000≤xs.length then none else
  if l < 1 then some (.no,9,l) else match K9 L f with
  | none=>some (.no,7,l - 1)
  | some n=>if n=xs.length then
    (if (D5 f).isNone∧c2g L f ≠ 1 then some (.no,8,l - 1) else
     if isC (.call f xs) (o8 2 26217) 3 then evI (fun t l=>rec t env l) xs (l - 1) else evC ap L rec f xs env (l - 1))
   else some (.no,5,l - 1)
def H0 (ap:Ap) (L:List (List F)):Nat→T→Q1→Nat→Option Ro
 | 0=>fun _ _ _=>none
 | n+1=>P5 ap L (H0 ap L n)
theorem a9k {rec rec':T→Nat→Option Ro} (h:∀ t l r,rec t l=some r→rec' t l=some r):∀ {ts l acc r},P4 rec ts l acc=some r→P4 rec' ts l acc=some r
 | [],l,acc,r,e=>e
 | t :: ts,l,acc,r,e=>by
  rw [P4] at e ⊢
  cases k:rec t l with
  | none=>rw [k] at e;cases e
  | some q =>
   rw [k] at e
   rw [h _ _ _ k]
   simp only at e ⊢
   split at e
   ·rw [if_pos aS];exact a9k h e
   ·rw [if_neg aS];exact e
theorem d95 {rec rec':T→Nat→Option Ro} (h:∀ t l r,rec t l=some r→rec' t l=some r):∀ {ts l r},evI rec ts l=some r→evI rec' ts l=some r
 | [],_,_,e=>by cases e
 | [_],_,_,e=>by cases e
 | [_,_],_,_,e=>by cases e
 | _ :: _ :: _ :: _ :: _,_,_,e=>by cases e
 | [a,b,c],l,r,e=>by
  rw [evI] at e ⊢
  cases k:rec a l with
  | none=>rw [k] at e;cases e
  | some q =>
   rw [k] at e
   rw [h _ _ _ k]
   simp only at e ⊢
   split at e
   ·rename_i c1
    rw [if_pos c1]
    split at e
    ·rename_i c2;rw [if_pos c2];exact h _ _ _ e
    ·rename_i c2;rw [if_neg c2];exact h _ _ _ e
   ·rename_i c1;rw [if_neg c1];exact e
theorem d91 {ap:Ap} {L:List (List F)} {rec rec':T→Q1→Nat→Option Ro} (h:∀ t env l r,rec t env l=some r→rec' t env l=some r) {f xs env l r} (e:evC ap L rec f xs env l=some r):evC ap L rec' f xs env l=some r:=by
 unfold evC at e ⊢
 cases k:P4 (fun t l=>rec t env l) xs l [] with
 | none=>rw [k] at e;cases e
 | some q =>
  rw [k] at e
  rw [a9k (fun t l r=>h t env l r) k]
  cases q with
  | inl p=>exact e
  | inr p =>
   simp only at e ⊢
   split at e
   ·exact e
   ·split at e
    ·exact h _ _ _ _ e
    ·cases e
theorem d96 {ap:Ap} {L:List (List F)} {rec rec':T→Q1→Nat→Option Ro} (h:∀ t env l r,rec t env l=some r→rec' t env l=some r):∀ {t env l r},P5 ap L rec t env l=some r→P5 ap L rec' t env l=some r
 | .v s,env,l,r,e=>e
 | .c o,env,l,r,e=>e
 | .call f xs,env,l,r,e=>by
  rw [P5] at e ⊢
  split at e
  ·cases e
  ·rename_i c0
   rw [if_neg c0]
   split at e
   ·rename_i c1;rw [if_pos c1];exact e
   ·rename_i c1
    rw [if_neg c1]
    split at e
    ·exact e
    ·split at e
     ·rename_i c2
      rw [if_pos c2]
      split at e
      ·rename_i c3;rw [if_pos c3];exact e
      ·rename_i c3
       rw [if_neg c3]
       split at e
       ·rename_i c4;rw [if_pos c4];exact d95 (fun t l r=>h t env l r) e
       ·rename_i c4;rw [if_neg c4];exact d91 h e
     ·rename_i c2;rw [if_neg c2];exact e
theorem c3j {ap:Ap} {L:List (List F)}:∀ {n:Nat} {t env l r},H0 ap L n t env l=some r→H0 ap L (n+1) t env l=some r
 | 0,t,env,l,r,e=>by cases e
 | n+1,t,env,l,r,e=>d96 (fun _ _ _ _ k=>c3j k) e
theorem a1t {ap:Ap} {L:List (List F)} {n m:Nat} (h:n≤m) {t env l r} (e:H0 ap L n t env l=some r):H0 ap L m t env l=some r:=by
 induction h with
 | refl=>exact e
 | step _ ih=>exact c3j ih
theorem c7k {ap:Ap} {L:List (List F)} {n m:Nat} {t env l r r'} (h:H0 ap L n t env l=some r) (k:H0 ap L m t env l=some r'):r=r':=by
 rcases Nat.le_total n m with a | a
 ·have:=a1t a h;rw [this] at k;injection k
 ·have:=a1t a k;rw [h] at this;injection this
theorem b4h {rec:T→Nat→Option Ro} (h:∀ t l r,rec t l=some r→r.2.2≤l):∀ {ts l acc q},P4 rec ts l acc=some q→(match q with | .inl p=>p.2 | .inr p=>p.2)≤l
 | [],l,acc,q,e=>by rw [P4] at e;injection e with e;subst e;exact Nat.le_refl _
 | t :: ts,l,acc,q,e=>by
  rw [P4] at e
  cases k:rec t l with
  | none=>rw [k] at e;cases e
  | some r =>
   rw [k] at e
   have h1:=h _ _ _ k
   simp only at e
   split at e
   ·exact Nat.le_trans (b4h h e) h1
   ·injection e with e;subst e;exact h1
theorem d94 {rec:T→Nat→Option Ro} (h:∀ t l r,rec t l=some r→r.2.2≤l):∀ {ts l r},evI rec ts l=some r→r.2.2≤l
 | [],_,_,e=>by cases e
 | [_],_,_,e=>by cases e
 | [_,_],_,_,e=>by cases e
 | _ :: _ :: _ :: _ :: _,_,_,e=>by cases e
 | [a,b,c],l,r,e=>by
  rw [evI] at e
  cases k:rec a l with
  | none=>rw [k] at e;cases e
  | some q =>
   rw [k] at e
   have h1:=h _ _ _ k
   simp only at e
   split at e
   ·split at e
    ·exact Nat.le_trans (h _ _ _ e) h1
    ·exact Nat.le_trans (h _ _ _ e) h1
   ·injection e with e;subst e;exact h1
theorem d90 {ap:Ap} {L:List (List F)} {rec:T→Q1→Nat→Option Ro} (h:∀ t env l r,rec t env l=some r→r.2.2≤l) {f xs env l r} (e:evC ap L rec f xs env l=some r):r.2.2≤l:=by
 unfold evC at e
 cases k:P4 (fun t l=>rec t env l) xs l [] with
 | none=>rw [k] at e;cases e
 | some q =>
  rw [k] at e
  have h1:=b4h (fun t l r=>h t env l r) k
  cases q with
  | inl p=>injection e with e;subst e;exact h1
  | inr p =>
   simp only at e h1
   split at e
   ·cases k2:ap f p.1 with
    | none=>rw [k2] at e;cases e
    | some q=>rw [k2] at e;injection e with e;subst e;exact h1
   ·split at e
    ·exact Nat.le_trans (h _ _ _ _ e) h1
    ·cases e
theorem a02 {ap:Ap} {L:List (List F)}:∀ {n:Nat} {t env l r},H0 ap L n t env l=some r→r.2.2≤l
 | 0,_,_,_,_,e=>by cases e
 | n+1,.v s,env,l,r,e=>by
  change P5 ap L _ _ _ _=_ at e
  rw [P5] at e
  split at e
  ·cases e
  ·split at e <;> (injection e with e;subst e;exact Nat.le_refl _)
 | n+1,.c o,env,l,r,e=>by
  change P5 ap L _ _ _ _=_ at e
  rw [P5] at e
  injection e with e;subst e;exact Nat.le_refl _
 | n+1,.call f xs,env,l,r,e=>by
  change P5 ap L _ _ _ _=_ at e
  rw [P5] at e
  split at e
  ·cases e
  ·split at e
   ·injection e with e;subst e;exact Nat.le_refl _
   ·split at e
    ·injection e with e;subst e;exact Nat.sub_le _ _
    ·split at e
     ·split at e
      ·injection e with e;subst e;exact Nat.sub_le _ _
      ·split at e
       ·exact Nat.le_trans (d94 (fun t l r k=>a02 k) e) (Nat.sub_le _ _)
       ·exact Nat.le_trans (d90 (fun t env l r k=>a02 k) e) (Nat.sub_le _ _)
     ·injection e with e;subst e;exact Nat.sub_le _ _
theorem d3l {n:Nat} {xs:List (List G)} {v:V} (hv:RV (.c (.l xs)) v) (hne:xs ≠ []) (hn:∀ r ∈ xs,r.length=n):RV (.sl n xs) v:=by
 cases hv with
 | cl _ t n' off len h1 h2 =>
  cases xs with
  | nil=>exact absurd rfl hne
  | cons r rs =>
   have h3:=hn r List.mem_cons_self
   have h4:=h2.len r List.mem_cons_self
   have:n'=n:=h4.symm.trans h3
   subst this
   exact .sl _ _ _ _ _ h1 h2
 | q _ x hx=>exact .slq _ _ _ hx hn
theorem O0 {gs gs':List G} {q:Q} {k:Nat} (h:u3 gs q 0) (e:gs.take k=gs') (hk:k=gs'.length):RV (.a gs') (.a q k):=.a _ _ _ hk (e ▸ h.take k)
theorem rbW {w:List Et} {l:Nat} {t:s6 Q} {off:Nat} {n:Int} (h:u6 32 (w.map Et.g) t off) (hn:(l:Int)=n):s5 [[.l (w.map Et.g),.i .i64 l]] [.cells [.slice t 32 off w.length .no,.int .i64 n]] :=
 .k (.cells _ _ (.k (.cl _ _ _ _ _ (by simp) h) (.k (R6 hn) .nil))) .nil
theorem rbC {w:List Et} {l:Nat} {t:s6 Q} {off:Nat} {n:Int} (h:u6 32 (w.map Et.g) t off) (hn:(l:Int)=n):RB [.l (w.map Et.g),.i .i64 l] (.cells [.slice t 32 off w.length .no,.int .i64 n]) :=
 .cells _ _ (.k (.cl _ _ _ _ _ (by simp) h) (.k (R6 hn) .nil))
theorem a1z {w:List Et} {l:Nat} {x:Q} (h:u3 [.l (w.map Et.g),.i .i64 l] x 0):s5 [[.l (w.map Et.g),.i .i64 l]] [.opa x 2]:=.k (.opa _ _ _ rfl h) .nil
theorem a2q (e:Int):u0 (.ret (.t [.a O.no.g,.c (.i .i64 e)])) (.ret (.tuple [.agg [.int .i64 0,.str 0 0,.str 0 0,.str 0 0,.str 0 0,.str 0 0,.slice .nil 0 0 0 .no],.int .i64 e])) :=
 .ret _ _ (.t _ _ (.k (.ag _ _ (by (exact Zru))) (.k (.i _ _) .nil)))
theorem rrA {o:O} {x:Q} (h:u3 o.g x 0) (e:Int):u0 (.ret (.t [.a o.g,.c (.i .i64 e)])) (.ret (.tuple [.a x 7,.int .i64 e])) :=
 .ret _ _ (.t _ _ (.k (.a _ _ _ (O.g_len _).symm h) (.k (.i _ _) .nil)))
theorem F.body {f:F} {x:Q} (h:u3 (List.drop 15 f.g) x 0):u3 f.bo.g x 0:=by
 have e:List.take 11 (List.drop 15 f.g)=f.bo.g:=by
  have e1:List.drop 15 f.g=f.bo.g ++ f.mg:=by
   show List.drop 11 (f.gd.g ++ (f.bo.g ++ f.mg))=_
   rw [List.drop_append_of_le_length (by rw [T.g_len];omega),List.drop_of_length_le (by rw [T.g_len];omega),List.nil_append]
  rw [e1,List.take_append_of_le_length (by rw [T.g_len];omega),List.take_of_length_le (by rw [T.g_len];omega)]
 exact e ▸ h.take 11
structure Tx (ap:Ap) where
 w:Wd
 t:T
 env:Q1
 l:Nat
 n:Nat
 r:Ro
 h:H0 ap w.L n t env l=some r
 hw:w.1 ≠ []
 hl:l < 1000000000
def g0m (ap:Ap):Sp where
 ι:=Tx ap
 A x:=[.p 0 0,.a x.t.g,.sl 9 (x.env.map bd)]
 B x:=[[.l (x.w.1.map Et.g),.i .i64 x.l]]
 R x:=.ret (.t [.a x.r.1.g,.c (.i .i64 x.r.2.1)])
 B' x:=[[.l (x.w.1.map Et.g),.i .i64 x.r.2.2]]
 inj i j vs bs h k hb kb:=by
  obtain ⟨_,_,h1,k1,h,k⟩:=h.two k
  obtain ⟨_,_,h2,k2,h,k⟩:=h.two k
  obtain ⟨_,_,h3,k3,h,k⟩:=h.two k
  cases hb with
  | cons _ _ b bs h4 _ =>
   cases kb with
   | cons _ _ _ _ k4 _ =>
    have e4:=h4.inj k4
    simp only [List.cons.injEq,G.l.injEq,G.i.injEq] at e4
    have e1:=T.g_inj (h2.a_inj k2)
    have e2:=a6m (h3.sl_inj k3)
    have e5:i.w.L=j.w.L:=Z0 e4.1
    have e6:i.l=j.l:=oM
    have hr:i.r=j.r:=c7k (n:=i.n) (m:=j.n) i.h (by rw [e5,e1,e2,e6];exact j.h)
    rw [hr,e4.1];exact ⟨rfl,rfl⟩
def e34 (ap:Ap):Sp where
 ι:={ p:(Sy × List O) × (O × Int) // ap p.1.1 p.1.2=some p.2 }
 A p:=[.a (sg p.1.1.1),.sl 7 (p.1.1.2.map O.g)]
 B _:=[]
 R p:=.ret (.t [.a p.1.2.1.g,.c (.i .i64 p.1.2.2)])
 B' _:=[]
 inj i j vs bs h k _ _:=by
  obtain ⟨_,_,h1,k1,h,k⟩:=h.two k
  obtain ⟨_,_,h2,k2,h,k⟩:=h.two k
  have e1:=W3 (h1.a_inj k1)
  have e2:=a05 (h2.sl_inj k2)
  have e3:some i.1.2=some j.1.2:=by rw [← i.2,← j.2,e1,e2]
  injection e3 with e3
  rw [e3];exact ⟨rfl,rfl⟩
theorem g4g {ap:Ap} (hap:s9 91 (e34 ap)):s9 49 (g0m ap):=J4 (fun x=>x.n) fun n ih=>u2 (fun fn h=>f8g h) [(49,(g0m ap).lt (fun x=>x.n) n),(91,_),(92,_),(90,_),(89,_),(88,_),(87,_),(60,_),(86,_)]
  (.cons ih (.cons hap (.cons g32 (.cons e0m (.cons kIs (.cons b90 (.cons b8e (.cons c3w (.cons f6q .nil))))))))) fun U fn hfn ⟨⟨w,t,env,l,m,r,hr,hw,hlim⟩,hm⟩ vs bs hv hb=>by
 have hT:=hfn 49 _ rfl
 have hA:=hfn 91 _ rfl
 have hB:=hfn 92 _ rfl
 have hN:=hfn 90 _ rfl
 have hI:=hfn 89 _ rfl
 have hF:=hfn 88 _ rfl
 have hY:=hfn 87 _ rfl
 have hZ:=hfn 60 _ rfl
 have hV:=hfn 86 _ rfl
 have hm:m < n+1:=hm
 change t7 [.p 0 0,.a t.g,.sl 9 (env.map bd)] vs at hv
 change s5 [[.l (w.1.map Et.g),.i .i64 l]] bs at hb
 have hwm:w.1.map Et.g ≠ []:=by simpa using hw
 have hwn:∀ r ∈ w.1.map Et.g,r.length=32:=v6 Et.g_len
 show s4 U _ fun v bs'=>u0 (.ret (.t [.a r.1.g,.c (.i .i64 r.2.1)])) v∧s5 [[.l (w.1.map Et.g),.i .i64 r.2.2]] bs'
 obtain ⟨m,rfl⟩:∃ k,m=k+1:=by
  cases m with
  | zero=>cases hr
  | succ k=>exact ⟨k,rfl⟩
 have hr:P5 ap w.L (H0 ap w.L m) t env l=some r:=hr
 unfold r49
 cases t with
 | v s =>
  simp only [T.g] at hv
  rw [P5] at hr
  split at hr
  ·cases hr
  ·rename_i henv
   (refine Zz ?_;intros)
   refine a94 (d3l aS hwm hwn) fun _ _ _=>?_
   (refine Zz ?_;with_reducible repeat' first|intro _|apply aI)
   cases e:O1 env s with
   | none =>
    rw [e] at hr
    injection hr with hr
    subst hr
    refine o7 hV ⟨(env,s),by show env.length < 90000;omega⟩ (r:=.t [.a O.no.g,.c (.b false)]) (by show u9.ret (match O1 env s with | some o=>GV.t [.a o.g,.c (.b true)] | none=>.t [.a O.no.g,.c (.b false)])=_;rw [e]) (.cons _ _ _ _ u5 (.cons _ _ _ _ (O0 (gs:=List.drop 1 _) aS (by rfl) rfl) .nil)) .nil fun _ _ _ _=>?_
    (refine Zz ?_;intros)
    exact p9 ⟨a2q _,rbW aS rfl⟩
   | some o =>
    rw [e] at hr
    injection hr with hr
    subst hr
    refine o7 hV ⟨(env,s),by show env.length < 90000;omega⟩ (r:=.t [.a o.g,.c (.b true)]) (by show u9.ret (match O1 env s with | some o=>GV.t [.a o.g,.c (.b true)] | none=>.t [.a O.no.g,.c (.b false)])=_;rw [e]) (.cons _ _ _ _ u5 (.cons _ _ _ _ (O0 (gs:=List.drop 1 _) aS (by rfl) rfl) .nil)) .nil fun _ _ _ _=>?_
    (refine Zz ?_;intros)
    refine oR fun _ _=>?_
    (refine Zz ?_;intros)
    exact p9 ⟨rrA aS _,rbW aS rfl⟩
 | c o =>
  simp only [T.g] at hv
  rw [P5] at hr
  injection hr with hr
  subst hr
  (refine Zz ?_;intros)
  refine a94 (d3l aS hwm hwn) fun _ _ _=>?_
  (refine Zz ?_;intros)
  refine p9 ⟨rrA (Eq.mp ?_ (u3.take 7 (by assumption:u3 (List.drop 3 _) _ 0))) _,rbW aS rfl⟩
  rw [O.g_eq];rfl
 | call f xs =>
  simp only [T.g,T.gs_eq] at hv
  rw [P5] at hr
  split at hr
  ·cases hr
  rename_i hxs
  have hTg:(T.call f xs).g=[.i .i64 3,.s f.1,.s f.2,.i .i64 0,.s [],.s [],.s [],.s [],.s [],.l [],.l (xs.map T.g)]:=by simp only [T.g,T.gs_eq]
  (refine Zz ?_;intros)
  refine a94 (d3l aS hwm hwn) fun _ _ _=>?_
  (refine Zz ?_;with_reducible repeat' first|intro _|apply aI)
  ·rw [if_pos oM] at hr
   injection hr with hr
   subst hr
   exact p9 ⟨a2q _,rbW aS rfl⟩
  rw [if_neg oM] at hr
  have hl1:((l - 1:Nat):Int)=(l:Int) - 1:=oM
  cases e:K9 w.L f with
  | none =>
   rw [e] at hr
   injection hr with hr
   subst hr
   refine o7 hZ (w,f) (r:=.t [.c (.i .i64 0),.c (.b false)]) (by show u9.ret (V0 (K9 w.L f))=_;rw [e];rfl) (.k u5 (.k (O0 (gs:=List.drop 1 _) aS (by rfl) rfl) .nil)) .nil fun _ _ _ _=>?_
   (refine Zz ?_;intros)
   exact p9 ⟨a2q _,rbW aS hl1⟩
  | some k =>
   rw [e] at hr
   refine o7 hZ (w,f) (r:=.t [.c (.i .i64 k),.c (.b true)]) (by show u9.ret (V0 (K9 w.L f))=_;rw [e];rfl) (.k u5 (.k (O0 (gs:=List.drop 1 _) aS (by rfl) rfl) .nil)) .nil fun _ _ _ _=>?_
   (refine Zz ?_;intros)
   refine E5 aS (v6 T.g_len) fun _ _ _=>?_
   (refine Zz ?_;with_reducible repeat' first|intro _|apply aI)
   case some.right =>
    rename_i hk
    simp only at hr
    rw [if_neg hk] at hr
    injection hr with hr
    subst hr
    exact p9 ⟨a2q _,rbW aS hl1⟩
   rename_i hk _ _
   simp only at hr
   rw [if_pos hk] at hr
   cases ep:D5 f with
   | none =>
    have ef:(K1 w.L f).map (fun g=>(g.ps.length:Int))=some k:=by rw [K9,ep] at e;exact e
    cases eg:K1 w.L f with
    | none=>rw [eg] at ef;cases ef
    | some g =>
     rw [eg] at ef
     have ec:c2g w.L f=g.cl:=by rw [c2g,eg]
     rw [ep,ec] at hr
     simp only [Option.isNone_none,true_and] at hr
     refine o7 hY f (r:=.t [.c (.i .i64 0),.c (.b false)]) (by show u9.ret (V0 (D5 f))=_;rw [ep];rfl) (.k (O0 (gs:=List.drop 1 _) aS (by rfl) rfl) .nil) .nil fun _ _ _ _=>?_
     (refine Zz ?_;intros)
     refine o7 hF (w,f) (r:=.t [.a g.g,.c (.b true)]) (by show u9.ret (okF (K1 w.L f))=_;rw [eg];rfl) (.k u5 (.k (O0 (gs:=List.drop 1 _) aS (by rfl) rfl) .nil)) .nil fun _ _ _ _=>?_
     (refine Zz ?_;intros)
     refine C4 aS (by first | exact (F.g_len _).symm | exact F.g_len _) fun _ _=>?_
     (refine Zz ?_;intros)
     refine a32 (rbC aS hl1) rfl fun q hq=>?_
     (refine Zz ?_;with_reducible repeat' first|intro _|apply aI)
     case some.right =>
      rename_i hc
      rw [if_pos hc] at hr
      injection hr with hr
      subst hr
      exact p9 ⟨a2q _,a1z hq⟩
     rename_i hc _ _
     rw [if_neg (fun h=>h hc)] at hr
     have hIf:isC (.call f xs) (o8 2 26217) 3=false:=by
      rw [isC,decide_eq_false]
      ·rfl
      ·intro h
       rw [h] at ep
       cases ep
     rw [hIf] at hr
     simp only [Bool.false_eq_true,if_false] at hr
     refine o7 hI (.call f xs,o8 2 26217,3) (r:=.c (.b false)) (by show u9.ret (.c (.b (isC (.call f xs) (o8 2 26217) 3)))=_;rw [hIf]) (by show t7 [.a (T.call f xs).g,.c (.s (o8 2 26217)),.c (.i .i64 3)] _;rw [hTg];(exact u5)) .nil fun _ _ _ _=>?_
     (refine Zz ?_;intros)
     unfold evC at hr
     rw [ep,eg] at hr
     generalize hl2:l - 1=l2 at *
     cases eA:P4 (fun t l=>H0 ap w.L m t env l) xs l2 [] with
     | none=>rw [eA] at hr;cases hr
     | some R =>
     rw [eA] at hr
     refine F9 (fun (i:Nat) vs bs=>∃ (t:s6 Q) (off:Nat) (v:V) (l3:Nat) (acc:List O) (q q2 q3:Q),vs=[.ptr 0 0,.slice t 9 off env.length .no,.ptr 1 0,.ptr 2 0,.bool false,.ptr 3 0,.int .i64 i,v]∧bs=[.opa q 2,.opa q2 11,.cells [.int .i64 0,.str 0 0,.str 0 0,.str 0 0,.str 0 0,.str 0 0,.slice .nil 0 0 0 .exact],.opa q3 37,.tok acc.length 7]∧R7 4 7 (acc.map O.g) v∧u6 9 (env.map bd) t off∧u3 [.l (w.1.map Et.g),.i .i64 l3] q 0∧u3 [.i .i64 3,.s f.1,.s f.2,.i .i64 0,.s [],.s [],.s [],.s [],.s [],.l [],.l (xs.map T.g)] q2 0∧u3 g.g q3 0∧i≤xs.length∧acc.length=i∧l3≤l2∧P4 (fun t l=>H0 ap w.L m t env l) (xs.drop i) l3 acc=some R) (fun i=>xs.length - i) 0
      ⟨_,_,_,_,[],_,_,_,rfl,rfl,.b rfl,aS,hq,aS,aS,oM,rfl,oM,eA⟩ (by simp only [C9];omega) ?_
     rintro self i _ _ ⟨t,off,v,l3,acc,q,q2,q3,rfl,rfl,htk,ht,hq,hq2,hq3,hi,hac,hl3,he⟩ ihL
     (refine Zz ?_;intros)
     refine E5 aS (v6 T.g_len) fun _ _ _=>?_
     (refine Zz ?_;with_reducible repeat' first|intro _|apply aI)
     ·refine E5 aS (v6 T.g_len) fun _ _ _=>?_
      (refine Zz ?_;intros)
      have hix:i < xs.length:=oM
      rw [List.drop_eq_getElem_cons hix,P4] at he
      change (match H0 ap w.L m xs[i] env l3 with | none=>none | some r=>if r.2.1=0 then P4 (fun t l=>H0 ap w.L m t env l) (xs.drop (i+1)) r.2.2 (acc ++ [r.1]) else some (.inl (r.2.1,r.2.2)))=some R at he
      cases er:H0 ap w.L m xs[i] env l3 with
      | none=>rw [er] at he;cases he
      | some r1 =>
      rw [er] at he
      obtain ⟨o1,e1,l4⟩:=r1
      have hl4:l4≤l3:=a02 er
      simp only at he
      refine o7 hT ⟨⟨w,xs[i],env,l3,m,(o1,e1,l4),er,hw,oM⟩,by show m < n;omega⟩ (r:=.t [.a o1.g,.c (.i .i64 e1)]) rfl (.k (.p _ _) (.k (.a _ _ _ (T.g_len _).symm aS) (.k (.sl _ _ _ _ _ (by simp) ht) .nil))) (a1z hq) fun _ _ _ hb2=>?_
      change s5 [[.l (w.1.map Et.g),.i .i64 l4]] _ at hb2
      (refine Zz ?_;intros)
      refine oR fun _ _=>?_
      (refine Zz ?_;with_reducible repeat' first|intro _|apply aI)
      case some.right =>
       rename_i he1
       rw [if_neg he1] at he
       injection he with he
       subst he
       simp only at hr
       injection hr with hr
       subst hr
       exact p9 ⟨a2q _,a1z aS⟩
      rename_i he1 _ _
      rw [if_pos he1] at he
      refine N8 aS (r:=o1.g) (fun _=>Q9 (by rw [O.g_len];decide) aS) (O.g_len _) (by simp) (by simp only [List.length_map];omega) fun _ _=>?_
      (refine Zz ?_;intros)
      exact ihL (i+1) _ _ ⟨_,_,_,l4,acc ++ [o1],_,_,_,rfl,(by rw [List.length_append];rfl),.a _ _ (by simp) (by rw [List.map_append];assumption),ht,aS,hq2,hq3,oM,by simp [hac],oM,he⟩ oM
     ·have ei:i=xs.length:=oM
      rw [ei,List.drop_length,P4] at he
      injection he with he
      subst he
      simp only at hr
      have ef:(g.ps.length:Int)=k:=by injection ef
      refine o7 hB ⟨(g.ps,acc),by show g.ps.length < 90000;omega⟩ (r:=.sl 9 ((List.zip g.ps acc).map bd)) rfl (.k (.slq _ _ _ aS (v6 a8w)) (.k u5 .nil)) .nil fun _ _ _ _=>?_
      (refine Zz ?_;intros)
      refine o7 hT ⟨⟨w,g.bo,List.zip g.ps acc,l3,m,r,hr,hw,oM⟩,by show m < n;omega⟩ (r:=.t [.a r.1.g,.c (.i .i64 r.2.1)]) rfl (.k (.p _ _) (.k (.a _ _ _ (T.g_len _).symm (F.body aS)) (.k (.sl _ _ _ _ _ (by simp) aS) .nil))) (a1z hq) fun _ _ _ hb2=>?_
      change s5 [[.l (w.1.map Et.g),.i .i64 r.2.2]] _ at hb2
      (refine Zz ?_;intros)
      refine oR fun _ _=>?_
      (refine Zz ?_;with_reducible repeat' first|intro _|apply aI)
      all_goals exact p9 ⟨rrA aS _,a1z aS⟩
   | some n' =>
    have hns:(D5 f).isNone=false:=by rw [ep];rfl
    rw [hns] at hr
    simp only [Bool.false_eq_true,false_and,if_false] at hr
    obtain ⟨gs,b,hgs,hgl⟩:∃ gs b,okF (K1 w.L f)=.t [.a gs,.c (.b b)]∧gs.length=37:=by
     cases K1 w.L f with
     | none=>exact ⟨zF,false,rfl,rfl⟩
     | some g=>exact ⟨g.g,true,rfl,F.g_len g⟩
    refine o7 hY f (r:=.t [.c (.i .i64 n'),.c (.b true)]) (by show u9.ret (V0 (D5 f))=_;rw [ep];rfl) (.k (O0 (gs:=List.drop 1 _) aS (by rfl) rfl) .nil) .nil fun _ _ _ _=>?_
    (refine Zz ?_;intros)
    refine o7 hF (w,f) (r:=.t [.a gs,.c (.b b)]) (by show u9.ret (okF (K1 w.L f))=_;rw [hgs]) (.k u5 (.k (O0 (gs:=List.drop 1 _) aS (by rfl) rfl) .nil)) .nil fun _ _ _ _=>?_
    (refine Zz ?_;intros)
    refine C4 aS (by first | exact hgl | exact hgl.symm) fun _ _=>?_
    (refine Zz ?_;intros)
    refine a32 (rbC aS hl1) rfl fun q hq=>?_
    (refine Zz ?_;with_reducible repeat' first|intro _|apply aI)
    cases hIf:isC (.call f xs) (o8 2 26217) 3 with
    | true =>
     rw [hIf] at hr
     simp only [if_true] at hr
     refine o7 hI (.call f xs,o8 2 26217,3) (r:=.c (.b true)) (by show u9.ret (.c (.b (isC (.call f xs) (o8 2 26217) 3)))=_;rw [hIf]) (by show t7 [.a (T.call f xs).g,.c (.s (o8 2 26217)),.c (.i .i64 3)] _;rw [hTg];(exact u5)) .nil fun _ _ _ _=>?_
     have hx3:xs.length=3:=by
      rw [isC,Bool.and_eq_true] at hIf
      have:=of_decide_eq_true hIf.2
      omega
     obtain ⟨a,b',c,rfl⟩:∃ a b c,xs=[a,b,c]:=by
      match xs,hx3 with
      | [a,b,c],_=>exact ⟨a,b,c,rfl⟩
     (refine Zz ?_;intros)
     refine E5 aS (v6 T.g_len) fun _ _ _=>?_
     (refine Zz ?_;intros)
     rw [evI] at hr
     change (match H0 ap w.L m a env (l - 1) with | none=>none | some r=>if r.2.1=0 then (if O.eqb r.1 C8 then H0 ap w.L m c env r.2.2 else H0 ap w.L m b' env r.2.2) else some r)=some r at hr
     generalize hl2:l - 1=l2 at *
     cases er:H0 ap w.L m a env l2 with
     | none=>rw [er] at hr;cases hr
     | some r1 =>
     rw [er] at hr
     obtain ⟨o1,e1,l4⟩:=r1
     have hl4:l4≤l2:=a02 er
     simp only at hr
     refine o7 hT ⟨⟨w,a,env,l2,m,(o1,e1,l4),er,hw,oM⟩,by show m < n;omega⟩ (r:=.t [.a o1.g,.c (.i .i64 e1)]) rfl (.k (.p _ _) (.k (.a _ _ _ (T.g_len _).symm aS) (.k (.sl _ _ _ _ _ (by simp) aS) .nil))) (a1z aS) fun _ _ _ hb2=>?_
     change s5 [[.l (w.1.map Et.g),.i .i64 l4]] _ at hb2
     (refine Zz ?_;intros)
     refine oR fun _ _=>?_
     (refine Zz ?_;with_reducible repeat' first|intro _|apply aI)
     case some.right =>
      rw [if_neg (by assumption:¬e1=0)] at hr
      injection hr with hr
      subst hr
      exact p9 ⟨rrA aS _,a1z aS⟩
     rw [if_pos (by assumption:e1=0)] at hr
     cases en:O.eqb o1 C8 with
     | true =>
      rw [en] at hr
      simp only [if_true] at hr
      refine o7 hN o1 (r:=.c (.b true)) (by show u9.ret (.c (.b (O.eqb o1 C8)))=_;rw [en]) oA .nil fun _ _ _ _=>?_
      (refine Zz ?_;intros)
      refine E5 aS (v6 T.g_len) fun _ _ _=>?_
      (refine Zz ?_;intros)
      refine o7 hT ⟨⟨w,c,env,l4,m,r,hr,hw,oM⟩,by show m < n;omega⟩ (r:=.t [.a (r).1.g,.c (.i .i64 (r).2.1)]) rfl (.k (.p _ _) (.k (.a _ _ _ (T.g_len _).symm aS) (.k (.sl _ _ _ _ _ (by simp) aS) .nil))) (a1z aS) fun _ _ _ hb2=>?_
      change s5 [[.l (w.1.map Et.g),.i .i64 r.2.2]] _ at hb2
      (refine Zz ?_;intros)
      refine oR fun _ _=>?_
      (refine Zz ?_;intros)
      exact p9 ⟨rrA aS _,a1z aS⟩
     | false =>
      rw [en] at hr
      simp only [Bool.false_eq_true,if_false] at hr
      refine o7 hN o1 (r:=.c (.b false)) (by show u9.ret (.c (.b (O.eqb o1 C8)))=_;rw [en]) oA .nil fun _ _ _ _=>?_
      (refine Zz ?_;intros)
      refine E5 aS (v6 T.g_len) fun _ _ _=>?_
      (refine Zz ?_;intros)
      refine o7 hT ⟨⟨w,b',env,l4,m,r,hr,hw,oM⟩,by show m < n;omega⟩ (r:=.t [.a (r).1.g,.c (.i .i64 (r).2.1)]) rfl (.k (.p _ _) (.k (.a _ _ _ (T.g_len _).symm aS) (.k (.sl _ _ _ _ _ (by simp) aS) .nil))) (a1z aS) fun _ _ _ hb2=>?_
      change s5 [[.l (w.1.map Et.g),.i .i64 r.2.2]] _ at hb2
      (refine Zz ?_;intros)
      refine oR fun _ _=>?_
      (refine Zz ?_;intros)
      exact p9 ⟨rrA aS _,a1z aS⟩
    | false =>
     rw [hIf] at hr
     simp only [Bool.false_eq_true,if_false] at hr
     refine o7 hI (.call f xs,o8 2 26217,3) (r:=.c (.b false)) (by show u9.ret (.c (.b (isC (.call f xs) (o8 2 26217) 3)))=_;rw [hIf]) (by show t7 [.a (T.call f xs).g,.c (.s (o8 2 26217)),.c (.i .i64 3)] _;rw [hTg];(exact u5)) .nil fun _ _ _ _=>?_
     (refine Zz ?_;intros)
     unfold evC at hr
     rw [ep] at hr
     generalize hl2:l - 1=l2 at *
     cases eA:P4 (fun t l=>H0 ap w.L m t env l) xs l2 [] with
     | none=>rw [eA] at hr;cases hr
     | some R =>
     rw [eA] at hr
     refine F9 (fun (i:Nat) vs bs=>∃ (t:s6 Q) (off:Nat) (v:V) (l3:Nat) (acc:List O) (q q2 q3:Q),vs=[.ptr 0 0,.slice t 9 off env.length .no,.ptr 1 0,.ptr 2 0,.bool true,.ptr 3 0,.int .i64 i,v]∧bs=[.opa q 2,.opa q2 11,.cells [.int .i64 0,.str 0 0,.str 0 0,.str 0 0,.str 0 0,.str 0 0,.slice .nil 0 0 0 .exact],.opa q3 37,.tok acc.length 7]∧R7 4 7 (acc.map O.g) v∧u6 9 (env.map bd) t off∧u3 [.l (w.1.map Et.g),.i .i64 l3] q 0∧u3 [.i .i64 3,.s f.1,.s f.2,.i .i64 0,.s [],.s [],.s [],.s [],.s [],.l [],.l (xs.map T.g)] q2 0∧u3 gs q3 0∧i≤xs.length∧acc.length=i∧l3≤l2∧P4 (fun t l=>H0 ap w.L m t env l) (xs.drop i) l3 acc=some R) (fun i=>xs.length - i) 0
      ⟨_,_,_,_,[],_,_,_,rfl,rfl,.b rfl,aS,hq,aS,aS,oM,rfl,oM,eA⟩ (by simp only [C9];omega) ?_
     rintro self i _ _ ⟨t,off,v,l3,acc,q,q2,q3,rfl,rfl,htk,ht,hq,hq2,hq3,hi,hac,hl3,he⟩ ihL
     (refine Zz ?_;intros)
     refine E5 aS (v6 T.g_len) fun _ _ _=>?_
     (refine Zz ?_;with_reducible repeat' first|intro _|apply aI)
     ·refine E5 aS (v6 T.g_len) fun _ _ _=>?_
      (refine Zz ?_;intros)
      have hix:i < xs.length:=oM
      rw [List.drop_eq_getElem_cons hix,P4] at he
      change (match H0 ap w.L m xs[i] env l3 with | none=>none | some r=>if r.2.1=0 then P4 (fun t l=>H0 ap w.L m t env l) (xs.drop (i+1)) r.2.2 (acc ++ [r.1]) else some (.inl (r.2.1,r.2.2)))=some R at he
      cases er:H0 ap w.L m xs[i] env l3 with
      | none=>rw [er] at he;cases he
      | some r1 =>
      rw [er] at he
      obtain ⟨o1,e1,l4⟩:=r1
      have hl4:l4≤l3:=a02 er
      simp only at he
      refine o7 hT ⟨⟨w,xs[i],env,l3,m,(o1,e1,l4),er,hw,oM⟩,by show m < n;omega⟩ (r:=.t [.a o1.g,.c (.i .i64 e1)]) rfl (.k (.p _ _) (.k (.a _ _ _ (T.g_len _).symm aS) (.k (.sl _ _ _ _ _ (by simp) ht) .nil))) (a1z hq) fun _ _ _ hb2=>?_
      change s5 [[.l (w.1.map Et.g),.i .i64 l4]] _ at hb2
      (refine Zz ?_;intros)
      refine oR fun _ _=>?_
      (refine Zz ?_;with_reducible repeat' first|intro _|apply aI)
      case some.right =>
       rename_i he1
       rw [if_neg he1] at he
       injection he with he
       subst he
       simp only at hr
       injection hr with hr
       subst hr
       exact p9 ⟨a2q _,a1z aS⟩
      rename_i he1 _ _
      rw [if_pos he1] at he
      refine N8 aS (r:=o1.g) (fun _=>Q9 (by rw [O.g_len];decide) aS) (O.g_len _) (by simp) (by simp only [List.length_map];omega) fun _ _=>?_
      (refine Zz ?_;intros)
      exact ihL (i+1) _ _ ⟨_,_,_,l4,acc ++ [o1],_,_,_,rfl,(by rw [List.length_append];rfl),.a _ _ (by simp) (by rw [List.map_append];assumption),ht,aS,hq2,hq3,oM,by simp [hac],oM,he⟩ oM
     ·have ei:i=xs.length:=oM
      rw [ei,List.drop_length,P4] at he
      injection he with he
      subst he
      simp only at hr
      cases eP:ap f acc with
      | none=>rw [eP] at hr;cases hr
      | some pr =>
      rw [eP] at hr
      injection hr with hr
      subst hr
      refine o7 hA ⟨((f,acc),pr),eP⟩ (r:=.t [.a pr.1.g,.c (.i .i64 pr.2)]) rfl (.k (O0 (gs:=List.drop 1 _) aS (by rfl) rfl) (.k u5 .nil)) .nil fun _ _ _ _=>?_
      (refine Zz ?_;intros)
      refine oR fun _ _=>?_
      (refine Zz ?_;with_reducible repeat' first|intro _|apply aI)
      all_goals exact p9 ⟨rrA aS _,a1z aS⟩
set_option maxHeartbeats 4000000
def spI (g:Int→GV):Sp where
 ι:={ n:Int // -1000000000 < n∧n < 1000000000 }
 A n:=[.c (.i .i64 n.1)]
 B _:=[]
 R n:=.ret (g n.1)
 B' _:=[]
 inj i j vs bs h k _ _:=by
  obtain ⟨_,_,h1,k1,h,k⟩:=h.two k
  rw [(G.i.inj (h1.c_inj k1)).2];exact ⟨rfl,rfl⟩
abbrev a0j:=s9 94 (spI fun n=>.c (.s (p5 n)))
theorem c3y (hI:a0j):s9 51 (spI fun n=>.c (.s (p5 n))):=u2 (fun fn h=>d6r h) [(94,_)] (.cons hI .nil) fun U fn hfn ⟨n,hn⟩ vs bs hv hb=>by
 have hi:=hfn 94 _ rfl
 change t7 [.c (.i .i64 n)] vs at hv
 change s5 [] bs at hb
 show s4 U _ fun v bs'=>u0 (.ret (.c (.s (p5 n)))) v∧s5 [] bs'
 unfold r51
 (refine Zz ?_;intros)
 refine o7 hi ⟨n,hn⟩ (r:=.c (.s (p5 n))) rfl u5 .nil fun _ _ _ _=>?_
 (refine Zz ?_;intros)
 exact p9 ⟨.ret _ _ u5,.nil⟩
theorem c4z (n:Int):qn n 1=(n,1):=by
 unfold qn
 rw [if_neg dE]
 refine Prod.ext ?_ ?_
 ·show (if (n < 0)=((1:Int) < 0) then (1:Int) else -1) * ((n.natAbs / Nat.gcd n.natAbs 1:Nat):Int)=n
  rw [Nat.gcd_one_right,Nat.div_one]
  by_cases h:n < 0
  ·rw [if_neg (fun e=>absurd (e.mp h) dE)];omega
  ·rw [if_pos (propext ⟨fun k=>absurd k h,fun k=>absurd k dE⟩)];omega
 ·show (1:Int).natAbs / Nat.gcd n.natAbs 1=1
  rw [Nat.gcd_one_right];rfl
theorem V3 {n k:Nat} (h:n < 10 ^ k):(p7 n).length≤k:=by
 by_cases h0:n=0
 ·subst h0;rw [C5];simp
 ·have h1:=a76 n h0
  have h2:10 ^ ((p7 n).length - 1) < 10 ^ k:=Nat.lt_of_le_of_lt h1 h
  have h3:=(Nat.pow_lt_pow_iff_right (by decide:1 < 10)).1 h2
  omega
theorem O3 {n:Int} (h:-1000000000 < n∧n < 1000000000):(p5 n).length≤11:=by
 have h1:=P7 n
 have h2:=V3 (n:=n.natAbs) (k:=9) oM
 omega
theorem d0z:p8 [49]=1:=by
 show p8 Q6=1
 rw [← a3d];exact A7 1
theorem Z3 (n:Nat):p5 (n:Int)=s3 n:=by
 unfold p5
 rw [if_neg oM,Int.natAbs_natCast]
theorem c3z (hI:a0j):s9 27 (spI fun n=>.a (O.num n 1).g):=u2 (fun fn h=>d6h h) [(51,_),(50,_)] (.cons (c3y hI) (.cons Y8 .nil)) fun U fn hfn ⟨n,hn⟩ vs bs hv hb=>by
 have hi:=hfn 51 _ rfl
 have hr:=hfn 50 _ rfl
 change t7 [.c (.i .i64 n)] vs at hv
 change s5 [] bs at hb
 have hl:=O3 hn
 show s4 U _ fun v bs'=>u0 (.ret (.a (O.num n 1).g)) v∧s5 [] bs'
 unfold r27
 (refine Zz ?_;intros)
 refine o7 hi ⟨n,hn⟩ (r:=.c (.s (p5 n))) rfl u5 .nil fun _ _ _ _=>?_
 (refine Zz ?_;intros)
 refine o7 hr ⟨(p5 n,[49]),show (p5 n).length < 9000 by omega,show ([49]:u4).length < 9000 by decide⟩ (r:=.a (O.num n 1).g) (by show u9.ret (.a (L1 (qn (p8 (p5 n)) (p8 [49]))).g)=_;rw [v7,d0z,c4z];rfl) (.k u5 (.k (.s _ _ _ rfl rfl) .nil)) .nil fun _ _ _ _=>?_
 (refine Zz ?_;intros)
 exact p9 ⟨.ret _ _ oV,.nil⟩
def O.na:O→Int
 | .num n _=>n
 | _=>0
def O.da:O→Nat
 | .num _ d=>d
 | _=>1
theorem b8f (hI:a0j):s9 191 (spO fun a=>.a (O.num a.na a.da).g):=u2 (fun fn h=>f07 h) [(27,_)] (.cons (c3z hI) .nil) fun U fn hfn (a:O) vs bs hv hb=>by
 have hi:=hfn 27 _ rfl
 change t7 [.a a.g] vs at hv
 change s5 [] bs at hb
 show s4 U _ fun v bs'=>u0 (.ret (.a (O.num a.na a.da).g)) v∧s5 [] bs'
 unfold e2c
 rw [a.g_eq] at hv
 cases a with
 | num n d =>
  simp only [O.k,O.nu,O.de,O.sym,O.txt,O.ps] at hv
  (refine Zz ?_;intros)
  exact p9 ⟨.ret _ _ oV,.nil⟩
 | _ =>
  simp only [O.k,O.nu,O.de,O.sym,O.txt,O.ps] at hv
  (refine Zz ?_;intros)
  refine o7 hi ⟨0,dE⟩ (r:=.a (O.num 0 1).g) rfl u5 .nil fun _ _ _ _=>?_
  (refine Zz ?_;intros)
  exact p9 ⟨.ret _ _ oV,.nil⟩
def O.fx (a:O):Prop:=(p5 a.na).length < 2000∧(s3 a.da).length < 2000
def e37 (g:O→O→GV):Sp where
 ι:={ p:O × O // p.1.fx∧p.2.fx }
 A p:=[.a p.1.1.g,.a p.1.2.g]
 B _:=[]
 R p:=.ret (g p.1.1 p.1.2)
 B' _:=[]
 inj i j vs bs h k _ _:=by
  obtain ⟨_,_,h1,k1,h,k⟩:=h.two k
  obtain ⟨_,_,h2,k2,h,k⟩:=h.two k
  rw [O.g_inj (h1.a_inj k1),O.g_inj (h2.a_inj k2)];exact ⟨rfl,rfl⟩
def a6j (a b:O):Bool:=decide (a3w (a.na * b.da) (b.na * a.da) < 0)
theorem g38 (hI:a0j):s9 201 (e37 fun a b=>.c (.b (a6j a b))):=u2 (fun fn h=>f1h h) [(191,_),(242,_)] (.cons (b8f hI) (.cons d5m .nil)) fun U fn hfn ⟨(a,b),ha,hbx⟩ vs bs hv hb=>by
 have hf:=hfn 191 _ rfl
 have hc:=hfn 242 _ rfl
 change t7 [.a a.g,.a b.g] vs at hv
 change s5 [] bs at hb
 have ha:a.fx:=ha
 have hbx:b.fx:=hbx
 show s4 U _ fun v bs'=>u0 (.ret (.c (.b (a6j a b)))) v∧s5 [] bs'
 unfold e2m
 (refine Zz ?_;intros)
 refine oR fun _ _=>?_
 (refine Zz ?_;intros)
 refine oR fun _ _=>?_
 (refine Zz ?_;intros)
 refine o7 hf a (r:=.a (O.num a.na a.da).g) rfl oA .nil fun _ _ _ _=>?_
 (refine Zz ?_;intros)
 refine o7 hf b (r:=.a (O.num b.na b.da).g) rfl oA .nil fun _ _ _ _=>?_
 (refine Zz ?_;intros)
 refine o7 hc ⟨((a.na,a.da),(b.na,b.da)),Nat.lt_of_lt_of_le ha.1 dE,Nat.lt_of_lt_of_le ha.2 dE,Nat.lt_of_lt_of_le hbx.1 dE,Nat.lt_of_lt_of_le hbx.2 dE,trivial⟩ (r:=.c (.i .i64 (a3w (a.na * b.da) (b.na * a.da)))) rfl (.k oV oA) .nil fun _ _ _ _=>?_
 (refine Zz ?_;intros)
 refine E9 fun e=>?_
 subst e
 exact ⟨.ret _ _ (N7 (by rw [b73];rfl)),.nil⟩
def b48 (a b:O):O:=L1 (qn (a.na * b.da+b.na * a.da) (a.da * b.da))
theorem e8d (a b:Int):(p5 (a+b)).length≤(p5 a).length+(p5 b).length+4:=by
 have h1:=P7 (a+b)
 have h2:=N2 a
 have h3:=N2 b
 have h4:=D3 (a:=(a+b).natAbs) (b:=(a.natAbs+b.natAbs)) oM
 have h5:(p7 (a.natAbs+b.natAbs)).length≤(p7 a.natAbs).length+(p7 b.natAbs).length+2:=by
  rcases Nat.le_total a.natAbs b.natAbs with h | h
  ·have k:=D3 (a:=a.natAbs+b.natAbs) (b:=2 * b.natAbs) oM
   have k2:=N0 2 b.natAbs
   have k3:=V3 (n:=2) (k:=1) dE
   omega
  ·have k:=D3 (a:=a.natAbs+b.natAbs) (b:=2 * a.natAbs) oM
   have k2:=N0 2 a.natAbs
   have k3:=V3 (n:=2) (k:=1) dE
   omega
 omega
theorem g82 (hI:a0j):s9 199 (e37 fun a b=>.a (b48 a b).g):=u2 (fun fn h=>f1f h) [(191,_),(241,_),(240,_),(50,_)] (.cons (b8f hI) (.cons b1j (.cons g8n (.cons Y8 .nil)))) fun U fn hfn ⟨(a,b),ha,hbx⟩ vs bs hv hb=>by
 have hf:=hfn 191 _ rfl
 have hm:=hfn 241 _ rfl
 have hd:=hfn 240 _ rfl
 have hr:=hfn 50 _ rfl
 change t7 [.a a.g,.a b.g] vs at hv
 change s5 [] bs at hb
 have a1:(p5 a.na).length < 2000:=ha.1
 have a2:(s3 a.da).length < 2000:=ha.2
 have b1:(p5 b.na).length < 2000:=hbx.1
 have b2:(s3 b.da).length < 2000:=hbx.2
 have l1:=a4x a.na b.da
 have l2:=a4x b.na a.da
 have l3:=e8d (a.na * b.da) (b.na * a.da)
 have l4:(p5 ((a.da * b.da:Nat):Int)).length < 5000:=by
  have k:=a4x (a.da:Int) b.da
  rw [← Int.natCast_mul] at k
  have k2:(p5 (a.da:Int)).length≤(s3 a.da).length:=by rw [Z3];exact Nat.le_refl _
  omega
 show s4 U _ fun v bs'=>u0 (.ret (.a (b48 a b).g)) v∧s5 [] bs'
 unfold e2k
 (refine Zz ?_;intros)
 refine oR fun _ _=>?_
 (refine Zz ?_;intros)
 refine oR fun _ _=>?_
 (refine Zz ?_;intros)
 refine o7 hf a (r:=.a (O.num a.na a.da).g) rfl oA .nil fun _ _ _ _=>?_
 (refine Zz ?_;intros)
 refine o7 hf b (r:=.a (O.num b.na b.da).g) rfl oA .nil fun _ _ _ _=>?_
 (refine Zz ?_;intros)
 refine o7 hm ⟨(p5 a.na,s3 b.da),show (p5 a.na).length < 9000 by omega,show (s3 b.da).length < 9000 by omega⟩ (r:=.c (.s (p5 (a.na * b.da)))) (by show u9.ret (.c (.s (p5 (p8 (p5 a.na) * p8 (s3 b.da)))))=_;rw [v7,A7]) u5 .nil fun _ _ _ _=>?_
 (refine Zz ?_;intros)
 refine o7 hm ⟨(p5 b.na,s3 a.da),show (p5 b.na).length < 9000 by omega,show (s3 a.da).length < 9000 by omega⟩ (r:=.c (.s (p5 (b.na * a.da)))) (by show u9.ret (.c (.s (p5 (p8 (p5 b.na) * p8 (s3 a.da)))))=_;rw [v7,A7]) u5 .nil fun _ _ _ _=>?_
 (refine Zz ?_;intros)
 refine o7 hd ⟨(p5 (a.na * b.da),p5 (b.na * a.da)),show (p5 (a.na * b.da)).length < 9000 by omega,show (p5 (b.na * a.da)).length < 9000 by omega⟩ (r:=.c (.s (p5 (a.na * b.da+b.na * a.da)))) (by show u9.ret (.c (.s (p5 (p8 (p5 (a.na * b.da))+p8 (p5 (b.na * a.da))))))=_;rw [v7,v7]) u5 .nil fun _ _ _ _=>?_
 (refine Zz ?_;intros)
 refine o7 hm ⟨(s3 a.da,s3 b.da),show (s3 a.da).length < 9000 by omega,show (s3 b.da).length < 9000 by omega⟩ (r:=.c (.s (p5 (a.da * b.da:Nat)))) (by show u9.ret (.c (.s (p5 (p8 (s3 a.da) * p8 (s3 b.da)))))=_;rw [A7,A7,← Int.natCast_mul]) u5 .nil fun _ _ _ _=>?_
 (refine Zz ?_;intros)
 refine o7 hr ⟨(p5 (a.na * b.da+b.na * a.da),p5 (a.da * b.da:Nat)),show (p5 (a.na * b.da+b.na * a.da)).length < 9000 by omega,show (p5 (a.da * b.da:Nat)).length < 9000 by omega⟩ (r:=.a (b48 a b).g) (by show u9.ret (.a (L1 (qn (p8 (p5 (a.na * b.da+b.na * a.da))) (p8 (p5 (a.da * b.da:Nat))))).g)=_;rw [v7,v7,Int.natCast_mul];rfl) u5 .nil fun _ _ _ _=>?_
 (refine Zz ?_;intros)
 exact p9 ⟨.ret _ _ oV,.nil⟩
theorem G5 {U:B0} {P:H4→List Bx→Prop} {s:List UInt8} {l c:Nat} {x y:Om} (h:¬s=o8 l c) (k:s4 U y P):s4 U (U.cnd (U.sEq s.length (C6 s) l c) x y) P:=a93 a1c (fun n=>absurd n h) (fun _=>k)
instance (a:O):Decidable a.fx:=inferInstanceAs (Decidable (_∧_))
def h0s (s:u4) (a b:O):Option O :=
 if s=o8 5 465491554661 then some (G0 (O.eqb a b)) else
 if s=o8 4 1936617315 then some (.co a b) else
 if s=o8 8 3111276449750739298 then (if a.fx∧b.fx then some (b48 a b) else none) else
 if s=o8 1 60 then (if a.fx∧b.fx then some (G0 (a6j a b)) else none) else none
def d9o:O→O
 | .co x _=>x
 | _=>C8
def d9p:O→O
 | .co _ y=>y
 | _=>C8
def g85 (s:u4) (a:O):Option O :=
 if s=o8 3 7496035 then some (d9o a) else
 if s=o8 3 7496803 then some (d9p a) else
 if s=o8 5 482972954467 then some (G0 a.isCo) else
 if s=o8 8 8102650174351109737 then some (G0 a.isInt) else none
theorem b1x {U:B0} {P:H4→List Bx→Prop} {fn:FuncId→D8} {g:FuncId} {sp:Sp} (hg:Ans fn g sp) (i:sp.ι) {vs:List V} {bs:List Bx} {K:V→List Bx→Om} {Kp:V→Om} {r:GV} (hr:sp.R i=.ret r) (hv:U=CU→t7 (sp.A i) vs) (hb:s5 (sp.B i) bs)
  (hk:∀ v bs',RV r v→s5 (sp.B' i) bs'→s4 U (K v bs') P):s4 U (U.bind (fn g vs bs) K Kp) P:=fun e=>o7 hg i hr (hv e) hb hk e
theorem e9y (x:Int):(if (!decide (x < 0))=true then -(x.natAbs:Int) else (x.natAbs:Int))=-x:=by
 by_cases h:x < 0
 ·simp [h];omega
 ·simp [h];omega
theorem e9k:s9 237 (sp1 fun a=>.ret (.c (.s (p5 (-p8 a))))):=u2 (fun fn h=>f1t h) [(137,_),(140,_)] (.cons Z9 (.cons b2w .nil)) fun U fn hfn ⟨a,ha⟩ vs bs hv hb=>by
 have hd:=hfn 137 _ rfl
 have hx:=hfn 140 _ rfl
 have ha:a.length < 90000:=ha
 have hv:t7 [.c (.s a)] vs:=hv
 have hb:s5 [] bs:=hb
 show s4 U _ fun v bs'=>u0 (.ret (.c (.s (p5 (-p8 a))))) v∧s5 [] bs'
 have la:=M6 a
 unfold e2y
 (refine Zx ?_;intros)
 refine o7 hd ⟨a,oM⟩ (r:=.t [.c (.b (decide (p8 a < 0))),.sl 1 ((p7 (p8 a).natAbs).map dg)]) rfl u5 .nil fun _ _ _ _=>?_
 have l1:(p7 (p8 a).natAbs).length < 90000:=oM
 generalize p8 a=x at *
 (refine Zw ?_;intros)
 refine b1x hx ⟨(!decide (x < 0),p7 x.natAbs),l1,B3 _⟩ (r:=.c (.s (p5 (-x)))) ?_ (fun eU=>by subst eU;exact .k (N7 (by rw [b2j])) (.k (.sl _ _ _ _ _ (by simp) aS) .nil)) .nil fun _ _ _ _=>?_
 ·show u9.ret (.c (.s (J0 _ (val (p7 _)))))=_
  rw [C0,W4,e9y]
 ·(refine Zw ?_;intros)
  exact p9 ⟨.ret _ _ u5,.nil⟩
theorem e0x (n m:Int):(p5 (n * m)).length≤(p5 n).length+(p5 m).length+2:=by
 have h1:=P7 (n * m)
 have h2:=N0 n.natAbs m.natAbs
 have h3:=N2 n
 have h4:=N2 m
 rw [Int.natAbs_mul] at h1
 omega
def b24 (a b:O):O:=L1 (qn (a.na * b.na) (a.da * b.da))
theorem e0r (hI:a0j):s9 200 (e37 fun a b=>.a (b24 a b).g):=u2 (fun fn h=>f1g h) [(191,_),(241,_),(50,_)] (.cons (b8f hI) (.cons b1j (.cons Y8 .nil))) fun U fn hfn ⟨(a,b),ha,hbx⟩ vs bs hv hb=>by
 have hf:=hfn 191 _ rfl
 have hm:=hfn 241 _ rfl
 have hr:=hfn 50 _ rfl
 change t7 [.a a.g,.a b.g] vs at hv
 change s5 [] bs at hb
 have a1:(p5 a.na).length < 2000:=ha.1
 have a2:(s3 a.da).length < 2000:=ha.2
 have b1:(p5 b.na).length < 2000:=hbx.1
 have b2:(s3 b.da).length < 2000:=hbx.2
 have l1:=e0x a.na b.na
 have l4:(p5 ((a.da * b.da:Nat):Int)).length < 5000:=by
  have k:=a4x (a.da:Int) b.da
  rw [← Int.natCast_mul] at k
  have k2:(p5 (a.da:Int)).length≤(s3 a.da).length:=by rw [Z3];exact Nat.le_refl _
  have k3:(p5 (b.da:Int)).length≤(s3 b.da).length:=by rw [Z3];exact Nat.le_refl _
  omega
 show s4 U _ fun v bs'=>u0 (.ret (.a (b24 a b).g)) v∧s5 [] bs'
 unfold e2l
 (refine Zz ?_;intros)
 refine oR fun _ _=>?_
 (refine Zz ?_;intros)
 refine oR fun _ _=>?_
 (refine Zz ?_;intros)
 refine o7 hf a (r:=.a (O.num a.na a.da).g) rfl oA .nil fun _ _ _ _=>?_
 (refine Zz ?_;intros)
 refine o7 hf b (r:=.a (O.num b.na b.da).g) rfl oA .nil fun _ _ _ _=>?_
 (refine Zz ?_;intros)
 refine o7 hm ⟨(p5 a.na,p5 b.na),show (p5 a.na).length < 9000 by omega,show (p5 b.na).length < 9000 by omega⟩ (r:=.c (.s (p5 (a.na * b.na)))) (by show u9.ret (.c (.s (p5 (p8 (p5 a.na) * p8 (p5 b.na)))))=_;rw [v7,v7]) u5 .nil fun _ _ _ _=>?_
 (refine Zz ?_;intros)
 refine o7 hm ⟨(s3 a.da,s3 b.da),show (s3 a.da).length < 9000 by omega,show (s3 b.da).length < 9000 by omega⟩ (r:=.c (.s (p5 (a.da * b.da:Nat)))) (by show u9.ret (.c (.s (p5 (p8 (s3 a.da) * p8 (s3 b.da)))))=_;rw [A7,A7,← Int.natCast_mul]) u5 .nil fun _ _ _ _=>?_
 (refine Zz ?_;intros)
 refine o7 hr ⟨(p5 (a.na * b.na),p5 (a.da * b.da:Nat)),show (p5 (a.na * b.na)).length < 9000 by omega,show (p5 (a.da * b.da:Nat)).length < 9000 by omega⟩ (r:=.a (b24 a b).g) (by show u9.ret (.a (L1 (qn (p8 (p5 (a.na * b.na))) (p8 (p5 (a.da * b.da:Nat))))).g)=_;rw [v7,v7,Int.natCast_mul];rfl) u5 .nil fun _ _ _ _=>?_
 (refine Zz ?_;intros)
 exact p9 ⟨.ret _ _ oV,.nil⟩
def e7t (g:O→GV):Sp where
 ι:={ p:O // p.fx }
 A p:=[.a p.1.g]
 B _:=[]
 R p:=.ret (g p.1)
 B' _:=[]
 inj i j vs bs h k _ _:=by
  obtain ⟨_,_,h1,k1,h,k⟩:=h.two k
  rw [O.g_inj (h1.a_inj k1)];exact ⟨rfl,rfl⟩
def b8m (a:O):O:=L1 (qn (-a.na) a.da)
def b8t (a:O):O:=L1 (qn a.da a.na)
theorem d5n (hI:a0j):s9 194 (e7t fun a=>.a (b8m a).g):=u2 (fun fn h=>f1a h) [(191,_),(237,_),(50,_)] (.cons (b8f hI) (.cons e9k (.cons Y8 .nil))) fun U fn hfn ⟨a,ha⟩ vs bs hv hb=>by
 have hf:=hfn 191 _ rfl
 have hm:=hfn 237 _ rfl
 have hr:=hfn 50 _ rfl
 change t7 [.a a.g] vs at hv
 change s5 [] bs at hb
 have a1:(p5 a.na).length < 2000:=ha.1
 have a2:(s3 a.da).length < 2000:=ha.2
 have l1:(p5 (-a.na)).length < 5000:=by
  have h1:=P7 (-a.na)
  have h2:=N2 a.na
  rw [Int.natAbs_neg] at h1
  omega
 show s4 U _ fun v bs'=>u0 (.ret (.a (b8m a).g)) v∧s5 [] bs'
 unfold e2f
 (refine Zz ?_;intros)
 refine oR fun _ _=>?_
 (refine Zz ?_;intros)
 refine o7 hf a (r:=.a (O.num a.na a.da).g) rfl oA .nil fun _ _ _ _=>?_
 (refine Zz ?_;intros)
 refine o7 hm ⟨p5 a.na,show (p5 a.na).length < 90000 by omega⟩ (r:=.c (.s (p5 (-a.na)))) (by show u9.ret (.c (.s (p5 (-p8 (p5 a.na)))))=_;rw [v7]) u5 .nil fun _ _ _ _=>?_
 (refine Zz ?_;intros)
 refine o7 hr ⟨(p5 (-a.na),s3 a.da),show (p5 (-a.na)).length < 9000 by omega,show (s3 a.da).length < 9000 by omega⟩ (r:=.a (b8m a).g) (by show u9.ret (.a (L1 (qn (p8 (p5 (-a.na))) (p8 (s3 a.da)))).g)=_;rw [v7,A7];rfl) u5 .nil fun _ _ _ _=>?_
 (refine Zz ?_;intros)
 exact p9 ⟨.ret _ _ oV,.nil⟩
theorem c6c (hI:a0j):s9 195 (e7t fun a=>.a (b8t a).g):=u2 (fun fn h=>f1b h) [(191,_),(50,_)] (.cons (b8f hI) (.cons Y8 .nil)) fun U fn hfn ⟨a,ha⟩ vs bs hv hb=>by
 have hf:=hfn 191 _ rfl
 have hr:=hfn 50 _ rfl
 change t7 [.a a.g] vs at hv
 change s5 [] bs at hb
 have a1:(p5 a.na).length < 2000:=ha.1
 have a2:(s3 a.da).length < 2000:=ha.2
 show s4 U _ fun v bs'=>u0 (.ret (.a (b8t a).g)) v∧s5 [] bs'
 unfold e2g
 (refine Zz ?_;intros)
 refine oR fun _ _=>?_
 (refine Zz ?_;intros)
 refine o7 hf a (r:=.a (O.num a.na a.da).g) rfl oA .nil fun _ _ _ _=>?_
 (refine Zz ?_;intros)
 refine o7 hr ⟨(s3 a.da,p5 a.na),show (s3 a.da).length < 9000 by omega,show (p5 a.na).length < 9000 by omega⟩ (r:=.a (b8t a).g) (by show u9.ret (.a (L1 (qn (p8 (s3 a.da)) (p8 (p5 a.na)))).g)=_;rw [v7,A7];rfl) u5 .nil fun _ _ _ _=>?_
 (refine Zz ?_;intros)
 exact p9 ⟨.ret _ _ oV,.nil⟩
end
end Go.Proofs.YtkojildpddaccaaGreatDoor
