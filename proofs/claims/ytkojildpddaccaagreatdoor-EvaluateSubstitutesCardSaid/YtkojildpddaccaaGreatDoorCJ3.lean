/- The reference's evaluator: what it computes, and that it does. -/
import Derived.Test.YtkojildpddaccaaGreatDoorCJ2
set_option linter.all false
namespace Go.Proofs.YtkojildpddaccaaGreatDoor
open Go.Abs LQ
set_option maxRecDepth 100000
set_option maxHeartbeats 8000000
noncomputable section
abbrev Ro:=O × Int × Nat
abbrev M7:=List (Sy × O)
def R3 (rec:T→Nat→Option Ro):List T→Nat→List O→Option ((Int × Nat) ⊕ (List O × Nat))
 | [],l,acc=>some (.inr (acc,l))
 | t :: ts,l,acc=>match rec t l with
  | none=>none
  | some r=>if r.2.1=0 then R3 rec ts r.2.2 (acc ++ [r.1]) else some (.inl (r.2.1,r.2.2))
def evI (rec:T→Nat→Option Ro):List T→Nat→Option Ro
 | [a,b,c],l=>match rec a l with
  | none=>none
  | some r=>if r.2.1=0 then (if O.eqb r.1 F6 then rec c r.2.2 else rec b r.2.2) else some r
 | _,_=>none
def c5h (L:List (List F)) (s:Sy):Int:=match L9 L s with
 | some f=>f.cl
 | none=>0
def U9 (L:List (List F)) (s:Sy):Option Int:=match D7 s with
 | some n=>some n
 | none=>(L9 L s).map fun f=>(f.ps.length:Int)
abbrev Ap:=Sy→List O→Option (O × Int)
def evC (ap:Ap) (L:List (List F)) (rec:T→M7→Nat→Option Ro) (f:Sy) (xs:List T) (env:M7) (l:Nat):Option Ro :=
 match R3 (fun t l=>rec t env l) xs l [] with
 | none=>none
 | some (.inl p)=>some (.no,p.1,p.2)
 | some (.inr p)=>match D7 f with
  | some _=>(ap f p.1).map fun q=>(q.1,q.2,p.2)
  | none=>match L9 L f with
   | some fn=>rec fn.bo (List.zip fn.ps p.1) p.2
   | none=>none
def N9 (ap:Ap) (L:List (List F)) (rec:T→M7→Nat→Option Ro):T→M7→Nat→Option Ro
 | .v s,env,l=>if 90000≤env.length then none else match Z0 env s with
  | some o=>some (o,0,l)
  | none=>some (.no,6,l)
 | .c o,_,l=>some (o,0,l)
 | .call f xs,env,l =>
  if 90000≤xs.length then none else
  if l < 1 then some (.no,9,l) else match U9 L f with
  | none=>some (.no,7,l - 1)
  | some n=>if n=xs.length then
    (if (D7 f).isNone∧c5h L f ≠ 1 then some (.no,8,l - 1) else
     if isC (.call f xs) (s5 2 26217) 3 then evI (fun t l=>rec t env l) xs (l - 1) else evC ap L rec f xs env (l - 1))
   else some (.no,5,l - 1)
def H1 (ap:Ap) (L:List (List F)):Nat→T→M7→Nat→Option Ro
 | 0=>fun _ _ _=>none
 | n+1=>N9 ap L (H1 ap L n)
theorem b0u {rec rec':T→Nat→Option Ro} (h:∀ t l r,rec t l=some r→rec' t l=some r):∀ {ts l acc r},R3 rec ts l acc=some r→R3 rec' ts l acc=some r
 | [],l,acc,r,e=>e
 | t :: ts,l,acc,r,e=>by
  rw [R3] at e ⊢;cases k:rec t l with
  | none=>rw [k] at e;cases e
  | some q =>
   rw [k] at e;rw [h _ _ _ k];simp only at e ⊢;split at e
   ·rw [if_pos aS];exact b0u h e
   ·rw [if_neg aS];exact e
theorem e1u {rec rec':T→Nat→Option Ro} (h:∀ t l r,rec t l=some r→rec' t l=some r):∀ {ts l r},evI rec ts l=some r→evI rec' ts l=some r
 | [],_,_,e=>by cases e
 | [_],_,_,e=>by cases e
 | [_,_],_,_,e=>by cases e
 | _ :: _ :: _ :: _ :: _,_,_,e=>by cases e
 | [a,b,c],l,r,e=>by
  rw [evI] at e ⊢;cases k:rec a l with
  | none=>rw [k] at e;cases e
  | some q =>
   rw [k] at e;rw [h _ _ _ k];simp only at e ⊢;split at e
   ·rename_i c1;rw [if_pos c1];split at e
    ·rename_i c2;rw [if_pos c2];exact h _ _ _ e
    ·rename_i c2;rw [if_neg c2];exact h _ _ _ e
   ·rename_i c1;rw [if_neg c1];exact e
theorem e1q {ap:Ap} {L:List (List F)} {rec rec':T→M7→Nat→Option Ro} (h:∀ t env l r,rec t env l=some r→rec' t env l=some r) {f xs env l r} (e:evC ap L rec f xs env l=some r):evC ap L rec' f xs env l=some r:=by
 unfold evC at e ⊢;cases k:R3 (fun t l=>rec t env l) xs l [] with
 | none=>rw [k] at e;cases e
 | some q =>
  rw [k] at e;rw [b0u (fun t l r=>h t env l r) k];cases q with
  | inl p=>exact e
  | inr p =>
   simp only at e ⊢;split at e
   ·exact e
   ·split at e
    ·exact h _ _ _ _ e
    ·cases e
theorem e1v {ap:Ap} {L:List (List F)} {rec rec':T→M7→Nat→Option Ro} (h:∀ t env l r,rec t env l=some r→rec' t env l=some r):∀ {t env l r},N9 ap L rec t env l=some r→N9 ap L rec' t env l=some r
 | .v s,env,l,r,e=>e
 | .c o,env,l,r,e=>e
 | .call f xs,env,l,r,e=>by
  rw [N9] at e ⊢;split at e
  ·cases e
  ·rename_i c0;rw [if_neg c0];split at e
   ·rename_i c1;rw [if_pos c1];exact e
   ·rename_i c1;rw [if_neg c1];split at e
    ·exact e
    ·split at e
     ·rename_i c2;rw [if_pos c2];split at e
      ·rename_i c3;rw [if_pos c3];exact e
      ·rename_i c3;rw [if_neg c3];split at e
       ·rename_i c4;rw [if_pos c4];exact e1u (fun t l r=>h t env l r) e
       ·rename_i c4;rw [if_neg c4];exact e1q h e
     ·rename_i c2;rw [if_neg c2];exact e
theorem c6o {ap:Ap} {L:List (List F)}:∀ {n:Nat} {t env l r},H1 ap L n t env l=some r→H1 ap L (n+1) t env l=some r
 | 0,t,env,l,r,e=>by cases e
 | n+1,t,env,l,r,e=>e1v (fun _ _ _ _ k=>c6o k) e
theorem a2q {ap:Ap} {L:List (List F)} {n m:Nat} (h:n≤m) {t env l r} (e:H1 ap L n t env l=some r):H1 ap L m t env l=some r:=by
 induction h with
 | refl=>exact e
 | step _ ih=>exact c6o ih
theorem c0r {ap:Ap} {L:List (List F)} {n m:Nat} {t env l r r'} (h:H1 ap L n t env l=some r) (k:H1 ap L m t env l=some r'):r=r':=by
 rcases Nat.le_total n m with a | a
 ·have:=a2q a h;rw [this] at k;injection k
 ·have:=a2q a k;rw [h] at this;injection this
theorem b6n {rec:T→Nat→Option Ro} (h:∀ t l r,rec t l=some r→r.2.2≤l):∀ {ts l acc q},R3 rec ts l acc=some q→(match q with | .inl p=>p.2 | .inr p=>p.2)≤l
 | [],l,acc,q,e=>by rw [R3] at e;injection e with e;subst e;exact Nat.le_refl _
 | t :: ts,l,acc,q,e=>by
  rw [R3] at e;cases k:rec t l with
  | none=>rw [k] at e;cases e
  | some r =>
   rw [k] at e;have h1:=h _ _ _ k;simp only at e;split at e
   ·exact Nat.le_trans (b6n h e) h1
   ·injection e with e;subst e;exact h1
theorem e1t {rec:T→Nat→Option Ro} (h:∀ t l r,rec t l=some r→r.2.2≤l):∀ {ts l r},evI rec ts l=some r→r.2.2≤l
 | [],_,_,e=>by cases e
 | [_],_,_,e=>by cases e
 | [_,_],_,_,e=>by cases e
 | _ :: _ :: _ :: _ :: _,_,_,e=>by cases e
 | [a,b,c],l,r,e=>by
  rw [evI] at e;cases k:rec a l with
  | none=>rw [k] at e;cases e
  | some q =>
   rw [k] at e;have h1:=h _ _ _ k;simp only at e;split at e
   ·split at e
    ·exact Nat.le_trans (h _ _ _ e) h1
    ·exact Nat.le_trans (h _ _ _ e) h1
   ·injection e with e;subst e;exact h1
theorem e1p {ap:Ap} {L:List (List F)} {rec:T→M7→Nat→Option Ro} (h:∀ t env l r,rec t env l=some r→r.2.2≤l) {f xs env l r} (e:evC ap L rec f xs env l=some r):r.2.2≤l:=by
 unfold evC at e;cases k:R3 (fun t l=>rec t env l) xs l [] with
 | none=>rw [k] at e;cases e
 | some q =>
  rw [k] at e;have h1:=b6n (fun t l r=>h t env l r) k;cases q with
  | inl p=>injection e with e;subst e;exact h1
  | inr p =>
   simp only at e h1;split at e
   ·cases k2:ap f p.1 with
    | none=>rw [k2] at e;cases e
    | some q=>rw [k2] at e;injection e with e;subst e;exact h1
   ·split at e
    ·exact Nat.le_trans (h _ _ _ _ e) h1
    ·cases e
theorem a3e {ap:Ap} {L:List (List F)}:∀ {n:Nat} {t env l r},H1 ap L n t env l=some r→r.2.2≤l
 | 0,_,_,_,_,e=>by cases e
 | n+1,.v s,env,l,r,e=>by
  change N9 ap L _ _ _ _=_ at e;rw [N9] at e;split at e
  ·cases e
  ·split at e <;> (injection e with e;subst e;exact Nat.le_refl _)
 | n+1,.c o,env,l,r,e=>by
  change N9 ap L _ _ _ _=_ at e;rw [N9] at e;injection e with e;subst e;exact Nat.le_refl _
 | n+1,.call f xs,env,l,r,e=>by
  change N9 ap L _ _ _ _=_ at e;rw [N9] at e;split at e
  ·cases e
  ·split at e
   ·injection e with e;subst e;exact Nat.le_refl _
   ·split at e
    ·injection e with e;subst e;exact Nat.sub_le _ _
    ·split at e
     ·split at e
      ·injection e with e;subst e;exact Nat.sub_le _ _
      ·split at e
       ·exact Nat.le_trans (e1t (fun t l r k=>a3e k) e) (Nat.sub_le _ _)
       ·exact Nat.le_trans (e1p (fun t env l r k=>a3e k) e) (Nat.sub_le _ _)
     ·injection e with e;subst e;exact Nat.sub_le _ _
theorem g9r {n:Nat} {xs:List (List G)} {v:V} (hv:RV (.c (.l xs)) v) (hne:xs ≠ []) (hn:∀ r ∈ xs,r.length=n):RV (.sl n xs) v:=by
 cases hv with
 | cl _ t n' off len h1 h2 =>
  cases xs with
  | nil=>exact absurd rfl hne
  | cons r rs =>
   have h3:=hn r List.mem_cons_self;have h4:=h2.len r List.mem_cons_self;have:n'=n:=h4.symm.trans h3;subst this;exact .sl _ _ _ _ _ h1 h2
 | q _ x hx=>exact .slq _ _ _ hx hn
theorem a77 {gs gs':List G} {q:Q} {k:Nat} (h:A7 gs q 0) (e:gs.take k=gs') (hk:k=gs'.length):RV (.a gs') (.a q k):=.a _ _ _ hk (e ▸ h.take k)
theorem a12 (e:Int):A3 (.ret (.t [.a O.no.g,.c (.i .i64 e)])) (.ret (.tuple [.agg [.int .i64 0,.str 0 0,.str 0 0,.str 0 0,.str 0 0,.str 0 0,.slice .nil 0 0 0 .no],.int .i64 e])) :=
 .ret _ _ (.t _ _ (.k (.ag _ _ (by (exact Zru))) (.k (.i _ _) .nil)))
theorem rrA {o:O} {x:Q} (h:A7 o.g x 0) (e:Int):A3 (.ret (.t [.a o.g,.c (.i .i64 e)])) (.ret (.tuple [.a x 7,.int .i64 e])) :=
 .ret _ _ (.t _ _ (.k (.a _ _ _ (O.g_len _).symm h) (.k (.i _ _) .nil)))
theorem F.body {f:F} {x:Q} (h:A7 (List.drop 15 f.g) x 0):A7 f.bo.g x 0:=by
 have e:List.take 11 (List.drop 15 f.g)=f.bo.g:=by
  have e1:List.drop 15 f.g=f.bo.g ++ f.mg:=by
   show List.drop 11 (f.gd.g ++ (f.bo.g ++ f.mg))=_;rw [List.drop_append_of_le_length (by rw [T.g_len];omega),List.drop_of_length_le (by rw [T.g_len];omega),List.nil_append]
  rw [e1,List.take_append_of_le_length (by rw [T.g_len];omega),List.take_of_length_le (by rw [T.g_len];omega)]
 exact e ▸ h.take 11
def h0h (ap:Ap):Sp where
 ι:={ p:(Sy × List O) × (O × Int) // ap p.1.1 p.1.2=some p.2 }
 A p:=[.a (sg p.1.1.1),.sl 7 (p.1.1.2.map O.g)]
 B _:=[]
 R p:=.ret (.t [.a p.1.2.1.g,.c (.i .i64 p.1.2.2)])
 B' _:=[]
 inj i j vs bs h k _ _:=by
  obtain ⟨_,_,h1,k1,h,k⟩:=h.two k;obtain ⟨_,_,h2,k2,h,k⟩:=h.two k;have e1:=a1f (h1.a_inj k1);have e2:=b6x (h2.sl_inj k2);have e3:some i.1.2=some j.1.2:=by rw [← i.2,← j.2,e1,e2]
  injection e3 with e3;rw [e3];exact ⟨rfl,rfl⟩
set_option maxHeartbeats 4000000
def spI (g:Int→GV):Sp where
 ι:={ n:Int // -1000000000 < n∧n < 1000000000 }
 A n:=[.c (.i .i64 n.1)]
 B _:=[]
 R n:=.ret (g n.1)
 B' _:=[]
 inj i j vs bs h k _ _:=by
  obtain ⟨_,_,h1,k1,h,k⟩:=h.two k;rw [(G.i.inj (h1.c_inj k1)).2];exact ⟨rfl,rfl⟩
abbrev b57:=v8 94 (spI fun n=>.c (.s (s4 n)))
theorem c6z (hI:b57):v8 51 (spI fun n=>.c (.s (s4 n))):=A8 (fun fn h=>d8j h) [(94,_)] (.cons hI .nil) fun U fn hfn ⟨n,hn⟩ vs bs hv hb=>by
 change z7 [.c (.i .i64 n)] vs at hv;change u0 [] bs at hb;show t6 U _ fun v bs'=>A3 (.ret (.c (.s (s4 n)))) v∧u0 [] bs';unfold r51;refine Zz ?_;intros;refine s6 (hfn 94 _ rfl) ⟨n,hn⟩ (r:=.c (.s (s4 n))) rfl z6 .nil fun _ _ _ _=>?_;refine Zz ?_;intros;exact s9 ⟨.ret _ _ z6,.nil⟩
theorem a9t (n:Int):qn n 1=(n,1):=by
 unfold qn;rw [if_neg dE];refine Prod.ext ?_ ?_
 ·show (if (n < 0)=((1:Int) < 0) then (1:Int) else -1) * ((n.natAbs / Nat.gcd n.natAbs 1:Nat):Int)=n;rw [Nat.gcd_one_right,Nat.div_one];by_cases h:n < 0
  ·rw [if_neg (fun e=>absurd (e.mp h) dE)];omega
  ·rw [if_pos (propext ⟨fun k=>absurd k h,fun k=>absurd k dE⟩)];omega
 ·show (1:Int).natAbs / Nat.gcd n.natAbs 1=1;rw [Nat.gcd_one_right];rfl
theorem X9 {n k:Nat} (h:n < 10 ^ k):(t8 n).length≤k:=by
 by_cases h0:n=0
 ·subst h0;rw [C7];simp
 ·have h1:=a9i n h0;have h2:10 ^ ((t8 n).length - 1) < 10 ^ k:=Nat.lt_of_le_of_lt h1 h;have h3:=(Nat.pow_lt_pow_iff_right (by decide:1 < 10)).1 h2;omega
theorem M8 {n:Int} (h:-1000000000 < n∧n < 1000000000):(s4 n).length≤11:=by
 have h1:=R5 n;have h2:=X9 (n:=n.natAbs) (k:=9) oM;omega
theorem d3h:s3 [49]=1:=by
 show s3 P5=1;rw [← R6];exact B3 1
theorem a2v (n:Nat):s4 (n:Int)=s8 n:=by
 unfold s4;rw [if_neg oM,Int.natAbs_natCast]
theorem f4u (hI:b57):v8 27 (spI fun n=>.a (O.num n 1).g):=A8 (fun fn h=>d8b h) [(51,_),(50,_)] (.cons (c6z hI) (.cons c2u .nil)) fun U fn hfn ⟨n,hn⟩ vs bs hv hb=>by
 change z7 [.c (.i .i64 n)] vs at hv;change u0 [] bs at hb;have hl:=M8 hn;show t6 U _ fun v bs'=>A3 (.ret (.a (O.num n 1).g)) v∧u0 [] bs';unfold r27;refine Zz ?_;intros;refine s6 (hfn 51 _ rfl) ⟨n,hn⟩ (r:=.c (.s (s4 n))) rfl z6 .nil fun _ _ _ _=>?_;refine Zz ?_;intros;refine s6 (hfn 50 _ rfl) ⟨(s4 n,[49]),show (s4 n).length < 9000 by omega,show ([49]:u5).length < 9000 by decide⟩ (r:=.a (O.num n 1).g) (by show z8.ret (.a (K2 (qn (s3 (s4 n)) (s3 [49]))).g)=_;rw [u2,d3h,a9t];rfl) (.k z6 (.k (.s _ _ _ rfl rfl) .nil)) .nil fun _ _ _ _=>?_;refine Zz ?_;intros;exact s9 ⟨.ret _ _ oV,.nil⟩
def O.na:O→Int
 | .num n _=>n
 | _=>0
def O.da:O→Nat
 | .num _ d=>d
 | _=>1
def O.fx (a:O):Prop:=(s4 a.na).length < 2000∧(s8 a.da).length < 2000
def a7s (a b:O):Bool:=decide (V0 (a.na * b.da) (b.na * a.da) < 0)
def a0b (a b:O):O:=K2 (qn (a.na * b.da+b.na * a.da) (a.da * b.da))
theorem e6s (a b:Int):(s4 (a+b)).length≤(s4 a).length+(s4 b).length+4:=by
 have h1:=R5 (a+b);have h2:=K8 a;have h3:=K8 b;have h4:=D8 (a:=(a+b).natAbs) (b:=(a.natAbs+b.natAbs)) oM;have h5:(t8 (a.natAbs+b.natAbs)).length≤(t8 a.natAbs).length+(t8 b.natAbs).length+2:=by
  rcases Nat.le_total a.natAbs b.natAbs with h | h
  ·have k:=D8 (a:=a.natAbs+b.natAbs) (b:=2 * b.natAbs) oM;have k2:=V1 2 b.natAbs;have k3:=X9 (n:=2) (k:=1) dE;omega
  ·have k:=D8 (a:=a.natAbs+b.natAbs) (b:=2 * a.natAbs) oM;have k2:=V1 2 a.natAbs;have k3:=X9 (n:=2) (k:=1) dE;omega
 omega
instance (a:O):Decidable a.fx:=inferInstanceAs (Decidable (_∧_))
def h1h (s:u5) (a b:O):Option O :=
 if s=s5 5 465491554661 then some (G0 (O.eqb a b)) else
 if s=s5 4 1936617315 then some (.co a b) else
 if s=s5 8 3111276449750739298 then (if a.fx∧b.fx then some (a0b a b) else none) else
 if s=s5 1 60 then (if a.fx∧b.fx then some (G0 (a7s a b)) else none) else none
def b6f:O→O
 | .co x _=>x
 | _=>F6
def b6g:O→O
 | .co _ y=>y
 | _=>F6
def g9o (s:u5) (a:O):Option O :=
 if s=s5 3 7496035 then some (b6f a) else
 if s=s5 3 7496803 then some (b6g a) else
 if s=s5 5 482972954467 then some (G0 a.isCo) else
 if s=s5 8 8102650174351109737 then some (G0 a.isInt) else none
theorem b9k {U:C3} {P:K0→List Bx→Prop} {fn:FuncId→F3} {g:FuncId} {sp:Sp} (hg:Ans fn g sp) (i:sp.ι) {vs:List V} {bs:List Bx} {K:V→List Bx→Om} {Kp:V→Om} {r:GV} (hr:sp.R i=.ret r) (hv:U=CU→z7 (sp.A i) vs) (hb:u0 (sp.B i) bs)
  (hk:∀ v bs',RV r v→u0 (sp.B' i) bs'→t6 U (K v bs') P):t6 U (U.bind (fn g vs bs) K Kp) P:=fun e=>s6 hg i hr (hv e) hb hk e
theorem e2p (n m:Int):(s4 (n * m)).length≤(s4 n).length+(s4 m).length+2:=by
 have h1:=R5 (n * m);have h2:=V1 n.natAbs m.natAbs;have h3:=K8 n;have h4:=K8 m;rw [Int.natAbs_mul] at h1;omega
def Y5 (a b:O):O:=K2 (qn (a.na * b.na) (a.da * b.da))
def b06 (a:O):O:=K2 (qn (-a.na) a.da)
def c1k (a:O):O:=K2 (qn a.da a.na)
end
end Go.Proofs.YtkojildpddaccaaGreatDoor
