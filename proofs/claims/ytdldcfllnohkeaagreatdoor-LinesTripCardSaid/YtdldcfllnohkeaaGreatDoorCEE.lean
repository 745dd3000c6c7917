/- The program's objects: any fields; what Valid gives. -/
import Derived.Test.YtdldcfllnohkeaaGreatDoorCED
set_option linter.all false
namespace Go.Proofs.YtdldcfllnohkeaaGreatDoor
open Go.Abs LQ
set_option maxRecDepth 100000
set_option maxHeartbeats 4000000
noncomputable section
inductive RT where
 | nil
 | node (k:Int) (nu de:i6) (s:Sy) (t:i6) (ps r:RT)
def RT.rows:RT→List (List G)
 | .nil=>[]
 | .node k nu de s t ps r=>[.i .i64 k,.s nu,.s de,.s s.1,.s s.2,.s t,.l ps.rows] :: r.rows
structure Ob where
 k:Int
 nu:i6
 de:i6
 s:Sy
 t:i6
 ps:RT
def Ob.g (o:Ob):List G:=[.i .i64 o.k,.s o.nu,.s o.de,.s o.s.1,.s o.s.2,.s o.t,.l o.ps.rows]
def RT.obs:RT→List Ob
 | .nil=>[]
 | .node k nu de s t ps r=>⟨k,nu,de,s,t,ps⟩ :: r.obs
theorem RT.rows_eq:∀ p:RT,p.rows=p.obs.map Ob.g
 | .nil=>rfl
 | .node _ _ _ _ _ _ r=>by simp only [RT.rows,RT.obs,List.map_cons,r.rows_eq];rfl
theorem Ob.g_eq (o:Ob):o.g=[.i .i64 o.k,.s o.nu,.s o.de,.s o.s.1,.s o.s.2,.s o.t,.l (o.ps.obs.map Ob.g)]:=by rw [← RT.rows_eq];rfl
theorem Ob.g_len (o:Ob):o.g.length=7:=rfl
theorem RT.rows_inj:∀ {p q:RT},p.rows=q.rows→p=q
 | .nil,.nil,_=>rfl
 | .nil,.node ..,h=>by simp [RT.rows] at h
 | .node ..,.nil,h=>by simp [RT.rows] at h
 | .node k nu de s t ps r,.node k' nu' de' s' t' ps' r',h=>by
  simp only [RT.rows,List.cons.injEq,G.i.injEq,G.s.injEq,G.l.injEq,true_and,and_true] at h
  obtain ⟨⟨h1,h2,h3,h4,h5,h6,h7⟩,h8⟩:=h
  rw [h1,h2,h3,Prod.ext h4 h5,h6,RT.rows_inj h7,RT.rows_inj h8]
theorem Ob.g_inj {a b:Ob} (h:a.g=b.g):a=b:=by
 obtain ⟨k,nu,de,s,t,ps⟩:=a
 obtain ⟨k',nu',de',s',t',ps'⟩:=b
 simp only [Ob.g,List.cons.injEq,G.i.injEq,G.s.injEq,G.l.injEq,true_and,and_true] at h
 obtain ⟨h1,h2,h3,h4,h5,h6,h7⟩:=h
 rw [h1,h2,h3,Prod.ext h4 h5,h6,RT.rows_inj h7]
def RT.sz:RT→Nat
 | .nil=>0
 | .node _ _ _ _ _ ps r=>1+ps.sz+r.sz
def Ob.sz (o:Ob):Nat:=1+o.ps.sz
theorem RT.obs_sz:∀ {p:RT} {x:Ob},x ∈ p.obs→x.sz≤p.sz
 | .nil,x,h=>by simp [RT.obs] at h
 | .node k nu de s t ps r,x,h=>by
  simp only [RT.obs,List.mem_cons] at h
  rcases h with rfl | h
  ·simp only [Ob.sz,RT.sz];omega
  ·have:=RT.obs_sz h;simp only [RT.sz];omega
theorem RT.two_sz {p:RT} {x y:Ob} (h:p.obs=[x,y]):x.sz+y.sz=p.sz:=by
 cases p with
 | nil=>cases h
 | node k nu de s t ps r =>
  simp only [RT.obs,List.cons.injEq] at h
  obtain ⟨rfl,h⟩:=h
  cases r with
  | nil=>cases h
  | node k nu de s t ps' r =>
   simp only [RT.obs,List.cons.injEq] at h
   obtain ⟨rfl,h⟩:=h
   cases r with
   | nil=>simp only [Ob.sz,RT.sz];omega
   | node=>simp [RT.obs] at h
theorem f7c {l:List Ob} (h:((l.length:Nat):Int)=2):∃ x y,l=[x,y]:=by
 match l,h with
 | [x,y],_=>exact ⟨x,y,rfl⟩
 | [],h=>simp at h
 | [_],h=>simp at h
 | _ :: _ :: _ :: _,h=>simp at h;omega
def RT.sm:RT→Prop
 | .nil=>True
 | .node _ nu de s _ ps r=>(nu.length < 8000∧de.length < 8000∧s.1.length < 90000∧s.2.length < 90000)∧ps.sm∧r.sm
def Ob.sm (o:Ob):Prop:=(o.nu.length < 8000∧o.de.length < 8000∧o.s.1.length < 90000∧o.s.2.length < 90000)∧o.ps.sm
theorem RT.obs_sm:∀ {p:RT} {x:Ob},p.sm→x ∈ p.obs→x.sm
 | .nil,x,_,h=>by simp [RT.obs] at h
 | .node k nu de s t ps r,x,hs,h=>by
  simp only [RT.obs,List.mem_cons] at h
  rcases h with rfl | h
  ·exact ⟨hs.1,hs.2.1⟩
  ·exact RT.obs_sm hs.2.2 h
def RT.rest:RT→List (Int→Int)
 | .nil=>[]
 | .node _ _ _ _ _ ps r=>(fun l=>if 0 < l then match ps.rest with
  | [f,g]=>g (f (l - 1))
  | _=>l - 1 else l - 1) :: r.rest
def Ob.rest (o:Ob) (l:Int):Int:=if 0 < l then match o.ps.rest with
 | [f,g]=>g (f (l - 1))
 | _=>l - 1 else l - 1
theorem RT.rest_eq:∀ p:RT,p.rest=p.obs.map Ob.rest
 | .nil=>rfl
 | .node _ _ _ _ _ ps r=>by simp only [RT.rest,RT.obs,List.map_cons,r.rest_eq];rfl
theorem Ob.rest_eq (o:Ob) (l:Int):o.rest l=if 0 < l then match o.ps.obs with
  | [x,y]=>y.rest (x.rest (l - 1))
  | _=>l - 1 else l - 1:=by
 unfold Ob.rest
 rw [o.ps.rest_eq]
 rcases o.ps.obs with _ | ⟨x,_ | ⟨y,_ | ⟨z,r⟩⟩⟩ <;> rfl
def RT.nd:RT→List Nat
 | .nil=>[]
 | .node _ _ _ _ _ ps r=>(match ps.nd with
  | [f,g]=>1+f+g
  | _=>1) :: r.nd
def Ob.nd (o:Ob):Nat:=match o.ps.nd with
 | [f,g]=>1+f+g
 | _=>1
theorem RT.nd_eq:∀ p:RT,p.nd=p.obs.map Ob.nd
 | .nil=>rfl
 | .node _ _ _ _ _ ps r=>by simp only [RT.nd,RT.obs,List.map_cons,r.nd_eq];rfl
theorem Ob.nd_eq (o:Ob):o.nd=match o.ps.obs with
  | [x,y]=>1+x.nd+y.nd
  | _=>1:=by
 unfold Ob.nd
 rw [o.ps.nd_eq]
 rcases o.ps.obs with _ | ⟨x,_ | ⟨y,_ | ⟨z,r⟩⟩⟩ <;> rfl
theorem Ob.nd_pos (o:Ob):1≤o.nd:=by rw [o.nd_eq];split <;> omega
theorem b6r {o:Ob} {l:Int} (h:l≤0):o.rest l=l - 1:=by rw [o.rest_eq,if_neg oM]
theorem b4i:∀ (n:Nat) (o:Ob) (l:Int),o.sz≤n→0≤l→((o.nd:Int)≤l→o.rest l=l - o.nd)∧(l < o.nd→o.rest l < 0)∧-1 - l≤o.rest l
 | 0,o,_,h,_=>by simp [Ob.sz] at h
 | n+1,o,l,h,hl=>by
  have h2:o.sz=1+o.ps.sz:=rfl
  rw [o.rest_eq,o.nd_eq]
  by_cases h0:0 < l
  ·rw [if_pos h0]
   rcases e:o.ps.obs with _ | ⟨x,_ | ⟨y,_ | ⟨z,r⟩⟩⟩
   ·simp only [];omega
   ·simp only [];omega
   ·simp only []
    have h1:=RT.two_sz e
    have h3:1≤y.sz:=by simp [Ob.sz]
    have h4:1≤x.sz:=by simp [Ob.sz]
    have i1:=b4i n x (l - 1) oM oM
    have p1:=x.nd_pos
    have p2:=y.nd_pos
    rcases Int.lt_or_le (x.rest (l - 1)) 0 with hx | hx
    ·rw [b6r (o:=y) oM];omega
    ·have i2:=b4i n y (x.rest (l - 1)) oM hx
     have i3:=b6r (o:=y) (l:=0) oM
     omega
   ·simp only [];omega
  ·rw [if_neg h0]
   have:=o.nd_pos
   rw [o.nd_eq] at this
   omega
theorem d11 (p:RT):(∃ x y,p.obs=[x,y])∨(¬((p.obs.length:Nat):Int)=2∧∀ x y,p.obs ≠ [x,y]):=by
 by_cases h:((p.obs.length:Nat):Int)=2
 ·exact .inl (f7c h)
 ·exact .inr ⟨h,fun x y e=>h (by rw [e];rfl)⟩
theorem e22 {o x y:Ob} {l:Int} (h:o.ps.obs=[x,y]) (hl:0 < l):o.rest l=y.rest (x.rest (l - 1)):=by rw [o.rest_eq,if_pos hl,h]
theorem e87 {o:Ob} {l:Int} (h:∀ x y,o.ps.obs ≠ [x,y]):o.rest l=l - 1:=by
 rw [o.rest_eq]
 split
 ·split
  ·rename_i e;exact absurd e (h _ _)
  ·rfl
 ·rfl
def d45 (ok:Ob→Prop) (g:Ob→GV):Sp where
 ι:={ o:Ob // ok o }
 A o:=[.a o.1.g]
 B _:=[]
 R o:=.ret (g o.1)
 B' _:=[]
 inj i j vs bs h k _ _:=by
  obtain ⟨_,_,h1,k1,h,k⟩:=h.two k
  rw [Ob.g_inj (h1.a_inj k1)];exact ⟨rfl,rfl⟩
def d8o:Sp where
 ι:={ p:Ob × Int // -1000000000≤p.2∧p.2 < 90000 }
 A p:=[.a p.1.1.g,.c (.i .i64 p.1.2)]
 B _:=[]
 R p:=.ret (.c (.i .i64 (p.1.1.rest p.1.2)))
 B' _:=[]
 inj i j vs bs h k _ _:=by
  obtain ⟨_,_,h1,k1,h,k⟩:=h.two k
  obtain ⟨_,_,h2,k2,h,k⟩:=h.two k
  rw [Ob.g_inj (h1.a_inj k1),a2v h2 k2];exact ⟨rfl,rfl⟩
theorem f89:k9 106 d8o:=a3x (fun p=>p.1.2.toNat) fun n ih=>n9 (fun fn h=>e7u h) [(106,d8o.lt _ n)] (.cons ih .nil) fun U fn hfn ⟨⟨(o,l),hl1,hl2⟩,hn⟩ vs bs hv hb=>by
 have hr:=hfn 106 _ rfl
 have hl1:-1000000000≤l:=hl1
 have hl2:l < 90000:=hl2
 have hv:l7 [.a o.g,.c (.i .i64 l)] vs:=hv
 have hb:RBs [] bs:=hb
 have hn:l.toNat < n+1:=hn
 show j5 U _ fun v bs'=>l8 (.ret (.c (.i .i64 (o.rest l)))) v∧RBs [] bs'
 unfold e1q
 (refine Zq ?_;intros)
 refine H2 (fun (p:Ob × Int) vs bs=>∃ (x:Ob) (l':Int),p=(x,l')∧vs=[.int .i64 l',.ptr 0 0]∧RBs [x.g] bs∧x.rest l'=o.rest l∧-1000000000≤l'∧l' < 90000∧l'≤l) (fun p=>p.2.toNat) (o,l) ⟨o,l,rfl,rfl,RB.bx aS rfl,rfl,hl1,hl2,Int.le_refl _⟩ (show l.toNat < C4 by simp only [C4];omega) ?_
 rintro self _ _ _ ⟨x,l',rfl,rfl,hb,he,h1,h2,h3⟩ ih2
 rw [x.g_eq] at hb
 rcases d11 x.ps with ⟨a,b,e⟩ | ⟨hne,hno⟩
 ·rw [e] at hb
  (refine Zq ?_;with_reducible repeat' first|intro _|apply aI)
  ·(refine E8 (f:=Ob.g) aS (A0 Ob.g_len) fun _ _ _=>?_)
   (refine Zq ?_;with_reducible repeat' first|intro _|apply aI)
   ·(refine E8 (f:=Ob.g) aS (A0 Ob.g_len) fun _ _ _=>?_)
    (refine Zq ?_;intros)
    have k1:=b4i a.sz a (l' - 1) (Nat.le_refl _) oM
    refine j4 hr ⟨⟨(a,l' - 1),show -1000000000≤l' - 1 by omega,show l' - 1 < 90000 by omega⟩,show (l' - 1).toNat < n by omega⟩ (r:=.c (.i .i64 (a.rest (l' - 1)))) rfl l5 .nil fun _ _ _ _=>?_
    (refine Zq ?_;intros)
    (refine E8 (f:=Ob.g) aS (A0 Ob.g_len) fun _ _ _=>?_)
    (refine Zq ?_;intros)
    have k2:a.rest (l' - 1)≤l' - 1 - 1:=by
     have:=a.nd_pos
     rcases Int.lt_or_le (l' - 1) a.nd with h | h
     ·have:=k1.2.1 h;omega
     ·have:=k1.1 h;omega
    exact ih2 (b,a.rest (l' - 1)) _ _ ⟨b,_,rfl,rfl,RB.bx aS rfl,by rw [← he,e22 e oM],oM,oM,oM⟩ (show (a.rest (l' - 1)).toNat < l'.toNat by omega)
   ·exact absurd rfl ‹¬_›
  ·rw [← he,b6r oM]
   exact j9 ⟨.ret _ _ (.i _ _),.nil⟩
 ·rw [← he,e87 hno]
  (refine Zq ?_;with_reducible repeat' first|intro _|apply aI)
  ·(refine E8 (f:=Ob.g) aS (A0 Ob.g_len) fun _ _ _=>?_)
   (refine Zq ?_;with_reducible repeat' first|intro _|apply aI)
   ·exact absurd ‹_› hne
   ·exact j9 ⟨.ret _ _ (.i _ _),.nil⟩
  ·exact j9 ⟨.ret _ _ (.i _ _),.nil⟩
theorem d1h:k9 75 (d45 (fun _=>True) fun o=>.c (.i .i64 (min o.nd 3001:Nat))):=n9 (fun fn h=>f47 h) [(106,_)] (.cons f89 .nil) fun U fn hfn ⟨o,_⟩ vs bs hv hb=>by
 have hr:=hfn 106 _ rfl
 have hv:l7 [.a o.g] vs:=hv
 have hb:RBs [] bs:=hb
 show j5 U _ fun v bs'=>l8 (.ret (.c (.i .i64 (min o.nd 3001:Nat)))) v∧RBs [] bs'
 unfold r75
 have key:=b4i o.sz o 3001 (Nat.le_refl _) oM
 (refine Zq ?_;intros)
 refine j4 hr ⟨(o,3001),oM,oM⟩ (r:=.c (.i .i64 (o.rest 3001))) rfl l5 .nil fun _ _ _ _=>?_
 (refine Zq ?_;intros)
 refine d8d ?_
 refine b86 (by split <;> omega) ?_
 exact j9 ⟨.ret _ _ (rvI (by split <;> omega)),.nil⟩
def H9 (o:Ob) (n s t:Bool):Bool:=(n || decide (o.nu=[]∧o.de=[])) && (s || decide (o.s.1=[]∧o.s.2=[])) && (t || decide (o.t=[]))
def f6s:Sp where
 ι:=Ob × Bool × Bool × Bool
 A p:=[.a p.1.g,.c (.b p.2.1),.c (.b p.2.2.1),.c (.b p.2.2.2)]
 B _:=[]
 R p:=.ret (.c (.b (H9 p.1 p.2.1 p.2.2.1 p.2.2.2)))
 B' _:=[]
 inj i j vs bs h k _ _:=by
  obtain ⟨_,_,h1,k1,h,k⟩:=h.two k
  obtain ⟨_,_,h2,k2,h,k⟩:=h.two k
  obtain ⟨_,_,h3,k3,h,k⟩:=h.two k
  obtain ⟨_,_,h4,k4,h,k⟩:=h.two k
  rw [Ob.g_inj (h1.a_inj k1),c4b h2 k2,c4b h3 k3,c4b h4 k4];exact ⟨rfl,rfl⟩
theorem f80:k9 118 f6s:=n9 (fun fn h=>e75 h) [] .nil fun U fn hfn ⟨o,n,s,t⟩ vs bs hv hb=>by
 have hv:l7 [.a [.i .i64 o.k,.s o.nu,.s o.de,.s o.s.1,.s o.s.2,.s o.t,.l o.ps.rows],.c (.b n),.c (.b s),.c (.b t)] vs:=hv
 have hb:RBs [] bs:=hb
 show j5 U _ fun v bs'=>l8 (.ret (.c (.b (H9 o n s t)))) v∧RBs [] bs'
 unfold e11
 cases n <;> cases s <;> cases t
 all_goals
  (refine Zq ?_;with_reducible repeat' first|intro _|apply aI)
  all_goals try simp only [show m8 0 0=[] from rfl] at *
  all_goals exact J3 fun e=>⟨.ret _ _ (by
   clear hv hb hfn
   first
   | exact N7 (by simp_all [H9])
   | (subst e;refine U6 ?_;rw [b5z];show _=decide (o.t=[]);simp_all [H9])),.nil⟩
theorem f9b:k9 120 (c4w fun s=>.c (.b (named s))):=n9 (fun fn h=>e77 h) [] .nil fun U fn hfn ⟨s,h1,h2⟩ vs bs hv hb=>by
 have h1:s.1.length < 90000:=h1
 have hv:l7 [.a [.s s.1,.s s.2]] vs:=hv
 have hb:RBs [] bs:=hb
 show j5 U _ fun v bs'=>l8 (.ret (.c (.b (named s)))) v∧RBs [] bs'
 unfold e13
 (refine Zy ?_;intros)
 refine S4 (fun vs bs=>∃ b:Bool,l7 [.p 0 0,.c (.b b)] vs∧RBs [[.s s.1,.s s.2]] bs∧(U=CU→b=!decide (1≤s.1.length∧s.1.length≤40∧1≤s.2.length∧s.2.length≤40))) ?_ ?_
 ·rintro vs' bs' ⟨b,hv',hb',hbe⟩
  refine fun e=>?_
  have hbe:=hbe e
  refine (show j5 U _ _ from ?_) e
  (refine Zq ?_;with_reducible repeat' first|intro _|apply aI)
  ·have:named s=false:=by
    have hb1:b=true:=‹_›
    rw [hb1] at hbe
    have h3:¬(1≤s.1.length∧s.1.length≤40∧1≤s.2.length∧s.2.length≤40):=fun h=>by rw [decide_eq_true h] at hbe;cases hbe
    unfold named t6
    rw [Bool.eq_false_iff]
    intro h4
    simp only [Bool.and_eq_true,decide_eq_true_iff] at h4
    omega
   rw [this]
   exact j9 ⟨.ret _ _ (.kn _),.nil⟩
  ·have h3:1≤s.1.length∧s.1.length≤40∧1≤s.2.length∧s.2.length≤40:=by
    have hb1:b=false:=by simpa using ‹¬b=true›
    rw [hb1] at hbe
    by_cases h:1≤s.1.length∧s.1.length≤40∧1≤s.2.length∧s.2.length≤40
    ·exact h
    ·rw [decide_eq_false h] at hbe;cases hbe
   have hnm:named s=(decide (97≤bt s.1 0∧bt s.1 0≤122) && H1 s.1 0):=by
    unfold named t6
    rw [Bool.eq_iff_iff]
    simp only [Bool.and_eq_true,decide_eq_true_iff]
    constructor
    ·rintro ⟨⟨a,b⟩,c⟩;exact ⟨⟨oM,oM⟩,b⟩
    ·rintro ⟨a,b⟩;exact ⟨⟨⟨oM,oM,oM,oM⟩,b⟩,oM⟩
   rw [hnm]
   refine H2 (fun (i:Nat) vs bs=>vs=[.ptr 0 0,.int .i64 s.1.length,.int .i64 i]∧RBs [[.s s.1,.s s.2]] bs∧i≤s.1.length∧H1 s.1 i=H1 s.1 0∧(i=0∨97≤bt s.1 0∧bt s.1 0≤122)) (fun i=>s.1.length - i) 0 ⟨rfl,RB.bx aS rfl,oM,rfl,.inl rfl⟩ (by simp only [C4];omega) ?_
   rintro self i _ _ ⟨rfl,hb,hi,he,h0⟩ ih
   have hbi:bt s.1 i=((s.1.getD i 0).toNat:Int):=rfl
   have hz:i=0→bt s.1 0=((s.1.getD i 0).toNat:Int):=by rintro rfl;rfl
   have no:¬a2j (bt s.1 i)=true→i < s.1.length→(decide (97≤bt s.1 0∧bt s.1 0≤122) && H1 s.1 0)=false:=fun h hl=>by rw [← he,d18 hl h,Bool.and_false]
   have no2:¬(97≤bt s.1 0∧bt s.1 0≤122)→(decide (97≤bt s.1 0∧bt s.1 0≤122) && H1 s.1 0)=false:=fun h=>by rw [decide_eq_false h];rfl
   (refine Zq ?_;with_reducible repeat' first|intro _|apply aI)
   all_goals first
    | exact ih (i+1) _ _ ⟨rfl,RB.bx aS rfl,oM,(a1n (i:=i) oM (d4o.2 oM)).symm.trans he,.inr oM⟩ oM
    | exact j9 ⟨.ret _ _ (N7 (no (fun h=>by have:=d4o.1 h;omega) oM)),.nil⟩
    | exact j9 ⟨.ret _ _ (N7 (no2 oM)),.nil⟩
    | skip
   have hl:¬i < s.1.length:=oM
   rw [decide_eq_true oM,← he,b4c hl]
   exact j9 ⟨.ret _ _ (.kn _),.nil⟩
 ·intro c hc
  (refine Zq ?_;with_reducible repeat' first|intro _|apply aI)
  all_goals refine hc _ _ ⟨_,by (exact l5),RB.bx aS rfl,fun e=>?_⟩
  all_goals first
   | exact (congrArg (!·) (decide_eq_false oM)).symm
   | skip
  subst e
  rw [b92]
  by_cases h:(40:Int) < (s.2.length:Int)
  ·rw [decide_eq_true h,decide_eq_false oM];rfl
  ·rw [decide_eq_false h,decide_eq_true oM];rfl
def W4 (s:i6):Nat:=(i7 (j0 s).natAbs).length
def a2h (nu de:i6):Bool:=C1 nu && C1 de && decide (W4 nu≤100) && decide (W4 de≤100) && decide (u4 nu de=(nu,de))
theorem e6p (hst:k9 179 Y2):k9 119 (e3d fun nu de=>.ret (.c (.b (a2h nu de)))):=n9 (fun fn h=>e76 h) [(142,_),(141,_),(129,_)] (.cons d1k (.cons c56 (.cons (b58 hst) .nil))) fun U fn hfn ⟨(nu,de),h1,h2⟩ vs bs hv hb=>by
 have hva:=hfn 142 _ rfl
 have hdi:=hfn 141 _ rfl
 have hre:=hfn 129 _ rfl
 have h1:nu.length < 8000:=h1
 have h2:de.length < 8000:=h2
 have hv:l7 [.c (.s nu),.c (.s de)] vs:=hv
 have hb:RBs [] bs:=hb
 show j5 U _ fun v bs'=>l8 (.ret (.c (.b (a2h nu de)))) v∧RBs [] bs'
 unfold e12
 (refine Zy ?_;intros)
 refine S4 (fun vs bs=>∃ b:Bool,l7 [.c (.s nu),.c (.s de),.c (.b b)] vs∧RBs [] bs∧(U=CU→b=!(C1 nu && C1 de && decide (W4 nu≤100) && decide (W4 de≤100)))) ?_ ?_
 ·rintro vs' bs' ⟨b,hv',hb',hbe⟩
  refine fun e=>?_
  have hbe:=hbe e
  refine (show j5 U _ _ from ?_) e
  have hlb:a2h nu de=(!b && decide (u4 nu de=(nu,de))):=by rw [hbe,Bool.not_not];rfl
  rw [hlb]
  (refine Zq ?_;with_reducible repeat' first|intro _|apply aI)
  ·rw [‹b=true›]
   exact j9 ⟨.ret _ _ (.kn _),.nil⟩
  ·have hb1:b=false:=by simpa using ‹¬b=true›
   rw [hb1]
   refine j4 hre ⟨(nu,de),h1,h2⟩ (r:=.t [.c (.s (u4 nu de).1),.c (.s (u4 nu de).2)]) rfl l5 .nil fun _ _ _ _=>?_
   generalize u4 nu de=q at *
   obtain ⟨q1,q2⟩:=q
   (refine Zq ?_;with_reducible repeat' first|intro _|apply aI)
   ·have e1:q1=nu:=‹_›
    exact J3 fun e=>by
     subst e
     refine ⟨.ret _ _ (U6 ?_),.nil⟩
     rw [cuS]
     simp [e1]
   ·have e1:¬q1=nu:=‹_›
    exact j9 ⟨.ret _ _ (N7 (by simp [e1])),.nil⟩
 ·intro c hc
  have d1:(i7 (j0 nu).natAbs).length=W4 nu:=rfl
  have d2:(i7 (j0 de).natAbs).length=W4 de:=rfl
  (refine Zq ?_;intros)
  refine j4 hva ⟨nu,by show nu.length < 90000;omega⟩ (r:=.c (.b (C1 nu))) rfl l5 .nil fun _ _ _ _=>?_
  (refine Zq ?_;with_reducible repeat' first|intro _|apply aI)
  ·refine j4 hva ⟨de,by show de.length < 90000;omega⟩ (r:=.c (.b (C1 de))) rfl l5 .nil fun _ _ _ _=>?_
   (refine Zq ?_;with_reducible repeat' first|intro _|apply aI)
   ·refine j4 hdi ⟨nu,by show nu.length < 90000;omega⟩ (r:=.c (.i .i64 (W4 nu))) rfl l5 .nil fun _ _ _ _=>?_
    (refine Zq ?_;with_reducible repeat' first|intro _|apply aI)
    ·exact hc _ _ ⟨_,by (exact l5),.nil,fun e=>by simp [*];omega⟩
    ·refine j4 hdi ⟨de,by show de.length < 90000;omega⟩ (r:=.c (.i .i64 (W4 de))) rfl l5 .nil fun _ _ _ _=>?_
     (refine Zq ?_;intros)
     refine hc _ _ ⟨_,by (exact l5),.nil,fun e=>?_⟩
     subst e
     rw [b92]
     by_cases h:(100:Int) < (W4 de:Int)
     ·rw [decide_eq_true h,show decide (W4 de≤100)=false from decide_eq_false oM,Bool.and_false];rfl
     ·rw [decide_eq_false h,show decide (W4 de≤100)=true from decide_eq_true oM,show decide (W4 nu≤100)=true from decide_eq_true oM,‹C1 nu=true›,‹C1 de=true›];rfl
   ·exact hc _ _ ⟨_,by (exact l5),.nil,fun e=>by simp [*]⟩
  ·exact hc _ _ ⟨_,by (exact l5),.nil,fun e=>by simp [*]⟩
end
end Go.Proofs.YtdldcfllnohkeaaGreatDoor
