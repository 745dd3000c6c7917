/- number.integer.String: what is known. -/
import Derived.Test.YtkojildpddaccaaGreatDoorCJ16
import Derived.Test.YtkojildpddaccaaGreatDoorCLT
import Derived.Test.YtkojildpddaccaaGreatDoorCJ13
set_option linter.all false
namespace Go.Proofs.YtkojildpddaccaaGreatDoor
open Go.Abs LQ Go.RowKit Go.Shelf
set_option maxRecDepth 100000
set_option maxHeartbeats 4000000
noncomputable section
theorem b93 (f:Nat→Nat):∀ k,a04 f (k+1)=a04 (fun i=>f (i+1)) k ++ (List.replicate (9 - (Lib.itoa (f 0)).length) 48 ++ Lib.itoa (f 0))
 | 0=>by simp [a04]
 | k+1=>by
  rw [a04,b93 f k]
  conv=>rhs;rw [a04]
  simp only [List.append_assoc]
theorem e9v (n:Nat):n ≠ 0→Lib.itoa (((T3 n).getD ((T3 n).length - 1) 0:Nat):Int) ++ a04 (fun i=>(T3 n).getD i 0) ((T3 n).length - 1)=s3 n:=by
 induction n using Nat.strongRecOn with
 | _ n ih =>
  intro h
  have hd:n % B9 < 1000000000:=Nat.mod_lt _ dE
  have hn:n % B9+B9 * (n / B9)=n:=by unfold B9;omega
  by_cases hm:n / B9=0
  ·rw [a4w h,hm,a9r]
   rw [hm] at hn
   simp only [List.length_cons,List.length_nil,Nat.zero_add,Nat.sub_self,List.getD_cons_zero,a04,List.append_nil]
   rw [itoa_showNat]
   rw [Nat.mul_zero,Nat.add_zero] at hn
   rw [hn]
  ·have hi:=ih (n / B9) (Nat.div_lt_self (Nat.pos_of_ne_zero h) dE) hm
   have hl:∃ k,(T3 (n / B9)).length=k+1:=by rw [a4w hm];exact ⟨_,rfl⟩
   obtain ⟨k,hk⟩:=hl
   rw [hk,Nat.add_sub_cancel] at hi
   rw [a4w h,List.length_cons,hk,Nat.add_sub_cancel,b93]
   simp only [List.getD_cons_succ,List.getD_cons_zero]
   rw [← List.append_assoc,hi,itoa_showNat]
   have:=c08 hm hd
   rw [hn] at this
   exact this.symm
theorem e0t (neg:Bool) (n:Nat):a03 neg (fun i=>(T3 n).getD i 0) (T3 n).length=J0 neg n:=by
 unfold a03 J0
 by_cases h:n=0
 ·subst h;rw [a9r];rfl
 ·have h0:¬(T3 n).length=0:=by rw [a4w h];simp
  rw [if_neg h0,if_neg h,e9v n h]
  cases neg <;> simp
theorem c68:∀ l:List Nat,dRs (l.map lg)=l.map fun d:Nat=>D.int .u32 (d:Int)
 | []=>by simp [dRs]
 | d :: l=>by rw [List.map_cons,d9s,c68 l];simp [lg,dG]
theorem c42 {S:A4} {M:Mp} {w:World}:∀ {l:List Nat} {vs:List Value},C2 S M w vs (l.map fun d:Nat=>D.int .u32 (d:Int))→vs=l.map fun d:Nat=>Value.int .u32 (d:Int)
 | [],_,h=>by cases h;rfl
 | _ :: _,_,h=>by cases h with | cons _ _ _ _ h1 h2=>cases h1;rw [c42 h2];rfl
theorem kIS:s9 257 g9y:=fun ⟨(neg,n),hn⟩ vs bs hv hb=>by
 change t7 [.a (b8b neg n)] vs at hv
 change (T3 n).length < 20000 at hn
 cases hb
 refine ⟨.ret (.str (J0 neg n).length (C6 (J0 neg n))),[],fun hok=>?_,.ret _ _ (.s _ _ _ rfl rfl),.nil⟩
 rw [hv.map_toD]
 show CM X0.P X0.G _ _ [] (.ret (.str (o8 (J0 neg n).length (C6 (J0 neg n))))) []
 rw [E8]
 refine a7e (d:=.str (J0 neg n)) Tryz.call257 fun w S M us hg hwi hr=>?_
 simp only [List.map_cons,List.map_nil,dV,b8b,dG,lgs,c68,List.length_map] at hr
 cases hr with
 | cons _ _ _ _ r1 r2 =>
 cases r2
 cases r1 with
 | agg ws _ r1 =>
 obtain ⟨ws⟩:=ws
 cases r1 with
 | cons _ _ _ _ q1 q2 =>
 cases q1
 cases q2 with
 | cons _ _ _ _ q1 q3 =>
 cases q3
 cases q1 with
 | slice base len cap vs ds c a r k l z =>
 have hvs:=c42 r
 subst hvs
 refine (b6c neg base (T3 n).length cap (fun i=>(T3 n).getD i 0) w (fun i=>?_) hn hg fun i hi=>?_).mono ?_
 ·by_cases h:i < (T3 n).length
  ·have:=f6s n ((T3 n)[i]) (List.getElem_mem h)
   simp only [List.getD,List.getElem?_eq_getElem h,Option.getD_some]
   exact this
  ·simp [List.getD,List.getElem?_eq_none (Nat.le_of_not_lt h)]
 ·rcases a with a | ⟨b,o,hb,a⟩
  ·rw [List.map_eq_nil_iff] at a
   rw [a] at hi;exact absurd hi (Nat.not_lt_zero _)
  ·have hx:((T3 n).map fun d:Nat=>Value.int .u32 (d:Int))[i]?=some (.int .u32 (((T3 n).getD i 0:Nat):Int)):=by
    simp [List.getD,List.getElem?_eq_getElem hi]
   obtain ⟨h1,h2⟩:=a i _ hx
   have h3:=hwi _ _ h1
   exact ⟨b,o,hb,h3,h2⟩
 ·rintro e w' ⟨rfl,hb⟩
  exact ⟨hb,_,S,rfl,⟨fun _ _ h=>h,fun _ _ h=>.inl h⟩,a5y hwi hb,.str _ _ (by rw [e0t]),c3q (fun _ _ _ h=>by cases h) (fun _ h=>by cases h)⟩
end
end Go.Proofs.YtkojildpddaccaaGreatDoor
namespace Go.Proofs.YtkojildpddaccaaGreatDoor
open Go.Abs LQ
set_option maxRecDepth 100000
set_option maxHeartbeats 4000000
noncomputable section
theorem c7m {g:FuncId} {sp:Sp} (hk:s9 g sp) {F:D8} (hF:∀ vs bs x bs',F vs bs=some (x,bs')→∃ i,t7 (sp.A i) vs∧s5 (sp.B i) bs∧u0 (sp.R i) x∧bs'=[]∧sp.B' i=[]):E3 X0 g F:=fun vs bs x bs' h hok=>by
 obtain ⟨i,h1,h2,h3,rfl,h5⟩:=hF vs bs x bs' h
 obtain ⟨v,b2,ha,h6,h7⟩:=hk i vs bs h1 h2
 rw [h5] at h7
 cases h7
 have hc:=ha hok
 have e:a7p v=a7p x:=by
  generalize sp.R i=R at h3 h6
  cases h6 with
  | ret g v h6=>cases h3 with | ret _ _ h3=>show Res.ret (toD _)=.ret (toD _);rw [h6.toD,h3.toD]
  | pan g v h6=>cases h3 with | pan _ _ h3=>show Res.pan (toD _)=.pan (toD _);rw [h6.toD,h3.toD]
 rw [← e];exact hc
def puB (s:u4) (c:Nat):Bool:=Nat.beq (C6 s) c && (Nat.ble 1 s.length && (Nat.ble s.length 9 && s.all fun b=>Nat.ble 48 b.toNat && Nat.ble b.toNat 57))
def puF:D8:=fun vs bs=>match vs,bs with
 | [.str l c,.int .i64 10,.int .i64 32],[]=>bif puB (o8 l c) c then some (.ret (.tuple [.int .u64 ((L3 (o8 l c):Nat):Int),.nilIface]),[]) else none
 | _,_=>none
theorem f7b:E3 X0 282 puF:=c7m kPU fun vs bs x bs' h=>by
 unfold puF at h
 split at h
 ·rename_i l c
  cases hp:puB (o8 l c) c with
  | false=>rw [hp] at h;cases h
  | true =>
   rw [hp] at h
   injection h with h
   injection h with e1 e2
   subst e1 e2
   unfold puB at hp
   rw [Bool.and_eq_true,Bool.and_eq_true,Bool.and_eq_true,Nat.beq_eq,Nat.ble_eq,Nat.ble_eq,List.all_eq_true] at hp
   obtain ⟨p1,p2,p3,p4⟩:=hp
   refine ⟨⟨o8 l c,p2,p3,fun j hj=>?_⟩,.k (.s _ _ _ (O8 l c).symm p1.symm) (.k (.i _ _) (.k (.i _ _) .nil)),.nil,.ret _ _ (.t _ _ (.k (.i _ _) (.k .nilI .nil))),rfl,rfl⟩
   have h4:=p4 _ (List.getElem_mem hj)
   rw [Bool.and_eq_true,Nat.ble_eq,Nat.ble_eq] at h4
   have e:bt (o8 l c) j=(o8 l c)[j].toNat:=by unfold bt;simp [List.getD,List.getElem?_eq_getElem hj]
   rw [e];omega
 ·cases h
def u1 (q:Q):Bool:=match q with
 | .int .u32 1=>true
 | _=>false
def isF:D8:=fun vs bs=>match vs,bs with
 | [.agg [.known false,.q (.slice t 1 off 1)]],[]=>bif u1 (tQ t off) then some (.ret (.str 1 49),[]) else none
 | _,_=>none
theorem f51:E3 X0 257 isF:=c7m kIS fun vs bs x bs' h=>by
 unfold isF at h
 split at h
 ·rename_i t off
  cases hp:u1 (tQ t off) with
  | false=>rw [hp] at h;cases h
  | true =>
   rw [hp] at h
   injection h with h
   injection h with e1 e2
   subst e1 e2
   have hq:tQ t off=.int .u32 1:=by
    unfold u1 at hp
    split at hp
    ·assumption
    ·cases hp
   have hr:RG (.i .u32 1) (tQ t off):=by rw [hq];exact .i _ _
   have h1:T3 1=[1]:=kR
   have hl:lgs 1=[[.i .u32 1]]:=by unfold lgs;rw [h1];rfl
   refine ⟨⟨(false,1),by rw [h1];decide⟩,.k ?_ .nil,.nil,.ret _ _ (.s _ _ _ kR kR),rfl,rfl⟩
   show RV (.a [.b false,.l (lgs 1)]) _
   rw [hl]
   exact .ag _ _ (.k (.kn _) (.k (.q _ _ (.l _ _ _ _ _ rfl (.cons _ _ _ _ _ rfl (N6 hr).1 (N6 hr).2 (.nil _ _ _)))) .nil))
 ·cases h
def ftN:a1k:=(282,fun _=>puF) :: (257,fun _=>isF) :: ftU
theorem f5v:∀ g F,(g,F) ∈ ftN→∀ fn,(∀ g,E3 X0 g (fn g))→E3 X0 g (F fn):=fun g F hm=>by
 rcases List.mem_cons.1 hm with e | hm
 ·injection e with e1 e2;subst e1 e2;exact fun _ _=>f7b
 ·rcases List.mem_cons.1 hm with e | hm
  ·injection e with e1 e2;subst e1 e2;exact fun _ _=>f51
  ·exact c3r g F hm
def RN (g:FuncId):D8:=a2c (a7r ftN 300 g)
theorem e4x (g:FuncId):E3 X0 g (RN g):=a8m f5v 300 g
def d3s (s:u4):V:=.str s.length (C6 s)
def yes (o:Option (H4 × List Bx)):Bool:=match o with
 | some (.ret (.bool b),[])=>b
 | some (.ret (.known b),[])=>b
 | _=>false
def d1h (n:Int) (d:Nat):Bool:=yes (RN 235 [d3s (p5 n),d3s (s3 d)] [])
theorem g4n:((List.range 2001).all fun k=>d1h ((k:Int) - 1000) 1)=true:=kR
theorem g4o:((List.range 14).all fun d=>(List.range 41).all fun k=>!(smN ((k:Int) - 20) d) || d1h ((k:Int) - 20) d)=true:=kR
set_option maxHeartbeats 8000000
theorem b72 (c:Bool) (a b:Int):CU.isel c a b=cond c a b:=by cases c <;> rfl
theorem e9u {n:Int} {d:Nat} (h:smN n d=true):d1h n d=true:=by
 have h0:=h
 unfold smN at h0
 rw [Bool.or_eq_true,Bool.and_eq_true,Bool.and_eq_true,Bool.and_eq_true,Bool.and_eq_true,Nat.beq_eq,Nat.ble_eq,Nat.ble_eq,Nat.ble_eq,decide_eq_true_eq] at h0
 rcases h0 with ⟨rfl,h1⟩ | ⟨h1,h2,h3,_⟩
 ·have:=List.all_eq_true.1 g4n (n+1000).toNat (by rw [List.mem_range];omega)
  rwa [show (((n+1000).toNat:Nat):Int) - 1000=n by omega] at this
 ·have:=List.all_eq_true.1 (List.all_eq_true.1 g4o d (by rw [List.mem_range];omega)) (n+20).toNat (by rw [List.mem_range];omega)
  rw [show (((n+20).toNat:Nat):Int) - 20=n by omega,h] at this
  exact this
def g5e:Sp where
 ι:={ p:Int × Nat // smN p.1 p.2=true }
 A p:=[.c (.s (p5 p.1.1)),.c (.s (s3 p.1.2))]
 B _:=[]
 R _:=.ret (.c (.b true))
 B' _:=[]
 inj _ _ _ _ _ _ _ _:=⟨rfl,rfl⟩
theorem g81:s9 235 g5e:=fun ⟨(n,d),hp⟩ vs bs hv hb=>by
 change t7 [.c (.s (p5 n)),.c (.s (s3 d))] vs at hv
 cases hb
 have h:=e9u hp
 have e:[d3s (p5 n),d3s (s3 d)].map toD=[GV.c (.s (p5 n)),.c (.s (s3 d))].map dV:=t7.map_toD (.k (.s _ _ _ rfl rfl) (.k (.s _ _ _ rfl rfl) .nil))
 refine ⟨.ret (.bool true),[],fun hok=>?_,.ret _ _ (.b _),.nil⟩
 rw [hv.map_toD,← e]
 unfold d1h yes at h
 split at h
 ·rename_i b he
  subst h
  exact e4x 235 _ _ _ _ he rfl
 ·rename_i b he
  subst h
  have:=e4x 235 _ _ _ _ he rfl
  exact this
 ·cases h
def brO:O→Bool→Bool→Bool→Bool
 | .num _ _,n,_,_=>n
 | .sy _,_,s,_=>s
 | .tx _,_,_,t=>t
 | _,_,_,_=>true
def g47:Sp where
 ι:={ p:O × Bool × Bool × Bool // brO p.1 p.2.1 p.2.2.1 p.2.2.2=true }
 A p:=[.a p.1.1.g,.c (.b p.1.2.1),.c (.b p.1.2.2.1),.c (.b p.1.2.2.2)]
 B _:=[]
 R _:=.ret (.c (.b true))
 B' _:=[]
 inj _ _ _ _ _ _ _ _:=⟨rfl,rfl⟩
theorem g8q:s9 234 g47:=u2 (fun fn h=>c9l h) [] .nil fun U fn hfn ⟨(o,n,s,t),hp⟩ vs bs hv hb=>by
 change t7 [.a o.g,.c (.b n),.c (.b s),.c (.b t)] vs at hv
 change s5 [] bs at hb
 have hp:brO o n s t=true:=hp
 show s4 U _ fun v bs'=>u0 (.ret (.c (.b true))) v∧s5 [] bs'
 unfold d3h
 rw [o.g_eq] at hv
 cases o <;> cases n <;> cases s <;> cases t <;> first | (cases hp;done) | skip
 all_goals
  simp only [O.k,O.nu,O.de,O.sym,O.txt,O.ps] at hv
  (refine Zz ?_;with_reducible repeat' first|intro _|apply aI)
  all_goals try simp only [show o8 0 0=[] from rfl] at *
  all_goals first
   | exact absurd rfl ‹¬_›
   | exact absurd ⟨rfl,rfl,trivial⟩ ‹¬_›
   | exact p9 ⟨.ret _ _ (.kn _),.nil⟩
   | exact E9 fun e=>by subst e;exact ⟨.ret _ _ (N7 rfl),.nil⟩
def okq (o:O):Prop:=o.fm=true∧o.sn=true∧o.size < 90000
def e7s:Sp where
 ι:={ o:O // okq o }
 A o:=[.a o.1.g]
 B _:=[]
 R _:=.ret (.c (.b true))
 B' _:=[]
 inj _ _ _ _ _ _ _ _:=⟨rfl,rfl⟩
theorem b95 {s:Sy} (h:named s=true):s.1.length < 90000∧s.2.length < 90000:=by
 unfold named F6 at h
 simp only [Bool.and_eq_true,decide_eq_true_eq] at h
 omega
theorem g8v:s9 189 e7s:=J4 (fun o=>o.1.size) fun z ih=>u2 (fun fn h=>c9c h) [(189,e7s.lt (fun o=>o.1.size) z),(234,_),(235,_),(236,_)] (.cons ih (.cons g8q (.cons g81 (.cons g4f .nil)))) fun U fn hfn ⟨⟨o,ho⟩,hz⟩ vs bs hv hb=>by
 have hr:=hfn 189 _ rfl
 have hB:=hfn 234 _ rfl
 have hL:=hfn 235 _ rfl
 have hS:=hfn 236 _ rfl
 have hz:o.size < z+1:=hz
 have ho3:o.size < 90000:=ho.2.2
 change t7 [.a o.g] vs at hv
 change s5 [] bs at hb
 show s4 U _ fun v bs'=>u0 (.ret (.c (.b true))) v∧s5 [] bs'
 unfold d28
 refine M3 hv fun _ _ hv1 hv2=>?_
 refine C4 hv1 (O.g_len _) fun _ ha=>?_
 (refine Zz ?_;intros)
 refine F9 (fun (x:O) vs bs=>∃ q:Q,vs=[.ptr 0 0]∧bs=[.opa q 7]∧u3 x.g q 0∧okq x∧x.size≤o.size) (fun x=>x.size) o ⟨_,rfl,rfl,ha,ho,Nat.le_refl _⟩ (show o.size < C9 by simp only [C9];omega) ?_
 rintro self x _ _ ⟨q,rfl,rfl,hq,⟨hf,hsn,_⟩,hsz⟩ ih2
 cases x with
 | co a d =>
  have hs:(O.co a d).size=1+a.size+d.size:=rfl
  rw [hs] at hsz
  have hf2:a.fm=true∧d.fm=true:=by have:(a.fm && d.fm)=true:=hf;rwa [Bool.and_eq_true] at this
  have hn2:a.sn=true∧d.sn=true:=by have:(a.sn && d.sn)=true:=hsn;rwa [Bool.and_eq_true] at this
  have h1:u3 [.i .i64 4,.s [],.s [],.s [],.s [],.s [],.l ([a,d].map O.g)] q 0:=hq
  have hl1:([a,d]:List O).length=2:=rfl
  (refine Zz ?_;with_reducible repeat' first|intro _|apply aI)
  all_goals try exact absurd rfl ‹¬(([a,d].length:Nat):Int)=2›
  refine o7 hB ⟨(.co a d,false,false,false),rfl⟩ (r:=.c (.b true)) rfl (.k (.a _ _ _ (O.g_len _).symm (show u3 (O.co a d).g _ 0 by assumption)) (.k (.kn _) (.k (.kn _) (.k (.kn _) .nil)))) .nil fun _ _ _ _=>?_
  (refine Zz ?_;with_reducible repeat' first|intro _|apply aI)
  all_goals try exact absurd rfl ‹¬true=true›
  refine o7 hr ⟨⟨a,hf2.1,hn2.1,oM⟩,by show a.size < z;omega⟩ (r:=.c (.b true)) rfl (.k (.a _ _ _ (O.g_len _).symm (show u3 a.g _ 0 by assumption)) .nil) .nil fun _ _ _ _=>?_
  (refine Zz ?_;with_reducible repeat' first|intro _|apply aI)
  all_goals try exact absurd rfl ‹¬true=true›
  exact ih2 d _ _ ⟨_,rfl,rfl,show u3 d.g _ 0 by assumption,⟨hf2.2,hn2.2,oM⟩,oM⟩ (by rw [hs];omega)
 | num n d =>
  have hq:u3 [.i .i64 1,.s (p5 n),.s (s3 d),.s [],.s [],.s [],.l (([]:List O).map O.g)] q 0:=hq
  (refine Zz ?_;intros)
  refine o7 hB ⟨(.num n d,true,false,false),rfl⟩ (r:=.c (.b true)) rfl (.k (.a _ _ _ (O.g_len _).symm (show u3 (O.num n d).g _ 0 by assumption)) (.k (.kn _) (.k (.kn _) (.k (.kn _) .nil)))) .nil fun _ _ _ _=>?_
  (refine Zz ?_;with_reducible repeat' first|intro _|apply aI)
  all_goals try exact absurd rfl ‹¬true=true›
  all_goals try exact absurd rfl ‹¬((([]:List O).length:Nat):Int)=0›
  refine o7 hL ⟨(n,d),hsn⟩ (r:=.c (.b true)) rfl (.k (.q _ _ aS) (.k (.q _ _ aS) .nil)) .nil fun _ _ _ _=>?_
  (refine Zz ?_;intros)
  exact p9 ⟨.ret _ _ (.b _),.nil⟩
 | sy s =>
  have hq:u3 [.i .i64 2,.s [],.s [],.s s.1,.s s.2,.s [],.l (([]:List O).map O.g)] q 0:=hq
  have hnm:named s=true:=hf
  (refine Zz ?_;intros)
  refine o7 hB ⟨(.sy s,false,true,false),rfl⟩ (r:=.c (.b true)) rfl (.k (.a _ _ _ (O.g_len _).symm (show u3 (O.sy s).g _ 0 by assumption)) (.k (.kn _) (.k (.kn _) (.k (.kn _) .nil)))) .nil fun _ _ _ _=>?_
  (refine Zz ?_;with_reducible repeat' first|intro _|apply aI)
  all_goals try exact absurd rfl ‹¬true=true›
  all_goals try exact absurd rfl ‹¬((([]:List O).length:Nat):Int)=0›
  refine o7 hS ⟨s,(b95 hnm).1,(b95 hnm).2⟩ (r:=.c (.b true)) (by show u9.ret (.c (.b (named s)))=_;rw [hnm]) (.k (O0 (gs:=List.drop 3 _) aS (by rfl) rfl) .nil) .nil fun _ _ _ _=>?_
  (refine Zz ?_;intros)
  exact p9 ⟨.ret _ _ (.b _),.nil⟩
 | tx t =>
  have hq:u3 [.i .i64 3,.s [],.s [],.s [],.s [],.s t,.l (([]:List O).map O.g)] q 0:=hq
  have ht:t.length≤200:=of_decide_eq_true hf
  (refine Zz ?_;intros)
  refine o7 hB ⟨(.tx t,false,false,true),rfl⟩ (r:=.c (.b true)) rfl (.k (.a _ _ _ (O.g_len _).symm (show u3 (O.tx t).g _ 0 by assumption)) (.k (.kn _) (.k (.kn _) (.k (.kn _) .nil)))) .nil fun _ _ _ _=>?_
  (refine Zz ?_;with_reducible repeat' first|intro _|apply aI)
  all_goals try exact absurd rfl ‹¬true=true›
  all_goals try exact absurd rfl ‹¬((([]:List O).length:Nat):Int)=0›
  exact E9 fun e=>by subst e;exact ⟨.ret _ _ (N7 (by rw [c2l,decide_eq_true oM])),.nil⟩
 | no=>cases hf
def g0j:Sp where
 ι:={ p:O × Nat // p.1.size≤p.2∧p.2≤3001 }
 A p:=[.a p.1.1.g,.c (.i .i64 (p.1.2:Nat))]
 B _:=[]
 R p:=.ret (.c (.i .i64 (p.1.2 - p.1.1.size:Nat)))
 B' _:=[]
 inj i j vs bs h k _ _:=by
  obtain ⟨⟨t,n⟩,_⟩:=i
  obtain ⟨⟨t',n'⟩,_⟩:=j
  obtain ⟨_,_,h1,k1,h,k⟩:=h.two k
  obtain ⟨_,_,h2,k2,h,k⟩:=h.two k
  have e1:t=t':=O.g_inj (h1.a_inj k1)
  have e2:((n:Nat):Int)=n':=d1b h2 k2
  have e2:n=n':=oM
  subst e1 e2
  exact ⟨rfl,rfl⟩
theorem f6i:s9 233 g0j:=J4 (fun p=>p.1.1.size) fun z ih=>u2 (fun fn h=>c9k h) [(233,g0j.lt (fun p=>p.1.1.size) z)] (.cons ih .nil) fun U fn hfn ⟨⟨(o,left),h1,h2⟩,hz⟩ vs bs hv hb=>by
 have hr:=hfn 233 _ rfl
 have h1:o.size≤left:=h1
 have h2:left≤3001:=h2
 have hz:o.size < z+1:=hz
 change t7 [.a o.g,.c (.i .i64 (left:Nat))] vs at hv
 change s5 [] bs at hb
 show s4 U _ fun v bs'=>u0 (.ret (.c (.i .i64 (left - o.size:Nat)))) v∧s5 [] bs'
 unfold d3g
 refine M3 hv fun _ _ hv1 hv2=>?_
 refine C4 hv1 (O.g_len _) fun _ ha=>?_
 (refine Zz ?_;intros)
 refine F9 (fun (x:O) vs bs=>∃ (q:Q) (m:Int) (n:Nat),vs=[.int .i64 m,.ptr 0 0]∧bs=[.opa q 7]∧m=(n:Nat)∧u3 x.g q 0∧x.size≤n∧n - x.size=left - o.size∧n≤3001∧x.size≤o.size) (fun x=>x.size) o ⟨_,_,left,rfl,rfl,rfl,ha,h1,rfl,h2,Nat.le_refl _⟩ (show o.size < C9 by simp only [C9];omega) ?_
 rintro self x _ _ ⟨q,_,n,rfl,rfl,rfl,hq,h3,h4,h5,hsz⟩ ih2
 have hp:=x.size_pos
 cases x with
 | co a d =>
  have hs:(O.co a d).size=1+a.size+d.size:=rfl
  rw [hs] at hsz h3 h4
  have hq:u3 [.i .i64 4,.s [],.s [],.s [],.s [],.s [],.l ([a,d].map O.g)] q 0:=hq
  have hl1:([a,d]:List O).length=2:=rfl
  (refine Zz ?_;with_reducible repeat' first|intro _|apply aI)
  ·refine o7 hr ⟨⟨(a,n - 1),by show a.size≤n - 1;omega,by show n - 1≤3001;omega⟩,by show a.size < z;omega⟩ (r:=.c (.i .i64 (n - 1 - a.size:Nat))) rfl (.k (.a _ _ _ (O.g_len _).symm (show u3 a.g _ 0 by assumption)) (.k (R6 (by show ((n - 1:Nat):Int)=_;omega)) .nil)) .nil fun _ _ _ _=>?_
   (refine Zz ?_;intros)
   exact ih2 d _ _ ⟨_,_,n - 1 - a.size,rfl,rfl,rfl,show u3 d.g _ 0 by assumption,oM,oM,oM,oM⟩ (by rw [hs];omega)
  ·exact absurd rfl ‹¬(([a,d].length:Nat):Int)=2›
  ·exact absurd oM ‹¬(0:Int) < _›
 | _ =>
  have hs1:n - 1=left - o.size:=h4
  have h30:1≤n:=h3
  rw [O.g_eq] at hq
  simp only [O.k,O.nu,O.de,O.sym,O.txt,O.ps] at hq
  (refine Zz ?_;with_reducible repeat' first|intro _|apply aI)
  all_goals first
   | exact absurd ‹((([]:List O).length:Nat):Int)=2› dE
   | exact absurd oM ‹¬(0:Int) < _›
   | exact p9 ⟨.ret _ _ (R6 oM),.nil⟩
def g0h (ok:O→Prop) (g:O→GV):Sp where
 ι:={ o:O // ok o }
 A o:=[.a o.1.g]
 B _:=[]
 R o:=.ret (g o.1)
 B' _:=[]
 inj i j vs bs h k _ _:=by rw [b0u h k];exact ⟨rfl,rfl⟩
theorem c31:s9 188 (g0h (fun o=>o.size≤3001) fun o=>.c (.i .i64 (o.size:Nat))):=u2 (fun fn h=>c9b h) [(233,_)] (.cons f6i .nil) fun U fn hfn ⟨o,ho⟩ vs bs hv hb=>by
 have hR:=hfn 233 _ rfl
 have ho:o.size≤3001:=ho
 change t7 [.a o.g] vs at hv
 change s5 [] bs at hb
 show s4 U _ fun v bs'=>u0 (.ret (.c (.i .i64 (o.size:Nat)))) v∧s5 [] bs'
 unfold d27
 refine M3 hv fun _ _ hv1 hv2=>?_
 refine C4 hv1 (O.g_len _) fun _ ha=>?_
 (refine Zz ?_;intros)
 refine o7 hR ⟨(o,3001),ho,by show 3001≤3001;omega⟩ (r:=.c (.i .i64 (3001 - o.size:Nat))) rfl (.k oV (.k (.i _ _) .nil)) .nil fun _ _ _ _=>?_
 (refine Zz ?_;intros)
 refine b81 (b:=((3001 - o.size:Nat):Int)) (fun e=>by
  subst e
  rw [b72,b73]
  by_cases h:(0:Int) < ((3001 - o.size:Nat):Int)
  ·rw [decide_eq_true h];rfl
  ·rw [decide_eq_false h];show (0:Int)=_;omega) ?_
 (refine Zz ?_;intros)
 exact p9 ⟨.ret _ _ (R6 oM),.nil⟩
theorem c7x:s9 128 (g0h okk fun _=>.c (.b true)):=u2 (fun fn h=>c8r h) [(188,_),(189,_)] (.cons c31 (.cons g8v .nil)) fun U fn hfn ⟨o,ho⟩ vs bs hv hb=>by
 have hN:=hfn 188 _ rfl
 have hF:=hfn 189 _ rfl
 have ho1:o.size≤3000:=ho.1.1
 change t7 [.a o.g] vs at hv
 change s5 [] bs at hb
 show s4 U _ fun v bs'=>u0 (.ret (.c (.b true))) v∧s5 [] bs'
 unfold d2m
 refine M3 hv fun _ _ hv1 hv2=>?_
 refine C4 hv1 (O.g_len _) fun _ ha=>?_
 (refine Zz ?_;intros)
 refine o7 hN ⟨o,oM⟩ (r:=.c (.i .i64 (o.size:Nat))) rfl oA .nil fun _ _ _ _=>?_
 (refine Zz ?_;with_reducible repeat' first|intro _|apply aI)
 ·refine o7 hF ⟨o,ho.1.2,ho.2,oM⟩ (r:=.c (.b true)) rfl oA .nil fun _ _ _ _=>?_
  (refine Zz ?_;intros)
  exact p9 ⟨.ret _ _ (.b _),.nil⟩
 ·exact absurd oM ‹¬((o.size:Nat):Int)≤3000›
def g5h:Sp where
 ι:={ s:Sy // named s=true }
 A s:=[.a (sg s.1)]
 B _:=[]
 R _:=.ret (.c (.b true))
 B' _:=[]
 inj _ _ _ _ _ _ _ _:=⟨rfl,rfl⟩
theorem c35:s9 129 g5h:=u2 (fun fn h=>c8s h) [(177,_),(128,_)] (.cons b4l (.cons c7x .nil)) fun U fn hfn ⟨s,hs⟩ vs bs hv hb=>by
 have hS:=hfn 177 _ rfl
 have hV:=hfn 128 _ rfl
 change t7 [.a [.s s.1,.s s.2]] vs at hv
 change s5 [] bs at hb
 show s4 U _ fun v bs'=>u0 (.ret (.c (.b true))) v∧s5 [] bs'
 unfold d2n
 (refine Zz ?_;intros)
 refine o7 hS s (r:=.a (O.sy s).g) rfl (.k (.a _ _ _ rfl aS) .nil) .nil fun _ _ h1 _=>?_
 refine C4 h1 (O.g_len _) fun _ _=>?_
 (refine Zz ?_;intros)
 refine o7 hV ⟨.sy s,⟨by show 1≤3000;decide,hs⟩,rfl⟩ (r:=.c (.b true)) rfl oA .nil fun _ _ _ _=>?_
 (refine Zz ?_;intros)
 exact p9 ⟨.ret _ _ (.b _),.nil⟩
def c93:Sp where
 ι:={ p:T × Nat // p.1.nd≤p.2∧p.2≤3001 }
 A p:=[.a p.1.1.g,.c (.i .i64 (p.1.2:Nat))]
 B _:=[]
 R p:=.ret (.c (.i .i64 (p.1.2 - p.1.1.nd:Nat)))
 B' _:=[]
 inj i j vs bs h k _ _:=by
  obtain ⟨⟨t,n⟩,_⟩:=i
  obtain ⟨⟨t',n'⟩,_⟩:=j
  obtain ⟨_,_,h1,k1,h,k⟩:=h.two k
  obtain ⟨_,_,h2,k2,h,k⟩:=h.two k
  have e1:t=t':=T.g_inj (h1.a_inj k1)
  have e2:((n:Nat):Int)=n':=d1b h2 k2
  have e2:n=n':=oM
  subst e1 e2
  exact ⟨rfl,rfl⟩
theorem f6j:s9 125 c93:=J4 (fun p=>p.1.1.nd) fun z ih=>u2 (fun fn h=>c8o h) [(125,c93.lt (fun p=>p.1.1.nd) z),(188,_)] (.cons ih (.cons c31 .nil)) fun U fn hfn ⟨⟨(t,left),h1,h2⟩,hz⟩ vs bs hv hb=>by
 have hR:=hfn 125 _ rfl
 have hN:=hfn 188 _ rfl
 have h1:t.nd≤left:=h1
 have h2:left≤3001:=h2
 have hz:t.nd < z+1:=hz
 change t7 [.a t.g,.c (.i .i64 (left:Nat))] vs at hv
 change s5 [] bs at hb
 show s4 U _ fun v bs'=>u0 (.ret (.c (.i .i64 (left - t.nd:Nat)))) v∧s5 [] bs'
 have hp:=c4i t
 unfold d2j
 cases t with
 | v s =>
  simp only [T.g] at hv
  have e:(T.v s).nd=1:=rfl
  rw [e] at h1 hz hp
  rw [e]
  (refine Zz ?_;intros)
  exact p9 ⟨.ret _ _ (R6 oM),.nil⟩
 | c o =>
  simp only [T.g] at hv
  have e:(T.c o).nd=o.size:=by rw [T.nd]
  rw [e] at h1 hz hp
  rw [e]
  (refine Zz ?_;intros)
  refine o7 hN ⟨o,oM⟩ (r:=.c (.i .i64 (o.size:Nat))) rfl (.k (O0 (gs:=List.drop 3 _) aS (by exact o.g_eq.symm) (O.g_len _).symm) .nil) .nil fun _ _ _ _=>?_
  (refine Zz ?_;intros)
  exact p9 ⟨.ret _ _ (R6 oM),.nil⟩
 | call f xs =>
  simp only [T.g,T.gs_eq] at hv
  have e:(T.call f xs).nd=1+T.nds xs:=by rw [T.nd]
  rw [e] at h1 hz hp
  rw [e]
  have hxn:=a8e xs
  (refine Zz ?_;intros)
  refine E5 aS (v6 T.g_len) fun _ _ _=>?_
  (refine Zz ?_;intros)
  refine F9 (fun (i:Nat) vs bs=>∃ (x:Q) (m:Int) (n:Nat),vs=[.int .i64 m,.q x,.int .i64 (xs.length:Nat),.int .i64 (i:Nat)]∧bs=[]∧m=(n:Nat)∧RG (.l (xs.map T.g)) x∧i≤xs.length∧T.nds (xs.drop i)≤n∧n - T.nds (xs.drop i)=left - (1+T.nds xs)∧n≤3001) (fun i=>xs.length - i) 0
   ⟨_,_,left - 1,rfl,rfl,oM,aS,oM,by rw [List.drop_zero];omega,by rw [List.drop_zero];omega,oM⟩ (by simp only [C9];omega) ?_
  rintro self i _ _ ⟨x,_,n,rfl,rfl,rfl,hx,hi,h3,h4,h5⟩ ih2
  (refine Zz ?_;intros)
  refine sQV ?_
  (refine Zz ?_;with_reducible repeat' first|intro _|apply aI)
  ·have hil:i < xs.length:=oM
   rw [List.drop_eq_getElem_cons hil,T.nds] at h3 h4
   have hxp:=c4i xs[i]
   have hxi:=a8f (List.getElem_mem hil)
   refine E5 aS (v6 T.g_len) fun _ _ _=>?_
   (refine Zz ?_;with_reducible repeat' first|intro _|apply aI)
   all_goals try exact absurd ‹((n:Nat):Int)≤0› oM
   refine o7 hR ⟨⟨(xs[i],n),by show xs[i].nd≤n;omega,h5⟩,by show xs[i].nd < z;omega⟩ (r:=.c (.i .i64 (n - xs[i].nd:Nat))) rfl (.k (.a _ _ _ (T.g_len _).symm aS) (.k (.i _ _) .nil)) .nil fun _ _ _ _=>?_
   (refine Zz ?_;intros)
   exact ih2 (i+1) _ _ ⟨_,_,n - xs[i].nd,rfl,rfl,rfl,hx,oM,oM,oM,oM⟩ oM
  ·have ei:i=xs.length:=oM
   rw [ei,List.drop_length] at h4
   have h4:n - 0=left - (1+T.nds xs):=h4
   exact p9 ⟨.ret _ _ (R6 oM),.nil⟩
def e4d (ok:T→Prop) (g:T→GV):Sp where
 ι:={ t:T // ok t }
 A t:=[.a t.1.g]
 B _:=[]
 R t:=.ret (g t.1)
 B' _:=[]
 inj i j vs bs h k _ _:=by
  obtain ⟨_,_,h1,k1,h,k⟩:=h.two k
  rw [T.g_inj (h1.a_inj k1)];exact ⟨rfl,rfl⟩
theorem e9l:s9 83 (e4d (fun t=>t.nd≤3000) fun t=>.c (.i .i64 (t.nd:Nat))):=u2 (fun fn h=>d65 h) [(125,_)] (.cons f6j .nil) fun U fn hfn ⟨t,ht⟩ vs bs hv hb=>by
 have hR:=hfn 125 _ rfl
 change t7 [.a t.g] vs at hv
 change s5 [] bs at hb
 show s4 U _ fun v bs'=>u0 (.ret (.c (.i .i64 (t.nd:Nat)))) v∧s5 [] bs'
 unfold r83
 (refine Zz ?_;intros)
 refine C4 aS (T.g_len _) fun _ _=>?_
 (refine Zz ?_;intros)
 refine o7 hR ⟨(t,3001),by show t.nd≤3001;omega,by show 3001≤3001;omega⟩ (r:=.c (.i .i64 (3001 - t.nd:Nat))) rfl (.k (.a _ _ _ (T.g_len _).symm aS) (.k (.i _ _) .nil)) .nil fun _ _ _ _=>?_
 (refine Zz ?_;intros)
 refine b81 (b:=((3001 - t.nd:Nat):Int)) (fun e=>by subst e;rw [b72,b73,decide_eq_true oM];rfl) ?_
 (refine Zz ?_;intros)
 exact p9 ⟨.ret _ _ (R6 oM),.nil⟩
def e7o:Sp where
 ι:={ p:T × Nat // p.1.dp < p.2∧p.2≤201∧Gf p.1 }
 A p:=[.a p.1.1.g,.c (.i .i64 (p.1.2:Nat))]
 B _:=[]
 R p:=.ret (.c (.i .i64 (p.1.1.dp:Nat)))
 B' _:=[]
 inj i j vs bs h k _ _:=by
  obtain ⟨⟨t,n⟩,_⟩:=i
  obtain ⟨⟨t',n'⟩,_⟩:=j
  obtain ⟨_,_,h1,k1,h,k⟩:=h.two k
  have e1:t=t':=T.g_inj (h1.a_inj k1)
  subst e1
  exact ⟨rfl,rfl⟩
theorem e88:s9 126 e7o:=J4 (fun p=>p.1.1.nd) fun z ih=>u2 (fun fn h=>c8p h) [(126,e7o.lt (fun p=>p.1.1.nd) z)] (.cons ih .nil) fun U fn hfn ⟨⟨(t,most),h1,h2,h0⟩,hz⟩ vs bs hv hb=>by
 have hR:=hfn 126 _ rfl
 have h10:t.dp < most:=h1
 have h20:most≤201:=h2
 have hz0:t.nd < z+1:=hz
 change t7 [.a t.g,.c (.i .i64 (most:Nat))] vs at hv
 change s5 [] bs at hb
 show s4 U _ fun v bs'=>u0 (.ret (.c (.i .i64 (t.dp:Nat)))) v∧s5 [] bs'
 unfold d2k
 cases h0 with
 | v s =>
  simp only [T.g] at hv
  (refine Zz ?_;intros)
  exact p9 ⟨.ret _ _ (R6 (by rfl)),.nil⟩
 | c o =>
  simp only [T.g] at hv
  (refine Zz ?_;intros)
  exact p9 ⟨.ret _ _ (R6 (by rfl)),.nil⟩
 | call f xs hf hl hx =>
  simp only [T.g,T.gs_eq] at hv
  have e:(T.call f xs).nd=1+T.nds xs:=by rw [T.nd]
  rw [e] at hz0
  have e:(T.call f xs).dp=1+T.dps xs:=by rw [T.dp]
  rw [e] at h10
  rw [e]
  (refine Zz ?_;with_reducible repeat' first|intro _|apply aI)
  ·exact absurd ‹((most:Nat):Int)≤1› oM
  ·refine E5 aS (v6 T.g_len) fun _ _ _=>?_
   (refine Zz ?_;intros)
   refine F9 (fun (i:Nat) vs bs=>∃ (x:Q) (m:Int) (n:Nat),vs=[.int .i64 (most:Nat),.int .i64 m,.q x,.int .i64 (xs.length:Nat),.int .i64 (i:Nat)]∧bs=[]∧m=(n:Nat)∧RG (.l (xs.map T.g)) x∧i≤xs.length∧1≤n∧max n (1+T.dps (xs.drop i))=1+T.dps xs) (fun i=>xs.length - i) 0
    ⟨_,_,1,rfl,rfl,rfl,aS,oM,oM,by rw [List.drop_zero];omega⟩ (by simp only [C9];omega) ?_
   rintro self i _ _ ⟨x,_,n,rfl,rfl,rfl,hx1,hi,h3,h4⟩ ih2
   (refine Zz ?_;intros)
   refine sQV ?_
   (refine Zz ?_;with_reducible repeat' first|intro _|apply aI)
   ·have hil:i < xs.length:=oM
    rw [List.drop_eq_getElem_cons hil,T.dps] at h4
    have hxi:=a8f (List.getElem_mem hil)
    refine E5 aS (v6 T.g_len) fun _ _ _=>?_
    (refine Zz ?_;intros)
    refine o7 hR ⟨⟨(xs[i],most - 1),by show xs[i].dp < most - 1;omega,by show most - 1≤201;omega,hx _ (List.getElem_mem hil)⟩,by show xs[i].nd < z;omega⟩ (r:=.c (.i .i64 (xs[i].dp:Nat))) rfl (.k (.a _ _ _ (T.g_len _).symm aS) (.k (R6 (by show ((most - 1:Nat):Int)=_;omega)) .nil)) .nil fun _ _ _ _=>?_
    (refine Zz ?_;intros)
    refine b81 (b:=((max n (1+xs[i].dp):Nat):Int)) (fun e=>by subst e;rw [b72,b73];by_cases h:(n:Int) < 1+(xs[i].dp:Nat) <;> simp [h] <;> omega) ?_
    (refine Zz ?_;with_reducible repeat' first|intro _|apply aI)
    ·exact absurd ‹((most:Nat):Int)≤_› oM
    ·exact ih2 (i+1) _ _ ⟨_,_,max n (1+xs[i].dp),rfl,rfl,rfl,hx1,oM,oM,oM⟩ oM
   ·have ei:i=xs.length:=oM
    rw [ei,List.drop_length] at h4
    have h4:max n (1+0)=1+T.dps xs:=h4
    exact p9 ⟨.ret _ _ (R6 oM),.nil⟩
theorem e0j:s9 84 (e4d (fun t=>t.dp≤200∧Gf t) fun t=>.c (.i .i64 (t.dp:Nat))):=u2 (fun fn h=>d66 h) [(126,_)] (.cons e88 .nil) fun U fn hfn ⟨t,ht,hg⟩ vs bs hv hb=>by
 have hR:=hfn 126 _ rfl
 change t7 [.a t.g] vs at hv
 change s5 [] bs at hb
 show s4 U _ fun v bs'=>u0 (.ret (.c (.i .i64 (t.dp:Nat)))) v∧s5 [] bs'
 unfold r84
 (refine Zz ?_;intros)
 refine C4 aS (T.g_len _) fun _ _=>?_
 (refine Zz ?_;intros)
 refine o7 hR ⟨(t,201),by show t.dp < 201;omega,by show 201≤201;omega,hg⟩ (r:=.c (.i .i64 (t.dp:Nat))) rfl (.k (.a _ _ _ (T.g_len _).symm aS) (.k (.i _ _) .nil)) .nil fun _ _ _ _=>?_
 (refine Zz ?_;intros)
 exact p9 ⟨.ret _ _ (.i _ _),.nil⟩
def g5i:Sp where
 ι:={ s:Sy // R8 s=true }
 A s:=[.a (sg s.1)]
 B _:=[]
 R _:=.ret (.c (.b true))
 B' _:=[]
 inj _ _ _ _ _ _ _ _:=⟨rfl,rfl⟩
theorem d5q:s9 127 g5i:=u2 (fun fn h=>c8q h) [(129,_),(160,_),(111,_)] (.cons c35 (.cons g4b (.cons kTP .nil))) fun U fn hfn ⟨s,hs⟩ vs bs hv hb=>by
 have hV:=hfn 129 _ rfl
 have hN:=hfn 160 _ rfl
 have hT:=hfn 111 _ rfl
 change t7 [.a [.s s.1,.s s.2]] vs at hv
 change s5 [] bs at hb
 have hs:R8 s=true:=hs
 have hn:named s=true∧s ≠ (s8,o8 3 7104878)∧s ≠ (s8,o8 1 116):=by
  have e0:R8 s=(named s && decide (s ≠ (s8,o8 3 7104878)) && decide (s ≠ (s8,o8 1 116))):=rfl
  rw [e0,Bool.and_eq_true,Bool.and_eq_true,decide_eq_true_iff,decide_eq_true_iff] at hs
  exact ⟨hs.1.1,hs.1.2,hs.2⟩
 obtain ⟨hn1,hn2,hn3⟩:=hn
 show s4 U _ fun v bs'=>u0 (.ret (.c (.b true))) v∧s5 [] bs'
 unfold d2l
 (refine Zz ?_;intros)
 refine o7 hV ⟨s,hn1⟩ (r:=.c (.b true)) rfl (.k (.a _ _ _ rfl aS) .nil) .nil fun _ _ _ _=>?_
 (refine Zz ?_;with_reducible repeat' first|intro _|apply aI)
 all_goals try exact absurd rfl ‹¬true=true›
 refine o7 hN () (r:=.a C8.g) rfl .nil .nil fun _ _ h1 _=>?_
 refine C4 h1 (O.g_len _) fun _ _=>?_
 (refine Zz ?_;with_reducible repeat' first|intro _|apply aI)
 ·have hq:=‹s.1=_∧_∧True›
  exact absurd (Prod.ext hq.1 hq.2.1) hn2
 ·refine o7 hT () (r:=.a tO.g) rfl .nil .nil fun _ _ h1 _=>?_
  refine C4 h1 (O.g_len _) fun _ _=>?_
  (refine Zz ?_;intros)
  refine E9 fun e=>?_
  subst e
  refine ⟨.ret _ _ (N7 ?_),.nil⟩
  rw [b2j,a2x,a2x,b03,b03,Bool.and_true,← Bool.decide_and,← decide_not]
  exact Eq.symm (by rw [decide_eq_true_iff];exact fun h=>hn3 (Prod.ext h.1 h.2))
def c5j:Sp where
 ι:={ t:T // Gf t }
 A t:=[.a t.1.g]
 B _:=[]
 R _:=.ret (.c (.b true))
 B' _:=[]
 inj _ _ _ _ _ _ _ _:=⟨rfl,rfl⟩
def g49 (n:Nat):Sp where
 ι:={ t:T // Gf t∧t.nd < n }
 A t:=[.a t.1.g]
 B _:=[]
 R _:=.ret (.c (.b false))
 B' _:=[]
 inj _ _ _ _ _ _ _ _:=⟨rfl,rfl⟩
def c2k:V:=.func (.func 131) [] []
def e7q (r:GV) (n:Nat):Sp where
 ι:={ l:List T // l.length < 90000∧∀ t ∈ l,Gf t∧t.nd < n }
 A l:=[.sl 11 (l.1.map T.g),.raw c2k]
 B _:=[]
 R _:=.ret r
 B' _:=[]
 inj _ _ _ _ _ _ _ _:=⟨rfl,rfl⟩
theorem g8u (n:Nat) (ih:s9 85 (c5j.lt (fun t=>t.1.nd) n)):s9 131 (g49 n):=u2 (fun fn h=>c8u h) [(85,c5j.lt (fun t=>t.1.nd) n)] (.cons ih .nil) fun U fn hfn ⟨t,ht,hn⟩ vs bs hv hb=>by
 have hF:=hfn 85 _ rfl
 change t7 [.a t.g] vs at hv
 change s5 [] bs at hb
 show s4 U _ fun v bs'=>u0 (.ret (.c (.b false))) v∧s5 [] bs'
 unfold d2p
 (refine Zz ?_;intros)
 refine C4 aS (T.g_len _) fun _ _=>?_
 (refine Zz ?_;intros)
 refine o7 hF ⟨⟨t,ht⟩,hn⟩ (r:=.c (.b true)) rfl (.k (.a _ _ _ (T.g_len _).symm aS) .nil) .nil fun _ _ _ _=>?_
 (refine Zz ?_;intros)
 exact E9 fun e=>by subst e;exact ⟨.ret _ _ (N7 rfl),.nil⟩
theorem g35 (n:Nat) (ih:s9 85 (c5j.lt (fun t=>t.1.nd) n)):s9 190 (e7q (.c (.i .i64 (-1))) n):=u2 (fun fn h=>c9d h) [(131,_)] (.cons (g8u n ih) .nil) fun U fn hfn ⟨l,hl,hm⟩ vs bs hv hb=>by
 have hF:=hfn 131 _ rfl
 change t7 [.sl 11 (l.map T.g),.raw c2k] vs at hv
 change s5 [] bs at hb
 show s4 U _ fun v bs'=>u0 (.ret (.c (.i .i64 (-1)))) v∧s5 [] bs'
 unfold d29
 (refine Zz ?_;intros)
 refine a33 aS ?_
 (refine Zz ?_;intros)
 refine F9 (fun (i:Nat) vs bs=>∃ (t:s6 Q) (off:Nat),vs=[.slice t 11 off l.length .no,c2k,.int .i64 (l.length:Nat),.int .i64 (i:Nat)]∧bs=[]∧u6 11 (l.map T.g) t off∧i≤l.length) (fun i=>l.length - i) 0
  ⟨_,_,rfl,rfl,aS,oM⟩ (by simp only [C9];omega) ?_
 rintro self i _ _ ⟨t,off,rfl,rfl,ht,hi⟩ ih2
 unfold c2k
 (refine Zz ?_;intros)
 refine b8w ?_
 (refine Zz ?_;with_reducible repeat' first|intro _|apply aI)
 ·have hil:i < l.length:=oM
  refine o7 hF ⟨l[i],hm _ (List.getElem_mem hil)⟩ (r:=.c (.b false)) rfl (.k (.a _ _ _ (T.g_len _).symm aS) .nil) .nil fun _ _ _ _=>?_
  (refine Zz ?_;with_reducible repeat' first|intro _|apply aI)
  all_goals try exact absurd ‹false=true› dE
  exact ih2 (i+1) _ _ ⟨_,_,rfl,rfl,ht,oM⟩ oM
 ·exact p9 ⟨.ret _ _ (.i _ _),.nil⟩
theorem g34 (n:Nat) (ih:s9 85 (c5j.lt (fun t=>t.1.nd) n)):s9 130 (e7q (.c (.b false)) n):=u2 (fun fn h=>c8t h) [(190,_)] (.cons (g35 n ih) .nil) fun U fn hfn ⟨l,hl⟩ vs bs hv hb=>by
 have hF:=hfn 190 _ rfl
 change t7 [.sl 11 (l.map T.g),.raw c2k] vs at hv
 change s5 [] bs at hb
 show s4 U _ fun v bs'=>u0 (.ret (.c (.b false))) v∧s5 [] bs'
 unfold d2o
 (refine Zz ?_;intros)
 refine a33 aS ?_
 (refine Zz ?_;intros)
 refine o7 hF ⟨l,hl⟩ (r:=.c (.i .i64 (-1))) rfl (.k (.sl _ _ _ _ _ (by simp) aS) (.k (.raw _) .nil)) .nil fun _ _ _ _=>?_
 (refine Zz ?_;intros)
 exact E9 fun e=>by subst e;exact ⟨.ret _ _ (N7 rfl),.nil⟩
theorem e0l:s9 85 c5j:=J4 (fun t=>t.1.nd) fun z ih=>u2 (fun fn h=>d67 h) [(130,_),(129,_),(128,_),(110,_),(127,_)] (.cons (g34 z ih) (.cons c35 (.cons c7x (.cons f6b (.cons d5q .nil))))) fun U fn hfn ⟨⟨t,ht⟩,hz⟩ vs bs hv hb=>by
 have hC:=hfn 130 _ rfl
 have hS:=hfn 129 _ rfl
 have hO:=hfn 128 _ rfl
 have hE:=hfn 110 _ rfl
 have hV:=hfn 127 _ rfl
 have hz0:t.nd < z+1:=hz
 change t7 [.a t.g] vs at hv
 change s5 [] bs at hb
 show s4 U _ fun v bs'=>u0 (.ret (.c (.b true))) v∧s5 [] bs'
 unfold r85
 have h0:(O.no).size < 90000:=dE
 cases ht with
 | v s hs =>
  simp only [T.g] at hv
  (refine Zz ?_;intros)
  refine o7 hV ⟨s,hs⟩ (r:=.c (.b true)) rfl (.k (O0 (gs:=List.drop 1 _) aS (by rfl) rfl) .nil) .nil fun _ _ _ _=>?_
  (refine Zz ?_;with_reducible repeat' first|intro _|apply aI)
  all_goals try exact absurd rfl ‹¬true=true›
  refine o7 hE ⟨(.no,.no),h0⟩ (r:=.c (.b true)) (by show u9.ret (.c (.b (O.eqb .no .no)))=_;rw [O.eqb_t.2 rfl]) (.k (O0 (gs:=List.drop 3 _) aS (by rfl) rfl) (.k (show RV (.a (O.no).g) _ from .ag _ _ (by (exact Zru))) .nil)) .nil fun _ _ _ _=>?_
  (refine Zz ?_;with_reducible repeat' first|intro _|apply aI)
  all_goals try exact absurd rfl ‹¬true=true›
  refine E5 (ys:=([]:List T)) (f:=T.g) aS (v6 T.g_len) fun _ _ _=>?_
  (refine Zz ?_;intros)
  exact E9 fun e=>by subst e;exact ⟨.ret _ _ (N7 rfl),.nil⟩
 | c o ho =>
  simp only [T.g] at hv
  (refine Zz ?_;intros)
  refine o7 hO ⟨o,ho⟩ (r:=.c (.b true)) rfl (.k (O0 (gs:=List.drop 3 _) aS (by exact o.g_eq.symm) (O.g_len _).symm) .nil) .nil fun _ _ _ _=>?_
  (refine Zz ?_;with_reducible repeat' first|intro _|apply aI)
  all_goals try exact absurd rfl ‹¬true=true›
  refine E5 (ys:=([]:List T)) (f:=T.g) aS (v6 T.g_len) fun _ _ _=>?_
  (refine Zz ?_;intros)
  exact E9 fun e=>by subst e;exact ⟨.ret _ _ (N7 rfl),.nil⟩
 | call f xs hf hl hx =>
  simp only [T.g,T.gs_eq] at hv
  have e:(T.call f xs).nd=1+T.nds xs:=by rw [T.nd]
  rw [e] at hz0
  (refine Zz ?_;intros)
  refine o7 hS ⟨f,hf⟩ (r:=.c (.b true)) rfl (.k (O0 (gs:=List.drop 1 _) aS (by rfl) rfl) .nil) .nil fun _ _ _ _=>?_
  (refine Zz ?_;with_reducible repeat' first|intro _|apply aI)
  all_goals try exact absurd rfl ‹¬true=true›
  refine o7 hE ⟨(.no,.no),h0⟩ (r:=.c (.b true)) (by show u9.ret (.c (.b (O.eqb .no .no)))=_;rw [O.eqb_t.2 rfl]) (.k (O0 (gs:=List.drop 3 _) aS (by rfl) rfl) (.k (show RV (.a (O.no).g) _ from .ag _ _ (by (exact Zru))) .nil)) .nil fun _ _ _ _=>?_
  (refine Zz ?_;with_reducible repeat' first|intro _|apply aI)
  all_goals try exact absurd rfl ‹¬true=true›
  refine E5 aS (v6 T.g_len) fun _ _ _=>?_
  (refine Zz ?_;with_reducible repeat' first|intro _|apply aI)
  all_goals try exact absurd ‹(8:Int) < _› oM
  have hxn:=a8e xs
  refine o7 hC ⟨xs,oM,fun t ht=>⟨hx t ht,by have:=a8f ht;omega⟩⟩ (r:=.c (.b false)) rfl (.k (.slq _ _ _ aS (v6 T.g_len)) (.k (.raw _) .nil)) .nil fun _ _ _ _=>?_
  (refine Zz ?_;intros)
  exact E9 fun e=>by subst e;exact ⟨.ret _ _ (N7 rfl),.nil⟩
theorem e9p:s9 48 (e4d (fun t=>Gf t∧t.nd≤3000∧t.dp≤200) fun _=>.c (.b true)):=u2 (fun fn h=>d6p h) [(83,_),(84,_),(85,_)] (.cons e9l (.cons e0j (.cons e0l .nil))) fun U fn hfn ⟨t,hg,hn,hd⟩ vs bs hv hb=>by
 have hN:=hfn 83 _ rfl
 have hD:=hfn 84 _ rfl
 have hF:=hfn 85 _ rfl
 change t7 [.a t.g] vs at hv
 change s5 [] bs at hb
 show s4 U _ fun v bs'=>u0 (.ret (.c (.b true))) v∧s5 [] bs'
 unfold r48
 (refine Zz ?_;intros)
 refine C4 aS (T.g_len _) fun _ _=>?_
 (refine Zz ?_;intros)
 refine o7 hN ⟨t,hn⟩ (r:=.c (.i .i64 (t.nd:Nat))) rfl (.k (.a _ _ _ (T.g_len _).symm aS) .nil) .nil fun _ _ _ _=>?_
 (refine Zz ?_;with_reducible repeat' first|intro _|apply aI)
 ·refine o7 hD ⟨t,hd,hg⟩ (r:=.c (.i .i64 (t.dp:Nat))) rfl (.k (.a _ _ _ (T.g_len _).symm aS) .nil) .nil fun _ _ _ _=>?_
  (refine Zz ?_;with_reducible repeat' first|intro _|apply aI)
  ·refine o7 hF ⟨t,hg⟩ (r:=.c (.b true)) rfl (.k (.a _ _ _ (T.g_len _).symm aS) .nil) .nil fun _ _ _ _=>?_
   (refine Zz ?_;intros)
   exact p9 ⟨.ret _ _ (.b _),.nil⟩
  ·exact absurd oM ‹¬((t.dp:Nat):Int)≤200›
 ·exact absurd oM ‹¬((t.nd:Nat):Int)≤3000›
set_option maxHeartbeats 16000000
def a5k (l:List (Sy × T)) (a:T):O:=u7 [.sy (s8,o8 3 7628140),u7 (J2 (F5 l)),z6 a]
def f3b:Sp where
 ι:={ p:Wm × List (Sy × T) × T // c1g p.1 p.2.1 p.2.2∧(a5k p.2.1 p.2.2).size < 90000 }
 A p:=[.p 0 0,.a (a5k p.1.2.1 p.1.2.2).g,.sl 13 (([]:List (Sy × T)).map Q3)]
 B p:=[Z5 p.1.1.1.1]
 R p:=.ret (.t [.a (C7 p.1.2.1 p.1.2.2).g,.c (.i .i64 0)])
 B' p:=[Z5 p.1.1.1.1]
 inj i j vs bs h k hb kb:=by
  obtain ⟨⟨w,l,a⟩,hi,_⟩:=i
  obtain ⟨⟨w',l',a'⟩,hj,_⟩:=j
  obtain ⟨_,_,h1,k1,h,k⟩:=h.two k
  obtain ⟨_,_,h2,k2,h,k⟩:=h.two k
  have e:=P6 (O.g_inj (h2.a_inj k2))
  injection e with _ e
  injection e with e1 e2
  injection e2 with e2 _
  have e1:=b2s a8b hi.gt hj.gt (a8j (P6 e1))
  have e2:=a8b hi.gta hj.gta e2
  have e1:l=l':=e1
  have e2:a=a':=e2
  have e3:=a5o hb kb
  refine ⟨?_,?_⟩
  ·show u9.ret (.t [.a (C7 l a).g,_])=.ret (.t [.a (C7 l' a').g,_]);rw [e1,e2]
  ·show [Z5 w.1.1]=[Z5 w'.1.1];rw [e3]
theorem f6l:s9 47 f3b:=u2 (fun fn h=>c40 h) [(71,_),(75,_),(76,_)] (.cons a9m (.cons b6f (.cons g80 .nil))) fun U fn hfn ⟨(wm,l,a),hok,hsz⟩ vs bs hv hb=>by
 have hK:=hfn 71 _ rfl
 have hI:=hfn 75 _ rfl
 have hL:=hfn 76 _ rfl
 have hsz:(a5k l a).size < 90000:=hsz
 obtain ⟨⟨w,hw,hwl⟩,hm⟩:=wm
 change t7 [.p 0 0,.a (a5k l a).g,.sl 13 (([]:List (Sy × T)).map Q3)] vs at hv
 change s5 [[.l (w.map Et.g),.l (([]:List F).map F.g),.i .i64 0]] bs at hb
 show s4 U _ fun v bs'=>u0 (.ret (.t [.a (C7 l a).g,.c (.i .i64 0)])) v∧s5 [Z5 w] bs'
 generalize ho0:a5k l a=o at hv hsz
 unfold r47
 (refine Zz ?_;intros)
 refine C4 aS (O.g_len _) fun _ _=>?_
 (refine Zz ?_;intros)
 refine a35 aS (v6 Et.g_len) fun _ _ _=>?_
 (refine Zz ?_;intros)
 refine a35 aS (v6 F.g_len) fun _ _ _=>?_
 (refine Zz ?_;intros)
 have ho0:u7 [.sy (s8,o8 3 7628140),u7 (J2 (F5 l)),z6 a]=o:=ho0
 subst ho0
 refine o7 hK (u7 [.sy (s8,o8 3 7628140),u7 (J2 (F5 l)),z6 a]) (r:=.c (.b false)) rfl oA .nil fun _ _ hk _=>?_
 (refine Zz ?_;with_reducible repeat' first|intro _|apply aI)
 all_goals try exact absurd ‹false=true› dE
 refine o7 hI ⟨_,hsz⟩ (by show u9.ret (W1 (u7 _))=_;rw [W8]) oA .nil fun _ _ _ _=>?_
 (refine Zz ?_;with_reducible repeat' first|intro _|apply aI)
 ·exact absurd ‹(([_,u7 (J2 (F5 l)),z6 a].length:Nat):Int)=0› (by simp)
 ·refine b42 (gs:=[.l (w.map Et.g),.l (([]:List F).map F.g),.i .i64 0]) (fun _=>.cells _ _ (.k (.cl _ _ _ _ _ (by simp) aS) (.k (.cl _ _ _ _ _ (by simp) aS) (.k (.i _ _) .nil)))) rfl fun _ _=>?_
  (refine Zz ?_;intros)
  have hr1:=u6.drop (n:=6+1) (xs:=([.sy (s8,o8 3 7628140),u7 (J2 (F5 l)),z6 a]:List O).map O.g) aS 1
  change u6 (6+1) (([u7 (J2 (F5 l)),z6 a]:List O).map O.g) _ _ at hr1
  refine d3n (m:=([u7 (J2 (F5 l)),z6 a]:List O).length) rfl ?_
  (refine Zz ?_;with_reducible repeat' first|intro _|apply aI)
  all_goals try exact absurd ‹(s8,o8 3 7628140).2=o8 5 435745158513› (show ¬o8 3 7628140=o8 5 435745158513 by decide)
  all_goals try exact absurd rfl ‹¬(s8,o8 3 7628140).2=o8 3 7628140›
  all_goals try exact absurd a9p.symm ‹¬s8=o8 4 1886611820›
  refine o7 hL ⟨(⟨⟨w,hw,hwl⟩,hm⟩,l,a),hok⟩ (r:=.t [.a (C7 l a).g,.c (.i .i64 0)]) rfl (.k (.p _ _) (.k (.sl _ _ _ _ _ (by simp) hr1) (.k (show RV (.sl 13 (([]:List (Sy × T)).map Q3)) _ from .sl _ _ _ _ _ rfl (.nil _ _ _)) .nil))) (.k (.opa _ _ _ rfl aS) .nil) fun _ _ _ hb2=>?_
  change s5 [[.l (w.map Et.g),.l (([]:List F).map F.g),.i .i64 0]] _ at hb2
  (refine Zz ?_;intros)
  refine C4 aS (T.g_len _) fun _ _=>?_
  (refine Zz ?_;intros)
  exact p9 ⟨.ret _ _ (.t _ _ (.k (.a _ _ _ (T.g_len _).symm aS) (.k (.i _ _) .nil))),.k (.opa _ _ _ rfl aS) .nil⟩
def e4c:Sp where
 ι:={ p:Wm × List (Sy × T) × T // c1g p.1 p.2.1 p.2.2∧(a5k p.2.1 p.2.2).size < 90000∧Gf (C7 p.2.1 p.2.2)∧(C7 p.2.1 p.2.2).nd≤3000∧(C7 p.2.1 p.2.2).dp≤200 }
 A p:=[.sl 32 (p.1.1.1.1.map Et.g),.sl 37 (([]:List F).map F.g),.a (a5k p.1.2.1 p.1.2.2).g]
 B _:=[]
 R p:=.ret (.t [.a (C7 p.1.2.1 p.1.2.2).g,.c (.i .i64 0)])
 B' _:=[]
 inj i j vs bs h k hb kb:=by
  obtain ⟨⟨w,l,a⟩,hi,_⟩:=i
  obtain ⟨⟨w',l',a'⟩,hj,_⟩:=j
  obtain ⟨_,_,h1,k1,h,k⟩:=h.two k
  obtain ⟨_,_,h2,k2,h,k⟩:=h.two k
  obtain ⟨_,_,h3,k3,h,k⟩:=h.two k
  have e:=P6 (O.g_inj (h3.a_inj k3))
  injection e with _ e
  injection e with e1 e2
  injection e2 with e2 _
  have e1:=b2s a8b hi.gt hj.gt (a8j (P6 e1))
  have e2:=a8b hi.gta hj.gta e2
  have e1:l=l':=e1
  have e2:a=a':=e2
  refine ⟨?_,rfl⟩
  show u9.ret (.t [.a (C7 l a).g,_])=.ret (.t [.a (C7 l' a').g,_]);rw [e1,e2]
theorem e9m:s9 21 e4c:=u2 (fun fn h=>d6d h) [(47,_),(48,_)] (.cons f6l (.cons e9p .nil)) fun U fn hfn ⟨(wm,l,a),hok,hsz,hgf,hnd,hdp⟩ vs bs hv hb=>by
 have hT:=hfn 47 _ rfl
 have hV:=hfn 48 _ rfl
 obtain ⟨⟨w,hw,hwl⟩,hm⟩:=wm
 change t7 [.sl 32 (w.map Et.g),.sl 37 (([]:List F).map F.g),.a (a5k l a).g] vs at hv
 change s5 [] bs at hb
 show s4 U _ fun v bs'=>u0 (.ret (.t [.a (C7 l a).g,.c (.i .i64 0)])) v∧s5 [] bs'
 unfold r21
 (refine Zz ?_;intros)
 refine o7 hT ⟨(⟨⟨w,hw,hwl⟩,hm⟩,l,a),hok,hsz⟩ (r:=.t [.a (C7 l a).g,.c (.i .i64 0)]) rfl (.k (.p _ _) (.k oV (.k (.sl0 _ _ _) .nil))) (.k (.cells _ _ (.k (.cl _ _ _ _ _ (by simp) aS) (.k (.cl _ _ _ _ _ (by simp) aS) (.k (.i _ _) .nil)))) .nil) fun _ _ _ hb2=>?_
 change s5 [[.l (w.map Et.g),.l (([]:List F).map F.g),.i .i64 0]] _ at hb2
 (refine Zz ?_;intros)
 refine C4 aS (T.g_len _) fun _ _=>?_
 (refine Zz ?_;intros)
 refine a35 aS (v6 Et.g_len) fun _ _ _=>?_
 (refine Zz ?_;intros)
 refine a35 aS (v6 F.g_len) fun _ _ _=>?_
 (refine Zz ?_;intros)
 refine o7 hV ⟨C7 l a,hgf,hnd,hdp⟩ (r:=.c (.b true)) rfl (.k (.a _ _ _ (T.g_len _).symm aS) .nil) .nil fun _ _ _ _=>?_
 (refine Zz ?_;with_reducible repeat' first|intro _|apply aI)
 all_goals try exact absurd rfl ‹¬true=true›
 exact p9 ⟨.ret _ _ (.t _ _ (.k (.a _ _ _ (T.g_len _).symm aS) (.k (.i _ _) .nil))),.nil⟩
set_option maxHeartbeats 8000000
def X5 (L:List (List F)) (s:Sy):Nat:=match K9 L s with
 | some n=>n.toNat
 | none=>0
theorem f60 (L:List (List F)) (s:Sy):Q5 L s=V0 (K9 L s):=rfl
def muB (r:Raw):Nat:=if r.k % 6 < 2 then 0 else r.nodes
theorem f6v (r:Raw):muB r≤r.nodes:=by unfold muB;split <;> omega
theorem e08 {r:Raw} (h:¬r.k % 6 < 2) (i:Nat):muB (r.part i) < muB r:=by
 unfold Raw.part
 have e:muB r=r.nodes:=if_neg h
 have hn:=Raw.nodes_eq r
 by_cases hi:i < r.l.length
 ·rw [show r.l.getD i Raw.zero=r.l[i] by simp [List.getD,List.getElem?_eq_getElem hi]]
  have h1:=Raw.nodes_mem (List.getElem_mem hi)
  have h2:=f6v r.l[i]
  omega
 ·rw [show r.l.getD i Raw.zero=Raw.zero by simp [List.getD,List.getElem?_eq_none (by omega:r.l.length≤i)]]
  have:muB Raw.zero=0:=dE
  omega
section
variable (nm:List Sy) (ar:Sy→Nat)
theorem d34:I8 nm ar Raw.zero=.v (b0d 0):=by
 show I8 nm ar (.mk 0 0 [] [])=_
 rw [a7x,if_pos dE]
theorem b4a:∀ (k:Nat) (l:List Raw) (i:Nat),i < k→(Q2 k (N9 nm ar l))[i]?=some (I8 nm ar (l.getD i Raw.zero))
 | 0,_,_,h=>absurd h (Nat.not_lt_zero _)
 | k+1,[],0,_=>by rw [N9,Q2];simp [d34]
 | k+1,[],i+1,h=>by
  have:=b4a k [] i oM
  rw [N9] at this
  rw [N9,Q2]
  simpa using this
 | k+1,x :: xs,0,_=>by rw [N9,Q2];simp
 | k+1,x :: xs,i+1,h=>by
  have:=b4a k xs i oM
  rw [N9,Q2]
  simpa using this
theorem e8j (r:Raw):I8 nm ar r=if r.k % 6 < 2 then .v (b0d r.n) else if r.k % 6 < 3 then .c (d9n r.n r.l) else .call (nmR nm r.n) (Q2 (ar (nmR nm r.n)) (N9 nm ar r.l)):=by
 cases r with | mk k n s l=>exact a7x nm ar k n s l
end
def c90:Sp where
 ι:={ p:Wd × List Sy × Raw // (p.2.1 ≠ []∧p.2.1.length < 1000000)∧(∀ s,X5 p.1.L s≤1000)∧p.2.2.okR }
 A p:=[.sl 32 (p.1.1.1.map Et.g),.sl 2 (p.1.2.1.map sg),.sl 2 (B6.map sg),.a p.1.2.2.g]
 B _:=[]
 R p:=.ret (.a (I8 p.1.2.1 (X5 p.1.1.L) p.1.2.2).g)
 B' _:=[]
 inj i j vs bs h k _ _:=by
  obtain ⟨_,_,h1,k1,h,k⟩:=h.two k
  obtain ⟨_,_,h2,k2,h,k⟩:=h.two k
  obtain ⟨_,_,h3,k3,h,k⟩:=h.two k
  obtain ⟨_,_,h4,k4,h,k⟩:=h.two k
  have e1:i.1.1.L=j.1.1.L:=Z0 (h1.sl_inj k1)
  rw [e1,a6n (h2.sl_inj k2),Raw.g_inj (h4.a_inj k4)];exact ⟨rfl,rfl⟩
theorem f52 (hItoa:a0j):s9 33 c90:=J4 (fun p=>muB p.1.2.2) fun z ih=>u2 (fun fn h=>f71 h) [(33,c90.lt (fun p=>muB p.1.2.2) z),(59,_),(61,_),(36,_),(26,_),(24,_),(39,_),(27,_),(60,_)] (.cons ih (.cons e0o (.cons e5z (.cons (c7u hItoa) (.cons g4i (.cons f59 (.cons g8o (.cons (c3z hItoa) (.cons c3w .nil))))))))) fun U fn hfn ⟨⟨(w,nm,r),⟨hne,hnl⟩,har,hr⟩,hz⟩ vs bs hv hb=>by
 have hB:=hfn 33 _ rfl
 have hM:=hfn 59 _ rfl
 have hP:=hfn 61 _ rfl
 have hO:=hfn 36 _ rfl
 have hV:=hfn 26 _ rfl
 have hC:=hfn 24 _ rfl
 have hA:=hfn 39 _ rfl
 have hI:=hfn 27 _ rfl
 have hAr:=hfn 60 _ rfl
 change t7 [.sl 32 (w.1.map Et.g),.sl 2 (nm.map sg),.sl 2 (B6.map sg),.a r.g] vs at hv
 change s5 [] bs at hb
 have hne:nm ≠ []:=hne
 have hnl:nm.length < 1000000:=hnl
 have har:∀ s,X5 w.L s≤1000:=har
 have hr:r.okR:=hr
 have hz:muB r < z+1:=hz
 have hnp:0 < nm.length:=List.length_pos_iff.2 hne
 have hok:=(Raw.okR_eq r).1 hr
 have hvl:B6.length=4:=rfl
 show s4 U _ fun v bs'=>u0 (.ret (.a (I8 nm (X5 w.L) r).g)) v∧s5 [] bs'
 rw [e8j]
 have h1:0≤r.k % 6:=Int.emod_nonneg _ dE
 have h2:r.k % 6 < 6:=Int.emod_lt_of_pos _ dE
 unfold r33
 (refine Zz ?_;intros)
 refine C4 aS (Raw.g_len _) fun _ hcr=>?_
 have hcel:=hcr
 rw [Raw.g_eq] at hcel
 (refine Zz ?_;intros)
 refine o7 hM ⟨(r.k,6),show 0 < 6 by decide,show 6 < 1000000 by decide⟩ (r:=.c (.i .i64 (r.k % 6))) rfl (.k (.q _ _ aS) (.k (R0 rfl) .nil)) .nil fun _ _ _ _=>?_
 (refine Zz ?_;with_reducible repeat' first|intro _|apply aI)
 all_goals try (exfalso;omega)
 ·rw [if_pos aS]
  refine o7 hM ⟨(r.n,B6.length),by show 0 < B6.length;omega,by show B6.length < 1000000;omega⟩ (r:=.c (.i .i64 (r.n % (B6.length:Nat)))) rfl (.k (.q _ _ aS) (.k (.i _ _) .nil)) .nil fun _ _ _ _=>?_
  have b1:0≤r.n % (B6.length:Int):=Int.emod_nonneg _ oM
  have b2:r.n % (B6.length:Int) < B6.length:=Int.emod_lt_of_pos _ oM
  have e0:b0d r.n=B6.getD (r.n % (B6.length:Int)).toNat (H9,[120]):=rfl
  generalize r.n % (B6.length:Int)=q at *
  obtain ⟨k,rfl⟩:∃ k:Nat,q=k:=⟨q.toNat,oM⟩
  have hk:k < B6.length:=oM
  rw [Int.toNat_natCast,show B6.getD k (H9,[120])=B6[k] by simp [List.getD,List.getElem?_eq_getElem hk]] at e0
  rw [e0]
  (refine Zz ?_;intros)
  refine o7 hV B6[k] (r:=.a (T.v B6[k]).g) rfl (.k (.a _ _ _ rfl aS) .nil) .nil fun _ _ _ _=>?_
  refine C4 aS (T.g_len _) fun _ _=>?_
  (refine Zz ?_;intros)
  exact p9 ⟨.ret _ _ (.a _ _ _ (T.g_len _).symm aS),.nil⟩
 ·rw [if_neg oM,if_pos aS]
  refine E5 aS (v6 Raw.g_len) fun _ _ _=>?_
  (refine Zz ?_;with_reducible repeat' first|intro _|apply aI)
  ·refine o7 hM ⟨(r.n,7),show 0 < 7 by decide,show 7 < 1000000 by decide⟩ (r:=.c (.i .i64 (r.n % 7))) rfl (.k (.q _ _ aS) (.k (R0 rfl) .nil)) .nil fun _ _ _ _=>?_
   have b1:0≤r.n % 7:=Int.emod_nonneg _ dE
   have b2:r.n % 7 < 7:=Int.emod_lt_of_pos _ dE
   have el:r.l=[]:=List.length_eq_zero_iff.1 oM
   have ec:d9n r.n r.l=.num (r.n % 7 - 2) 1:=by rw [el];rfl
   rw [ec]
   (refine Zz ?_;intros)
   refine o7 hI ⟨r.n % 7 - 2,oM,oM⟩ (r:=.a (O.num (r.n % 7 - 2) 1).g) rfl (.k (.i _ _) .nil) .nil fun _ _ _ _=>?_
   refine C4 aS (O.g_len _) fun _ _=>?_
   (refine Zz ?_;intros)
   refine o7 hC (O.num (r.n % 7 - 2) 1) (r:=.a (T.c (O.num (r.n % 7 - 2) 1)).g) rfl oA .nil fun _ _ _ _=>?_
   refine C4 aS (T.g_len _) fun _ _=>?_
   (refine Zz ?_;intros)
   exact p9 ⟨.ret _ _ (.a _ _ _ (T.g_len _).symm aS),.nil⟩
  ·have hol:=hok.2.2
   generalize r.l=rl at *
   cases rl with
   | nil=>exact absurd rfl ‹¬(([]:List Raw).length:Int)=0›
   | cons x xs =>
   refine E5 aS (v6 Raw.g_len) fun _ _ _=>?_
   (refine Zz ?_;intros)
   have hx:x.okR:=hol.1
   refine o7 hO ⟨x,hx⟩ (r:=.a (E2 x).g) rfl (.k (.a _ _ _ (Raw.g_len _).symm aS) .nil) .nil fun _ _ _ _=>?_
   refine C4 aS (O.g_len _) fun _ _=>?_
   (refine Zz ?_;intros)
   refine o7 hC (E2 x) (r:=.a (T.c (E2 x)).g) rfl oA .nil fun _ _ _ _=>?_
   refine C4 aS (T.g_len _) fun _ _=>?_
   (refine Zz ?_;intros)
   exact p9 ⟨.ret _ _ (.a _ _ _ (T.g_len _).symm aS),.nil⟩
 ·rw [if_neg oM,if_neg oM]
  refine o7 hM ⟨(r.n,nm.length),hnp,hnl⟩ (r:=.c (.i .i64 (r.n % (nm.length:Nat)))) rfl (.k (.q _ _ aS) (.k (.i _ _) .nil)) .nil fun _ _ _ _=>?_
  have b1:0≤r.n % (nm.length:Int):=Int.emod_nonneg _ oM
  have b2:r.n % (nm.length:Int) < nm.length:=Int.emod_lt_of_pos _ oM
  have e0:nmR nm r.n=nm.getD (r.n % (nm.length:Int)).toNat (s8,[]):=rfl
  generalize r.n % (nm.length:Int)=q at *
  obtain ⟨k,rfl⟩:∃ k:Nat,q=k:=⟨q.toNat,oM⟩
  have hk:k < nm.length:=oM
  rw [Int.toNat_natCast,show nm.getD k (s8,[])=nm[k] by simp [List.getD,List.getElem?_eq_getElem hk]] at e0
  rw [e0]
  (refine Zz ?_;intros)
  have hN:=har nm[k]
  have ho:Q5 w.L nm[k]=.t [.c (.i .i64 (X5 w.L nm[k]:Nat)),.c (.b (K9 w.L nm[k]).isSome)]:=by
   rw [f60]
   unfold X5
   cases e:K9 w.L nm[k] with
   | none=>rfl
   | some n =>
    have:=c60 e
    show GV.t [.c (.i .i64 n),_]=.t [.c (.i .i64 ((n.toNat:Nat):Int)),_]
    rw [Int.toNat_of_nonneg this]
    rfl
  refine o7 hAr (w,nm[k]) (r:=.t [.c (.i .i64 (X5 w.L nm[k]:Nat)),.c (.b (K9 w.L nm[k]).isSome)]) (by show u9.ret (Q5 w.L nm[k])=_;rw [ho]) (.k (.sl _ _ _ _ _ (by simp) aS) (.k (.a _ _ _ rfl aS) .nil)) .nil fun _ _ _ _=>?_
  generalize hNe:X5 w.L nm[k]=N at *
  generalize (K9 w.L nm[k]).isSome=isS at *
  generalize hfe:nm[k]=f at *
  (refine Zz ?_;intros)
  refine F9 (fun (i:Nat) vs bs=>∃ (t:s6 Q) (off:Nat) (t2:s6 Q) (off2:Nat) (t3:s6 Q) (off3:Nat) (q q2:Q) (v:V) (acc:List T),vs=[.slice t 32 off w.1.length .no,.slice t2 2 off2 nm.length .no,.slice t3 2 off3 B6.length .no,.ptr 0 0,.ptr 1 0,.ptr 2 0,.int .i64 (N:Nat),.int .i64 (i:Nat),v]∧bs=[.opa q 4,.cells [.int .i64 0,.str 0 0,.str 0 0,.int .i64 0,.str 0 0,.str 0 0,.str 0 0,.str 0 0,.str 0 0,.slice .nil 0 0 0 .exact,.slice .nil 0 0 0 .exact],.opa q2 2,.tok acc.length 11]∧u3 r.g q 0∧u3 (sg f) q2 0∧u6 32 (w.1.map Et.g) t off∧u6 2 (nm.map sg) t2 off2∧u6 2 (B6.map sg) t3 off3∧R7 3 11 (acc.map T.g) v∧acc=(Q2 N (N9 nm (X5 w.L) r.l)).take i∧acc.length=i∧i≤N) (fun i=>N - i) 0
   ⟨_,_,_,_,_,_,_,_,_,[],rfl,rfl,by rw [Raw.g_eq];assumption,aS,aS,aS,aS,.b rfl,rfl,rfl,oM⟩ (by simp only [C9];omega) ?_
  rintro self i _ _ ⟨t,off,t2,off2,t3,off3,q,q2,v,acc,rfl,rfl,hq,hq2,ht,ht2,ht3,htk,hacc,hlen,hi⟩ ih
  (refine Zz ?_;with_reducible repeat' first|intro _|apply aI)
  ·have hiN:i < N:=oM
   refine o7 hP ⟨(r,i),show i≤1000 by omega⟩ (r:=.a (r.part i).g) rfl (.k (.a _ _ _ (Raw.g_len _).symm aS) (.k (.i _ _) .nil)) .nil fun _ _ _ _=>?_
   refine C4 aS (Raw.g_len _) fun _ _=>?_
   (refine Zz ?_;intros)
   have hmu:=e08 (r:=r) oM i
   refine o7 hB ⟨⟨(w,nm,r.part i),⟨hne,hnl⟩,har,b8n hr i⟩,show muB (r.part i) < z by omega⟩ (r:=.a (I8 nm (X5 w.L) (r.part i)).g) rfl (.k (.sl _ _ _ _ _ (by simp) ht) (.k (.sl _ _ _ _ _ (by simp) ht2) (.k (.sl _ _ _ _ _ (by simp) ht3) (.k (.a _ _ _ (Raw.g_len _).symm aS) .nil)))) .nil fun _ _ _ _=>?_
   refine C4 aS (T.g_len _) fun _ _=>?_
   (refine Zz ?_;intros)
   refine N8 aS (r:=(I8 nm (X5 w.L) (r.part i)).g) (fun _=>Q9 (by rw [T.g_len];decide) aS) (T.g_len _) (by simp) (by simp only [List.length_map];omega) fun _ _=>?_
   (refine Zz ?_;intros)
   exact ih (i+1) _ _ ⟨_,_,_,_,_,_,_,_,_,acc ++ [I8 nm (X5 w.L) (r.part i)],rfl,(by rw [List.length_append];rfl),hq,hq2,ht,ht2,ht3,.a _ _ (by simp) (by rw [List.map_append];assumption),(by rw [hacc,List.take_add_one,b4a nm (X5 w.L) N r.l i hiN];rfl),by simp [hlen],oM⟩ oM
  ·have e9:acc=Q2 N (N9 nm (X5 w.L) r.l):=by rw [hacc,List.take_of_length_le (by rw [a49];omega)]
   refine o7 hA (f,acc) (r:=.a (T.call f acc).g) rfl (.k (.a _ _ _ rfl aS) (.k (.sl _ _ _ _ _ (by simp) aS) .nil)) .nil fun _ _ _ _=>?_
   refine C4 aS (T.g_len _) fun _ _=>?_
   (refine Zz ?_;intros)
   rw [← e9]
   exact p9 ⟨.ret _ _ (.a _ _ _ (T.g_len _).symm aS),.nil⟩
def f3c:Sp where
 ι:={ p:Wd × Raw // (p.1.1.length < 900∧∀ e ∈ p.1.1,e.fns.length < 1000)∧(∀ s,X5 p.1.L s≤1000)∧p.2.okR }
 A p:=[.sl 32 (p.1.1.1.map Et.g),.sl 2 (B6.map sg),.a p.1.2.g]
 B _:=[]
 R p:=.ret (.a (I8 (nmW (p.1.1.1.map Et.fns)) (X5 p.1.1.L) p.1.2).g)
 B' _:=[]
 inj i j vs bs h k _ _:=by
  obtain ⟨_,_,h1,k1,h,k⟩:=h.two k
  obtain ⟨_,_,h2,k2,h,k⟩:=h.two k
  obtain ⟨_,_,h3,k3,h,k⟩:=h.two k
  have e1:i.1.1.L=j.1.1.L:=Z0 (h1.sl_inj k1)
  rw [e1,b1l (h1.sl_inj k1),Raw.g_inj (h3.a_inj k3)];exact ⟨rfl,rfl⟩
theorem f6x (L:List (List F)):nmW L ≠ []:=by unfold nmW;intro h;have:=congrArg List.length h;rw [List.length_append,show N4.length=25 from rfl] at this;simp at this
theorem e90 {w:List Et} (h:w.length < 900) (k:∀ e ∈ w,e.fns.length < 1000):(nmW (w.map Et.fns)).length < 1000000:=by
 have hn:nmW (w.map Et.fns)=N4 ++ (w.map fun e=>e.fns.map F.nm).flatten:=by unfold nmW;rw [List.map_map];rfl
 have:=b4j (w:=w) (i:=w.length) k
 rw [List.take_length] at this
 rw [hn,List.length_append,show N4.length=25 from rfl]
 omega
theorem f6m (hItoa:a0j):s9 10 f3c:=u2 (fun fn h=>f7h h) [(34,_),(33,_)] (.cons e9j (.cons (f52 hItoa) .nil)) fun U fn hfn ⟨(w,r),⟨hw,hwl⟩,har,hr⟩ vs bs hv hb=>by
 have hN:=hfn 34 _ rfl
 have hB:=hfn 33 _ rfl
 change t7 [.sl 32 (w.1.map Et.g),.sl 2 (B6.map sg),.a r.g] vs at hv
 change s5 [] bs at hb
 have hw:w.1.length < 900:=hw
 show s4 U _ fun v bs'=>u0 (.ret (.a (I8 (nmW (w.1.map Et.fns)) (X5 w.L) r).g)) v∧s5 [] bs'
 unfold r10
 (refine Zz ?_;intros)
 refine C4 aS (Raw.g_len _) fun _ _=>?_
 (refine Zz ?_;intros)
 refine o7 hN ⟨w.1,oM,hwl⟩ (r:=.sl 2 ((nmW (w.1.map Et.fns)).map sg)) rfl (.k (.sl _ _ _ _ _ (by simp) aS) .nil) .nil fun _ _ _ _=>?_
 (refine Zz ?_;intros)
 refine o7 hB ⟨(w,nmW (w.1.map Et.fns),r),⟨f6x _,e90 hw hwl⟩,har,hr⟩ (r:=.a (I8 (nmW (w.1.map Et.fns)) (X5 w.L) r).g) rfl (.k (.sl _ _ _ _ _ (by simp) aS) (.k (.sl _ _ _ _ _ (by simp) aS) (.k (.sl _ _ _ _ _ (by simp) aS) (.k (.a _ _ _ (Raw.g_len _).symm aS) .nil)))) .nil fun _ _ _ _=>?_
 refine C4 aS (T.g_len _) fun _ _=>?_
 (refine Zz ?_;intros)
 exact p9 ⟨.ret _ _ (.a _ _ _ (T.g_len _).symm aS),.nil⟩
end
end Go.Proofs.YtkojildpddaccaaGreatDoor
