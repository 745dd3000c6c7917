/- The reference's forms of terms. -/
import Derived.Test.YtkojildpddaccaaGreatDoorCJ7
import Derived.Test.YtkojildpddaccaaGreatDoorCS
set_option linter.all false
namespace Go.Proofs.YtkojildpddaccaaGreatDoor
open Go.Abs LQ
set_option maxRecDepth 100000
set_option maxHeartbeats 8000000
noncomputable section
theorem f6k:s9 70 (c1z fun s=>.a (O.sy (s8,s)).g):=u2 (fun fn h=>d6v h) [(20,_),(18,_)] (.cons a6g (.cons a2k .nil)) fun U fn hfn s vs bs hv hb=>by
 have hL:=hfn 20 _ rfl
 have hS:=hfn 18 _ rfl
 change t7 [.c (.s s)] vs at hv
 change s5 [] bs at hb
 show s4 U _ fun v bs'=>u0 (.ret (.a (O.sy (s8,s)).g)) v∧s5 [] bs'
 unfold r70
 (refine Zz ?_;intros)
 refine o7 hL s (r:=.a (sg (s8,s))) rfl (.k (.s _ _ _ rfl rfl) .nil) .nil fun _ _ h1 _=>?_
 refine C4 h1 rfl fun _ k1=>?_
 (refine Zz ?_;intros)
 refine o7 hS (s8,s) (r:=.a (O.sy (s8,s)).g) rfl (.k (.a _ _ _ rfl k1) .nil) .nil fun _ _ h2 _=>?_
 refine C4 h2 (O.g_len _) fun _ _=>?_
 (refine Zz ?_;intros)
 exact p9 ⟨.ret _ _ oV,.nil⟩
def e35:Sp where
 ι:={ p:u4 × List O // p.2.length < 90000 }
 A p:=[.c (.s p.1.1),.sl 7 (p.1.2.map O.g)]
 B _:=[]
 R p:=.ret (.a (O.co (.sy (s8,p.1.1)) (u7 p.1.2)).g)
 B' _:=[]
 inj i j vs bs h k _ _:=by
  obtain ⟨_,_,h1,k1,h,k⟩:=h.two k
  obtain ⟨_,_,h2,k2,h,k⟩:=h.two k
  rw [a4l h1 k1,a05 (h2.sl_inj k2)];exact ⟨rfl,rfl⟩
theorem e86:s9 46 e35:=u2 (fun fn h=>d6n h) [(70,_),(17,_),(44,_)] (.cons f6k (.cons c1r (.cons c1q .nil))) fun U fn hfn ⟨(s,l),hl⟩ vs bs hv hb=>by
 have hS:=hfn 70 _ rfl
 have hL:=hfn 17 _ rfl
 have hC:=hfn 44 _ rfl
 change t7 [.c (.s s),.sl 7 (l.map O.g)] vs at hv
 change s5 [] bs at hb
 have hl:l.length < 90000:=hl
 show s4 U _ fun v bs'=>u0 (.ret (.a (O.co (.sy (s8,s)) (u7 l)).g)) v∧s5 [] bs'
 unfold r46
 (refine Zz ?_;intros)
 refine o7 hS s (r:=.a (O.sy (s8,s)).g) rfl (.k (.s _ _ _ rfl rfl) .nil) .nil fun _ _ h1 _=>?_
 refine C4 h1 (O.g_len _) fun _ k1=>?_
 (refine Zz ?_;intros)
 refine o7 hL ⟨l,hl⟩ (r:=.a (u7 l).g) rfl (.k (.sl _ _ _ _ _ (by simp) aS) .nil) .nil fun _ _ h2 _=>?_
 refine C4 h2 (O.g_len _) fun _ k2=>?_
 (refine Zz ?_;intros)
 refine o7 hC (.sy (s8,s),u7 l) (r:=.a (O.co (.sy (s8,s)) (u7 l)).g) rfl (.k (.a _ _ _ (O.g_len _).symm k1) (.k (.a _ _ _ (O.g_len _).symm k2) .nil)) .nil fun _ _ h3 _=>?_
 refine C4 h3 (O.g_len _) fun _ _=>?_
 (refine Zz ?_;intros)
 exact p9 ⟨.ret _ _ oV,.nil⟩
theorem b2j (b:Bool):CU.bnot b=!b:=by show bnot b=_;cases b <;> rfl
theorem b03 (x y:List UInt8):CU.sEq x.length (C6 x) y.length (C6 y)=decide (x=y):=by rw [b74,E8]
theorem d1g:s9 45 (c11 fun s=>.c (.b (R8 s))):=u2 (fun fn h=>d6m h) [(69,_),(20,_)] (.cons c7w (.cons a6g .nil)) fun U fn hfn ⟨s,h1,h2⟩ vs bs hv hb=>by
 have hV:=hfn 69 _ rfl
 have hL:=hfn 20 _ rfl
 change t7 [.a [.s s.1,.s s.2]] vs at hv
 change s5 [] bs at hb
 show s4 U _ fun v bs'=>u0 (.ret (.c (.b (R8 s)))) v∧s5 [] bs'
 unfold r45
 have e0:R8 s=(named s && decide (s ≠ (s8,o8 3 7104878)) && decide (s ≠ (s8,o8 1 116))):=rfl
 have en:∀ x:u4,(s=(s8,x))↔(s.1=s8∧s.2=x):=fun x=>⟨fun e=>⟨congrArg Prod.fst e,congrArg Prod.snd e⟩,fun e=>Prod.ext e.1 e.2⟩
 (refine Zz ?_;intros)
 refine o7 hV ⟨s,h1,h2⟩ (r:=.c (.b (named s))) rfl (.k (.a _ _ _ rfl aS) .nil) .nil fun _ _ _ _=>?_
 (refine Zz ?_;with_reducible repeat' first|intro _|apply aI)
 ·have hn:=‹named s=true›
  rw [hn,Bool.true_and] at e0
  refine o7 hL (o8 3 7104878) (r:=.a [.s s8,.s (o8 3 7104878)]) rfl (.k (.s _ _ _ rfl rfl) .nil) .nil fun _ _ _ _=>?_
  (refine Zz ?_;with_reducible repeat' first|intro _|apply aI)
  ·have hq:=‹_∧_∧True›
   exact p9 ⟨.ret _ _ (H8 (by rw [e0,decide_eq_false (fun k=>k ((en _).2 ⟨hq.1,hq.2.1⟩))];rfl)),.nil⟩
  ·refine o7 hL (o8 1 116) (r:=.a [.s s8,.s (o8 1 116)]) rfl (.k (.s _ _ _ rfl rfl) .nil) .nil fun _ _ _ _=>?_
   (refine Zz ?_;intros)
   refine E9 fun e=>?_
   subst e
   refine ⟨.ret _ _ (N7 ?_),.nil⟩
   have hne:s ≠ (s8,o8 3 7104878):=fun k=>‹¬(_∧_∧True)› ⟨((en _).1 k).1,((en _).1 k).2,trivial⟩
   rw [e0,decide_eq_true hne,Bool.true_and,b2j,a2x,a2x,b03,b03,Bool.and_true,← Bool.decide_and,← decide_not]
   exact decide_eq_decide.2 (not_congr (en _))
 ·have hn:=‹¬named s=true›
  exact p9 ⟨.ret _ _ (H8 (by rw [e0,Bool.eq_false_iff.2 hn];rfl)),.nil⟩
theorem cO7 {o:O} {x:Q} (h:u3 (o.g ++ [.l []]) x 0):u3 o.g x 0:=by
 have:=h.take 7
 rwa [List.take_append_of_le_length (by rw [O.g_len];exact Nat.le_refl _),List.take_of_length_le (by rw [O.g_len];exact Nat.le_refl _)] at this
def d78:Sp where
 ι:={ t:T // Okc t∧t.nd≤80000 }
 A t:=[.a t.1.g]
 B _:=[]
 R t:=.ret (.a (z6 t.1).g)
 B' _:=[]
 inj i j vs bs h k _ _:=by
  obtain ⟨_,_,h1,k1,h,k⟩:=h.two k
  rw [T.g_inj (h1.a_inj k1)];exact ⟨rfl,rfl⟩
theorem g36:s9 19 d78:=J4 (fun t=>t.1.nd) fun z ih=>u2 (fun fn h=>f7n h) [(19,d78.lt (fun t=>t.1.nd) z),(18,_),(45,_),(46,_),(17,_)] (.cons ih (.cons a2k (.cons d1g (.cons e86 (.cons c1r .nil))))) fun U fn hfn ⟨⟨t,ht,hnd⟩,hz⟩ vs bs hv hb=>by
 have hnd:t.nd≤80000:=hnd
 have hF:=hfn 19 _ rfl
 have hS:=hfn 18 _ rfl
 have hV:=hfn 45 _ rfl
 have hC:=hfn 46 _ rfl
 have hL:=hfn 17 _ rfl
 change t7 [.a t.g] vs at hv
 change s5 [] bs at hb
 have hz:t.nd < z+1:=hz
 show s4 U _ fun v bs'=>u0 (.ret (.a (z6 t).g)) v∧s5 [] bs'
 unfold r19
 cases ht with
 | v s =>
  simp only [T.g] at hv
  rw [z6]
  (refine Zz ?_;intros)
  have hc:=(‹u3 (List.drop 1 _) _ 0›).take 2
  refine o7 hS s (r:=.a (O.sy s).g) rfl (.k (.a _ _ _ rfl (by exact hc)) .nil) .nil fun _ _ h1 _=>?_
  refine C4 h1 (O.g_len _) fun _ _=>?_
  (refine Zz ?_;intros)
  exact p9 ⟨.ret _ _ oV,.nil⟩
 | c o ho =>
  simp only [T.g] at hv
  rw [z6]
  have fin:∀ {o:O} {x:Q},a0z o=false→u3 o.g x 0→s4 U (U.bind (fn 46 [(.str 5 435745158513),(.slice (.node x .nil .nil) 7 0 1 .no)] []) (fun v78 w79=>U.uA 7 v78 fun x80=>U.uNilB w79 (U.fQ (U.subQ x80 0) fun x81=>some (.ret (.a x81 7),[]))) fun v82=>some (.pan (U.rn0 v82),[])) fun v bs'=>u0 (.ret (.a (if a0z o then o else qtO o).g)) v∧s5 [] bs':=fun {o x} hs hx=>by
   rw [hs]
   refine o7 hC ⟨(o8 5 435745158513,[o]),by show 1 < 90000;decide⟩ (r:=.a (qtO o).g) rfl (.k (.s _ _ _ rfl rfl) (.k (.sl _ _ _ _ _ rfl (.cons _ _ _ _ _ (O.g_len _) hx (Q9 (by rw [O.g_len];decide) hx).2 (.nil _ _ _))) .nil)) .nil fun _ _ h1 _=>?_
   refine C4 h1 (O.g_len _) fun _ _=>?_
   (refine Zz ?_;intros)
   exact p9 ⟨.ret _ _ oV,.nil⟩
  cases o with
  | num n d =>
   simp only [O.k,O.nu,O.de,O.sym,O.txt,O.ps] at hv
   rw [if_pos (show a0z (.num n d)=true from rfl)]
   (refine Zz ?_;intros)
   exact p9 ⟨.ret _ _ (.a _ _ _ (O.g_len _).symm (cO7 (o:=.num n d) aS)),.nil⟩
  | tx s =>
   simp only [O.k,O.nu,O.de,O.sym,O.txt,O.ps] at hv
   rw [if_pos (show a0z (.tx s)=true from rfl)]
   (refine Zz ?_;intros)
   exact p9 ⟨.ret _ _ (.a _ _ _ (O.g_len _).symm (cO7 (o:=.tx s) aS)),.nil⟩
  | sy s =>
   have hsm:(O.sy s).sm:=b2t ho.2
   simp only [O.k,O.nu,O.de,O.sym,O.txt,O.ps] at hv
   (refine Zz ?_;intros)
   have hc:=(‹u3 (List.drop 3 (List.drop 3 _)) _ 0›).take 2
   refine o7 hV ⟨s,Nat.lt_trans hsm.1 dE,Nat.lt_trans hsm.2 dE⟩ (r:=.c (.b (R8 s))) rfl (.k (.a _ _ _ rfl (by exact hc)) .nil) .nil fun _ _ _ _=>?_
   (refine Zz ?_;with_reducible repeat' first|intro _|apply aI)
   ·have hs:a0z (.sy s)=false:=by show (!(R8 s))=false;rw [‹R8 s=true›];rfl
    exact fin hs (cO7 (o:=.sy s) aS)
   ·have hs:a0z (.sy s)=true:=by show (!(R8 s))=true;rw [Bool.eq_false_iff.2 ‹¬R8 s=true›];rfl
    rw [if_pos hs]
    exact p9 ⟨.ret _ _ (.a _ _ _ (O.g_len _).symm (cO7 (o:=.sy s) aS)),.nil⟩
  | co a d =>
   simp only [O.k,O.nu,O.de,O.sym,O.txt,O.ps] at hv
   (refine Zz ?_;intros)
   exact fin rfl (cO7 (o:=.co a d) aS)
  | no=>cases ho.2
 | call f xs hx hxs =>
  simp only [T.g,T.gs_eq] at hv
  rw [z6,b1b]
  have hz:1+T.nds xs < z+1:=hz
  have hnd:1+T.nds xs≤80000:=hnd
  have hxl:=a8e xs
  (refine Zz ?_;intros)
  have hc:=(‹u3 (List.drop 1 _) _ 0›).take 2
  refine o7 hS f (r:=.a (O.sy f).g) rfl (.k (.a _ _ _ rfl (by exact hc)) .nil) .nil fun _ _ h1 _=>?_
  refine C4 h1 (O.g_len _) fun _ k1=>?_
  (refine Zz ?_;intros)
  refine F9 (fun (i:Nat) vs bs=>∃ (q:Q) (v:V) (acc:List O),vs=[.ptr 0 0,.ptr 1 0,.int .i64 (i:Nat),v]∧bs=[.opa q 11,.cells [.int .i64 0,.str 0 0,.str 0 0,.str 0 0,.str 0 0,.str 0 0,.slice .nil 0 0 0 .exact],.tok acc.length 7]∧R7 2 7 (acc.map O.g) v∧u3 [.i .i64 3,.s f.1,.s f.2,.i .i64 0,.s [],.s [],.s [],.s [],.s [],.l [],.l (xs.map T.g)] q 0∧acc=.sy f :: (xs.take i).map z6∧acc.length=i+1∧i≤xs.length) (fun i=>xs.length - i) 0
   ⟨_,_,[.sy f],rfl,rfl,.a _ _ rfl (.cons _ _ _ _ _ (O.g_len _) k1 (Q9 (by rw [O.g_len];decide) k1).2 (.nil _ _ _)),aS,rfl,rfl,oM⟩ (by simp only [C9];omega) ?_
  rintro self i _ _ ⟨q,v,acc,rfl,rfl,htk,hq,hacc,hlen,hi⟩ ih
  (refine Zz ?_;intros)
  refine E5 aS (v6 T.g_len) fun _ _ _=>?_
  (refine Zz ?_;with_reducible repeat' first|intro _|apply aI)
  ·refine E5 aS (v6 T.g_len) fun _ _ _=>?_
   (refine Zz ?_;intros)
   have hil:i < xs.length:=oM
   have hm:=a8f (List.getElem_mem hil)
   refine o7 hF ⟨⟨xs[i],hxs _ (List.getElem_mem hil),oM⟩,show (xs[i]).nd < z by omega⟩ (r:=.a (z6 xs[i]).g) rfl (.k (.a _ _ _ (T.g_len _).symm aS) .nil) .nil fun _ _ h2 _=>?_
   refine C4 h2 (O.g_len _) fun _ k2=>?_
   (refine Zz ?_;intros)
   refine N8 aS (r:=(z6 xs[i]).g) (fun _=>Q9 (by rw [O.g_len];decide) k2) (O.g_len _) (by simp) (by simp only [List.length_map];omega) fun _ _=>?_
   (refine Zz ?_;intros)
   exact ih (i+1) _ _ ⟨_,_,acc ++ [z6 xs[i]],rfl,(by rw [List.length_append];rfl),.a _ _ (by simp) (by rw [List.map_append];assumption),hq,(by rw [hacc,List.take_add_one,List.getElem?_eq_getElem hil,List.map_append];rfl),by simp [hlen],oM⟩ oM
  ·have e9:acc=.sy f :: xs.map z6:=by rw [hacc,List.take_of_length_le oM]
   refine o7 hL ⟨acc,show acc.length < 90000 by omega⟩ (r:=.a (u7 acc).g) rfl (.k (.sl _ _ _ _ _ (by simp) aS) .nil) .nil fun _ _ h2 _=>?_
   refine C4 h2 (O.g_len _) fun _ _=>?_
   (refine Zz ?_;intros)
   rw [show O.co (.sy f) (u7 (xs.map z6))=u7 acc by rw [e9];rfl]
   exact p9 ⟨.ret _ _ oV,.nil⟩
end
end Go.Proofs.YtkojildpddaccaaGreatDoor
namespace LQ
def B9:Nat:=1000000000
def T3 (n:Nat):List Nat:=if h:n=0 then [] else n % B9 :: T3 (n / B9)
termination_by n
decreasing_by exact Nat.div_lt_self (Nat.pos_of_ne_zero h) dE
def e0v:List Nat→Nat
 | []=>0
 | d :: t=>d+B9 * e0v t
def LB (l:List Nat):Prop:=∀ d ∈ l,d < B9
theorem a9r:T3 0=[]:=by rw [T3];simp
theorem a4w {n:Nat} (h:n ≠ 0):T3 n=n % B9 :: T3 (n / B9):=by rw [T3,dif_neg h]
theorem c4e (n:Nat):e0v (T3 n)=n:=by
 induction n using Nat.strongRecOn with
 | _ n ih =>
  by_cases h:n=0
  ·subst h;rw [a9r];rfl
  ·rw [a4w h,e0v,ih (n / B9) (Nat.div_lt_self (Nat.pos_of_ne_zero h) dE)]
   unfold B9;omega
theorem f6s (n:Nat):LB (T3 n):=by
 induction n using Nat.strongRecOn with
 | _ n ih =>
  by_cases h:n=0
  ·subst h;rw [a9r];intro d hd;simp at hd
  ·rw [a4w h];intro d hd;simp at hd
   rcases hd with rfl | hd
   ·exact Nat.mod_lt _ dE
   ·exact ih (n / B9) (Nat.div_lt_self (Nat.pos_of_ne_zero h) dE) d hd
theorem e9t {a b:Nat} (h:T3 a=T3 b):a=b:=by rw [← c4e a,h,c4e]
def L3 (s:u4):Nat:=D0 s 0 0
theorem c6i (a b:u4) (k acc:Nat) (hk:k≤a.length):D0 (a ++ b) k acc=D0 b 0 (D0 a k acc):=by
 fun_induction D0 a k acc with
 | case1 k acc h ih =>
  rw [D0,if_pos (by simp;omega),← ih oM]
  congr 2
  have:bt (a ++ b) k=bt a k:=by unfold bt;simp [List.getD,List.getElem?_append_left h]
  rw [this]
 | case2 k acc h =>
  have hk':k=a.length:=oM
  subst hk'
  clear h hk
  have:∀ (j acc:Nat),D0 (a ++ b) (a.length+j) acc=D0 b j acc:=by
   intro j acc
   fun_induction D0 b j acc with
   | case1 j acc h ih =>
    rw [D0,if_pos (by simp;omega),← ih,Nat.add_assoc]
    congr 2
    have:bt (a ++ b) (a.length+j)=bt b j:=by unfold bt;simp only [List.getD];rw [List.getElem?_append_right (Nat.le_add_right _ _),Nat.add_sub_cancel_left]
    rw [this]
   | case2 j acc h=>rw [D0,if_neg (by simp;omega)]
  exact this 0 acc
theorem d5w (a b:u4):L3 (a ++ b)=L3 a * 10 ^ b.length+L3 b:=by
 unfold L3
 rw [c6i a b 0 0 (Nat.zero_le _),c6h b 0 _ (Nat.zero_le _)];simp
theorem b6k (c:UInt8) (s:u4):L3 (c :: s)=(bt [c] 0 - 48).toNat * 10 ^ s.length+L3 s:=by
 rw [show c :: s=[c] ++ s from rfl,d5w]
 congr 2
 unfold L3
 rw [D0,if_pos (by simp),D0,if_neg (by simp)];omega
theorem e0y (s:u4) (h:∀ j,j < s.length→48≤bt s j∧bt s j≤57):L3 s < 10 ^ s.length:=by
 induction s with
 | nil=>unfold L3;rw [D0,if_neg (by simp)];simp
 | cons c s ih =>
  rw [b6k,List.length_cons,Nat.pow_succ]
  have h0:=h 0 (by simp)
  have e:bt [c] 0=bt (c :: s) 0:=rfl
  have:=ih fun j hj=>by have:=h (j+1) (by simpa using hj);rwa [a7z] at this
  have h1:(bt [c] 0 - 48).toNat≤9:=by rw [e];omega
  have:=Nat.mul_le_mul_right (10 ^ s.length) h1
  omega
end LQ
namespace Go.Proofs.YtkojildpddaccaaGreatDoor
open Go.Abs LQ Go.RowKit
set_option maxRecDepth 100000
set_option maxHeartbeats 4000000
noncomputable section
theorem a7e {P:Program} {G:b7u} {f:FuncId} {ds:List D} {d:D} (hcall:∀ args w,(callFunc f args).run P w=.ok (.enter f args) w)
  (h:∀ (w:World) (S:A4) (M:Mp) (vs:List Value),G.pred w→S.within w→C2 S M w vs ds→Calls P f vs.toArray w fun e w'=>Below w.heap.size w w'∧∃ v S',e=.returned v∧S.grown S' w∧S'.within w'∧Rd S' M w' v d∧a85 S' w w' v d):CM P G f ds [] (.ret d) []:=by
 refine ⟨hcall,fun w S M vs hg hM hwi hh hvs=>(h w S M vs hg hwi hvs).mono fun e w' ⟨hb,v,S',he,h1,h2,h3,h4⟩=>?_⟩
 exact ⟨⟨hb.os,hb.tape,hb.output,hb.size,fun k hk _=>hb.block k hk⟩,S',h1,h2,⟨fun id b h=>by simp at h,fun id hid=>hh.out id (by simp),fun i j x y b k l h=>by simp at h⟩,v,he,h3,h4⟩
theorem a5y {S:A4} {w w':World} (h:S.within w) (hb:Below w.heap.size w w'):S.within w':=fun b o hS=>Nat.lt_of_lt_of_le (h b o hS) hb.size
theorem c3q {S:A4} {w0 w:World} {v:Value} {d:D} (h:∀ l c z,d ≠ .slice l c (.fr z)) (h2:∀ ds,d ≠ .tuple ds):a85 S w0 w v d:=⟨fun l c z e=>absurd e (h l c z),fun _ ds _ e=>absurd e (h2 ds)⟩
theorem g0p {s:ByteArray} {l:List UInt8} (h:s.data.toList=l):s=⟨l.toArray⟩:=by subst h;rfl
theorem g5j {s:u4} {v:V} (h:RV (.c (.s s)) v):toD v=.str s:=by
 cases h with
 | s _ l c h1 h2=>subst h1 h2;simp only [toD,E8]
 | q _ x h=>cases h with | s _ l c h1 h2=>subst h1 h2;simp [toD,den,a0r,E8]
theorem e7y {k:IntKind} {n:Int} {v:V} (h:RV (.c (.i k n)) v):toD v=.int k n:=by
 cases h with
 | i=>rfl
 | q _ x h=>cases h;rfl
end
end Go.Proofs.YtkojildpddaccaaGreatDoor
namespace LQ
def At (s:u4) (i:Nat) (w r:u4):Prop:=s.drop i=w ++ r
def Del (r:u4):Prop:=r=[]∨bt r 0=32∨bt r 0=41∨bt r 0=10
end LQ
