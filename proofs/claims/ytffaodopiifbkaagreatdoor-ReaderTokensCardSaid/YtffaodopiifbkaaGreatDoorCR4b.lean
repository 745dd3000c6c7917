/- The reference's numbers: sums, differences, quotients. -/
import Derived.Test.YtffaodopiifbkaaGreatDoorCR4
import Derived.Test.YtffaodopiifbkaaGreatDoorCL0
set_option linter.all false
namespace Go.Proofs.YtffaodopiifbkaaGreatDoor
open Go.Abs LQ
set_option maxRecDepth 100000
set_option maxHeartbeats 4000000
noncomputable section
theorem a4d {acc:List Nat} {n:Int} {d:Nat} (h:n=d):acc.map dg ++ [[.i .i64 n]]=(acc ++ [d]).map dg:=by subst h;simp [dg]
theorem e2p:l5 154 (e3x (fun a b=>D9 a∧D9 b) fun a b=>.ret (.sl 1 ((b6z a b).map dg))):=v7 (fun fn h=>e1s h) [(152,_)] (.cons c7a .nil) fun U fn hfn ⟨(a,b),ha,hbl,h9a,h9b⟩ vs bs hv hb=>by
 have hr:=hfn 152 _ rfl
 have ha:a.length < 90000:=ha
 have hbl:b.length < 90000:=hbl
 have hv:l9 [.sl 1 (a.map dg),.sl 1 (b.map dg)] vs:=hv
 have hb:RBs [] bs:=hb
 show j3 U _ fun v bs'=>m8 (.ret (.sl 1 ((b6z a b).map dg))) v∧RBs [] bs'
 unfold d2m
 (refine Zx ?_;with_reducible repeat' first|intro _|apply aI)
 refine F8 (fun (i:Nat) vs bs=>∃ (t:j8 Q) (off:Nat) (t':j8 Q) (off':Nat) (bor:Nat) (v:V) (acc:List Nat),vs=[.slice t 1 off a.length .no,.slice t' 1 off' b.length .no,.int .i64 bor,.int .i64 i,v]∧bs=[.tok acc.length 1]∧Z4 0 1 (acc.map dg) v∧acc.length=i∧bor≤1 ∧
  u6 1 (a.map dg) t off∧u6 1 (b.map dg) t' off'∧i≤a.length∧O5 a b i bor acc=O5 a b 0 0 []) (fun i=>a.length - i) 0 ⟨_,_,_,_,0,_,[],rfl,rfl,.b rfl,rfl,by omega,by assumption,by assumption,by omega,rfl⟩ (by simp only [B8];omega) ?_
 rintro self i _ _ ⟨t,off,t',off',bor,v,acc,rfl,rfl,hv',hac,hbor,ht,ht',hi,he⟩ ih
 (refine Zx ?_;with_reducible repeat' first|intro _|apply aI)
 ·have q1:a[i]≤9:=h9a _ (List.getElem_mem _)
  have e1:=b5q (l:=a) (i:=i) (by omega)
  (refine Zx ?_;with_reducible repeat' first|intro _|apply aI)
  ·have q2:b[i]≤9:=h9b _ (List.getElem_mem _)
   have e2:=b5q (l:=b) (i:=i) (by omega)
   have hsd:J7 a b i bor=(a[i]:Int) - bor - b[i]:=by unfold J7;rw [if_pos (by omega),← e1,← e2]
   (refine Zx ?_;with_reducible repeat' first|intro _|apply aI)
   all_goals
    refine Z5 (by assumption) (fun _=>I9 (by first | exact .i _ _ | exact .s _ _ _ rfl rfl | assumption)) (by rfl) (by simp) (by simp only [List.length_map];omega) fun _ _=>?_
    (refine Zx ?_;with_reducible repeat' first|intro _|apply aI)
   ·refine ih (i+1) _ _ ?_ (by omega)
    exact ⟨_,_,_,_,1,_,acc ++ [(J7 a b i bor+10).toNat],rfl,by simp,.a _ _ (by simp) (by have hq:=‹u6 1 (acc.map dg ++ [_]) _ 0›;rw [a4d (d:=(J7 a b i bor+10).toNat) (by omega)] at hq;exact hq),by simp;omega,by omega,by assumption,by assumption,by omega,by rw [← he];conv=>rhs;rw [O5,if_pos (by omega),if_pos (by omega)]⟩
   ·refine ih (i+1) _ _ ?_ (by omega)
    exact ⟨_,_,_,_,0,_,acc ++ [(J7 a b i bor).toNat],rfl,by simp,.a _ _ (by simp) (by have hq:=‹u6 1 (acc.map dg ++ [_]) _ 0›;rw [a4d (d:=(J7 a b i bor).toNat) (by omega)] at hq;exact hq),by simp;omega,by omega,by assumption,by assumption,by omega,by rw [← he];conv=>rhs;rw [O5,if_pos (by omega),if_neg (by omega)]⟩
  ·have hsd:J7 a b i bor=(a[i]:Int) - bor:=by unfold J7;rw [if_neg (by omega),← e1];omega
   refine Z5 (by assumption) (fun _=>I9 (by first | exact .i _ _ | exact .s _ _ _ rfl rfl | assumption)) (by rfl) (by simp) (by simp only [List.length_map];omega) fun _ _=>?_
   (refine Zx ?_;with_reducible repeat' first|intro _|apply aI)
   refine ih (i+1) _ _ ?_ (by omega)
   exact ⟨_,_,_,_,1,_,acc ++ [(J7 a b i bor+10).toNat],rfl,by simp,.a _ _ (by simp) (by have hq:=‹u6 1 (acc.map dg ++ [_]) _ 0›;rw [a4d (d:=(J7 a b i bor+10).toNat) (by omega)] at hq;exact hq),by simp;omega,by omega,by assumption,by assumption,by omega,by rw [← he];conv=>rhs;rw [O5,if_pos (by omega),if_pos (by omega)]⟩
  ·have hsd:J7 a b i bor=(a[i]:Int) - bor:=by unfold J7;rw [if_neg (by omega),← e1];omega
   refine Z5 (by assumption) (fun _=>I9 (by first | exact .i _ _ | exact .s _ _ _ rfl rfl | assumption)) (by rfl) (by simp) (by simp only [List.length_map];omega) fun _ _=>?_
   (refine Zx ?_;with_reducible repeat' first|intro _|apply aI)
   refine ih (i+1) _ _ ?_ (by omega)
   exact ⟨_,_,_,_,0,_,acc ++ [(J7 a b i bor).toNat],rfl,by simp,.a _ _ (by simp) (by have hq:=‹u6 1 (acc.map dg ++ [_]) _ 0›;rw [a4d (d:=(J7 a b i bor).toNat) (by omega)] at hq;exact hq),by simp;omega,by omega,by assumption,by assumption,by omega,by rw [← he];conv=>rhs;rw [O5,if_pos (by omega),if_neg (by omega)]⟩
 ·have e:acc=O5 a b 0 0 []:=by rw [← he,O5,if_neg (by omega)]
  refine j4 hr ⟨acc,by omega⟩ (r:=.sl 1 ((F2 acc).map dg)) rfl (.cons _ _ _ _ (.sl _ _ _ _ _ (by simp) (by assumption)) .nil) .nil fun _ _ _ _=>?_
  (refine Zx ?_;with_reducible repeat' first|intro _|apply aI)
  exact l6 ⟨.ret _ _ (by unfold b6z;rw [← e];exact .sl _ _ _ _ _ (by simp) (by assumption)),.nil⟩
end
end Go.Proofs.YtffaodopiifbkaaGreatDoor
