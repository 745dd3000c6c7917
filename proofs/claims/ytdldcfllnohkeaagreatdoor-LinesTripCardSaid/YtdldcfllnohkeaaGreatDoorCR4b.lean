/- The reference's numbers: sums, differences, quotients. -/
import Derived.Test.YtdldcfllnohkeaaGreatDoorCR4
set_option linter.all false
namespace Go.Proofs.YtdldcfllnohkeaaGreatDoor
open Go.Abs LQ
set_option maxRecDepth 100000
set_option maxHeartbeats 4000000
noncomputable section
theorem a5u {acc:List Nat} {n:Int} {d:Nat} (h:n=d):acc.map dg ++ [[.i .i64 n]]=(acc ++ [d]).map dg:=by subst h;simp [dg]
theorem f0z:k9 117 (f6v (fun a b=>D9 a∧D9 b) fun a b=>.ret (.sl 1 ((c1g a b).map dg))):=n9 (fun fn h=>e74 h) [(115,_)] (.cons d30 .nil) fun U fn hfn ⟨(a,b),ha,hbl,h9a,h9b⟩ vs bs hv hb=>by
 have hr:=hfn 115 _ rfl
 have ha:a.length < 90000:=ha
 have hbl:b.length < 90000:=hbl
 have hv:l7 [.sl 1 (a.map dg),.sl 1 (b.map dg)] vs:=hv
 have hb:RBs [] bs:=hb
 show j5 U _ fun v bs'=>l8 (.ret (.sl 1 ((c1g a b).map dg))) v∧RBs [] bs'
 unfold e10
 (refine Zx ?_;intros)
 refine H2 (fun (i:Nat) vs bs=>∃ (t:j8 Q) (off:Nat) (t':j8 Q) (off':Nat) (bor:Nat) (v:V) (acc:List Nat),vs=[.slice t 1 off a.length .no,.slice t' 1 off' b.length .no,.int .i64 bor,.int .i64 i,v]∧bs=[.tok acc.length 1]∧a1e 0 1 (acc.map dg) v∧acc.length=i∧bor≤1 ∧
  p9 1 (a.map dg) t off∧p9 1 (b.map dg) t' off'∧i≤a.length∧R6 a b i bor acc=R6 a b 0 0 []) (fun i=>a.length - i) 0 ⟨_,_,_,_,0,_,[],rfl,rfl,.b rfl,rfl,oM,aS,aS,oM,rfl⟩ (by simp only [C4];omega) ?_
 rintro self i _ _ ⟨t,off,t',off',bor,v,acc,rfl,rfl,hv',hac,hbor,ht,ht',hi,he⟩ ih
 (refine Zx ?_;with_reducible repeat' first|intro _|apply aI)
 ·have q1:a[i]≤9:=h9a _ (List.getElem_mem _)
  have e1:=b7s (l:=a) (i:=i) oM
  (refine Zx ?_;with_reducible repeat' first|intro _|apply aI)
  ·have q2:b[i]≤9:=h9b _ (List.getElem_mem _)
   have e2:=b7s (l:=b) (i:=i) oM
   have hsd:M7 a b i bor=(a[i]:Int) - bor - b[i]:=by unfold M7;rw [if_pos oM,← e1,← e2]
   (refine Zx ?_;with_reducible repeat' first|intro _|apply aI)
   all_goals
    refine a2b aS (fun _=>L4 (by first | exact .i _ _ | exact .s _ _ _ rfl rfl | assumption)) (by rfl) (by simp) (by simp only [List.length_map];omega) fun _ _=>?_
    (refine Zx ?_;with_reducible repeat' first|intro _|apply aI)
   ·refine ih (i+1) _ _ ?_ oM
    exact ⟨_,_,_,_,1,_,acc ++ [(M7 a b i bor+10).toNat],rfl,by simp,.a _ _ (by simp) (by have hq:=‹p9 1 (acc.map dg ++ [_]) _ 0›;rw [a5u (d:=(M7 a b i bor+10).toNat) oM] at hq;exact hq),by simp;omega,oM,aS,aS,oM,by rw [← he];conv=>rhs;rw [R6,if_pos oM,if_pos oM]⟩
   ·refine ih (i+1) _ _ ?_ oM
    exact ⟨_,_,_,_,0,_,acc ++ [(M7 a b i bor).toNat],rfl,by simp,.a _ _ (by simp) (by have hq:=‹p9 1 (acc.map dg ++ [_]) _ 0›;rw [a5u (d:=(M7 a b i bor).toNat) oM] at hq;exact hq),by simp;omega,oM,aS,aS,oM,by rw [← he];conv=>rhs;rw [R6,if_pos oM,if_neg oM]⟩
  ·have hsd:M7 a b i bor=(a[i]:Int) - bor:=by unfold M7;rw [if_neg oM,← e1];omega
   refine a2b aS (fun _=>L4 (by first | exact .i _ _ | exact .s _ _ _ rfl rfl | assumption)) (by rfl) (by simp) (by simp only [List.length_map];omega) fun _ _=>?_
   (refine Zx ?_;intros)
   refine ih (i+1) _ _ ?_ oM
   exact ⟨_,_,_,_,1,_,acc ++ [(M7 a b i bor+10).toNat],rfl,by simp,.a _ _ (by simp) (by have hq:=‹p9 1 (acc.map dg ++ [_]) _ 0›;rw [a5u (d:=(M7 a b i bor+10).toNat) oM] at hq;exact hq),by simp;omega,oM,aS,aS,oM,by rw [← he];conv=>rhs;rw [R6,if_pos oM,if_pos oM]⟩
  ·have hsd:M7 a b i bor=(a[i]:Int) - bor:=by unfold M7;rw [if_neg oM,← e1];omega
   refine a2b aS (fun _=>L4 (by first | exact .i _ _ | exact .s _ _ _ rfl rfl | assumption)) (by rfl) (by simp) (by simp only [List.length_map];omega) fun _ _=>?_
   (refine Zx ?_;intros)
   refine ih (i+1) _ _ ?_ oM
   exact ⟨_,_,_,_,0,_,acc ++ [(M7 a b i bor).toNat],rfl,by simp,.a _ _ (by simp) (by have hq:=‹p9 1 (acc.map dg ++ [_]) _ 0›;rw [a5u (d:=(M7 a b i bor).toNat) oM] at hq;exact hq),by simp;omega,oM,aS,aS,oM,by rw [← he];conv=>rhs;rw [R6,if_pos oM,if_neg oM]⟩
 ·have e:acc=R6 a b 0 0 []:=by rw [← he,R6,if_neg oM]
  refine j4 hr ⟨acc,oM⟩ (r:=.sl 1 ((G0 acc).map dg)) rfl (.k (.sl _ _ _ _ _ (by simp) aS) .nil) .nil fun _ _ _ _=>?_
  (refine Zx ?_;intros)
  exact j9 ⟨.ret _ _ (by unfold c1g;rw [← e];exact .sl _ _ _ _ _ (by simp) aS),.nil⟩
end
end Go.Proofs.YtdldcfllnohkeaaGreatDoor
