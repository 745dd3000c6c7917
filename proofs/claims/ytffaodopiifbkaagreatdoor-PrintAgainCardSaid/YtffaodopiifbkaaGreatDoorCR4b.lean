/- The reference's numbers: sums, differences, quotients. -/
import Derived.Test.YtffaodopiifbkaaGreatDoorCR4
set_option linter.all false
namespace Go.Proofs.YtffaodopiifbkaaGreatDoor
open Go.Abs LQ
set_option maxRecDepth 100000
set_option maxHeartbeats 4000000
noncomputable section
theorem a5l {acc:List Nat} {n:Int} {d:Nat} (h:n=d):acc.map dg ++ [[.i .i64 n]]=(acc ++ [d]).map dg:=by subst h;simp [dg]
theorem f1t:l5 154 (f3h (fun a b=>D9 a∧D9 b) fun a b=>.ret (.sl 1 ((c00 a b).map dg))):=n6 (fun fn h=>f0m h) [(152,_)] (.cons d38 .nil) fun U fn hfn ⟨(a,b),ha,hbl,h9a,h9b⟩ vs bs hv hb=>by
 have hr:=hfn 152 _ rfl
 have ha:a.length < 90000:=ha
 have hbl:b.length < 90000:=hbl
 have hv:l8 [.sl 1 (a.map dg),.sl 1 (b.map dg)] vs:=hv
 have hb:j5 [] bs:=hb
 show j6 U _ fun v bs'=>l9 (.ret (.sl 1 ((c00 a b).map dg))) v∧j5 [] bs'
 unfold e3q
 (refine Zx ?_;intros)
 refine H0 (fun (i:Nat) vs bs=>∃ (t:j9 Q) (off:Nat) (t':j9 Q) (off':Nat) (bor:Nat) (v:V) (acc:List Nat),vs=[.slice t 1 off a.length .no,.slice t' 1 off' b.length .no,.int .i64 bor,.int .i64 i,v]∧bs=[.tok acc.length 1]∧a1c 0 1 (acc.map dg) v∧acc.length=i∧bor≤1 ∧
  r7 1 (a.map dg) t off∧r7 1 (b.map dg) t' off'∧i≤a.length∧Q8 a b i bor acc=Q8 a b 0 0 []) (fun i=>a.length - i) 0 ⟨_,_,_,_,0,_,[],rfl,rfl,.b rfl,rfl,oM,aS,aS,oM,rfl⟩ (by simp only [C2];omega) ?_
 rintro self i _ _ ⟨t,off,t',off',bor,v,acc,rfl,rfl,hv',hac,hbor,ht,ht',hi,he⟩ ih
 (refine Zx ?_;with_reducible repeat' first|intro _|apply aI)
 ·have q1:a[i]≤9:=h9a _ (List.getElem_mem _)
  have e1:=b9l (l:=a) (i:=i) oM
  (refine Zx ?_;with_reducible repeat' first|intro _|apply aI)
  ·have q2:b[i]≤9:=h9b _ (List.getElem_mem _)
   have e2:=b9l (l:=b) (i:=i) oM
   have hsd:L5 a b i bor=(a[i]:Int) - bor - b[i]:=by unfold L5;rw [if_pos oM,← e1,← e2]
   (refine Zx ?_;with_reducible repeat' first|intro _|apply aI)
   all_goals
    refine a12 aS (fun _=>L8 (by first | exact .i _ _ | exact .s _ _ _ rfl rfl | assumption)) (by rfl) (by simp) (by simp only [List.length_map];omega) fun _ _=>?_
    (refine Zx ?_;with_reducible repeat' first|intro _|apply aI)
   ·refine ih (i+1) _ _ ?_ oM
    exact ⟨_,_,_,_,1,_,acc ++ [(L5 a b i bor+10).toNat],rfl,by simp,.a _ _ (by simp) (by have hq:=‹r7 1 (acc.map dg ++ [_]) _ 0›;rw [a5l (d:=(L5 a b i bor+10).toNat) oM] at hq;exact hq),by simp;omega,oM,aS,aS,oM,by rw [← he];conv=>rhs;rw [Q8,if_pos oM,if_pos oM]⟩
   ·refine ih (i+1) _ _ ?_ oM
    exact ⟨_,_,_,_,0,_,acc ++ [(L5 a b i bor).toNat],rfl,by simp,.a _ _ (by simp) (by have hq:=‹r7 1 (acc.map dg ++ [_]) _ 0›;rw [a5l (d:=(L5 a b i bor).toNat) oM] at hq;exact hq),by simp;omega,oM,aS,aS,oM,by rw [← he];conv=>rhs;rw [Q8,if_pos oM,if_neg oM]⟩
  ·have hsd:L5 a b i bor=(a[i]:Int) - bor:=by unfold L5;rw [if_neg oM,← e1];omega
   refine a12 aS (fun _=>L8 (by first | exact .i _ _ | exact .s _ _ _ rfl rfl | assumption)) (by rfl) (by simp) (by simp only [List.length_map];omega) fun _ _=>?_
   (refine Zx ?_;intros)
   refine ih (i+1) _ _ ?_ oM
   exact ⟨_,_,_,_,1,_,acc ++ [(L5 a b i bor+10).toNat],rfl,by simp,.a _ _ (by simp) (by have hq:=‹r7 1 (acc.map dg ++ [_]) _ 0›;rw [a5l (d:=(L5 a b i bor+10).toNat) oM] at hq;exact hq),by simp;omega,oM,aS,aS,oM,by rw [← he];conv=>rhs;rw [Q8,if_pos oM,if_pos oM]⟩
  ·have hsd:L5 a b i bor=(a[i]:Int) - bor:=by unfold L5;rw [if_neg oM,← e1];omega
   refine a12 aS (fun _=>L8 (by first | exact .i _ _ | exact .s _ _ _ rfl rfl | assumption)) (by rfl) (by simp) (by simp only [List.length_map];omega) fun _ _=>?_
   (refine Zx ?_;intros)
   refine ih (i+1) _ _ ?_ oM
   exact ⟨_,_,_,_,0,_,acc ++ [(L5 a b i bor).toNat],rfl,by simp,.a _ _ (by simp) (by have hq:=‹r7 1 (acc.map dg ++ [_]) _ 0›;rw [a5l (d:=(L5 a b i bor).toNat) oM] at hq;exact hq),by simp;omega,oM,aS,aS,oM,by rw [← he];conv=>rhs;rw [Q8,if_pos oM,if_neg oM]⟩
 ·have e:acc=Q8 a b 0 0 []:=by rw [← he,Q8,if_neg oM]
  refine j3 hr ⟨acc,oM⟩ (r:=.sl 1 ((G0 acc).map dg)) rfl (.k (.sl _ _ _ _ _ (by simp) aS) .nil) .nil fun _ _ _ _=>?_
  (refine Zx ?_;intros)
  exact k9 ⟨.ret _ _ (by unfold c00;rw [← e];exact .sl _ _ _ _ _ (by simp) aS),.nil⟩
end
end Go.Proofs.YtffaodopiifbkaaGreatDoor
