/- The reference's numbers: sums, differences, quotients. -/
import Derived.Test.YtdldcfllnohkeaaGreatDoorKR4
set_option linter.all false
namespace Go.Proofs.YtdldcfllnohkeaaGreatDoor
open Go.Abs LQ
set_option maxRecDepth 100000
set_option maxHeartbeats 4000000
noncomputable section
theorem a33 {acc:List Nat} {n:Int} {d:Nat} (h:n=d):acc.map dg ++ [[.i .i64 n]]=(acc ++ [d]).map dg:=by subst h;simp [dg]
theorem e7f:j3 117 (f3i (fun a b=>D9 a∧D9 b) fun a b=>.ret (.sl 1 ((b8u a b).map dg))):=k7 (fun fn h=>e4t h) [(115,_)] (.cons d0p .nil) fun U fn hfn ⟨(a,b),ha,hbl,h9a,h9b⟩ vs bs hv hb=>by
 have hr:=hfn 115 _ rfl
 have ha:a.length < 90000:=ha
 have hbl:b.length < 90000:=hbl
 have hv:j5 [.sl 1 (a.map dg),.sl 1 (b.map dg)] vs:=hv
 have hb:RBs [] bs:=hb
 show g7 U _ fun v bs'=>j6 (.ret (.sl 1 ((b8u a b).map dg))) v∧RBs [] bs'
 unfold d8z
 (refine Zx ?_;intros)
 refine E1 (fun (i:Nat) vs bs=>∃ (t:i7 Q) (off:Nat) (t':i7 Q) (off':Nat) (bor:Nat) (v:V) (acc:List Nat),vs=[.slice t 1 off a.length .no,.slice t' 1 off' b.length .no,.int .i64 bor,.int .i64 i,v]∧bs=[.tok acc.length 1]∧a0o 0 1 (acc.map dg) v∧acc.length=i∧bor≤1 ∧
  m7 1 (a.map dg) t off∧m7 1 (b.map dg) t' off'∧i≤a.length∧O7 a b i bor acc=O7 a b 0 0 []) (fun i=>a.length - i) 0 ⟨_,_,_,_,0,_,[],rfl,rfl,.b rfl,rfl,oM,aS,aS,oM,rfl⟩ (by simp only [x8];omega) ?_
 rintro self i _ _ ⟨t,off,t',off',bor,v,acc,rfl,rfl,hv',hac,hbor,ht,ht',hi,he⟩ ih
 (refine Zx ?_;with_reducible repeat' first|intro _|apply aI)
 ·have q1:a[i]≤9:=h9a _ (List.getElem_mem _)
  have e1:=b5p (l:=a) (i:=i) oM
  (refine Zx ?_;with_reducible repeat' first|intro _|apply aI)
  ·have q2:b[i]≤9:=h9b _ (List.getElem_mem _)
   have e2:=b5p (l:=b) (i:=i) oM
   have hsd:J2 a b i bor=(a[i]:Int) - bor - b[i]:=by unfold J2;rw [if_pos oM,← e1,← e2]
   (refine Zx ?_;with_reducible repeat' first|intro _|apply aI)
   all_goals
    refine T6 aS (fun _=>E7 (by first | exact .i _ _ | exact .s _ _ _ rfl rfl | assumption)) (by rfl) (by simp) (by simp only [List.length_map];omega) fun _ _=>?_
    (refine Zx ?_;with_reducible repeat' first|intro _|apply aI)
   ·refine ih (i+1) _ _ ?_ oM
    exact ⟨_,_,_,_,1,_,acc ++ [(J2 a b i bor+10).toNat],rfl,by simp,.a _ _ (by simp) (by have hq:=‹m7 1 (acc.map dg ++ [_]) _ 0›;rw [a33 (d:=(J2 a b i bor+10).toNat) oM] at hq;exact hq),by simp;omega,oM,aS,aS,oM,by rw [← he];conv=>rhs;rw [O7,if_pos oM,if_pos oM]⟩
   ·refine ih (i+1) _ _ ?_ oM
    exact ⟨_,_,_,_,0,_,acc ++ [(J2 a b i bor).toNat],rfl,by simp,.a _ _ (by simp) (by have hq:=‹m7 1 (acc.map dg ++ [_]) _ 0›;rw [a33 (d:=(J2 a b i bor).toNat) oM] at hq;exact hq),by simp;omega,oM,aS,aS,oM,by rw [← he];conv=>rhs;rw [O7,if_pos oM,if_neg oM]⟩
  ·have hsd:J2 a b i bor=(a[i]:Int) - bor:=by unfold J2;rw [if_neg oM,← e1];omega
   refine T6 aS (fun _=>E7 (by first | exact .i _ _ | exact .s _ _ _ rfl rfl | assumption)) (by rfl) (by simp) (by simp only [List.length_map];omega) fun _ _=>?_
   (refine Zx ?_;intros)
   refine ih (i+1) _ _ ?_ oM
   exact ⟨_,_,_,_,1,_,acc ++ [(J2 a b i bor+10).toNat],rfl,by simp,.a _ _ (by simp) (by have hq:=‹m7 1 (acc.map dg ++ [_]) _ 0›;rw [a33 (d:=(J2 a b i bor+10).toNat) oM] at hq;exact hq),by simp;omega,oM,aS,aS,oM,by rw [← he];conv=>rhs;rw [O7,if_pos oM,if_pos oM]⟩
  ·have hsd:J2 a b i bor=(a[i]:Int) - bor:=by unfold J2;rw [if_neg oM,← e1];omega
   refine T6 aS (fun _=>E7 (by first | exact .i _ _ | exact .s _ _ _ rfl rfl | assumption)) (by rfl) (by simp) (by simp only [List.length_map];omega) fun _ _=>?_
   (refine Zx ?_;intros)
   refine ih (i+1) _ _ ?_ oM
   exact ⟨_,_,_,_,0,_,acc ++ [(J2 a b i bor).toNat],rfl,by simp,.a _ _ (by simp) (by have hq:=‹m7 1 (acc.map dg ++ [_]) _ 0›;rw [a33 (d:=(J2 a b i bor).toNat) oM] at hq;exact hq),by simp;omega,oM,aS,aS,oM,by rw [← he];conv=>rhs;rw [O7,if_pos oM,if_neg oM]⟩
 ·have e:acc=O7 a b 0 0 []:=by rw [← he,O7,if_neg oM]
  refine f6 hr ⟨acc,oM⟩ (r:=.sl 1 ((E3 acc).map dg)) rfl (.k (.sl _ _ _ _ _ (by simp) aS) .nil) .nil fun _ _ _ _=>?_
  (refine Zx ?_;intros)
  exact g9 ⟨.ret _ _ (by unfold b8u;rw [← e];exact .sl _ _ _ _ _ (by simp) aS),.nil⟩
end
end Go.Proofs.YtdldcfllnohkeaaGreatDoor
