/- The reference's numbers: sums, differences, quotients. -/
import Derived.Test.YtffaodopiifbkaaGreatDoorKR4
set_option linter.all false
namespace Go.Proofs.YtffaodopiifbkaaGreatDoor
open Go.Abs LQ
set_option maxRecDepth 100000
set_option maxHeartbeats 4000000
noncomputable section
theorem a3t {acc:List Nat} {n:Int} {d:Nat} (h:n=d):acc.map dg ++ [[.i .i64 n]]=(acc ++ [d]).map dg:=by subst h;simp [dg]
theorem f04:j5 154 (f11 (fun a b=>D9 a∧D9 b) fun a b=>.ret (.sl 1 ((b8a a b).map dg))):=k8 (fun fn h=>e1s h) [(152,_)] (.cons d01 .nil) fun U fn hfn ⟨(a,b),ha,hbl,h9a,h9b⟩ vs bs hv hb=>by
 have hr:=hfn 152 _ rfl
 have ha:a.length < 90000:=ha
 have hbl:b.length < 90000:=hbl
 have hv:j6 [.sl 1 (a.map dg),.sl 1 (b.map dg)] vs:=hv
 have hb:g9 [] bs:=hb
 show g8 U _ fun v bs'=>j7 (.ret (.sl 1 ((b8a a b).map dg))) v∧g9 [] bs'
 unfold d9s
 (refine Zx ?_;intros)
 refine D3 (fun (i:Nat) vs bs=>∃ (t:j0 Q) (off:Nat) (t':j0 Q) (off':Nat) (bor:Nat) (v:V) (acc:List Nat),vs=[.slice t 1 off a.length .no,.slice t' 1 off' b.length .no,.int .i64 bor,.int .i64 i,v]∧bs=[.tok acc.length 1]∧a0m 0 1 (acc.map dg) v∧acc.length=i∧bor≤1 ∧
  m8 1 (a.map dg) t off∧m8 1 (b.map dg) t' off'∧i≤a.length∧N4 a b i bor acc=N4 a b 0 0 []) (fun i=>a.length - i) 0 ⟨_,_,_,_,0,_,[],rfl,rfl,.b rfl,rfl,oM,aS,aS,oM,rfl⟩ (by simp only [v8];omega) ?_
 rintro self i _ _ ⟨t,off,t',off',bor,v,acc,rfl,rfl,hv',hac,hbor,ht,ht',hi,he⟩ ih
 (refine Zx ?_;with_reducible repeat' first|intro _|apply aI)
 ·have q1:a[i]≤9:=h9a _ (List.getElem_mem _)
  have e1:=b57 (l:=a) (i:=i) oM
  (refine Zx ?_;with_reducible repeat' first|intro _|apply aI)
  ·have q2:b[i]≤9:=h9b _ (List.getElem_mem _)
   have e2:=b57 (l:=b) (i:=i) oM
   have hsd:H3 a b i bor=(a[i]:Int) - bor - b[i]:=by unfold H3;rw [if_pos oM,← e1,← e2]
   (refine Zx ?_;with_reducible repeat' first|intro _|apply aI)
   all_goals
    refine S3 aS (fun _=>E2 (by first | exact .i _ _ | exact .s _ _ _ rfl rfl | assumption)) (by rfl) (by simp) (by simp only [List.length_map];omega) fun _ _=>?_
    (refine Zx ?_;with_reducible repeat' first|intro _|apply aI)
   ·refine ih (i+1) _ _ ?_ oM
    exact ⟨_,_,_,_,1,_,acc ++ [(H3 a b i bor+10).toNat],rfl,by simp,.a _ _ (by simp) (by have hq:=‹m8 1 (acc.map dg ++ [_]) _ 0›;rw [a3t (d:=(H3 a b i bor+10).toNat) oM] at hq;exact hq),by simp;omega,oM,aS,aS,oM,by rw [← he];conv=>rhs;rw [N4,if_pos oM,if_pos oM]⟩
   ·refine ih (i+1) _ _ ?_ oM
    exact ⟨_,_,_,_,0,_,acc ++ [(H3 a b i bor).toNat],rfl,by simp,.a _ _ (by simp) (by have hq:=‹m8 1 (acc.map dg ++ [_]) _ 0›;rw [a3t (d:=(H3 a b i bor).toNat) oM] at hq;exact hq),by simp;omega,oM,aS,aS,oM,by rw [← he];conv=>rhs;rw [N4,if_pos oM,if_neg oM]⟩
  ·have hsd:H3 a b i bor=(a[i]:Int) - bor:=by unfold H3;rw [if_neg oM,← e1];omega
   refine S3 aS (fun _=>E2 (by first | exact .i _ _ | exact .s _ _ _ rfl rfl | assumption)) (by rfl) (by simp) (by simp only [List.length_map];omega) fun _ _=>?_
   (refine Zx ?_;intros)
   refine ih (i+1) _ _ ?_ oM
   exact ⟨_,_,_,_,1,_,acc ++ [(H3 a b i bor+10).toNat],rfl,by simp,.a _ _ (by simp) (by have hq:=‹m8 1 (acc.map dg ++ [_]) _ 0›;rw [a3t (d:=(H3 a b i bor+10).toNat) oM] at hq;exact hq),by simp;omega,oM,aS,aS,oM,by rw [← he];conv=>rhs;rw [N4,if_pos oM,if_pos oM]⟩
  ·have hsd:H3 a b i bor=(a[i]:Int) - bor:=by unfold H3;rw [if_neg oM,← e1];omega
   refine S3 aS (fun _=>E2 (by first | exact .i _ _ | exact .s _ _ _ rfl rfl | assumption)) (by rfl) (by simp) (by simp only [List.length_map];omega) fun _ _=>?_
   (refine Zx ?_;intros)
   refine ih (i+1) _ _ ?_ oM
   exact ⟨_,_,_,_,0,_,acc ++ [(H3 a b i bor).toNat],rfl,by simp,.a _ _ (by simp) (by have hq:=‹m8 1 (acc.map dg ++ [_]) _ 0›;rw [a3t (d:=(H3 a b i bor).toNat) oM] at hq;exact hq),by simp;omega,oM,aS,aS,oM,by rw [← he];conv=>rhs;rw [N4,if_pos oM,if_neg oM]⟩
 ·have e:acc=N4 a b 0 0 []:=by rw [← he,N4,if_neg oM]
  refine f5 hr ⟨acc,oM⟩ (r:=.sl 1 ((D4 acc).map dg)) rfl (.k (.sl _ _ _ _ _ (by simp) aS) .nil) .nil fun _ _ _ _=>?_
  (refine Zx ?_;intros)
  exact i6 ⟨.ret _ _ (by unfold b8a;rw [← e];exact .sl _ _ _ _ _ (by simp) aS),.nil⟩
end
end Go.Proofs.YtffaodopiifbkaaGreatDoor
