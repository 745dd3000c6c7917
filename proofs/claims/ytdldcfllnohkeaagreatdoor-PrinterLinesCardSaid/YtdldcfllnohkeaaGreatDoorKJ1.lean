/- The reference's reader: bytes, blanks, words. -/
import Derived.Test.YtdldcfllnohkeaaGreatDoorKTB
set_option linter.all false
namespace Go.Proofs.YtdldcfllnohkeaaGreatDoor
open Go.Abs LQ
set_option maxRecDepth 100000
set_option maxHeartbeats 4000000
noncomputable section
def f81 (g:Int→GV):Sp where
 ι:=Int
 A c:=[.c (.i .u8 c)]
 B _:=[]
 R c:=.ret (g c)
 B' _:=[]
 inj i j vs bs h k _ _:=by
  obtain ⟨_,_,h1,k1,h,k⟩:=h.two k
  rw [a0l h1 k1];exact ⟨rfl,rfl⟩
theorem d3q:j3 124 (f81 fun c=>.c (.b (t6 c))):=k7 (fun fn h=>e4y h) [] .nil fun U fn hfn (c:Int) vs bs hv hb=>by
 have hv:j5 [.c (.i .u8 c)] vs:=hv
 have hb:RBs [] bs:=hb
 show g7 U _ fun v bs'=>j6 (.ret (.c (.b (t6 c)))) v∧RBs [] bs'
 unfold d84
 (refine Zq ?_;with_reducible repeat' first|intro _|apply aI)
 all_goals first
  | exact g9 ⟨.ret _ _ (G2 (by unfold t6;apply decide_eq_false;rintro ⟨_,_,_,_,_,_,_,_,_⟩;omega)),.nil⟩
  | (refine G7 fun e=>?_
     subst e
     exact ⟨.ret _ _ (P9 (by rw [c1m,a5a];unfold t6;rw [Bool.eq_iff_iff];simp;omega)),.nil⟩)
set_option maxHeartbeats 8000000
theorem f6f {U:s7} {P:J7→List Bx→Prop} {s:List UInt8} {a b:Int} {K:Nat→Om} (h:0≤a∧a≤b∧b≤s.length) (k:g7 U (K (j9 ((s.take b.toNat).drop a.toNat))) P):g7 U (U.fN (U.sSub (j9 s) (U.iNat a) (b.toNat - a.toNat)) K) P:=fun e=>by
 have:=k e
 subst e
 rw [a6u]
 show ∃ v bs,K (sSub (j9 s) (iNat a) (b.toNat - a.toNat))=some (v,bs)∧P v bs
 rw [D2,c0i (show a.toNat≤b.toNat by omega) oM]
 exact this
theorem d97 (s:f5):g8 s=1↔(0 < s.length∧bt s 0=45):=by unfold g8;split <;> simp [*]
theorem f3c {s:f5} (h:¬g8 s=1):g8 s=0:=by have:=O0 s;omega
theorem e74 {s:f5} (h:j7 s (g8 s)=g8 s):m6 s=([],[],false):=by unfold m6;simp only [];rw [if_pos h];rfl
theorem e35 {s:f5} (h:¬j7 s (g8 s)=g8 s) (h1:j7 s (g8 s)=s.length):m6 s=(s,[49],true):=by unfold m6;simp only [];rw [if_neg h,if_pos h1];rfl
theorem e34 {s:f5} (h:¬j7 s (g8 s)=g8 s) (h1:¬j7 s (g8 s)=s.length) (h2:bt s (j7 s (g8 s)) ≠ 47∨j7 s (g8 s)+1=s.length):m6 s=([],[],false):=by unfold m6;simp only [];rw [if_neg h,if_neg h1,if_pos h2];rfl
theorem d71 {s:f5} (h:¬j7 s (g8 s)=g8 s) (h1:¬j7 s (g8 s)=s.length) (h2:¬(bt s (j7 s (g8 s)) ≠ 47∨j7 s (g8 s)+1=s.length)):m6 s=if j7 s (j7 s (g8 s)+1)=s.length then (s.take (j7 s (g8 s)),s.drop (j7 s (g8 s)+1),true) else ([],[],false):=by
 unfold m6
 simp only []
 rw [if_neg h,if_neg h1,if_neg h2,List.take_length]
 rfl
def d7z (p:f5 × f5 × Bool):n6:=.ret (.t [.c (.s p.1),.c (.s p.2.1),.c (.b p.2.2)])
theorem d3v:j3 146 (sp1 fun s=>d7z (m6 s)):=k7 (fun fn h=>e48 h) [] .nil fun U fn hfn ⟨s,hs⟩ vs bs hv hb=>by
 have hv:j5 [.c (.s s)] vs:=hv
 have hb:RBs [] bs:=hb
 have hs:s.length < 90000:=hs
 show g7 U _ fun v bs'=>j6 (d7z (m6 s)) v∧RBs [] bs'
 unfold d9e
 have hsl:=O0 s
 have no:m6 s=([],[],false)→g7 U (some (.ret (.tuple [.str 0 0,.str 0 0,.known false]),[])) fun v bs'=>j6 (d7z (m6 s)) v∧RBs [] bs':=fun h=>by
  rw [h]
  exact g9 ⟨.ret _ _ j4,.nil⟩
 (refine Zy ?_;intros)
 refine R6 (fun vs bs=>vs=[.str s.length (j9 s),.int .i64 (g8 s:Int)]∧bs=[]) ?_ ?_
 ·rintro _ _ ⟨rfl,rfl⟩
  (refine Zy ?_;intros)
  generalize hg:g8 s=g at *
  refine E1 (fun (j:Nat) vs bs=>vs=[.str s.length (j9 s),.int .i64 g,.int .i64 j]∧bs=[]∧g≤j∧j≤s.length∧j7 s j=j7 s g) (fun j=>s.length - j) g ⟨rfl,rfl,Nat.le_refl _,hsl.1,rfl⟩ (by simp only [x8];omega) ?_
  rintro self j vs bs ⟨rfl,rfl,hgj,hj,he⟩ ih
  (refine Zy ?_;intros)
  refine R6 (fun vs bs=>∃ (c:Bool) (v:V),vs=[.str s.length (j9 s),.int .i64 g,.int .i64 j,v]∧bs=[]∧RV (.c (.b c)) v∧(c=true↔(j < s.length∧Q4 (bt s j)=true))) ?_ ?_
  ·rintro _ _ ⟨c,v,rfl,rfl,hcv,hce⟩
   have hbt:((s.getD j 0).toNat:Int)=bt s j:=rfl
   (refine Zy ?_;with_reducible repeat' first|intro _|apply aI)
   ·have hh:=hce.1 ‹_›
    exact ih (j+1) _ _ ⟨rfl,rfl,oM,oM,by rw [← he];conv=>rhs;rw [j7,if_pos hh.1,if_pos hh.2]⟩ oM
   all_goals
    have hh:¬(j < s.length∧Q4 (bt s j)=true):=fun h=>‹¬c=true› (hce.2 h)
    have hz:j7 s j=j:=by
     rw [j7]
     split
     ·rw [if_neg (fun h=>hh ⟨‹_›,h⟩)]
     ·rfl
    rw [hz] at he
    have he':j7 s (g8 s)=j:=by rw [hg,← he]
   ·exact no (e74 (by rw [he',hg];omega))
   ·rw [e35 (by rw [he',hg];omega) (by rw [he'];omega)]
    exact g9 ⟨.ret _ _ j4,.nil⟩
   ·have q1:¬j7 s (g8 s)=g8 s:=by rw [he',hg];omega
    have q2:¬j7 s (g8 s)=s.length:=by rw [he'];omega
    refine R6 (fun vs bs=>∃ (c:Bool) (v:V),vs=[.str s.length (j9 s),.int .i64 j,v]∧bs=[]∧RV (.c (.b c)) v∧(c=true↔(bt s j ≠ 47∨j+1=s.length))) ?_ ?_
    ·rintro _ _ ⟨d,v,rfl,rfl,hdv,hde⟩
     (refine Zq ?_;with_reducible repeat' first|intro _|apply aI)
     ·exact no (e34 q1 q2 (by rw [he'];exact hde.1 ‹_›))
     ·have q3:¬(bt s (j7 s (g8 s)) ≠ 47∨j7 s (g8 s)+1=s.length):=by rw [he'];exact fun h=>‹¬d=true› (hde.2 h)
      have q4:=d71 q1 q2 q3
      rw [he'] at q4
      refine E1 (fun (k:Nat) vs bs=>vs=[.str s.length (j9 s),.int .i64 j,.int .i64 k]∧bs=[]∧j < k∧k≤s.length∧j7 s k=j7 s (j+1)) (fun k=>s.length - k) (j+1) ⟨rfl,rfl,oM,oM,rfl⟩ (by simp only [x8];omega) ?_
      rintro self2 k vs bs ⟨rfl,rfl,hjk,hk,hek⟩ ih2
      (refine Zy ?_;with_reducible repeat' first|intro _|apply aI)
      ·refine R6 (fun vs bs=>∃ (c:Bool) (v:V),vs=[.str s.length (j9 s),.int .i64 j,.int .i64 k,v]∧bs=[]∧RV (.c (.b c)) v∧(c=true↔¬Q4 (bt s k)=true)) ?_ ?_
       ·rintro _ _ ⟨d2,v,rfl,rfl,hdv2,hde2⟩
        (refine Zq ?_;with_reducible repeat' first|intro _|apply aI)
        ·refine no ?_
         have hk2:=hde2.1 ‹_›
         have:j7 s k=k:=by rw [j7,if_pos oM,if_neg hk2]
         rw [q4,if_neg oM]
        ·have hk2:Q4 (bt s k)=true:=Decidable.byContradiction fun h=>‹¬d2=true› (hde2.2 h)
         exact ih2 (k+1) _ _ ⟨rfl,rfl,oM,oM,by rw [← hek];conv=>rhs;rw [j7,if_pos (show k < s.length by omega),if_pos hk2]⟩ oM
       ·intro c hcc
        have hbt:((s.getD k 0).toNat:Int)=bt s k:=rfl
        (refine Zq ?_;with_reducible repeat' first|intro _|apply aI)
        ·exact hcc _ _ ⟨true,_,rfl,rfl,.kn _,by rw [a4x];simp;omega⟩
        ·refine fun e=>?_
         subst e
         exact hcc _ _ ⟨decide (57 < bt s k),_,rfl,rfl,P9 (by rw [b33];rfl),by rw [a4x];simp;omega⟩ rfl
      ·have:j7 s k=k:=by rw [j7,if_neg oM]
       rw [q4,if_pos oM]
       refine f6f (s:=s) (a:=0) (b:=(j:Int)) oM ?_
       (refine Zq ?_;intros)
       have ej:((j:Int)+1).toNat=j+1:=oM
       rw [ej]
       exact g9 ⟨.ret _ _ (.t _ _ (.k (.s _ _ _ (by simp;omega) rfl) (.k (.s _ _ _ rfl rfl) (.k (.kn _) .nil)))),.nil⟩
    ·intro c hcc
     (refine Zq ?_;with_reducible repeat' first|intro _|apply aI)
     ·refine fun e=>?_
      subst e
      exact hcc _ _ ⟨decide ((j:Int)+1=s.length),_,rfl,rfl,P9 (by rw [a5a]),by simp;omega⟩ rfl
     ·exact hcc _ _ ⟨true,_,rfl,rfl,.kn _,by simp;omega⟩
  ·intro c hcc
   have hbt:((s.getD j 0).toNat:Int)=bt s j:=rfl
   (refine Zq ?_;with_reducible repeat' first|intro _|apply aI)
   ·refine fun e=>?_
    subst e
    exact hcc _ _ ⟨decide (bt s j≤57),_,rfl,rfl,P9 (by rw [c2f];rfl),by rw [a4x];simp;omega⟩ rfl
   ·exact hcc _ _ ⟨false,_,rfl,rfl,.kn _,by rw [a4x];simp;omega⟩
   ·exact hcc _ _ ⟨false,_,rfl,rfl,.kn _,by simp;omega⟩
 ·intro c hcc
  have hbt:((s.getD 0 0).toNat:Int)=bt s 0:=rfl
  have hsi:=d97 s
  have hsz:¬(0 < s.length∧bt s 0=45)→g8 s=0:=fun h=>f3c fun e=>h (hsi.1 e)
  (refine Zq ?_;with_reducible repeat' first|intro _|apply aI)
  ·have h45:bt s 0=45:=‹_›
   exact hcc _ _ ⟨by rw [hsi.2 ⟨oM,h45⟩];rfl,rfl⟩
  ·have h45:¬bt s 0=45:=‹_›
   exact hcc _ _ ⟨by rw [hsz (fun h=>h45 h.2)];rfl,rfl⟩
  ·exact hcc _ _ ⟨by rw [hsz oM];rfl,rfl⟩
theorem d0n:j3 125 (sp1 fun s=>.ret (.c (.b (m6 s).2.2))):=k7 (fun fn h=>e4z h) [(146,_)] (.cons d3v .nil) fun U fn hfn ⟨s,hs⟩ vs bs hv hb=>by
 have hn:=hfn 146 _ rfl
 have hv:j5 [.c (.s s)] vs:=hv
 have hb:RBs [] bs:=hb
 show g7 U _ fun v bs'=>j6 (.ret (.c (.b (m6 s).2.2))) v∧RBs [] bs'
 unfold d85
 (refine Zq ?_;intros)
 refine f6 hn ⟨s,hs⟩ (r:=.t [.c (.s (m6 s).1),.c (.s (m6 s).2.1),.c (.b (m6 s).2.2)]) rfl j4 .nil fun _ _ _ _=>?_
 (refine Zq ?_;intros)
 exact g9 ⟨.ret _ _ (.b _),.nil⟩
set_option maxHeartbeats 16000000
mutual
/-- The place where the reading of an object ends, also where it fails. -/
def atO (L:List Pk) (cur:f5) (T:List A6) (d i:Nat):Nat :=
 if (T.getD i t0).kind=5∨(T.getD i t0).kind=6∨(T.getD i t0).kind=7 then i+1
 else if (T.getD i t0).kind=4∧d≤200∧i+1 < T.length then atO L cur T (d+1) (i+1)
 else if (T.getD i t0).kind=1∧d≤200∧i+1 < T.length then atL L cur T (d+1) (i+1) true
 else i
termination_by 2 * (T.length - i)
decreasing_by all_goals omega
def atL (L:List Pk) (cur:f5) (T:List A6) (d k:Nat) (e:Bool):Nat :=
 if (T.getD k t0).kind=2 then k+1
 else if (T.getD k t0).kind=3∧e=false∧k+1 < T.length then
  match e75 L cur T d (k+1) with
  | .ok (_,j)=>if (T.getD j t0).kind=2 then j+1 else j
  | .error _=>atO L cur T d (k+1)
 else
  match e75 L cur T d k with
  | .ok (_,j)=>if k < j∧j < T.length then atL L cur T d j false else j
  | .error _=>atO L cur T d k
termination_by 2 * (T.length - k)+1
decreasing_by all_goals omega
end
end
end Go.Proofs.YtdldcfllnohkeaaGreatDoor
