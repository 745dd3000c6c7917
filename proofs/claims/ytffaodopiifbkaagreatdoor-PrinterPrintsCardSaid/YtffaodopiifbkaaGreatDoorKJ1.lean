/- The reference's reader: bytes, blanks, words. -/
import Derived.Test.YtffaodopiifbkaaGreatDoorKTB
set_option linter.all false
namespace Go.Proofs.YtffaodopiifbkaaGreatDoor
open Go.Abs LQ
set_option maxRecDepth 100000
set_option maxHeartbeats 4000000
noncomputable section
def f6w (g:Int→GV):Sp where
 ι:=Int
 A c:=[.c (.i .u8 c)]
 B _:=[]
 R c:=.ret (g c)
 B' _:=[]
 inj i j vs bs h k _ _:=by
  obtain ⟨_,_,h1,k1,h,k⟩:=h.two k
  rw [a1q h1 k1];exact ⟨rfl,rfl⟩
theorem d1u:j5 98 (f6w fun c=>.c (.b (r8 c))):=k8 (fun fn h=>f0b h) [] .nil fun U fn hfn (c:Int) vs bs hv hb=>by
 have hv:j6 [.c (.i .u8 c)] vs:=hv
 have hb:g9 [] bs:=hb
 show g8 U _ fun v bs'=>j7 (.ret (.c (.b (r8 c)))) v∧g9 [] bs'
 unfold r98
 (refine Zq ?_;with_reducible repeat' first|intro _|apply aI)
 all_goals first
  | exact i6 ⟨.ret _ _ (F1 (by unfold r8;apply decide_eq_false;rintro ⟨_,_,_,_,_,_,_,_,_⟩;omega)),.nil⟩
  | (refine D8 fun e=>?_
     subst e
     exact ⟨.ret _ _ (K9 (by rw [c0w,a0c];unfold r8;rw [Bool.eq_iff_iff];simp;omega)),.nil⟩)
set_option maxHeartbeats 8000000
theorem f4b {U:q8} {P:H6→List Bx→Prop} {s:List UInt8} {a b:Int} {K:Nat→Om} (h:0≤a∧a≤b∧b≤s.length) (k:g8 U (K (j9 ((s.take b.toNat).drop a.toNat))) P):g8 U (U.fN (U.sSub (j9 s) (U.iNat a) (b.toNat - a.toNat)) K) P:=fun e=>by
 have:=k e
 subst e
 rw [a3b]
 show ∃ v bs,K (sSub (j9 s) (iNat a) (b.toNat - a.toNat))=some (v,bs)∧P v bs
 rw [C5,b85 (show a.toNat≤b.toNat by omega) oM]
 exact this
theorem e4i {s:f4} {j:Nat} (h:j < s.length) (h1:bt s j=48):z7 s (j+1)=z7 s j:=by
 conv=>rhs;rw [z7,if_pos h,if_pos h1]
theorem b34 (s:f4):g7 s=1↔(0 < s.length∧bt s 0=45):=by unfold g7;split <;> simp [*]
theorem d3g {s:f4} (h:¬g7 s=1):g7 s=0:=by have:=J8 s;omega
theorem e9v {s:f4} (h:j8 s (g7 s)=g7 s):m6 s=([],[],false):=by unfold m6;simp only [];rw [if_pos h];rfl
theorem e2k {s:f4} (h:¬j8 s (g7 s)=g7 s) (h1:j8 s (g7 s)=s.length):m6 s=(s,[49],true):=by unfold m6;simp only [];rw [if_neg h,if_pos h1];rfl
theorem e29 {s:f4} (h:¬j8 s (g7 s)=g7 s) (h1:¬j8 s (g7 s)=s.length) (h2:bt s (j8 s (g7 s)) ≠ 47∨j8 s (g7 s)+1=s.length):m6 s=([],[],false):=by unfold m6;simp only [];rw [if_neg h,if_neg h1,if_pos h2];rfl
theorem d7c {s:f4} (h:¬j8 s (g7 s)=g7 s) (h1:¬j8 s (g7 s)=s.length) (h2:¬(bt s (j8 s (g7 s)) ≠ 47∨j8 s (g7 s)+1=s.length)):m6 s=if j8 s (j8 s (g7 s)+1)=s.length then (s.take (j8 s (g7 s)),s.drop (j8 s (g7 s)+1),true) else ([],[],false):=by
 unfold m6
 simp only []
 rw [if_neg h,if_neg h1,if_neg h2,List.take_length]
 rfl
def d6x (p:f4 × f4 × Bool):n5:=.ret (.t [.c (.s p.1),.c (.s p.2.1),.c (.b p.2.2)])
theorem d1h:j5 101 (sp1 fun s=>d6x (m6 s)):=k8 (fun fn h=>e5i h) [] .nil fun U fn hfn ⟨s,hs⟩ vs bs hv hb=>by
 have hv:j6 [.c (.s s)] vs:=hv
 have hb:g9 [] bs:=hb
 have hs:s.length < 90000:=hs
 show g8 U _ fun v bs'=>j7 (d6x (m6 s)) v∧g9 [] bs'
 unfold d5p
 have hsl:=J8 s
 have no:m6 s=([],[],false)→g8 U (some (.ret (.tuple [.str 0 0,.str 0 0,.known false]),[])) fun v bs'=>j7 (d6x (m6 s)) v∧g9 [] bs':=fun h=>by
  rw [h]
  exact i6 ⟨.ret _ _ j4,.nil⟩
 (refine Zy ?_;intros)
 refine L2 (fun vs bs=>vs=[.str s.length (j9 s),.int .i64 (g7 s:Int)]∧bs=[]) ?_ ?_
 ·rintro _ _ ⟨rfl,rfl⟩
  (refine Zy ?_;intros)
  generalize hg:g7 s=g at *
  refine D3 (fun (j:Nat) vs bs=>vs=[.str s.length (j9 s),.int .i64 g,.int .i64 j]∧bs=[]∧g≤j∧j≤s.length∧j8 s j=j8 s g) (fun j=>s.length - j) g ⟨rfl,rfl,Nat.le_refl _,hsl.1,rfl⟩ (by simp only [v8];omega) ?_
  rintro self j vs bs ⟨rfl,rfl,hgj,hj,he⟩ ih
  (refine Zy ?_;intros)
  refine L2 (fun vs bs=>∃ (c:Bool) (v:V),vs=[.str s.length (j9 s),.int .i64 g,.int .i64 j,v]∧bs=[]∧RV (.c (.b c)) v∧(c=true↔(j < s.length∧P8 (bt s j)=true))) ?_ ?_
  ·rintro _ _ ⟨c,v,rfl,rfl,hcv,hce⟩
   have hbt:((s.getD j 0).toNat:Int)=bt s j:=rfl
   (refine Zy ?_;with_reducible repeat' first|intro _|apply aI)
   ·have hh:=hce.1 ‹_›
    exact ih (j+1) _ _ ⟨rfl,rfl,oM,oM,by rw [← he];conv=>rhs;rw [j8,if_pos hh.1,if_pos hh.2]⟩ oM
   all_goals
    have hh:¬(j < s.length∧P8 (bt s j)=true):=fun h=>‹¬c=true› (hce.2 h)
    have hz:j8 s j=j:=by
     rw [j8]
     split
     ·rw [if_neg (fun h=>hh ⟨‹_›,h⟩)]
     ·rfl
    rw [hz] at he
    have he':j8 s (g7 s)=j:=by rw [hg,← he]
   ·exact no (e9v (by rw [he',hg];omega))
   ·rw [e2k (by rw [he',hg];omega) (by rw [he'];omega)]
    exact i6 ⟨.ret _ _ j4,.nil⟩
   ·have q1:¬j8 s (g7 s)=g7 s:=by rw [he',hg];omega
    have q2:¬j8 s (g7 s)=s.length:=by rw [he'];omega
    refine L2 (fun vs bs=>∃ (c:Bool) (v:V),vs=[.str s.length (j9 s),.int .i64 j,v]∧bs=[]∧RV (.c (.b c)) v∧(c=true↔(bt s j ≠ 47∨j+1=s.length))) ?_ ?_
    ·rintro _ _ ⟨d,v,rfl,rfl,hdv,hde⟩
     (refine Zq ?_;with_reducible repeat' first|intro _|apply aI)
     ·exact no (e29 q1 q2 (by rw [he'];exact hde.1 ‹_›))
     ·have q3:¬(bt s (j8 s (g7 s)) ≠ 47∨j8 s (g7 s)+1=s.length):=by rw [he'];exact fun h=>‹¬d=true› (hde.2 h)
      have q4:=d7c q1 q2 q3
      rw [he'] at q4
      refine D3 (fun (k:Nat) vs bs=>vs=[.str s.length (j9 s),.int .i64 j,.int .i64 k]∧bs=[]∧j < k∧k≤s.length∧j8 s k=j8 s (j+1)) (fun k=>s.length - k) (j+1) ⟨rfl,rfl,oM,oM,rfl⟩ (by simp only [v8];omega) ?_
      rintro self2 k vs bs ⟨rfl,rfl,hjk,hk,hek⟩ ih2
      (refine Zy ?_;with_reducible repeat' first|intro _|apply aI)
      ·refine L2 (fun vs bs=>∃ (c:Bool) (v:V),vs=[.str s.length (j9 s),.int .i64 j,.int .i64 k,v]∧bs=[]∧RV (.c (.b c)) v∧(c=true↔¬P8 (bt s k)=true)) ?_ ?_
       ·rintro _ _ ⟨d2,v,rfl,rfl,hdv2,hde2⟩
        (refine Zq ?_;with_reducible repeat' first|intro _|apply aI)
        ·refine no ?_
         have hk2:=hde2.1 ‹_›
         have:j8 s k=k:=by rw [j8,if_pos oM,if_neg hk2]
         rw [q4,if_neg oM]
        ·have hk2:P8 (bt s k)=true:=Decidable.byContradiction fun h=>‹¬d2=true› (hde2.2 h)
         exact ih2 (k+1) _ _ ⟨rfl,rfl,oM,oM,by rw [← hek];conv=>rhs;rw [j8,if_pos (show k < s.length by omega),if_pos hk2]⟩ oM
       ·intro c hcc
        have hbt:((s.getD k 0).toNat:Int)=bt s k:=rfl
        (refine Zq ?_;with_reducible repeat' first|intro _|apply aI)
        ·exact hcc _ _ ⟨true,_,rfl,rfl,.kn _,by rw [a4j];simp;omega⟩
        ·refine fun e=>?_
         subst e
         exact hcc _ _ ⟨decide (57 < bt s k),_,rfl,rfl,K9 (by rw [b0w];rfl),by rw [a4j];simp;omega⟩ rfl
      ·have:j8 s k=k:=by rw [j8,if_neg oM]
       rw [q4,if_pos oM]
       refine f4b (s:=s) (a:=0) (b:=(j:Int)) oM ?_
       (refine Zq ?_;intros)
       have ej:((j:Int)+1).toNat=j+1:=oM
       rw [ej]
       exact i6 ⟨.ret _ _ (.t _ _ (.k (.s _ _ _ (by simp;omega) rfl) (.k (.s _ _ _ rfl rfl) (.k (.kn _) .nil)))),.nil⟩
    ·intro c hcc
     (refine Zq ?_;with_reducible repeat' first|intro _|apply aI)
     ·refine fun e=>?_
      subst e
      exact hcc _ _ ⟨decide ((j:Int)+1=s.length),_,rfl,rfl,K9 (by rw [a0c]),by simp;omega⟩ rfl
     ·exact hcc _ _ ⟨true,_,rfl,rfl,.kn _,by simp;omega⟩
  ·intro c hcc
   have hbt:((s.getD j 0).toNat:Int)=bt s j:=rfl
   (refine Zq ?_;with_reducible repeat' first|intro _|apply aI)
   ·refine fun e=>?_
    subst e
    exact hcc _ _ ⟨decide (bt s j≤57),_,rfl,rfl,K9 (by rw [c4r];rfl),by rw [a4j];simp;omega⟩ rfl
   ·exact hcc _ _ ⟨false,_,rfl,rfl,.kn _,by rw [a4j];simp;omega⟩
   ·exact hcc _ _ ⟨false,_,rfl,rfl,.kn _,by simp;omega⟩
 ·intro c hcc
  have hbt:((s.getD 0 0).toNat:Int)=bt s 0:=rfl
  have hsi:=b34 s
  have hsz:¬(0 < s.length∧bt s 0=45)→g7 s=0:=fun h=>d3g fun e=>h (hsi.1 e)
  (refine Zq ?_;with_reducible repeat' first|intro _|apply aI)
  ·have h45:bt s 0=45:=‹_›
   exact hcc _ _ ⟨by rw [hsi.2 ⟨oM,h45⟩];rfl,rfl⟩
  ·have h45:¬bt s 0=45:=‹_›
   exact hcc _ _ ⟨by rw [hsz (fun h=>h45 h.2)];rfl,rfl⟩
  ·exact hcc _ _ ⟨by rw [hsz oM];rfl,rfl⟩
theorem d0a:j5 109 (sp1 fun s=>.ret (.c (.b (m6 s).2.2))):=k8 (fun fn h=>e3b h) [(101,_)] (.cons d1h .nil) fun U fn hfn ⟨s,hs⟩ vs bs hv hb=>by
 have hn:=hfn 101 _ rfl
 have hv:j6 [.c (.s s)] vs:=hv
 have hb:g9 [] bs:=hb
 show g8 U _ fun v bs'=>j7 (.ret (.c (.b (m6 s).2.2))) v∧g9 [] bs'
 unfold d6t
 (refine Zq ?_;intros)
 refine f5 hn ⟨s,hs⟩ (r:=.t [.c (.s (m6 s).1),.c (.s (m6 s).2.1),.c (.b (m6 s).2.2)]) rfl j4 .nil fun _ _ _ _=>?_
 (refine Zq ?_;intros)
 exact i6 ⟨.ret _ _ (.b _),.nil⟩
end
end Go.Proofs.YtffaodopiifbkaaGreatDoor
