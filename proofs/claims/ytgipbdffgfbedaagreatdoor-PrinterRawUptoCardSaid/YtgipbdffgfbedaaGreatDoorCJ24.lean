/- law5's sanity check. -/
import Derived.Test.YtgipbdffgfbedaaGreatDoorCJ23
set_option linter.all false
namespace Go.Proofs.YtgipbdffgfbedaaGreatDoor
open Go.Abs LQ
set_option maxRecDepth 100000
set_option maxHeartbeats 4000000
noncomputable section
theorem e6s {U:q7} {P:J0→List Bx→Prop} {z c:Nat} {xs:List (List G)} {v:V} {K:j0 Q→Nat→Nat→Om} (hv:RV (.fr (z+1) xs) v) (hc:V7 (.fr (z+1))=c) (h:∀ t off,n7 (z+1) xs t off→g8 U (K t off xs.length) P):g8 U (U.uSl (z+1) c v K) P:=by
 cases hv with
 | fr _ _ t off len h1 h2=>subst h1;exact b7d hc (h t off h2)
theorem c1x:j4 13 (sp0 (.fr 2 [pg (x9,[])])):=l9 (fun fn h=>e4c h) [] .nil fun U fn hfn _ vs bs hv hb=>by
 have hv:j6 [] vs:=hv
 have hb:RBs [] bs:=hb
 show g8 U _ fun v bs'=>j7 (.ret (.fr 2 [pg (x9,[])])) v∧RBs [] bs'
 unfold r13
 (refine Zq ?_;intros)
 refine i7 ⟨.ret _ _ (.fr _ _ _ _ _ rfl (.of fun j r h=>?_)),.nil⟩
 match j,h with
 | 0,h =>
  simp at h
  subst h
  refine ⟨rfl,?_,fun g h=>by simp [pg] at h⟩
  exact .k (.s _ _ _ rfl dE) (.k (.l _ _ _ _ _ rfl (.nil _ _ _)) (.nil _ _))
 | j+1,h=>simp at h
theorem b0e:H8 [(x9,[])]:=⟨dE,fun p hp=>by cases List.mem_singleton.1 hp;decide⟩
theorem e6i {o:O} {q:Q} (h:u3 o.g q 0):o.g.length=7∧Row o.g q:=⟨O.g_len o,h,fun g e=>by have:=O.g_len o;rw [e] at this;simp at this⟩
def f4o (g:Int→GV):Sp where
 ι:=Int
 A c:=[.c (.i .u8 c)]
 B _:=[]
 R c:=.ret (g c)
 B' _:=[]
 inj i j vs bs h k _ _:=by
  obtain ⟨_,_,h1,k1,h,k⟩:=h.two k
  rw [Z7 h1 k1];exact ⟨rfl,rfl⟩
theorem d03:j4 79 (f4o fun c=>.c (.b (s7 c))):=l9 (fun fn h=>e51 h) [] .nil fun U fn hfn (c:Int) vs bs hv hb=>by
 have hv:j6 [.c (.i .u8 c)] vs:=hv
 have hb:RBs [] bs:=hb
 show g8 U _ fun v bs'=>j7 (.ret (.c (.b (s7 c)))) v∧RBs [] bs'
 unfold r79
 (refine Zq ?_;with_reducible repeat' first|intro _|apply aI)
 all_goals first
  | exact i7 ⟨.ret _ _ (F2 (by unfold s7;apply decide_eq_false;rintro ⟨_,_,_,_,_,_,_,_,_⟩;omega)),.nil⟩
  | (refine D5 fun e=>?_
     subst e
     exact ⟨.ret _ _ (M5 (by rw [b9z,a02];unfold s7;rw [Bool.eq_iff_iff];simp;omega)),.nil⟩)
set_option maxHeartbeats 8000000
theorem e87 {U:q7} {P:J0→List Bx→Prop} {s:List UInt8} {a b:Int} {K:Nat→Om} (h:0≤a∧a≤b∧b≤s.length) (k:g8 U (K (j9 ((s.take b.toNat).drop a.toNat))) P):g8 U (U.fN (U.sSub (j9 s) (U.iNat a) (b.toNat - a.toNat)) K) P:=fun e=>by
 have:=k e
 subst e
 rw [a5x]
 show ∃ v bs,K (sSub (j9 s) (iNat a) (b.toNat - a.toNat))=some (v,bs)∧P v bs
 rw [D0,b8z (show a.toNat≤b.toNat by omega) oM]
 exact this
theorem d52 (s:f6):g9 s=1↔(0 < s.length∧bt s 0=45):=by unfold g9;split <;> simp [*]
theorem e62 {s:f6} (h:¬g9 s=1):g9 s=0:=by have:=N2 s;omega
theorem e25 {s:f6} (h:j8 s (g9 s)=g9 s):n6 s=([],[],false):=by unfold n6;simp only [];rw [if_pos h];rfl
theorem d9p {s:f6} (h:¬j8 s (g9 s)=g9 s) (h1:j8 s (g9 s)=s.length):n6 s=(s,[49],true):=by unfold n6;simp only [];rw [if_neg h,if_pos h1];rfl
theorem d9o {s:f6} (h:¬j8 s (g9 s)=g9 s) (h1:¬j8 s (g9 s)=s.length) (h2:bt s (j8 s (g9 s)) ≠ 47∨j8 s (g9 s)+1=s.length):n6 s=([],[],false):=by unfold n6;simp only [];rw [if_neg h,if_neg h1,if_pos h2];rfl
theorem d46 {s:f6} (h:¬j8 s (g9 s)=g9 s) (h1:¬j8 s (g9 s)=s.length) (h2:¬(bt s (j8 s (g9 s)) ≠ 47∨j8 s (g9 s)+1=s.length)):n6 s=if j8 s (j8 s (g9 s)+1)=s.length then (s.take (j8 s (g9 s)),s.drop (j8 s (g9 s)+1),true) else ([],[],false):=by
 unfold n6
 simp only []
 rw [if_neg h,if_neg h1,if_neg h2,List.take_length]
 rfl
def d44 (p:f6 × f6 × Bool):o8:=.ret (.t [.c (.s p.1),.c (.s p.2.1),.c (.b p.2.2)])
theorem d07:j4 90 (sp1 fun s=>d44 (n6 s)):=l9 (fun fn h=>e57 h) [] .nil fun U fn hfn ⟨s,hs⟩ vs bs hv hb=>by
 have hv:j6 [.c (.s s)] vs:=hv
 have hb:RBs [] bs:=hb
 have hs:s.length < 21600000:=hs
 show g8 U _ fun v bs'=>j7 (d44 (n6 s)) v∧RBs [] bs'
 unfold r90
 have hsl:=N2 s
 have no:n6 s=([],[],false)→g8 U (some (.ret (.tuple [.str 0 0,.str 0 0,.known false]),[])) fun v bs'=>j7 (d44 (n6 s)) v∧RBs [] bs':=fun h=>by
  rw [h]
  exact i7 ⟨.ret _ _ j3,.nil⟩
 (refine Zy ?_;intros)
 refine Q4 (fun vs bs=>vs=[.str s.length (j9 s),.int .i64 (g9 s:Int)]∧bs=[]) ?_ ?_
 ·rintro _ _ ⟨rfl,rfl⟩
  (refine Zy ?_;intros)
  generalize hg:g9 s=g at *
  refine F3 (fun (j:Nat) vs bs=>vs=[.str s.length (j9 s),.int .i64 g,.int .i64 j]∧bs=[]∧g≤j∧j≤s.length∧j8 s j=j8 s g) (fun j=>s.length - j) g ⟨rfl,rfl,Nat.le_refl _,hsl.1,rfl⟩ (by simp only [y8];omega) ?_
  rintro self j vs bs ⟨rfl,rfl,hgj,hj,he⟩ ih
  (refine Zy ?_;intros)
  refine Q4 (fun vs bs=>∃ (c:Bool) (v:V),vs=[.str s.length (j9 s),.int .i64 g,.int .i64 j,v]∧bs=[]∧RV (.c (.b c)) v∧(c=true↔(j < s.length∧P3 (bt s j)=true))) ?_ ?_
  ·rintro _ _ ⟨c,v,rfl,rfl,hcv,hce⟩
   have hbt:((s.getD j 0).toNat:Int)=bt s j:=rfl
   (refine Zy ?_;with_reducible repeat' first|intro _|apply aI)
   ·have hh:=hce.1 ‹_›
    exact ih (j+1) _ _ ⟨rfl,rfl,oM,oM,by rw [← he];conv=>rhs;rw [j8,if_pos hh.1,if_pos hh.2]⟩ oM
   all_goals
    have hh:¬(j < s.length∧P3 (bt s j)=true):=fun h=>‹¬c=true› (hce.2 h)
    have hz:j8 s j=j:=by
     rw [j8]
     split
     ·rw [if_neg (fun h=>hh ⟨‹_›,h⟩)]
     ·rfl
    rw [hz] at he
    have he':j8 s (g9 s)=j:=by rw [hg,← he]
   ·exact no (e25 (by rw [he',hg];omega))
   ·rw [d9p (by rw [he',hg];omega) (by rw [he'];omega)]
    exact i7 ⟨.ret _ _ j3,.nil⟩
   ·have q1:¬j8 s (g9 s)=g9 s:=by rw [he',hg];omega
    have q2:¬j8 s (g9 s)=s.length:=by rw [he'];omega
    refine Q4 (fun vs bs=>∃ (c:Bool) (v:V),vs=[.str s.length (j9 s),.int .i64 j,v]∧bs=[]∧RV (.c (.b c)) v∧(c=true↔(bt s j ≠ 47∨j+1=s.length))) ?_ ?_
    ·rintro _ _ ⟨d,v,rfl,rfl,hdv,hde⟩
     (refine Zq ?_;with_reducible repeat' first|intro _|apply aI)
     ·exact no (d9o q1 q2 (by rw [he'];exact hde.1 ‹_›))
     ·have q3:¬(bt s (j8 s (g9 s)) ≠ 47∨j8 s (g9 s)+1=s.length):=by rw [he'];exact fun h=>‹¬d=true› (hde.2 h)
      have q4:=d46 q1 q2 q3
      rw [he'] at q4
      refine F3 (fun (k:Nat) vs bs=>vs=[.str s.length (j9 s),.int .i64 j,.int .i64 k]∧bs=[]∧j < k∧k≤s.length∧j8 s k=j8 s (j+1)) (fun k=>s.length - k) (j+1) ⟨rfl,rfl,oM,oM,rfl⟩ (by simp only [y8];omega) ?_
      rintro self2 k vs bs ⟨rfl,rfl,hjk,hk,hek⟩ ih2
      (refine Zy ?_;with_reducible repeat' first|intro _|apply aI)
      ·refine Q4 (fun vs bs=>∃ (c:Bool) (v:V),vs=[.str s.length (j9 s),.int .i64 j,.int .i64 k,v]∧bs=[]∧RV (.c (.b c)) v∧(c=true↔¬P3 (bt s k)=true)) ?_ ?_
       ·rintro _ _ ⟨d2,v,rfl,rfl,hdv2,hde2⟩
        (refine Zq ?_;with_reducible repeat' first|intro _|apply aI)
        ·refine no ?_
         have hk2:=hde2.1 ‹_›
         have:j8 s k=k:=by rw [j8,if_pos oM,if_neg hk2]
         rw [q4,if_neg oM]
        ·have hk2:P3 (bt s k)=true:=Decidable.byContradiction fun h=>‹¬d2=true› (hde2.2 h)
         exact ih2 (k+1) _ _ ⟨rfl,rfl,oM,oM,by rw [← hek];conv=>rhs;rw [j8,if_pos (show k < s.length by omega),if_pos hk2]⟩ oM
       ·intro c hcc
        have hbt:((s.getD k 0).toNat:Int)=bt s k:=rfl
        (refine Zq ?_;with_reducible repeat' first|intro _|apply aI)
        ·exact hcc _ _ ⟨true,_,rfl,rfl,.kn _,by rw [a4f];simp;omega⟩
        ·refine fun e=>?_
         subst e
         exact hcc _ _ ⟨decide (57 < bt s k),_,rfl,rfl,M5 (by rw [b2x];rfl),by rw [a4f];simp;omega⟩ rfl
      ·have:j8 s k=k:=by rw [j8,if_neg oM]
       rw [q4,if_pos oM]
       refine e87 (s:=s) (a:=0) (b:=(j:Int)) oM ?_
       (refine Zq ?_;intros)
       have ej:((j:Int)+1).toNat=j+1:=oM
       rw [ej]
       exact i7 ⟨.ret _ _ (.t _ _ (.k (.s _ _ _ (by simp;omega) rfl) (.k (.s _ _ _ rfl rfl) (.k (.kn _) .nil)))),.nil⟩
    ·intro c hcc
     (refine Zq ?_;with_reducible repeat' first|intro _|apply aI)
     ·refine fun e=>?_
      subst e
      exact hcc _ _ ⟨decide ((j:Int)+1=s.length),_,rfl,rfl,M5 (by rw [a02]),by simp;omega⟩ rfl
     ·exact hcc _ _ ⟨true,_,rfl,rfl,.kn _,by simp;omega⟩
  ·intro c hcc
   have hbt:((s.getD j 0).toNat:Int)=bt s j:=rfl
   (refine Zq ?_;with_reducible repeat' first|intro _|apply aI)
   ·refine fun e=>?_
    subst e
    exact hcc _ _ ⟨decide (bt s j≤57),_,rfl,rfl,M5 (by rw [c0y];rfl),by rw [a4f];simp;omega⟩ rfl
   ·exact hcc _ _ ⟨false,_,rfl,rfl,.kn _,by rw [a4f];simp;omega⟩
   ·exact hcc _ _ ⟨false,_,rfl,rfl,.kn _,by simp;omega⟩
 ·intro c hcc
  have hbt:((s.getD 0 0).toNat:Int)=bt s 0:=rfl
  have hsi:=d52 s
  have hsz:¬(0 < s.length∧bt s 0=45)→g9 s=0:=fun h=>e62 fun e=>h (hsi.1 e)
  (refine Zq ?_;with_reducible repeat' first|intro _|apply aI)
  ·have h45:bt s 0=45:=‹_›
   exact hcc _ _ ⟨by rw [hsi.2 ⟨oM,h45⟩];rfl,rfl⟩
  ·have h45:¬bt s 0=45:=‹_›
   exact hcc _ _ ⟨by rw [hsz (fun h=>h45 h.2)];rfl,rfl⟩
  ·exact hcc _ _ ⟨by rw [hsz oM];rfl,rfl⟩
theorem c79:j4 80 (sp1 fun s=>.ret (.c (.b (n6 s).2.2))):=l9 (fun fn h=>e52 h) [(90,_)] (.cons d07 .nil) fun U fn hfn ⟨s,hs⟩ vs bs hv hb=>by
 have hn:=hfn 90 _ rfl
 have hv:j6 [.c (.s s)] vs:=hv
 have hb:RBs [] bs:=hb
 show g8 U _ fun v bs'=>j7 (.ret (.c (.b (n6 s).2.2))) v∧RBs [] bs'
 unfold r80
 (refine Zq ?_;intros)
 refine f9 hn ⟨s,hs⟩ (r:=.t [.c (.s (n6 s).1),.c (.s (n6 s).2.1),.c (.b (n6 s).2.2)]) rfl j3 .nil fun _ _ _ _=>?_
 (refine Zq ?_;intros)
 exact i7 ⟨.ret _ _ (.b _),.nil⟩
set_option maxHeartbeats 16000000
mutual
/-- The place where the reading of an object ends, also where it fails. -/
def atO (L:List Pk) (cur:f6) (T:List A8) (d i:Nat):Nat :=
 if (T.getD i t0).kind=5∨(T.getD i t0).kind=6∨(T.getD i t0).kind=7 then i+1
 else if (T.getD i t0).kind=4∧d≤200∧i+1 < T.length then atO L cur T (d+1) (i+1)
 else if (T.getD i t0).kind=1∧d≤200∧i+1 < T.length then atL L cur T (d+1) (i+1) true
 else i
termination_by 2 * (T.length - i)
decreasing_by all_goals omega
def atL (L:List Pk) (cur:f6) (T:List A8) (d k:Nat) (e:Bool):Nat :=
 if (T.getD k t0).kind=2 then k+1
 else if (T.getD k t0).kind=3∧e=false∧k+1 < T.length then
  match e26 L cur T d (k+1) with
  | .ok (_,j)=>if (T.getD j t0).kind=2 then j+1 else j
  | .error _=>atO L cur T d (k+1)
 else
  match e26 L cur T d k with
  | .ok (_,j)=>if k < j∧j < T.length then atL L cur T d j false else j
  | .error _=>atO L cur T d k
termination_by 2 * (T.length - k)+1
decreasing_by all_goals omega
end
set_option maxHeartbeats 8000000
abbrev d4b:List Sy:=[(x9,[99,97,114]),(x9,[110,105,108]),(x9,[116])]
abbrev N1:List Pk:=[(x9,[])]
abbrev a4y:List Pk:=[(x9,[]),(K9,d4b)]
structure c8q (l:List Sy):Prop where
 len:l.length≤200
 ok:∀ s ∈ l,named s=true∧G7 N1 s=true∧s.1.length < 21600000∧s.2.length < 21600000
 dist:∀ i k (hi:i < l.length) (hk:k < i),(l[k]'(Nat.lt_trans hk hi)).2 ≠ l[i].2
theorem d8y:c8q d4b where
 len:=dE
 ok s h:=by
  rcases List.mem_cons.1 h with rfl | h
  ·exact ⟨kR,kR,dE,dE⟩
  rcases List.mem_cons.1 h with rfl | h
  ·exact ⟨kR,kR,dE,dE⟩
  rcases List.mem_cons.1 h with rfl | h
  ·exact ⟨kR,kR,dE,dE⟩
  ·cases h
 dist i k hi hk:=by
  have hi:i < 3:=hi
  match i,k,hi,hk with
  | 1,0,_,_=>exact (by decide:([99,97,114]:f6) ≠ [110,105,108])
  | 2,0,_,_=>exact (by decide:([99,97,114]:f6) ≠ [116])
  | 2,1,_,_=>exact (by decide:([110,105,108]:f6) ≠ [116])
def e9c:Sp where
 ι:={ l:List Sy // c8q l }
 A l:=[.sl 2 (N1.map pg),.a (pg (K9,l.1))]
 B _:=[]
 R l:=.ret (.t [.sl 2 ([(x9,[]),(K9,l.1)].map pg),.c (.i .i64 0)])
 B' _:=[]
 inj i j vs bs h k _ _:=by
  obtain ⟨_,_,h1,k1,h,k⟩:=h.two k
  obtain ⟨_,_,h2,k2,h,k⟩:=h.two k
  have e:=h2.a_inj k2
  simp only [pg,List.cons.injEq,G.l.injEq,true_and,and_true] at e
  rw [a6m e];exact ⟨rfl,rfl⟩
theorem d6e:p8 K9=true:=kR
theorem c74:D4 N1 K9=.t [.a [.s [],.l []],.c (.b false)]:=by rfl
theorem d81:j4 17 e9c:=l9 (fun fn h=>e4j h) [(34,_),(19,_),(35,_),(36,_)] (.cons b6v (.cons b4p (.cons c6d (.cons c1w .nil)))) fun U fn hfn ⟨im,him⟩ vs bs hv hb=>by
 have hvp:=hfn 34 _ rfl
 have hfi:=hfn 19 _ rfl
 have hva:=hfn 35 _ rfl
 have hho:=hfn 36 _ rfl
 have him:c8q im:=him
 have hl:=him.len
 have hv:j6 [.sl 2 (N1.map pg),.a [.s K9,.l (im.map sg)]] vs:=hv
 have hb:RBs [] bs:=hb
 show g8 U _ fun v bs'=>j7 (.ret (.t [.sl 2 ([(x9,[]),(K9,im)].map pg),.c (.i .i64 0)])) v∧RBs [] bs'
 unfold r17
 (refine Zq ?_;intros)
 refine f9 hvp ⟨K9,dE⟩ (r:=.c (.b true)) (by show o8.ret (.c (.b (p8 K9)))=_;rw [d6e]) (.k (.q _ _ aS) .nil) .nil fun _ _ _ _=>?_
 (refine Zq ?_;intros)
 refine f9 hfi ⟨(N1,K9),b0e⟩ (r:=.t [.a [.s [],.l []],.c (.b false)]) (by show o8.ret (D4 N1 K9)=_;rw [c74]) (.k (.sl _ _ _ _ _ rfl aS) (.k (.q _ _ aS) .nil)) .nil fun _ _ _ _=>?_
 (refine Zq ?_;intros)
 (refine B5 (f:=sg) aS (u0 a1b) fun _ _ _=>?_)
 (refine Zq ?_;with_reducible repeat' first|intro _|apply aI)
 ·have h:200 < ((im.length:Nat):Int):=‹_›
  omega
 ·refine F3 (fun (i:Nat) vs bs=>∃ (t:j0 Q) (off:Nat) (b0:Bx),vs=[.slice t 2 off 1 .no,.ptr 0 0,.int .i64 i]∧bs=[b0]∧n7 2 (N1.map pg) t off∧RB [.s K9,.l (im.map sg)] b0∧i≤im.length) (fun i=>im.length - i) 0 ⟨_,_,_,rfl,rfl,aS,.opa _ _ _ rfl aS,Nat.zero_le _⟩ (by simp only [y8];omega) ?_
  rintro self i _ _ ⟨t,off,b0,rfl,rfl,ht,hb0,hi⟩ ih
  (refine Zq ?_;intros)
  (refine B5 (f:=sg) aS (u0 a1b) fun _ _ _=>?_)
  (refine Zq ?_;with_reducible repeat' first|intro _|apply aI)
  ·(refine B5 (f:=sg) aS (u0 a1b) fun _ _ _=>?_)
   (refine Zq ?_;intros)
   have hil:i < im.length:=oM
   have hs:=him.ok _ (List.getElem_mem hil)
   have hds:=him.dist i
   refine f9 hva ⟨im[i],hs.2.2.1,hs.2.2.2⟩ (r:=.c (.b true)) (by show o8.ret (.c (.b (named im[i])))=_;rw [hs.1]) (.k (.a _ _ _ rfl aS) .nil) .nil fun _ _ _ _=>?_
   (refine Zq ?_;intros)
   refine f9 hho ⟨(N1,im[i]),b0e⟩ (r:=.c (.b true)) (by show o8.ret (.c (.b (G7 N1 im[i])))=_;rw [hs.2.1]) (.k (.sl _ _ _ _ _ rfl aS) (.k (.a _ _ _ rfl aS) .nil)) .nil fun _ _ _ _=>?_
   (refine Zq ?_;intros)
   refine F3 (fun (k:Nat) vs bs=>∃ (t:j0 Q) (off:Nat) (b0 b1:Bx),vs=[.slice t 2 off 1 .no,.ptr 0 0,.int .i64 i,.ptr 1 0,.int .i64 k]∧bs=[b0,b1]∧n7 2 (N1.map pg) t off∧RB [.s K9,.l (im.map sg)] b0∧RB [.s im[i].1,.s im[i].2] b1∧k≤i) (fun k=>i - k) 0 ⟨_,_,_,_,rfl,rfl,aS,.opa _ _ _ rfl aS,.opa _ _ _ rfl aS,Nat.zero_le _⟩ (by simp only [y8];omega) ?_
   rintro self2 k _ _ ⟨t,off,b0,b1,rfl,rfl,ht,hb0,hb1,hk⟩ ih2
   (refine Zq ?_;with_reducible repeat' first|intro _|apply aI)
   ·(refine B5 (f:=sg) aS (u0 a1b) fun _ _ _=>?_)
    (refine Zq ?_;with_reducible repeat' first|intro _|apply aI)
    ·exact absurd ‹im[k].2=im[i].2› (hds k hil oM)
    ·exact ih2 (k+1) _ _ ⟨_,_,_,_,rfl,rfl,aS,.opa _ _ _ rfl aS,.opa _ _ _ rfl aS,oM⟩ oM
   ·exact ih (i+1) _ _ ⟨_,_,_,rfl,rfl,aS,.opa _ _ _ rfl aS,oM⟩ oM
  ·refine sAT (xs:=[]) (ys:=N1.map pg) (n:=2) (off:=0) (.nil _ _ _) aS rfl rfl dE fun t' ht'=>?_
   (refine Zq ?_;intros)
   refine T4 (xs:=N1.map pg) (r:=pg (K9,im)) (n:=2) (off:=0) ht' (fun _=>a6l (by simp [pg]) aS) rfl rfl dE fun t2 ht2=>?_
   (refine Zq ?_;intros)
   exact i7 ⟨.ret _ _ (.t _ _ (.k (.sl _ _ _ _ _ rfl ht2) (.k (.i _ _) .nil))),.nil⟩
theorem e85 {a b c:Sy} {x y z:Q} (h1:u3 [.s a.1,.s a.2] x 0) (h2:u3 [.s b.1,.s b.2] y 0) (h3:u3 [.s c.1,.s c.2] z 0):n7 2 ([a,b,c].map sg) (.node x (.node y .nil .nil) (.node z .nil .nil)) 0:=.of fun j r h=>by
 match j,h with
 | 0,h=>simp at h;subst h;exact ⟨rfl,a6l (by simp [sg]) h1⟩
 | 1,h=>simp at h;subst h;exact ⟨rfl,a6l (by simp [sg]) h2⟩
 | 2,h=>simp at h;subst h;exact ⟨rfl,a6l (by simp [sg]) h3⟩
 | j+3,h=>simp at h
theorem d1q:H8 a4y:=⟨dE,fun p hp=>by
 rcases List.mem_cons.1 hp with rfl | hp
 ·decide
 ·cases List.mem_singleton.1 hp;decide⟩
theorem c8a:j4 7 (sp0 (.sl 2 (a4y.map pg))):=l9 (fun fn h=>e81 h) [(13,_),(17,_),(11,_)] (.cons c1x (.cons d81 (.cons b93 .nil))) fun U fn hfn _ vs bs hv hb=>by
 have hi:=hfn 13 _ rfl
 have hd:=hfn 17 _ rfl
 have hl:=hfn 11 _ rfl
 have hv:j6 [] vs:=hv
 have hb:RBs [] bs:=hb
 show g8 U _ fun v bs'=>j7 (.ret (.sl 2 (a4y.map pg))) v∧RBs [] bs'
 unfold r7
 (refine Zq ?_;intros)
 refine f9 hi () (r:=.fr 2 [pg (x9,[])]) rfl .nil .nil fun _ _ hv1 _=>?_
 refine e6s hv1 rfl fun t off ht=>?_
 (refine Zq ?_;intros)
 refine f9 hl ([99,97,114]:f6) (r:=.a (sg (x9,[99,97,114]))) rfl (.k (.s _ _ _ rfl dE) .nil) .nil fun _ _ hv3 _=>?_
 have hv3:RV (.a [.s x9,.s [99,97,114]]) _:=hv3
 (refine Zq ?_;intros)
 refine f9 hl ([110,105,108]:f6) (r:=.a (sg (x9,[110,105,108]))) rfl (.k (.s _ _ _ rfl dE) .nil) .nil fun _ _ hv4 _=>?_
 have hv4:RV (.a [.s x9,.s [110,105,108]]) _:=hv4
 (refine Zq ?_;intros)
 refine f9 hl ([116]:f6) (r:=.a (sg (x9,[116]))) rfl (.k (.s _ _ _ rfl dE) .nil) .nil fun _ _ hv5 _=>?_
 have hv5:RV (.a [.s x9,.s [116]]) _:=hv5
 (refine Zq ?_;intros)
 refine f9 hd ⟨d4b,d8y⟩ (r:=.t [.sl 2 (a4y.map pg),.c (.i .i64 0)]) rfl (.k (.sl _ _ _ _ _ rfl ht) (.k (.ag _ _ (.k (.s _ _ _ rfl dE) (.k (.cl _ _ _ _ _ rfl (e85 aS aS aS)) .nil))) .nil)) .nil fun _ _ hv6 _=>?_
 (refine Zq ?_;intros)
 exact i7 ⟨.ret _ _ (.sl _ _ _ _ _ (by simp) aS),.nil⟩
def mA8:O:=.sy (x9,[97])
def fH:O:=d42 (qn (f8 [49]) (f8 [50]))
def fX:O:=a3k [mA8,fH]
def mO8:O:=a3k [z8,fX]
theorem e8i:fH=.num 1 2:=kR
theorem d8s:A0 N1 x9 mO8=[39,40,97,32,49,47,50,41]:=by
 have e1:mO8=.co z8 (.co fX A7):=rfl
 have e2:fX=.co mA8 (.co fH A7):=rfl
 rw [b0z (P7.2 e1),e2,b0y]
 ·have e3:(pT N1 x9 (.co fH A7)).2.1=32 :: (A0 N1 x9 fH ++ (pT N1 x9 A7).2.1):=rfl
  have e4:(pT N1 x9 A7).2.1=[41]:=if_pos rfl
  have e5:A0 N1 x9 fH=[49,47,50]:=by rw [e8i];show b28 1 2=_;kernel_rfl
  have e6:A0 N1 x9 mA8=[97]:=by show (H3 N1 x9 (x9,[97])).1=_;kernel_rfl
  rw [e3,e4,e5,e6];rfl
 ·cases h:J6 (.co mA8 (.co fH A7)) with
  | none=>rfl
  | some x =>
   have:=P7.1 h
   injection this with h1 _
   injection h1 with h1
   injection h1 with _ h1
   exact absurd h1 dE
theorem e8j:okV mO8:=⟨kR,Nat.le_of_ble_eq_true kR⟩
theorem d34:E4 N1 x9 mO8=([39,40,97,32,49,47,50,41],0):=by
 unfold E4
 rw [if_neg,d8s]
 rintro (h | h)
 ·cases (show (some (x9,[]):Option Pk)=none from h)
 ·cases (show true=false from (show v8 N1 mO8=true by kernel_rfl).symm.trans h)
theorem e6n {a b:O} {x y:Q} (h1:u3 a.g x 0) (h2:u3 b.g y 0):n7 7 ([a,b].map O.g) (.node x (.node y .nil .nil) .nil) 0:=.of fun j r h=>by
 match j,h with
 | 0,h=>simp at h;subst h;exact e6i h1
 | 1,h=>simp at h;subst h;exact e6i h2
 | j+2,h=>simp at h
theorem d82:j4 4 (sp0 (.c (.b true))):=l9 (fun fn h=>e80 h) [(13,_),(6,_),(11,_),(10,_),(12,_),(9,_)] (.cons c1x (.cons d09 (.cons b93 (.cons b6t (.cons d1b (.cons e8q .nil)))))) fun U fn hfn _ vs bs hv hb=>by
 have hi:=hfn 13 _ rfl
 have hp:=hfn 6 _ rfl
 have hl:=hfn 11 _ rfl
 have hs:=hfn 10 _ rfl
 have hr:=hfn 12 _ rfl
 have hL:=hfn 9 _ rfl
 have hv:j6 [] vs:=hv
 have hb:RBs [] bs:=hb
 show g8 U _ fun v bs'=>j7 (.ret (.c (.b true))) v∧RBs [] bs'
 unfold r4
 (refine Zq ?_;intros)
 refine f9 hl ([113,117,111,116,101]:f6) (r:=.a (sg (x9,[113,117,111,116,101]))) rfl (.k (.s _ _ _ rfl dE) .nil) .nil fun _ _ hv3 _=>?_
 have hv3:RV (.a [.s x9,.s [113,117,111,116,101]]) _:=hv3
 (refine Zq ?_;intros)
 rename_i xa ga
 refine f9 hs (x9,[113,117,111,116,101]) (r:=.a z8.g) rfl (.k (.a _ _ _ rfl ga) .nil) .nil fun _ _ hv4 _=>?_
 refine S7 hv4 (O.g_len _) fun qa ka=>?_
 (refine Zq ?_;intros)
 refine f9 hl ([97]:f6) (r:=.a (sg (x9,[97]))) rfl (.k (.s _ _ _ rfl dE) .nil) .nil fun _ _ hv5 _=>?_
 have hv5:RV (.a [.s x9,.s [97]]) _:=hv5
 (refine Zq ?_;intros)
 rename_i xb gb
 refine f9 hs (x9,[97]) (r:=.a mA8.g) rfl (.k (.a _ _ _ rfl gb) .nil) .nil fun _ _ hv6 _=>?_
 refine S7 hv6 (O.g_len _) fun qb kb=>?_
 (refine Zq ?_;intros)
 refine f9 hr ⟨([49],[50]),dE,dE⟩ (r:=.a fH.g) rfl (.k (.s _ _ _ rfl dE) (.k (.s _ _ _ rfl dE) .nil)) .nil fun _ _ hv7 _=>?_
 refine S7 hv7 (O.g_len _) fun qc kc=>?_
 (refine Zq ?_;intros)
 refine f9 hL ⟨[mA8,fH],dE⟩ (r:=.a fX.g) rfl (.k (.sl _ _ _ _ _ rfl (e6n kb kc)) .nil) .nil fun _ _ hv8 _=>?_
 refine S7 hv8 (O.g_len _) fun qd kd=>?_
 (refine Zq ?_;intros)
 refine f9 hL ⟨[z8,fX],dE⟩ (r:=.a mO8.g) rfl (.k (.sl _ _ _ _ _ rfl (e6n ka kd)) .nil) .nil fun _ _ hv9 _=>?_
 refine S7 hv9 (O.g_len _) fun qe ke=>?_
 (refine Zq ?_;intros)
 refine f9 hi () (r:=.fr 2 [pg (x9,[])]) rfl .nil .nil fun _ _ hv1 _=>?_
 refine e6s hv1 rfl fun t off ht=>?_
 (refine Zq ?_;intros)
 refine f9 hp ⟨(N1,x9,mO8),b0e,e8j⟩ (r:=.t [.c (.s [39,40,97,32,49,47,50,41]),.c (.i .i64 0)]) (by show o8.ret (prG N1 x9 mO8)=_;unfold prG;rw [d34]) (.k (.sl _ _ _ _ _ rfl ht) (.k (.s _ _ _ rfl dE) (.k (oV aS) .nil))) .nil fun _ _ _ _=>?_
 (refine Zz ?_;intros)
 refine D5 fun e=>?_
 subst e
 exact ⟨.ret _ _ (M5 kR),.nil⟩
def e9e:Sp where
 ι:={ p:f6 × UInt8 // p.1.length < 21600000∧(p.2=34∨p.2=124) }
 A p:=[.c (.s p.1.1),.c (.i .u8 (p.1.2.toNat:Int))]
 B _:=[]
 R p:=.ret (.c (.s (D3 p.1.2 p.1.1)))
 B' _:=[]
 inj i j vs bs h k _ _:=by
  obtain ⟨_,_,h1,k1,h,k⟩:=h.two k
  obtain ⟨_,_,h2,k2,h,k⟩:=h.two k
  have e2:=Z7 h2 k2
  rw [F5 h1 k1,UInt8.toNat_inj.1 (show i.1.2.toNat=j.1.2.toNat by omega)];exact ⟨rfl,rfl⟩
theorem d2x {s:f6} {i:Nat} (h:i < s.length):s.take (i+1)=s.take i ++ [s.getD i 0]:=by
 rw [List.take_add_one]
 simp [List.getD,List.getElem?_eq_getElem h]
theorem b75 (c:UInt8) {s:f6} {i:Nat} (h:i < s.length):F6 c (s.take (i+1))=F6 c (s.take i) ++ (if s.getD i 0=c∨s.getD i 0=92 then [92,s.getD i 0] else [s.getD i 0]):=by
 rw [d2x h]
 unfold F6
 rw [List.flatMap_append,List.flatMap_singleton]
theorem d63:j4 38 e9e:=l9 (fun fn h=>e41 h) [] .nil fun U fn hfn ⟨(s,c),hs,hc⟩ vs bs hv hb=>by
 have hs:s.length < 21600000:=hs
 have hv:j6 [.c (.s s),.c (.i .u8 (c.toNat:Int))] vs:=hv
 have hb:RBs [] bs:=hb
 show g8 U _ fun v bs'=>j7 (.ret (.c (.s (D3 c s)))) v∧RBs [] bs'
 unfold r38
 (refine Zq ?_;intros)
 refine F3 (fun (i:Nat) vs bs=>∃ (v:V) (acc:f6),vs=[.str s.length (j9 s),.int .u8 (c.toNat:Int),.int .i64 i,v]∧bs=[.tok acc.length 1]∧a0w 0 1 (acc.map bg) v∧i≤s.length∧acc=c :: F6 c (s.take i)) (fun i=>s.length - i) 0 ⟨_,[c],rfl,rfl,.a _ 1 rfl (.cons 1 _ _ _ _ rfl (E7 (.i _ _)).1 (E7 (.i _ _)).2 (.nil _ _ _)),Nat.zero_le _,by simp [F6]⟩ (by simp only [y8];omega) ?_
 rintro self i _ _ ⟨v,acc,rfl,rfl,ht,hi,ha⟩ ih
 have hal:acc.length≤2 * i+1:=by
  have:=c50 c (s.take i)
  rw [ha,List.length_cons]
  rw [List.length_take] at this
  omega
 have hbt:((s.getD i 0).toNat:Int)=bt s i:=rfl
 have two:i < s.length→(bt s i=(c.toNat:Int)∨bt s i=92)→acc ++ [92,s.getD i 0]=c :: F6 c (s.take (i+1)):=fun h k=>by
  rw [b75 c h,if_pos,ha];rfl
  rcases k with k | k
  ·exact .inl (UInt8.toNat_inj.1 (by rw [← hbt] at k;omega))
  ·exact .inr (UInt8.toNat_inj.1 (by rw [← hbt] at k;show _=92;omega))
 have one:i < s.length→¬bt s i=(c.toNat:Int)→¬bt s i=92→acc ++ [s.getD i 0]=c :: F6 c (s.take (i+1)):=fun h k1 k2=>by
  rw [b75 c h,if_neg,ha];rfl
  rintro (e | e)
  ·exact k1 (by rw [← hbt,e])
  ·exact k2 (by rw [← hbt,e];rfl)
 (refine Zq ?_;with_reducible repeat' first|intro _|apply aI)
 ·have hk:bt s i=(c.toNat:Int):=‹_›
  refine T4 (xs:=acc.map bg) (r:=bg 92) aS (fun _=>E7 (.i _ _)) rfl (by simp) (by simp;omega) fun _ _=>?_
  (refine Zq ?_;intros)
  refine T4 (xs:=acc.map bg ++ [bg 92]) (r:=bg (s.getD i 0)) aS (fun _=>E7 (.i _ _)) rfl (by simp) (by simp;omega) fun t9 h9=>?_
  (refine Zq ?_;intros)
  refine ih (i+1) _ _ ⟨.slice t9 1 0 (acc.length+1+1) (.tok 0),acc ++ [92,s.getD i 0],rfl,by simp,.a _ _ (by simp) (by rw [show (acc ++ [92,s.getD i 0]).map bg=acc.map bg ++ [bg 92] ++ [bg (s.getD i 0)] by simp];exact h9),oM,two oM (.inl hk)⟩ oM
 ·have hk:bt s i=92:=‹_›
  refine T4 (xs:=acc.map bg) (r:=bg 92) aS (fun _=>E7 (.i _ _)) rfl (by simp) (by simp;omega) fun _ _=>?_
  (refine Zq ?_;intros)
  refine T4 (xs:=acc.map bg ++ [bg 92]) (r:=bg (s.getD i 0)) aS (fun _=>E7 (.i _ _)) rfl (by simp) (by simp;omega) fun t9 h9=>?_
  (refine Zq ?_;intros)
  refine ih (i+1) _ _ ⟨.slice t9 1 0 (acc.length+1+1) (.tok 0),acc ++ [92,s.getD i 0],rfl,by simp,.a _ _ (by simp) (by rw [show (acc ++ [92,s.getD i 0]).map bg=acc.map bg ++ [bg 92] ++ [bg (s.getD i 0)] by simp];exact h9),oM,two oM (.inr hk)⟩ oM
 ·have k1:¬bt s i=(c.toNat:Int):=‹_›
  have k2:¬bt s i=92:=‹_›
  refine T4 (xs:=acc.map bg) (r:=bg (s.getD i 0)) aS (fun _=>E7 (.i _ _)) rfl (by simp) (by simp;omega) fun t9 h9=>?_
  (refine Zq ?_;intros)
  refine ih (i+1) _ _ ⟨.slice t9 1 0 (acc.length+1) (.tok 0),acc ++ [s.getD i 0],rfl,by simp,.a _ _ (by simp) (by rw [List.map_append];exact h9),oM,one oM k1 k2⟩ oM
 ·have hi9:i=s.length:=oM
  rw [hi9,List.take_length] at ha
  have e:D3 c s=acc ++ [c]:=by unfold D3;rw [ha];rfl
  rw [e]
  refine T4 (xs:=acc.map bg) (r:=bg c) aS (fun _=>E7 (.i _ _)) rfl (by simp) (by simp;omega) fun t9 h9=>?_
  (refine Zq ?_;intros)
  refine sBT (ys:=acc ++ [c]) (by rw [List.map_append];exact h9) (by simp) ?_
  exact i7 ⟨.ret _ _ (.s _ _ _ (by simp) rfl),.nil⟩
end
end Go.Proofs.YtgipbdffgfbedaaGreatDoor
