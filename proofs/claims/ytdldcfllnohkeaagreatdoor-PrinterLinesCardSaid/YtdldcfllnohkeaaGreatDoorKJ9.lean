/- The reference's lines, Lines. -/
import Derived.Test.YtdldcfllnohkeaaGreatDoorKJ8
import Derived.Test.YtdldcfllnohkeaaGreatDoorKJ7
set_option linter.all false
namespace Go.Proofs.YtdldcfllnohkeaaGreatDoor
open Go.Abs LQ Go.RowKit Go.Shelf
set_option maxRecDepth 100000
noncomputable section
theorem d5p (L:List Pk) (cur:f5) (hL:F1 L) (vL:V) (hvL:RV (.sl 2 (L.map pg)) vL) (o:O) (h3:o.size≤3000) (hok:W7 o) (hq:S8 o) (w:World) (S:j8) (lv c6:Value) (hg:GG.pred w) (hwi:S.within w) (hlv:Rd S m5 w lv (dV (.sl 2 (L.map pg)))) (hc6:Rd S m5 w c6 (dG (.l (o.ps.map O.g)))) :
  Calls Tryz.prog 31 #[lv,.string ⟨cur.toArray⟩,.agg (C4 o c6)] w fun e w'=>e=.returned (.string ⟨(o8 L cur o).toArray⟩)∧Below w.heap.size w w':=by
 obtain ⟨v,hv⟩:=hq.rv
 refine (a2e d3y ⟨(L,cur,o),hL,hok,h3⟩ rfl rfl (vs:=[vL,.str cur.length (j9 cur),v]) (.k hvL (.k (.s _ _ _ rfl rfl) (.k hv .nil))) (us:=[lv,.string ⟨cur.toArray⟩,.agg (C4 o c6)]) hg hwi (.k hlv (.k (.str _ _ rfl) (.k (b2a hc6) .nil)))).mono ?_
 rintro e w' ⟨v,S',rfl,hb,_,_,hr⟩
 have:=T5 hr
 subst this
 exact ⟨rfl,hb⟩
set_option maxHeartbeats 8000000 in
theorem c3u (lv c6:Value) (C:ByteArray) (o:O) (wd:Int) (w:World) (T:f5) (is sh:Bool) (n:Nat) (hT:T.length < 1000000000) (hn:n < 1000000000) (hwd:-2000000000 < wd∧wd≤9223372036854775807)
  (hone:((T.length:Int)≤wd)∨is=false∨n < 2∨sh=true)
  (ht:∀ w1,Below w.heap.size w w1→Calls Tryz.prog 31 #[lv,.string C,.agg (C4 o c6)] w1 fun e w'=>e=.returned (.string ⟨T.toArray⟩)∧Below w1.heap.size w1 w')
  (hi:∀ w1,Below w.heap.size w w1→Calls Tryz.prog 70 #[.agg (C4 o c6)] w1 fun e w'=>Below w1.heap.size w1 w'∧∃ base cap,e=.returned (.tuple #[.slice base n cap,.bool is]))
  (hs:∀ w1,Below w.heap.size w w1→Calls Tryz.prog 64 #[.agg (C4 o c6)] w1 fun e w'=>Below w1.heap.size w1 w'∧∃ x xb xl xc,e=.returned (.tuple #[.agg (C4 x (.slice xb xl xc)),.bool sh])) :
  Calls Tryz.prog 41 #[lv,.string C,.agg (C4 o c6),.int .i64 wd] w fun e w'=>∃ v,e=.returned v∧O5 w' v [T] w.heap.size∧Below w.heap.size w w':=by
 have hb0:Below w.heap.size w (w.alloc (.cells (C4 o c6) 26)):=(Below.refl _ w).alloc (Nat.le_refl _) _
 have ht:=ht _ hb0
 unfold C4 at *
 go_enter Tryz.func41,Tryz.ntmps41
 go_wp2_with (first
  | (go_at_call 31;refine ht.mono ?_;rintro e w1 ⟨rfl,hb1⟩;have hk1:=y9 (B:=w.heap.size+1) hb1 (by simp);obtain ⟨p0,p1,p2,p3,p4,p5,p6⟩:=b0q hk1;have hba:=hb0.trans (y9 hb1 hb0.size);have hi:=hi _ hba)
  | (go_at_call 70;refine hi.mono ?_;rintro e w2 ⟨hb2,ib,ic,rfl⟩;have hk2:=hk1.trans (y9 hb2 (by have:=hk1.size;simpa using this));obtain ⟨q0,q1,q2,q3,q4,q5,q6⟩:=b0q hk2;have hbb:=hba.trans (y9 hb2 hba.size);have hs:=hs _ hbb)
  | (go_at_call 64;refine hs.mono ?_;rintro e w3 ⟨hb3,x,xb,xl,xc,rfl⟩;have hbc:=hbb.trans (y9 hb3 hbb.size)))
 all_goals first
  | (go_ret;exact ⟨_,rfl,c8x hbc _ _ _⟩)
  | (exfalso
     have a1:wd < (T.length:Int):=aS
     have a2:is=true:=aS
     have a3:(2:Int)≤n:=aS
     rcases hone with h | h | h | h
     ·omega
     ·rw [a2] at h;cases h
     ·omega
     ·subst h;simp at *)
set_option maxHeartbeats 8000000 in
theorem c3v (L:List Pk) (cur:f5) (o:O) (l:List O) (lv c6:Value) (wd:Int) (w:World) (S:j8) (T:f5) (hT:T.length < 1000000000) (hwd:-1000000≤wd∧wd≤1000000000000) (hlong:wd < T.length) (hl2:2≤l.length) (hlb:l.length < 100000)
  (hsz:∀ x ∈ l,(x.size:Int)≤wd - 1+1000000) (hcnt:∀ k,(C3 ((l.take k).flatMap fun x=>q8 L cur x (wd - 1))).length < 1000000) (hchr:∀ x ∈ l,∀ s ∈ q8 L cur x (wd - 1),s.length < 1000000000)
  (hg:GG.pred w) (hwi:S.within w) (hlv:Rd S m5 w lv (dV (.sl 2 (L.map pg))))
  (ih:∀ x ∈ l,a2a 41 L cur x)
  (ht:∀ w1,Below w.heap.size w w1→Calls Tryz.prog 31 #[lv,.string ⟨cur.toArray⟩,.agg (C4 o c6)] w1 fun e w'=>e=.returned (.string ⟨T.toArray⟩)∧Below w1.heap.size w1 w')
  (hi:∀ w1,Below w.heap.size w w1→Calls Tryz.prog 70 #[.agg (C4 o c6)] w1 fun e w'=>Below w1.heap.size w1 w'∧∃ S',S.grown S' w1∧S'.within w'∧∃ b oo cap,e=.returned (.tuple #[.slice (some ⟨b,oo,none⟩) l.length cap,.bool true])∧b17 S' w' b oo l)
  (hs:∀ w1,Below w.heap.size w w1→Calls Tryz.prog 64 #[.agg (C4 o c6)] w1 fun e w'=>Below w1.heap.size w1 w'∧∃ x xb xl xc,e=.returned (.tuple #[.agg (C4 x (.slice xb xl xc)),.bool false])) :
  Calls Tryz.prog 41 #[lv,.string ⟨cur.toArray⟩,.agg (C4 o c6),.int .i64 wd] w fun e w'=>∃ v,e=.returned v∧O5 w' v (M9 (C3 (l.flatMap fun x=>q8 L cur x (wd - 1)))) w.heap.size∧Below w.heap.size w w':=by
 obtain ⟨i0,hi0,hz0,hz1,hz2⟩:=info_parts e07
 have hb0:Below w.heap.size w (w.alloc (.cells (C4 o c6) 26)):=(Below.refl _ w).alloc (Nat.le_refl _) _
 have ht:=ht _ hb0
 unfold C4 at ht hi hs hb0 ⊢
 go_enter Tryz.func41,Tryz.ntmps41
 go_wp2_with (first
  | (go_at_call 31;refine ht.mono ?_;rintro e w1 ⟨rfl,hb1⟩;have hk1:=y9 (B:=w.heap.size+1) hb1 (by simp);obtain ⟨p0,p1,p2,p3,p4,p5,p6⟩:=b0q hk1;have hba:=hb0.trans (y9 hb1 hb0.size);have hi:=hi _ hba)
  | (go_at_call 70;refine hi.mono ?_;rintro e w2 ⟨hb2,S',hgr,hw2,b,oo,icap,rfl,hit⟩;have hk2:=hk1.trans (y9 hb2 (by have:=hk1.size;simpa using this));obtain ⟨q0,q1,q2,q3,q4,q5,q6⟩:=b0q hk2;have hbb:=hba.trans (y9 hb2 hba.size);have hs:=hs _ hbb)
  | (go_at_call 64;refine hs.mono ?_;rintro e w3 ⟨hb3,x,xb,xl,xc,rfl⟩;have hbc:=hbb.trans (y9 hb3 hbb.size)))
 have hw3:w2.heap.size≤w3.heap.size:=hb3.size
 go_loopw [14,15] (fun v i wr=>∃ k:Nat,k≤l.length∧i=.int .i64 k∧LI w3.heap.size w3 (C3 ((l.take k).flatMap fun x=>q8 L cur x (wd - 1))) v wr)
  (fun _ i _=>l.length - (intOf i).toNat)
 case atStart=>exact ⟨0,Nat.zero_le _,rfl,(LI.nil w3).quiet ((Below.refl _ w3).alloc (Nat.le_refl _) _)⟩
 case round =>
  obtain ⟨k,hk,rfl,hI⟩:=hrel
  by_cases hlt:k < l.length
  ·obtain ⟨x,hx⟩:∃ x,l[k]?=some x:=⟨_,List.getElem?_eq_getElem hlt⟩
   have hmem:x ∈ l:=List.mem_of_getElem? hx
   obtain ⟨x6,hrow,hx6⟩:=hit k x hx
   obtain ⟨yb,yl,yc,rfl⟩:=sl6 hx6
   have hbb2:b < w2.heap.size:=hw2 _ _ (hrow 0 _ rfl).1
   have hb2r:Below w2.heap.size w2 wr:=hb3.trans (hI.old.mono hw3)
   obtain ⟨r0,r1,r2,r3,r4,r5,r6⟩:=a9t fun i u hu=>a2i hb2r hbb2 (hrow i u hu).2
   have hbr:Below w.heap.size w wr:=hbb.trans (hb2r.mono hbb.size)
   have hgr':=H2 hg hbr
   have hrec:=ih x hmem
   unfold a2a at hrec
   obtain ⟨base,cap,rfl⟩:=hI.shape
   have hcntk:=hcnt k
   have hw2r:S'.within wr:=C9 hw2 hb2r
   have hx6r:=E0 hw2 hx6 hb2r
   have hlvr:Rd S' m5 wr lv (dV (.sl 2 (L.map pg))):=(E0 hwi hlv hbr).ext ⟨hgr.1,fun _ _ _=>rfl,fun _ _ h=>h⟩
   go_wp2_with (first
    | (go_at_call 41;refine (hrec _ S' _ (.slice yb yl yc) (wd - 1) hgr' hw2r hlvr hx6r (hsz x hmem) oM).mono ?_;rintro e w5 ⟨pv,rfl,⟨pb,pcap,rfl,hpc,hplo,hplt,hpcell⟩,hb5⟩))
   have hI5:LI w3.heap.size w3 _ _ w5:=hI.quiet hb5
   go_loopw [14,17] (fun v j wq=>∃ jn:Nat,jn≤(q8 L cur x (wd - 1)).length∧j=.int .i64 jn∧LI w3.heap.size w3 (C3 (((l.take k).flatMap fun x=>q8 L cur x (wd - 1)) ++ (q8 L cur x (wd - 1)).take jn)) v wq∧LR pb (q8 L cur x (wd - 1)) v wq)
    (fun _ j _=>(q8 L cur x (wd - 1)).length - (intOf j).toNat)
   case atStart=>exact ⟨0,Nat.zero_le _,rfl,by simpa using hI5,⟨fun t s h=>hpcell t s h,fun e=>by have:=(hI.own.lt pb e).2;omega,hplt⟩⟩
   case round =>
    obtain ⟨jn,hjn,rfl,hJ,hR⟩:=hrel
    by_cases hjl:jn < (q8 L cur x (wd - 1)).length
    ·obtain ⟨s,hs⟩:∃ s,(q8 L cur x (wd - 1))[jn]?=some s:=⟨_,List.getElem?_eq_getElem hjl⟩
     have hcs:=hR.cell jn s hs
     have hsl:=hchr x hmem s (List.mem_of_getElem? hs)
     have hact:=hcnt (k+1)
     have hbl:=hJ.lt
     have hstep:=fun {o1:Obj} {y:f5} {w1:World} {v':Value}=>hJ.step (o1:=o1) (x:=y) (w1:=w1) (v':=v') hR
     have hnext:C3 (((l.take k).flatMap fun x=>q8 L cur x (wd - 1)) ++ (q8 L cur x (wd - 1)).take (jn+1))=C3 (((l.take k).flatMap fun x=>q8 L cur x (wd - 1)) ++ (q8 L cur x (wd - 1)).take jn) ++ [(if ((l.take k).flatMap fun x=>q8 L cur x (wd - 1)) ++ (q8 L cur x (wd - 1)).take jn=[] then (40:UInt8) else 32) :: s]:=by
      rw [List.take_add_one,hs,← List.append_assoc];exact b92 _ _
     rw [K9,List.take_add_one,hx,List.flatMap_append,List.length_append] at hact
     simp only [Option.toList_some,List.flatMap_cons,List.flatMap_nil,List.append_nil] at hact
     have hjb:jn < 1000000:=oM
     have hlen:(C3 (((l.take k).flatMap fun x=>q8 L cur x (wd - 1)) ++ (q8 L cur x (wd - 1)).take jn)).length < 1000000:=by
      rw [K9,List.length_append,List.length_take]
      omega
     clear hact
     generalize hA:(((l.take k).flatMap fun x=>q8 L cur x (wd - 1)) ++ (q8 L cur x (wd - 1)).take jn)=A at hJ hnext hlen hstep
     obtain ⟨base2,cap2,rfl⟩:=hJ.shape
     have hown:=hJ.own
     generalize hn:(C3 A).length=n at hown hlen ⊢
     have zs:1+(⟨s.toArray⟩:ByteArray).size≤9223372036854775807:=by show 1+s.length≤_;omega
     by_cases hnil:A=[]
     ·have hn0:n=0:=by rw [← hn,K9,hnil];rfl
      subst hn0
      rw [if_pos hnil] at hnext
      go_wp2_with (at_builtin;refine wpList_append_own_at _ rfl (.tmp 74) (.tmp 80) 40 rfl w3.heap.size 9 i0 (.string ⟨#[]⟩) 1 16 Tryz.underlying40 hi0 hz0 hz1 hz2 rfl dE _ _ _ rfl (hown.alloc _) ⟨wr.heap.size,0,none⟩ 1 1 [_] rfl rfl (cell_one_new _ _ _) ?c2 ?c3 ?c4 ?c5 ?_)
      case c2=>intro u hu;simp at hu;subst hu;rfl
      case c3=>unfold maxLen;omega
      case c4=>omega
      case c5=>simp;omega
      ·intro v' w1 hown' hgrow _ hat
       rw [b47] at hown'
       have R:=hstep (y:=40 :: s) (v':=v') (w1:=w1) (o1:=_) (by rw [hn,hnil];exact hown') (by rw [hn];exact hgrow) (by rw [hn];exact hat.imp id fun e=>by rw [e];simp)
       clear hstep hown' hgrow hat hown
       go_wp2
       go_roundw
       case rel=>exact ⟨jn+1,oM,by go_num,by rw [hnext];exact R.1,R.2⟩
       case measure=>simp [intOf];omega
     ·have hn0:0 < n:=by rw [← hn,K9];exact List.length_pos_iff.2 hnil
      rw [if_neg hnil] at hnext
      have hn1:¬(n:Int)=0:=oM
      go_wp2_with (at_builtin;refine wpList_append_own_at _ rfl (.tmp 82) (.tmp 88) 40 rfl w3.heap.size 9 i0 (.string ⟨#[]⟩) 1 16 Tryz.underlying40 hi0 hz0 hz1 hz2 rfl dE _ _ _ rfl (hown.alloc _) ⟨wr.heap.size,0,none⟩ 1 1 [_] rfl rfl (cell_one_new _ _ _) ?c2 ?c3 ?c4 ?c5 ?_)
      case c2=>intro u hu;simp at hu;subst hu;rfl
      case c3=>unfold maxLen;omega
      case c4=>omega
      case c5=>simp;omega
      ·intro v' w1 hown' hgrow _ hat
       rw [b47] at hown'
       have R:=hstep (y:=32 :: s) (v':=v') (w1:=w1) (o1:=_) (by rw [hn];exact hown') (by rw [hn];exact hgrow) (by rw [hn];exact hat.imp id fun e=>by rw [e];simp)
       clear hstep hown' hgrow hat hown
       go_wp2
       go_roundw
       case rel=>exact ⟨jn+1,oM,by go_num,by rw [hnext];exact R.1,R.2⟩
       case measure=>simp [intOf];omega
    ·have hje:jn=(q8 L cur x (wd - 1)).length:=oM
     subst hje
     rw [List.take_length] at hJ
     have hnext:((l.take k).flatMap fun x=>q8 L cur x (wd - 1)) ++ q8 L cur x (wd - 1)=(l.take (k+1)).flatMap fun x=>q8 L cur x (wd - 1):=by
      rw [List.take_add_one,hx,List.flatMap_append];simp
     rw [hnext] at hJ
     clear hnext
     go_wp2
     go_roundw
     case rel=>exact ⟨k+1,oM,by go_num,hJ⟩
     case measure=>simp [intOf];omega
  ·have hkl:k=l.length:=oM
   subst hkl
   rw [List.take_length] at hI
   have hmem:∀ y ∈ C3 (l.flatMap fun x=>q8 L cur x (wd - 1)),y.length < 2000000000:=fun y hy=>by
    obtain ⟨s,hs,e⟩:=b9z hy
    obtain ⟨x,hx,hs⟩:=List.mem_flatMap.1 hs
    have:=hchr x hx s hs
    omega
   have hne:C3 (l.flatMap fun x=>q8 L cur x (wd - 1)) ≠ []:=b4j fun e=>by
    obtain ⟨x,hx⟩:∃ x,x ∈ l:=by
     cases l with
     | nil=>simp at hl2
     | cons x r=>exact ⟨x,by simp⟩
    exact d32 L cur x (wd - 1) (List.flatMap_eq_nil_iff.1 e x hx)
   generalize hA:C3 (l.flatMap fun x=>q8 L cur x (wd - 1))=A at hI hmem hne
   obtain ⟨a',y,rfl⟩:∃ a' y,A=a' ++ [y]:=⟨_,_,(List.dropLast_concat_getLast hne).symm⟩
   have hyl:=hmem y (by simp)
   have hal:=hcnt l.length
   rw [List.take_length,hA,List.length_append] at hal
   simp only [List.length_cons,List.length_nil] at hal
   obtain ⟨g,cap,rfl,hcy,hfz,hcap,hend⟩:=hI.last
   have zs:(⟨y.toArray⟩:ByteArray).size+1≤9223372036854775807:=by show y.length+1≤_;omega
   go_wp2_with fail
   go_ret
   rw [hA,a8x]
   rw [c7f]
   exact ⟨_,rfl,O5.lower (hend (y ++ [41])).1 (Nat.le_trans hbb.size hw3),hbc.trans ((hend (y ++ [41])).2.mono hbc.size)⟩
open Classical in
theorem d0r (L:List Pk) (cur:f5) (vL:V) (hL:F1 L) (hvL:RV (.sl 2 (L.map pg)) vL):∀ (n:Nat) (o:O),o.size≤n→o.size≤3000→W7 o→S8 o→a2a 41 L cur o:=by
 intro n
 induction n with
 | zero=>intro o h;have:=O.size_pos o;omega
 | succ n ih =>
 intro o hn h3 hok hq w S lv c6 wd hg hwi hlv hc6 hlo hhi
 have hT:=(Z0 (L:=L) (cur:=cur) hok).1
 have ht:∀ w1,Below w.heap.size w w1→Calls Tryz.prog 31 #[lv,.string ⟨cur.toArray⟩,.agg (C4 o c6)] w1 fun e w'=>e=.returned (.string ⟨(o8 L cur o).toArray⟩)∧Below w1.heap.size w1 w':=fun w1 k=>d5p L cur hL vL hvL o h3 hok hq w1 S lv c6 (H2 hg k) (C9 hwi k) (E0 hwi hlv k) (E0 hwi hc6 k)
 have hit:=fun w1 (k:Below w.heap.size w w1)=>b46 c76 (S:=S) (o:=o) (c6:=c6) (w:=w1) oM hq (H2 hg k) (C9 hwi k) (E0 hwi hc6 k)
 have hsh:=fun w1 (k:Below w.heap.size w w1)=>a6x c3j (S:=S) (o:=o) (c6:=c6) (w:=w1) oM hq (H2 hg k) (C9 hwi k) (E0 hwi hc6 k)
 by_cases hone:((o8 L cur o).length:Int)≤wd∨m8 o=none∨(∃ l,m8 o=some l∧l.length < 2)∨A7 o ≠ none
 ·rw [c8i hone]
  refine c3u lv c6 ⟨cur.toArray⟩ o wd w (o8 L cur o) (m8 o).isSome (A7 o).isSome ((m8 o).elim 0 List.length) oM ?_ ⟨oM,hhi⟩ ?_ ht ?_ ?_
  ·cases hi:m8 o with
   | none=>exact (by decide:(0:Nat) < 1000000000)
   | some l=>have:=Z9 hi;show l.length < _;omega
  ·rcases hone with h | h | ⟨l,h,h2⟩ | h
   ·exact .inl h
   ·rw [h];exact .inr (.inl rfl)
   ·rw [h];exact .inr (.inr (.inl h2))
   ·cases hs:A7 o with
    | none=>exact absurd hs h
    | some x=>exact .inr (.inr (.inr rfl))
  ·intro w1 k
   refine (hit w1 k).mono ?_
   rintro e w' ⟨hb,S',_,_,base,cap,he⟩
   cases hi:m8 o with
   | none=>rw [hi] at he;exact ⟨hb,base,cap,he⟩
   | some l=>rw [hi] at he;exact ⟨hb,base,cap,he.1⟩
  ·intro w1 k
   refine (hsh w1 k).mono ?_
   rintro e w' ⟨hb,S',_,_,x6,he⟩
   cases hs:A7 o with
   | none =>
    rw [hs] at he
    obtain ⟨xb,xl,xc,rfl⟩:=sl6 he.2
    exact ⟨hb,_,xb,xl,xc,he.1⟩
   | some x =>
    rw [hs] at he
    obtain ⟨xb,xl,xc,rfl⟩:=sl6 he.2
    exact ⟨hb,_,xb,xl,xc,he.1⟩
 ·obtain ⟨l,hi,hl2,hsn,hlong⟩:∃ l,m8 o=some l∧¬l.length < 2∧A7 o=none∧¬((o8 L cur o).length:Int)≤wd:=by
   cases hi:m8 o with
   | none=>exact absurd (.inr (.inl hi)) hone
   | some l=>exact ⟨l,rfl,fun h=>hone (.inr (.inr (.inl ⟨l,hi,h⟩))),Classical.byContradiction fun h=>hone (.inr (.inr (.inr h))),fun h=>hone (.inl h)⟩
  have hll:=Z9 hi
  have hcb:=(a06 (L:=L) (cur:=cur) (w:=wd) hok h3).1
  rw [c3t hlong hi hl2 hsn] at hcb ⊢
  rw [a58,K9] at hcb
  refine c3v L cur o l lv c6 wd w S (o8 L cur o) oM ⟨oM,oM⟩ oM oM oM (fun x hx=>by have:=G8 hi x hx;omega) (fun k=>?_) (fun x hx s hs=>?_) hg hwi hlv (fun x hx=>ih x (by have:=G8 hi x hx;omega) (by have:=G8 hi x hx;omega) (a3h hi hok x hx) (a86 hi hq x hx)) ht ?_ ?_
  ·have e:(l.flatMap fun x=>q8 L cur x (wd - 1))=((l.take k).flatMap fun x=>q8 L cur x (wd - 1)) ++ ((l.drop k).flatMap fun x=>q8 L cur x (wd - 1)):=by rw [← List.flatMap_append,List.take_append_drop]
   rw [e,List.length_append] at hcb
   rw [K9]
   omega
  ·have h1:=b4d hs
   have h2:=(a06 (L:=L) (cur:=cur) (o:=x) (w:=wd - 1) (a3h hi hok x hx) (by have:=G8 hi x hx;omega)).2
   omega
  ·intro w1 k
   refine (hit w1 k).mono ?_
   rintro e w' ⟨hb,S',h1,h2,base,cap,he⟩
   rw [hi] at he
   obtain ⟨b,oo,rfl,h4⟩:=he.2 (by rintro rfl;simp at hl2)
   exact ⟨hb,S',h1,h2,b,oo,cap,he.1,h4⟩
  ·intro w1 k
   refine (hsh w1 k).mono ?_
   rintro e w' ⟨hb,S',_,_,x6,he⟩
   rw [hsn] at he
   obtain ⟨xb,xl,xc,rfl⟩:=sl6 he.2
   exact ⟨hb,_,xb,xl,xc,he.1⟩
theorem e3i:j3 41 (c5c okT (-900000) lnG):=b9t Tryz.call41 fun L cur vL hL hvL o h3 hok hq=>d0r L cur vL hL hvL o.size o (Nat.le_refl _) h3 hok hq
end
end Go.Proofs.YtdldcfllnohkeaaGreatDoor
namespace Go.Proofs.YtdldcfllnohkeaaGreatDoor
open Go.Abs LQ
set_option maxRecDepth 100000
set_option maxHeartbeats 8000000
noncomputable section
theorem e3g:j3 14 (c5c okV (-9223372036854775808) a9a):=k7 (fun fn h=>e8s h) [(10,_),(41,_)] (.cons e3p (.cons e3i .nil)) fun U fn hfn ⟨(L,cur,o,w),hL,ho,hlo,hhi⟩ vs bs hv hb=>by
 have hck:=hfn 10 _ rfl
 have hln:=hfn 41 _ rfl
 have hL:F1 L:=hL
 have ho:okV o:=ho
 have hlo:-9223372036854775808≤w:=hlo
 have hhi:w≤9223372036854775807:=hhi
 have hv:j5 [.sl 2 (L.map pg),.c (.s cur),.a o.g,.c (.i .i64 w)] vs:=hv
 have hb:RBs [] bs:=hb
 show g7 U _ fun v bs'=>j6 (.ret (a9a L cur o w)) v∧RBs [] bs'
 unfold r14
 (refine Zy ?_;intros)
 refine M5 aS o.g_len fun q0 hq0=>?_
 (refine Zy ?_;intros)
 by_cases hbad:B0 L cur=none∨t8 L o=false
 ·have e:x7 L cur o=([],13):=by unfold x7;rw [if_pos hbad]
  rw [c8j hbad]
  refine f6 hck ⟨(L,cur,o),hL,ho⟩ (r:=.t [.c (.s []),.c (.i .i64 13)]) (by show n6.ret (prG L cur o)=_;unfold prG;rw [e]) (.k (.sl _ _ _ _ _ (by simp) aS) (.k (.s _ _ _ rfl rfl) (.k (oV aS) .nil))) .nil fun _ _ _ _=>?_
  (refine Zz ?_;intros)
  exact g9 ⟨.ret _ _ (.t _ _ (.k (.sl0 _ _ _) (.k (.i _ _) .nil))),.nil⟩
 ·have e:x7 L cur o=(o8 L cur o,0):=by unfold x7;rw [if_neg hbad]
  have hok:=a9f (b6e ho (c7y hbad))
  refine f6 hck ⟨(L,cur,o),hL,ho⟩ (r:=.t [.c (.s (o8 L cur o)),.c (.i .i64 0)]) (by show n6.ret (prG L cur o)=_;unfold prG;rw [e]) (.k (.sl _ _ _ _ _ (by simp) aS) (.k (.s _ _ _ rfl rfl) (.k (oV aS) .nil))) .nil fun _ _ _ _=>?_
  (refine Zz ?_;intros)
  refine b62 a1x (fun h0=>?_) (fun h0=>?_)
  ·rw [b55 hbad (v:=-1000) (.inr ⟨oM,oM⟩)]
   (refine Zz ?_;intros)
   refine f6 hln ⟨(L,cur,o,-1000),hL,⟨hok,ho.size⟩,by show (-900000:Int)≤-1000;decide,by show (-1000:Int)≤9223372036854775807;decide⟩ (r:=.sl 1 ((q8 L cur o (-1000)).map sr)) rfl (.k (.sl _ _ _ _ _ (by simp) aS) (.k (.s _ _ _ rfl rfl) (.k (oV aS) (.k (.i _ _) .nil)))) .nil fun _ _ _ _=>?_
   (refine Zz ?_;intros)
   exact g9 ⟨.ret _ _ (.t _ _ (.k (.sl _ _ _ _ _ (by simp) aS) (.k (.i _ _) .nil))),.nil⟩
  ·rw [b55 hbad (v:=w) (.inl rfl)]
   (refine Zz ?_;intros)
   refine f6 hln ⟨(L,cur,o,w),hL,⟨hok,ho.size⟩,by show -900000≤w;omega,hhi⟩ (r:=.sl 1 ((q8 L cur o w).map sr)) rfl (.k (.sl _ _ _ _ _ (by simp) aS) (.k (.s _ _ _ rfl rfl) (.k (oV aS) (.k (.i _ _) .nil)))) .nil fun _ _ _ _=>?_
   (refine Zz ?_;intros)
   exact g9 ⟨.ret _ _ (.t _ _ (.k (.sl _ _ _ _ _ (by simp) aS) (.k (.i _ _) .nil))),.nil⟩
end
end Go.Proofs.YtdldcfllnohkeaaGreatDoor
