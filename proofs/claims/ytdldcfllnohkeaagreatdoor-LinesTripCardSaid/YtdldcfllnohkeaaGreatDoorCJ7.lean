/- What stands while lines gathers its rows. -/
import Derived.Test.YtdldcfllnohkeaaGreatDoorCJ6
import Derived.Maps.AppendAt
import Derived.Test.YtdldcfllnohkeaaGreatDoorCC
set_option linter.all false
namespace Go.Proofs.YtdldcfllnohkeaaGreatDoor
open Go.Abs LQ Go.RowKit
noncomputable section
abbrev sv (s:i6):Value:=.string ⟨s.toArray⟩
theorem Y8.lower {w:World} {v:Value} {R:List i6} {lo lo':Nat} (h:Y8 w v R lo) (k:lo'≤lo):Y8 w v R lo':=by
 obtain ⟨b,cap,e,h1,h2,h3⟩:=h
 exact ⟨b,cap,e,h1,Nat.le_trans k h2,h3⟩
theorem d7g {a:List i6} {y:i6} (h:y ∈ J8 a):∃ s ∈ a,y.length=s.length+1:=by
 cases a with
 | nil=>cases h
 | cons x r =>
  rcases List.mem_cons.1 h with rfl | h
  ·exact ⟨x,by simp,rfl⟩
  ·obtain ⟨s,hs,rfl⟩:=List.mem_map.1 h
   exact ⟨s,by simp [hs],rfl⟩
theorem d5x (c:UInt8) (s:i6):(Value.string (⟨#[c]⟩ ++ ⟨s.toArray⟩))=sv (c :: s):=by
 unfold sv
 congr 1
theorem e53 (s:i6) (c:UInt8):(Value.string (⟨s.toArray⟩ ++ ⟨#[c]⟩))=sv (s ++ [c]):=by
 unfold sv
 congr 1
structure LI (B:Nat) (w3:World) (a:List i6) (v:Value) (wr:World):Prop where
 own:wr.ownsRow B 9 1 v a.length (a.map sv)
 old:Below B w3 wr
 lt:B≤wr.heap.size
structure LR (pb:Nat) (R:List i6) (v:Value) (wr:World):Prop where
 cell:∀ (t:Nat) (s:i6),R[t]?=some s→wr.cell? ⟨pb,t,none⟩=some (sv s)
 ne:v.ownBlock ≠ some pb
 lt:pb < wr.heap.size
section
variable {B pb:Nat} {w3 wr w1:World} {a R:List i6} {v v':Value}
theorem LI.shape (h:LI B w3 a v wr):∃ base cap,v=.slice base a.length cap:=by
 rcases h.own.2 with ⟨rfl,e⟩ | ⟨g,cap,cur,rfl,_⟩
 ·exact ⟨none,0,by rw [e]⟩
 ·exact ⟨_,_,rfl⟩
theorem LI.nil (w3:World):LI w3.heap.size w3 [] (.slice none 0 0) w3:=⟨World.ownsRow_nil _ _ _ _,Below.refl _ _,Nat.le_refl _⟩
theorem LI.quiet (h:LI B w3 a v wr) (k:Below wr.heap.size wr w1):LI B w3 a v w1 :=
 ⟨h.own.kept (row:=none) ⟨k.os,k.tape,k.output,k.size,fun j hj _=>k.block j hj⟩ (by cases v.ownBlock <;> simp),h.old.trans (F5 k h.lt),Nat.le_trans h.lt k.size⟩
theorem LI.step {o1:Obj} {x:i6} (h:LI B w3 a v wr) (r:LR pb R v wr) (hown':w1.ownsRow B 9 1 v' (a.length+1) (a.map sv ++ [sv x])) (hg:(wr.alloc o1).grownBy w1 v.ownBlock) (hat:v'.ownBlock=v.ownBlock∨v'.ownBlock=some (wr.alloc o1).heap.size) :
  LI B w3 (a ++ [x]) v' w1∧LR pb R v' w1:=by
 have hs:(wr.alloc o1).heap.size=wr.heap.size+1:=by simp
 have h1:=h.lt
 have h2:=r.lt
 have h3:=hg.size
 refine ⟨⟨by simpa using hown',(h.old.alloc h.lt o1).grown hg oM fun k hk=>(h.own.lt k hk).1,oM⟩,⟨fun t s ht=>?_,?_,oM⟩⟩
 ·exact hg.cell ((World.cell?_alloc_past _ _ _ h2).trans (r.cell t s ht)) (fun e=>r.ne e.symm)
 ·rcases hat with e | e
  ·rw [e];exact r.ne
  ·rw [e,hs];intro e;injection e with e;omega
theorem LI.last {x:i6} (h:LI B w3 (a ++ [x]) v wr):∃ g cap,v=.slice (some ⟨g,0,none⟩) (a.length+1) cap∧wr.cell? ⟨g,a.length,none⟩=some (sv x)∧wr.frozen? ⟨g,a.length,none⟩=false∧a.length+1≤cap ∧
  ∀ y,Y8 (wr.setCell ⟨g,a.length,none⟩ (sv y)) v (a ++ [y]) B∧Below B w3 (wr.setCell ⟨g,a.length,none⟩ (sv y)):=by
 obtain ⟨hl,h2⟩:=h.own
 rcases h2 with ⟨rfl,e⟩ | ⟨g,cap,cur,rfl,hb,hg,hn,hm,hsz,ht⟩
 ·simp at e
 have hlt:g < wr.heap.size:=(Array.getElem?_eq_some_iff.1 hg).1
 have hcell:∀ t s,(a ++ [x])[t]?=some s→wr.cell? ⟨g,t,none⟩=some (sv s):=fun t s hts=>by
  have:=h.own.cells (g:=g) rfl t (sv s) (by rw [List.getElem?_map,hts];rfl)
  rw [show ((⟨g,0,none⟩:Addr).add t)=⟨g,t,none⟩ by unfold Addr.add;cases t <;> simp] at this
  exact this
 have hla:(a ++ [x]).length=a.length+1:=by simp
 have hx:=hcell a.length x (by simp)
 refine ⟨g,cap,by rw [hla],hx,by unfold World.frozen?;rw [hg];simp,by rw [← hla];exact hn,fun y=>⟨⟨g,cap,by simp,by simpa using hn,hb,by simpa [World.setCell] using hlt,fun t s hts=>?_⟩,h.old.setCell hb _⟩⟩
 by_cases e:t=a.length
 ·subst e
  have:y=s:=by simpa using hts
  subst this
  exact World.cell?_setCell_same _ _ _ hx
 ·rw [World.cell?_setCell_other _ _ _ _ (by simp [Ne.symm e,e])]
  refine hcell t s ?_
  rcases Nat.lt_or_ge t a.length with h' | h'
  ·rw [List.getElem?_append_left h'] at hts ⊢;exact hts
  ·rw [List.getElem?_append_right h',List.getElem?_eq_none (by simp;omega)] at hts;cases hts
end
end
end Go.Proofs.YtdldcfllnohkeaaGreatDoor
namespace Go.Proofs.YtdldcfllnohkeaaGreatDoor
open Go.Abs LQ Go.RowKit Go.Shelf
set_option maxRecDepth 100000
noncomputable section
def b3v (f:FuncId) (L:List Pk) (cur:i6) (x:O):Prop:=∀ (w:World) (S:l9) (lv c6:Value) (wd:Int),GG.pred w→S.within w→Rd S o8 w lv (dV (.sl 2 (L.map pg)))→Rd S o8 w c6 (dG (.l (x.ps.map O.g)))→(x.size:Int)≤wd+1000000→wd≤9223372036854775807 →
  Calls Tryz.prog f #[lv,.string ⟨cur.toArray⟩,.agg (K9 x c6),.int .i64 wd] w fun e w'=>∃ v,e=.returned v∧Y8 w' v (C6 L cur x wd) w.heap.size∧Below w.heap.size w w'
theorem f8z:(Tryz.prog.info? 9).map (fun i=>(i.zero,i.size,i.bytes))=some (some (.string ⟨#[]⟩),1,16):=kR
theorem b93:∀ o:O,(dO o).1≤o.size∧(dO o).2≤o.size
 | .co a d=>by
  have h1:=b93 a
  have h2:=b93 d
  simp only [dO,O.size]
  omega
 | .num _ _=>⟨Nat.zero_le _,Nat.zero_le _⟩
 | .sy _=>⟨Nat.zero_le _,Nat.zero_le _⟩
 | .tx _=>⟨Nat.zero_le _,Nat.zero_le _⟩
 | .no=>⟨Nat.zero_le _,Nat.zero_le _⟩
theorem a8e {L:List Pk} {cur:i6} {o:O} {w:Int} (h:okP o) (h3:o.size≤3000):(C6 L cur o w).length≤1501∧(C3 (C6 L cur o w)).length < 10000000:=by
 have h1:=c2k (L:=L) (cur:=cur) (w:=w) (Nat.le_refl o.size)
 have h2:=b67 (L:=L) (cur:=cur) h
 have h4:=c0s o
 have h5:=(b93 o).1
 have h6:lv o * (dO o).1≤1501 * 3000:=Nat.mul_le_mul oM oM
 unfold C6
 exact ⟨oM,oM⟩
theorem b2y:∀ {l:List O} {o:O},w9 o=some l→okP o→∀ x ∈ l,okP x
 | [],_,_,_,_,hx=>by cases hx
 | a :: l,o,h,hk,x,hx=>by
  obtain ⟨d,rfl,hd⟩:=J7 h
  rcases List.mem_cons.1 hx with rfl | hx
  ·exact hk.1
  ·exact b2y hd hk.2 x hx
theorem b7v:∀ {l:List O} {o:O},w9 o=some l→a0d o→∀ x ∈ l,a0d x
 | [],_,_,_,_,hx=>by cases hx
 | a :: l,o,h,hk,x,hx=>by
  obtain ⟨d,rfl,hd⟩:=J7 h
  rcases List.mem_cons.1 hx with rfl | hx
  ·exact hk.two.1
  ·exact b7v hd hk.two.2 x hx
theorem a85:∀ {l:List O} {o:O},w9 o=some l→l.length≤o.size
 | [],_,_=>Nat.zero_le _
 | a :: l,o,h=>by
  obtain ⟨d,rfl,hd⟩:=J7 h
  have:=a85 hd
  simp only [O.size,List.length_cons]
  omega
theorem e0e:∀ {l:List O} {o:O},w9 o=some l→l ≠ []→∃ a d,o=.co a d
 | [],_,_,h=>absurd rfl h
 | a :: l,o,h,_=>by obtain ⟨d,rfl,_⟩:=J7 h;exact ⟨_,_,rfl⟩
theorem e3o (L:List Pk) (cur:i6) (a d:O):0 < (A4 L cur (.co a d)).length:=by
 cases hs:D7 (.co a d) with
 | some x=>rw [b3m hs];simp
 | none=>rw [b3l hs];simp
theorem c2m {L:List Pk} {cur:i6}:∀ {n:Nat} {o:O} {w v:Int},w≤0→v≤0→D6 L cur n o w=D6 L cur n o v
 | 0,_,_,_,_,_=>rfl
 | n+1,o,w,v,hw,hv=>by
  rw [D6,D6]
  cases hi:w9 o with
  | none=>rfl
  | some l =>
   simp only []
   have e:(l.flatMap fun x=>D6 L cur n x (w - 1))=l.flatMap fun x=>D6 L cur n x (v - 1):=by
    rw [List.flatMap_def,List.flatMap_def]
    congr 1
    exact List.map_congr_left fun x _=>c2m oM oM
   rw [e]
   by_cases hl:l.length < 2
   ·rw [if_pos (.inr (.inl hl)),if_pos (.inr (.inl hl))]
   ·obtain ⟨a,d,rfl⟩:=e0e hi (by rintro rfl;simp at hl)
    have:=e3o L cur a d
    by_cases hs:D7 (.co a d) ≠ none
    ·rw [if_pos (.inr (.inr hs)),if_pos (.inr (.inr hs))]
    ·rw [if_neg (by rintro (h | h | h) <;> first | omega | exact hl h | exact hs h),if_neg (by rintro (h | h | h) <;> first | omega | exact hl h | exact hs h)]
theorem d1o {L:List Pk} {cur:i6} {o:O} {w v:Int} (hw:w≤0) (hv:v≤0):C6 L cur o w=C6 L cur o v:=c2m hw hv
abbrev sr (s:i6):List G:=[.s s]
theorem d59:∀ l:List i6,V3 (l.map sr)=l.map D.str
 | []=>by simp [V3]
 | x :: l=>by rw [List.map_cons,a3v,d59 l];rfl
theorem c70 {S:l9} {M:Mp} {w:World}:∀ l:List i6,u3 S M w (l.map sv) (l.map D.str)
 | []=>.nil
 | x :: l=>.k (.str _ _ rfl) (c70 l)
theorem d32 {w w':World} {v:Value} {R:List i6} {S:l9} (h:Y8 w' v R w.heap.size) (hwi:S.within w) (hb:Below w.heap.size w w'):∃ S':l9,S.grown S' w∧S'.within w'∧Rd S' o8 w' v (dV (.sl 1 (R.map sr))):=by
 obtain ⟨b,cap,rfl,hc,hlo,hlt,hcell⟩:=h
 refine ⟨fun x o=>S x o∨x=b,⟨fun x o h=>.inl h,fun x o h=>h.elim .inl fun e=>.inr (e ▸ hlo)⟩,fun x o h=>h.elim (fun h=>Nat.lt_of_lt_of_le (hwi x o h) hb.size) fun e=>e ▸ hlt,?_⟩
 rw [dV,List.length_map,d59]
 refine .slice _ _ _ (R.map sv) _ _ (.inr ⟨b,0,rfl,fun i u hu=>⟨.inr rfl,?_⟩⟩) (c70 R) trivial hc (fun e=>by cases e)
 rw [List.getElem?_map] at hu
 cases hR:R[i]? with
 | none=>rw [hR] at hu;cases hu
 | some s =>
  rw [hR] at hu
  injection hu with hu
  subst hu
  rw [Nat.zero_add]
  exact hcell i s hR
def e3f (ok:O→Prop) (lo:Int) (g:List Pk→i6→O→Int→GV):Sp where
 ι:={ p:List Pk × i6 × O × Int // H7 p.1∧ok p.2.2.1∧lo≤p.2.2.2∧p.2.2.2≤9223372036854775807 }
 A p:=[.sl 2 (p.1.1.map pg),.c (.s p.1.2.1),.a p.1.2.2.1.g,.c (.i .i64 p.1.2.2.2)]
 B _:=[]
 R p:=.ret (g p.1.1 p.1.2.1 p.1.2.2.1 p.1.2.2.2)
 B' _:=[]
 inj i j vs bs h k _ _:=by
  obtain ⟨_,_,h1,k1,h,k⟩:=h.two k
  obtain ⟨_,_,h2,k2,h,k⟩:=h.two k
  obtain ⟨_,_,h3,k3,h,k⟩:=h.two k
  obtain ⟨_,_,h4,k4,h,k⟩:=h.two k
  rw [W7 (h1.sl_inj k1),H3 h2 k2,O.g_inj (h3.a_inj k3),a2v h4 k4];exact ⟨rfl,rfl⟩
def lnG (L:List Pk) (cur:i6) (o:O) (w:Int):GV:=.sl 1 ((C6 L cur o w).map sr)
theorem e9c (R:List i6) (h:R.length < 140737488355328):∃ v,RV (.sl 1 (R.map sr)) v :=
 ⟨.slice (a7v (fun i=>Q.str (R.getD i []).length (n7 (R.getD i []))) 48 0 1) 1 0 R.length .no,.sl _ _ _ _ _ (by simp) (.of fun j r e=>by
  rw [List.getElem?_map] at e
  cases hj:R[j]? with
  | none=>rw [hj] at e;cases e
  | some s =>
   rw [hj] at e
   injection e with e
   subst e
   have hlt:j < R.length:=(List.getElem?_eq_some_iff.1 hj).1
   have e2:tQ (a7v (fun i=>Q.str (R.getD i []).length (n7 (R.getD i []))) 48 0 1) (0+j)=.str s.length (n7 s):=by
    unfold tQ
    rw [a7w _ 48 0 1 _ oM]
    simp [List.getD,hj]
   refine ⟨rfl,?_⟩
   rw [e2]
   exact L4 (.s _ _ _ rfl rfl))⟩
theorem d6z {f:FuncId} (hcall:∀ args w,(callFunc f args).run Tryz.prog w=.ok (.enter f args) w)
  (h:∀ (L:List Pk) (cur:i6) (vL:V),H7 L→RV (.sl 2 (L.map pg)) vL→∀ o:O,o.size≤3000→okP o→a0d o→b3v f L cur o):k9 f (e3f okT (-900000) lnG):=fun ⟨(L,cur,o,wd),hL,⟨ho,h3⟩,hlo,hhi⟩ vs bs hv hb=>by
 change l7 [.sl 2 (L.map pg),.c (.s cur),.a o.g,.c (.i .i64 wd)] vs at hv
 change H7 L at hL
 change okP o at ho
 change o.size≤3000 at h3
 change -900000≤wd at hlo
 change wd≤9223372036854775807 at hhi
 cases hb
 obtain ⟨v,hrv⟩:=e9c (C6 L cur o wd) (by have:=(a8e (L:=L) (cur:=cur) (w:=wd) ho h3).1;omega)
 refine ⟨.ret v,[],fun hok=>?_,.ret _ _ hrv,.nil⟩
 have hvs:=hv
 rw [hv.map_toD]
 show CM X0.P X0.G _ _ [] (.ret (toD v)) []
 rw [hrv.toD]
 cases hvs with
 | cons _ _ vL _ hvL hvs =>
 cases hvs with
 | cons _ _ _ _ _ hvs =>
 cases hvs with
 | cons _ _ vo _ hvo _ =>
 refine d53 (d:=dV (.sl 1 ((C6 L cur o wd).map sr))) hcall fun w S us hg hwi hr=>?_
 have hr:u3 S o8 w us [dV (.sl 2 (L.map pg)),.str cur,dV (.a o.g),.int .i64 wd]:=hr
 cases hr with
 | cons lv _ _ _ r1 hr =>
 cases hr with
 | cons _ _ _ _ r2 hr =>
 cases hr with
 | cons _ _ _ _ r3 hr =>
 cases hr with
 | cons _ _ _ _ r4 hr =>
 cases hr
 have e2:=Z5 r2
 obtain ⟨c6,e3,hc6⟩:=c01 r3
 cases r4
 subst e2 e3
 refine (h L cur vL hL hvL o h3 ho (d50 hvo) w S lv c6 wd hg hwi r1 hc6 oM hhi).mono ?_
 rintro e w' ⟨u,rfl,hat,hb⟩
 obtain ⟨S',h1,h2,h3⟩:=d32 hat hwi hb
 exact ⟨hb,u,S',rfl,h1,h2,h3,P6 (fun _ _ _ e=>by rw [dV] at e;cases e) (fun _ e=>by rw [dV] at e;cases e)⟩
def c0r (L:List Pk) (cur:i6) (o:O) (w:Int):GV:=.t [.sl 1 ((if (D0 L cur o).2=0 then C6 L cur o (max w 0) else []).map sr),.c (.i .i64 (D0 L cur o).2)]
set_option maxHeartbeats 8000000 in
theorem c9k (L:List Pk) (cur:i6) (o:O) (l:List O) (lv c6:Value) (wd:Int) (w:World) (S:l9) (T:i6) (hT:T.length < 1000000000) (hwd:-1000000≤wd∧wd≤1000000000000) (hlong:wd < T.length) (hl2:2≤l.length) (hlb:l.length < 100000)
  (hsz:∀ x ∈ l,(x.size:Int)≤wd - 1+1000000) (hcnt:∀ k,(J8 ((l.take k).flatMap fun x=>C6 L cur x (wd - 1))).length < 1000000) (hchr:∀ x ∈ l,∀ s ∈ C6 L cur x (wd - 1),s.length < 1000000000)
  (hg:GG.pred w) (hwi:S.within w) (hlv:Rd S o8 w lv (dV (.sl 2 (L.map pg))))
  (ih:∀ x ∈ l,b3v 40 L cur x)
  (ht:∀ w1,Below w.heap.size w w1→Calls Tryz.prog 26 #[lv,.string ⟨cur.toArray⟩,.agg (K9 o c6)] w1 fun e w'=>e=.returned (.string ⟨T.toArray⟩)∧Below w1.heap.size w1 w')
  (hi:∀ w1,Below w.heap.size w w1→Calls Tryz.prog 69 #[.agg (K9 o c6)] w1 fun e w'=>Below w1.heap.size w1 w'∧∃ S',S.grown S' w1∧S'.within w'∧∃ b oo cap,e=.returned (.tuple #[.slice (some ⟨b,oo,none⟩) l.length cap,.bool true])∧b9v S' w' b oo l)
  (hs:∀ w1,Below w.heap.size w w1→Calls Tryz.prog 54 #[.agg (K9 o c6)] w1 fun e w'=>Below w1.heap.size w1 w'∧∃ x xb xl xc,e=.returned (.tuple #[.agg (K9 x (.slice xb xl xc)),.bool false])) :
  Calls Tryz.prog 40 #[lv,.string ⟨cur.toArray⟩,.agg (K9 o c6),.int .i64 wd] w fun e w'=>∃ v,e=.returned v∧Y8 w' v (Q0 (J8 (l.flatMap fun x=>C6 L cur x (wd - 1)))) w.heap.size∧Below w.heap.size w w':=by
 obtain ⟨i0,hi0,hz0,hz1,hz2⟩:=info_parts f8z
 have hb0:Below w.heap.size w (w.alloc (.cells (K9 o c6) 26)):=(Below.refl _ w).alloc (Nat.le_refl _) _
 have ht:=ht _ hb0
 unfold K9 at ht hi hs hb0 ⊢
 go_enter Tryz.func40,Tryz.ntmps40
 go_wp2_with (first
  | (go_at_call 26;refine ht.mono ?_;rintro e w1 ⟨rfl,hb1⟩;have hk1:=F5 (B:=w.heap.size+1) hb1 (by simp);obtain ⟨p0,p1,p2,p3,p4,p5,p6⟩:=d22 hk1;have hba:=hb0.trans (F5 hb1 hb0.size);have hi:=hi _ hba)
  | (go_at_call 69;refine hi.mono ?_;rintro e w2 ⟨hb2,S',hgr,hw2,b,oo,icap,rfl,hit⟩;have hk2:=hk1.trans (F5 hb2 (by have:=hk1.size;simpa using this));obtain ⟨q0,q1,q2,q3,q4,q5,q6⟩:=d22 hk2;have hbb:=hba.trans (F5 hb2 hba.size);have hs:=hs _ hbb)
  | (go_at_call 54;refine hs.mono ?_;rintro e w3 ⟨hb3,x,xb,xl,xc,rfl⟩;have hbc:=hbb.trans (F5 hb3 hbb.size)))
 have hw3:w2.heap.size≤w3.heap.size:=hb3.size
 go_loopw [14,54] (fun v i wr=>∃ k:Nat,k≤l.length∧i=.int .i64 k∧LI w3.heap.size w3 (J8 ((l.take k).flatMap fun x=>C6 L cur x (wd - 1))) v wr)
  (fun _ i _=>l.length - (intOf i).toNat)
 case atStart=>exact ⟨0,Nat.zero_le _,rfl,(LI.nil w3).quiet ((Below.refl _ w3).alloc (Nat.le_refl _) _)⟩
 case round =>
  obtain ⟨k,hk,rfl,hI⟩:=hrel
  by_cases hlt:k < l.length
  ·obtain ⟨x,hx⟩:∃ x,l[k]?=some x:=⟨_,List.getElem?_eq_getElem hlt⟩
   have hmem:x ∈ l:=List.mem_of_getElem? hx
   obtain ⟨x6,hrow,hx6⟩:=hit k x hx
   obtain ⟨yb,yl,yc,rfl⟩:=sl6 hx6
   have hbb2:b < w2.heap.size:=hw2 _ _ (hrow 0 _ rfl).1
   have hb2r:Below w2.heap.size w2 wr:=hb3.trans (hI.old.mono hw3)
   obtain ⟨r0,r1,r2,r3,r4,r5,r6⟩:=b6w fun i u hu=>a7g hb2r hbb2 (hrow i u hu).2
   have hbr:Below w.heap.size w wr:=hbb.trans (hb2r.mono hbb.size)
   have hgr':=P8 hg hbr
   have hrec:=ih x hmem
   unfold b3v at hrec
   obtain ⟨base,cap,rfl⟩:=hI.shape
   have hcntk:=hcnt k
   have hw2r:S'.within wr:=J9 hw2 hb2r
   have hx6r:=M3 hw2 hx6 hb2r
   have hlvr:Rd S' o8 wr lv (dV (.sl 2 (L.map pg))):=(M3 hwi hlv hbr).ext ⟨hgr.1,fun _ _ _=>rfl,fun _ _ h=>h⟩
   go_wp2_with (first
    | (go_at_call 40;refine (hrec _ S' _ (.slice yb yl yc) (wd - 1) (X6 hgr' ((Below.refl _ _).alloc (Nat.le_refl _) _)) (J9 hw2r ((Below.refl _ _).alloc (Nat.le_refl _) _)) (M3 hw2r hlvr ((Below.refl _ _).alloc (Nat.le_refl _) _)) (M3 hw2r hx6r ((Below.refl _ _).alloc (Nat.le_refl _) _)) (hsz x hmem) oM).mono ?_;rintro e w5 ⟨pv,rfl,⟨pb,pcap,rfl,hpc,hplo,hplt,hpcell⟩,hb5⟩))
   have hI5:LI w3.heap.size w3 _ _ w5:=hI.quiet (((Below.refl _ wr).alloc (Nat.le_refl _) _).trans (F5 hb5 (by simp)))
   go_loopw [14,65] (fun v j wq=>∃ jn:Nat,jn≤(C6 L cur x (wd - 1)).length∧j=.int .i64 jn∧LI w3.heap.size w3 (J8 (((l.take k).flatMap fun x=>C6 L cur x (wd - 1)) ++ (C6 L cur x (wd - 1)).take jn)) v wq∧LR pb (C6 L cur x (wd - 1)) v wq)
    (fun _ j _=>(C6 L cur x (wd - 1)).length - (intOf j).toNat)
   case atStart=>exact ⟨0,Nat.zero_le _,rfl,by simpa using hI5,⟨fun t s h=>hpcell t s h,fun e=>by have:=(hI.own.lt pb e).2;simp at hplo;omega,hplt⟩⟩
   case round =>
    obtain ⟨jn,hjn,rfl,hJ,hR⟩:=hrel
    by_cases hjl:jn < (C6 L cur x (wd - 1)).length
    ·obtain ⟨s,hs⟩:∃ s,(C6 L cur x (wd - 1))[jn]?=some s:=⟨_,List.getElem?_eq_getElem hjl⟩
     have hcs:=hR.cell jn s hs
     have hsl:=hchr x hmem s (List.mem_of_getElem? hs)
     have hact:=hcnt (k+1)
     have hbl:=hJ.lt
     have hstep:=fun {o1:Obj} {y:i6} {w1:World} {v':Value}=>hJ.step (o1:=o1) (x:=y) (w1:=w1) (v':=v') hR
     have hnext:J8 (((l.take k).flatMap fun x=>C6 L cur x (wd - 1)) ++ (C6 L cur x (wd - 1)).take (jn+1))=J8 (((l.take k).flatMap fun x=>C6 L cur x (wd - 1)) ++ (C6 L cur x (wd - 1)).take jn) ++ [(if ((l.take k).flatMap fun x=>C6 L cur x (wd - 1)) ++ (C6 L cur x (wd - 1)).take jn=[] then (40:UInt8) else 32) :: s]:=by
      rw [List.take_add_one,hs,← List.append_assoc];exact d7r _ _
     rw [a14,List.take_add_one,hx,List.flatMap_append,List.length_append] at hact
     simp only [Option.toList_some,List.flatMap_cons,List.flatMap_nil,List.append_nil] at hact
     have hjb:jn < 1000000:=oM
     have hlen:(J8 (((l.take k).flatMap fun x=>C6 L cur x (wd - 1)) ++ (C6 L cur x (wd - 1)).take jn)).length < 1000000:=by
      rw [a14,List.length_append,List.length_take]
      omega
     clear hact
     generalize hA:(((l.take k).flatMap fun x=>C6 L cur x (wd - 1)) ++ (C6 L cur x (wd - 1)).take jn)=A at hJ hnext hlen hstep
     obtain ⟨base2,cap2,rfl⟩:=hJ.shape
     have hown:=hJ.own
     generalize hn:(J8 A).length=n at hown hlen ⊢
     have zs:1+(⟨s.toArray⟩:ByteArray).size≤9223372036854775807:=by show 1+s.length≤_;omega
     by_cases hnil:A=[]
     ·have hn0:n=0:=by rw [← hn,a14,hnil];rfl
      subst hn0
      rw [if_pos hnil] at hnext
      go_wp2_with (at_builtin;refine wpList_append_own_at _ rfl (.tmp 72) (.tmp 76) 40 rfl w3.heap.size 9 i0 (.string ⟨#[]⟩) 1 16 Tryz.underlying40 hi0 hz0 hz1 hz2 rfl dE _ _ _ rfl (hown.alloc _) ⟨wr.heap.size,0,none⟩ 1 1 [_] rfl rfl (cell_one_new _ _ _) ?c2 ?c3 ?c4 ?c5 ?_)
      case c2=>intro u hu;simp at hu;subst hu;rfl
      case c3=>unfold maxLen;omega
      case c4=>omega
      case c5=>simp;omega
      ·intro v' w1 hown' hgrow _ hat
       rw [d5x] at hown'
       have R:=hstep (y:=40 :: s) (v':=v') (w1:=w1) (o1:=_) (by rw [hn,hnil];exact hown') (by rw [hn];exact hgrow) (by rw [hn];exact hat.imp id fun e=>by rw [e];simp)
       clear hstep hown' hgrow hat hown
       go_wp2
       go_roundw
       case rel=>exact ⟨jn+1,oM,by go_num,by rw [hnext];exact R.1,R.2⟩
       case measure=>simp [intOf];omega
     ·have hn0:0 < n:=by rw [← hn,a14];exact List.length_pos_iff.2 hnil
      rw [if_neg hnil] at hnext
      have hn1:¬(n:Int)=0:=oM
      go_wp2_with (at_builtin;refine wpList_append_own_at _ rfl (.tmp 72) (.tmp 76) 40 rfl w3.heap.size 9 i0 (.string ⟨#[]⟩) 1 16 Tryz.underlying40 hi0 hz0 hz1 hz2 rfl dE _ _ _ rfl (hown.alloc _) ⟨wr.heap.size,0,none⟩ 1 1 [_] rfl rfl (cell_one_new _ _ _) ?c2 ?c3 ?c4 ?c5 ?_)
      case c2=>intro u hu;simp at hu;subst hu;rfl
      case c3=>unfold maxLen;omega
      case c4=>omega
      case c5=>simp;omega
      ·intro v' w1 hown' hgrow _ hat
       rw [d5x] at hown'
       have R:=hstep (y:=32 :: s) (v':=v') (w1:=w1) (o1:=_) (by rw [hn];exact hown') (by rw [hn];exact hgrow) (by rw [hn];exact hat.imp id fun e=>by rw [e];simp)
       clear hstep hown' hgrow hat hown
       go_wp2
       go_roundw
       case rel=>exact ⟨jn+1,oM,by go_num,by rw [hnext];exact R.1,R.2⟩
       case measure=>simp [intOf];omega
    ·have hje:jn=(C6 L cur x (wd - 1)).length:=oM
     subst hje
     rw [List.take_length] at hJ
     have hnext:((l.take k).flatMap fun x=>C6 L cur x (wd - 1)) ++ C6 L cur x (wd - 1)=(l.take (k+1)).flatMap fun x=>C6 L cur x (wd - 1):=by
      rw [List.take_add_one,hx,List.flatMap_append];simp
     rw [hnext] at hJ
     clear hnext
     go_wp2
     go_roundw
     case rel=>exact ⟨k+1,oM,by go_num,hJ⟩
     case measure=>simp [intOf];omega
  ·have hkl:k=l.length:=oM
   subst hkl
   rw [List.take_length] at hI
   have hmem:∀ y ∈ J8 (l.flatMap fun x=>C6 L cur x (wd - 1)),y.length < 2000000000:=fun y hy=>by
    obtain ⟨s,hs,e⟩:=d7g hy
    obtain ⟨x,hx,hs⟩:=List.mem_flatMap.1 hs
    have:=hchr x hx s hs
    omega
   have hne:J8 (l.flatMap fun x=>C6 L cur x (wd - 1)) ≠ []:=b6k fun e=>by
    obtain ⟨x,hx⟩:∃ x,x ∈ l:=by
     cases l with
     | nil=>simp at hl2
     | cons x r=>exact ⟨x,by simp⟩
    exact f1e L cur x (wd - 1) (List.flatMap_eq_nil_iff.1 e x hx)
   generalize hA:J8 (l.flatMap fun x=>C6 L cur x (wd - 1))=A at hI hmem hne
   obtain ⟨a',y,rfl⟩:∃ a' y,A=a' ++ [y]:=⟨_,_,(List.dropLast_concat_getLast hne).symm⟩
   have hyl:=hmem y (by simp)
   have hal:=hcnt l.length
   rw [List.take_length,hA,List.length_append] at hal
   simp only [List.length_cons,List.length_nil] at hal
   obtain ⟨g,cap,rfl,hcy,hfz,hcap,hend⟩:=hI.last
   have zs:(⟨y.toArray⟩:ByteArray).size+1≤9223372036854775807:=by show y.length+1≤_;omega
   go_wp2_with fail
   go_ret
   rw [hA,b7b]
   rw [e53]
   exact ⟨_,rfl,Y8.lower (hend (y ++ [41])).1 (Nat.le_trans hbb.size hw3),hbc.trans ((hend (y ++ [41])).2.mono hbc.size)⟩
open Classical in
theorem d65 (L:List Pk) (cur:i6) (vL:V) (hL:H7 L) (hvL:RV (.sl 2 (L.map pg)) vL):∀ (n:Nat) (o:O),o.size≤n→o.size≤3000→okP o→a0d o→b3v 40 L cur o:=by
 intro n
 induction n with
 | zero=>intro o h;have:=O.size_pos o;omega
 | succ n ih =>
 intro o hn h3 hok hq w S lv c6 wd hg hwi hlv hc6 hlo hhi
 have hT:=(b1e (L:=L) (cur:=cur) hok).1
 have ht:∀ w1,Below w.heap.size w w1→Calls Tryz.prog 26 #[lv,.string ⟨cur.toArray⟩,.agg (K9 o c6)] w1 fun e w'=>e=.returned (.string ⟨(A4 L cur o).toArray⟩)∧Below w1.heap.size w1 w':=fun w1 k=>c8n L cur hL vL hvL o.size o (Nat.le_refl _) h3 hok hq w1 S lv c6 (P8 hg k) (J9 hwi k) (M3 hwi hlv k) (M3 hwi hc6 k)
 have hit:=fun w1 (k:Below w.heap.size w w1)=>d25 d6y (S:=S) (o:=o) (c6:=c6) (w:=w1) oM hq (P8 hg k) (J9 hwi k) (M3 hwi hc6 k)
 have hsh:=fun w1 (k:Below w.heap.size w w1)=>b4s d62 (S:=S) (o:=o) (c6:=c6) (w:=w1) oM hq (P8 hg k) (J9 hwi k) (M3 hwi hc6 k)
 by_cases hone:((A4 L cur o).length:Int)≤wd∨w9 o=none∨(∃ l,w9 o=some l∧l.length < 2)∨D7 o ≠ none
 ·rw [e62 hone]
  refine c9j lv c6 ⟨cur.toArray⟩ o wd w (A4 L cur o) (w9 o).isSome (D7 o).isSome ((w9 o).elim 0 List.length) oM ?_ ⟨oM,hhi⟩ ?_ ht ?_ ?_
  ·cases hi:w9 o with
   | none=>exact (by decide:(0:Nat) < 1000000000)
   | some l=>have:=a85 hi;show l.length < _;omega
  ·rcases hone with h | h | ⟨l,h,h2⟩ | h
   ·exact .inl h
   ·rw [h];exact .inr (.inl rfl)
   ·rw [h];exact .inr (.inr (.inl h2))
   ·cases hs:D7 o with
    | none=>exact absurd hs h
    | some x=>exact .inr (.inr (.inr rfl))
  ·intro w1 k
   refine (hit w1 k).mono ?_
   rintro e w' ⟨hb,S',_,_,base,cap,he⟩
   cases hi:w9 o with
   | none=>rw [hi] at he;exact ⟨hb,base,cap,he⟩
   | some l=>rw [hi] at he;exact ⟨hb,base,cap,he.1⟩
  ·intro w1 k
   refine (hsh w1 k).mono ?_
   rintro e w' ⟨hb,S',_,_,x6,he⟩
   cases hs:D7 o with
   | none =>
    rw [hs] at he
    obtain ⟨xb,xl,xc,rfl⟩:=sl6 he.2
    exact ⟨hb,_,xb,xl,xc,he.1⟩
   | some x =>
    rw [hs] at he
    obtain ⟨xb,xl,xc,rfl⟩:=sl6 he.2
    exact ⟨hb,_,xb,xl,xc,he.1⟩
 ·obtain ⟨l,hi,hl2,hsn,hlong⟩:∃ l,w9 o=some l∧¬l.length < 2∧D7 o=none∧¬((A4 L cur o).length:Int)≤wd:=by
   cases hi:w9 o with
   | none=>exact absurd (.inr (.inl hi)) hone
   | some l=>exact ⟨l,rfl,fun h=>hone (.inr (.inr (.inl ⟨l,hi,h⟩))),Classical.byContradiction fun h=>hone (.inr (.inr (.inr h))),fun h=>hone (.inl h)⟩
  have hll:=a85 hi
  have hcb:=(a8e (L:=L) (cur:=cur) (w:=wd) hok h3).1
  rw [e0o hlong hi hl2 hsn] at hcb ⊢
  rw [b2c,a14] at hcb
  refine c9k L cur o l lv c6 wd w S (A4 L cur o) oM ⟨oM,oM⟩ oM oM oM (fun x hx=>by have:=M6 hi x hx;omega) (fun k=>?_) (fun x hx s hs=>?_) hg hwi hlv (fun x hx=>ih x (by have:=M6 hi x hx;omega) (by have:=M6 hi x hx;omega) (b2y hi hok x hx) (b7v hi hq x hx)) ht ?_ ?_
  ·have e:(l.flatMap fun x=>C6 L cur x (wd - 1))=((l.take k).flatMap fun x=>C6 L cur x (wd - 1)) ++ ((l.drop k).flatMap fun x=>C6 L cur x (wd - 1)):=by rw [← List.flatMap_append,List.take_append_drop]
   rw [e,List.length_append] at hcb
   rw [a14]
   omega
  ·have h1:=c6z hs
   have h2:=(a8e (L:=L) (cur:=cur) (o:=x) (w:=wd - 1) (b2y hi hok x hx) (by have:=M6 hi x hx;omega)).2
   omega
  ·intro w1 k
   refine (hit w1 k).mono ?_
   rintro e w' ⟨hb,S',h1,h2,base,cap,he⟩
   rw [hi] at he
   obtain ⟨b,oo,rfl,h4⟩:=he.2 (by rintro rfl;simp at hl2)
   exact ⟨hb,S',h1,h2,b,oo,cap,he.1,h4⟩
  ·intro w1 k
   refine (hsh w1 k).mono ?_
   rintro e w' ⟨hb,S',_,_,x6,he⟩
   rw [hsn] at he
   obtain ⟨xb,xl,xc,rfl⟩:=sl6 he.2
   exact ⟨hb,_,xb,xl,xc,he.1⟩
theorem e6n:k9 40 (e3f okT (-900000) lnG):=d6z Tryz.call40 fun L cur vL hL hvL o h3 hok hq=>d65 L cur vL hL hvL o.size o (Nat.le_refl _) h3 hok hq
end
end Go.Proofs.YtdldcfllnohkeaaGreatDoor
namespace Go.Proofs.YtdldcfllnohkeaaGreatDoor
open Go.Abs LQ
set_option maxRecDepth 100000
set_option maxHeartbeats 8000000
noncomputable section
theorem f7f {n:Int} (h:(Lit.int .i64 n).wf=true):-9223372036854775808≤n∧n≤9223372036854775807:=by
 have h:(decide (IntKind.i64.min≤n) && decide (n≤IntKind.i64.max))=true:=h
 rw [Bool.and_eq_true,decide_eq_true_eq,decide_eq_true_eq,show IntKind.i64.min=-9223372036854775808 by decide,show IntKind.i64.max=9223372036854775807 by decide] at h
 exact h
theorem d1q {L:List Pk} {cur:i6} {o:O} {w:Int} (h:D2 L cur=none∨C9 L o=false):c0r L cur o w=.t [.sl 1 [],.c (.i .i64 13)]:=by
 have e:D0 L cur o=([],13):=by unfold D0;rw [if_pos h]
 unfold c0r;rw [e];rfl
theorem c6t {L:List Pk} {cur:i6} {o:O} {w v:Int} (h:¬(D2 L cur=none∨C9 L o=false)) (hv:v=w∨w≤0∧v≤0):c0r L cur o w=.t [.sl 1 ((C6 L cur o v).map sr),.c (.i .i64 0)]:=by
 have e:D0 L cur o=(A4 L cur o,0):=by unfold D0;rw [if_neg h]
 have e2:C6 L cur o (max w 0)=C6 L cur o v:=by
  rcases hv with rfl | ⟨h1,h2⟩
  ·by_cases h0:v≤0
   ·exact d1o oM h0
   ·rw [Int.max_eq_left oM]
  ·exact d1o oM h2
 unfold c0r;rw [e];simp only [if_pos];rw [e2]
theorem d06 {L:List Pk} {cur:i6} {o:O} (h:¬(D2 L cur=none∨C9 L o=false)):C9 L o=true:=by
 cases hx:C9 L o with
 | true=>rfl
 | false=>exact absurd (.inr hx) h
theorem e6o:k9 13 (e3f okV (-9223372036854775808) c0r):=n9 (fun fn h=>f2g h) [(25,_),(40,_)] (.cons d6u (.cons e6n .nil)) fun U fn hfn ⟨(L,cur,o,w),hL,ho,hlo,hhi⟩ vs bs hv hb=>by
 have hck:=hfn 25 _ rfl
 have hln:=hfn 40 _ rfl
 have hL:H7 L:=hL
 have ho:okV o:=ho
 have hlo:-9223372036854775808≤w:=hlo
 have hhi:w≤9223372036854775807:=hhi
 have hv:l7 [.sl 2 (L.map pg),.c (.s cur),.a o.g,.c (.i .i64 w)] vs:=hv
 have hb:RBs [] bs:=hb
 show j5 U _ fun v bs'=>l8 (.ret (c0r L cur o w)) v∧RBs [] bs'
 unfold r13
 (refine Zy ?_;intros)
 refine M5 aS o.g_len fun q0 hq0=>?_
 (refine Zy ?_;intros)
 by_cases hbad:D2 L cur=none∨C9 L o=false
 ·have e:D0 L cur o=([],13):=by unfold D0;rw [if_pos hbad]
  rw [d1q hbad]
  refine j4 hck ⟨(L,cur,o),hL,ho⟩ (r:=.c (.i .i64 13)) (by show r7.ret (.c (.i .i64 (D0 L cur o).2))=_;rw [e]) (.k (.sl _ _ _ _ _ (by simp) aS) (.k (.s _ _ _ rfl rfl) (.k (oV aS) .nil))) .nil fun _ _ _ _=>?_
  (refine Zz ?_;intros)
  exact j9 ⟨.ret _ _ (.t _ _ (.k (.sl0 _ _ _) (.k (.i _ _) .nil))),.nil⟩
 ·have e:D0 L cur o=(A4 L cur o,0):=by unfold D0;rw [if_neg hbad]
  have hok:=b8d (c4k ho (d06 hbad))
  refine j4 hck ⟨(L,cur,o),hL,ho⟩ (r:=.c (.i .i64 0)) (by show r7.ret (.c (.i .i64 (D0 L cur o).2))=_;rw [e]) (.k (.sl _ _ _ _ _ (by simp) aS) (.k (.s _ _ _ rfl rfl) (.k (oV aS) .nil))) .nil fun _ _ _ _=>?_
  (refine Zz ?_;intros)
  refine d8c a5l (fun h0=>?_) (fun h0=>?_)
  ·rw [c6t hbad (v:=0) (.inr ⟨oM,oM⟩)]
   (refine Zz ?_;intros)
   refine j4 hln ⟨(L,cur,o,0),hL,⟨hok,ho.size⟩,by show (-900000:Int)≤0;decide,by show (0:Int)≤9223372036854775807;decide⟩ (r:=.sl 1 ((C6 L cur o 0).map sr)) rfl (.k (.sl _ _ _ _ _ (by simp) aS) (.k (.s _ _ _ rfl rfl) (.k (oV aS) (.k (.i _ _) .nil)))) .nil fun _ _ _ _=>?_
   (refine Zz ?_;intros)
   exact j9 ⟨.ret _ _ (.t _ _ (.k (.sl _ _ _ _ _ (by simp) aS) (.k (.i _ _) .nil))),.nil⟩
  ·rw [c6t hbad (v:=w) (.inl rfl)]
   (refine Zz ?_;intros)
   refine j4 hln ⟨(L,cur,o,w),hL,⟨hok,ho.size⟩,by show -900000≤w;omega,hhi⟩ (r:=.sl 1 ((C6 L cur o w).map sr)) rfl (.k (.sl _ _ _ _ _ (by simp) aS) (.k (.s _ _ _ rfl rfl) (.k (oV aS) (.k (.i _ _) .nil)))) .nil fun _ _ _ _=>?_
   (refine Zz ?_;intros)
   exact j9 ⟨.ret _ _ (.t _ _ (.k (.sl _ _ _ _ _ (by simp) aS) (.k (.i _ _) .nil))),.nil⟩
end
end Go.Proofs.YtdldcfllnohkeaaGreatDoor
