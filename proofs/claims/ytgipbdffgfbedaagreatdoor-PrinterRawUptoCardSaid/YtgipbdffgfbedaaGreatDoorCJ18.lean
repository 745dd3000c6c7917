/- number.integer.String: what is known. -/
import Derived.Test.YtgipbdffgfbedaaGreatDoorCJ17
set_option linter.all false
namespace Go.Proofs.YtgipbdffgfbedaaGreatDoor
open Go.Abs LQ Go.RowKit Go.Shelf
set_option maxRecDepth 100000
set_option maxHeartbeats 4000000
noncomputable section
theorem b8g (f:Nat→Nat):∀ k,a0c f (k+1)=a0c (fun i=>f (i+1)) k ++ (List.replicate (9 - (Lib.itoa (f 0)).length) 48 ++ Lib.itoa (f 0))
 | 0=>by simp [a0c]
 | k+1=>by
  rw [a0c,b8g f k]
  conv=>rhs;rw [a0c]
  simp only [List.append_assoc]
theorem d9i (n:Nat):n ≠ 0→Lib.itoa (((k9 n).getD ((k9 n).length - 1) 0:Nat):Int) ++ a0c (fun i=>(k9 n).getD i 0) ((k9 n).length - 1)=f7 n:=by
 induction n using Nat.strongRecOn with
 | _ n ih =>
  intro h
  have hd:n % B9 < 1000000000:=Nat.mod_lt _ dE
  have hn:n % B9+B9 * (n / B9)=n:=by unfold B9;omega
  by_cases hm:n / B9=0
  ·rw [X1 h,hm,F7]
   rw [hm] at hn
   simp only [List.length_cons,List.length_nil,Nat.zero_add,Nat.sub_self,List.getD_cons_zero,a0c,List.append_nil]
   rw [itoa_showNat]
   rw [Nat.mul_zero,Nat.add_zero] at hn
   rw [hn]
  ·have hi:=ih (n / B9) (Nat.div_lt_self (Nat.pos_of_ne_zero h) dE) hm
   have hl:∃ k,(k9 (n / B9)).length=k+1:=by rw [X1 hm];exact ⟨_,rfl⟩
   obtain ⟨k,hk⟩:=hl
   rw [hk,Nat.add_sub_cancel] at hi
   rw [X1 h,List.length_cons,hk,Nat.add_sub_cancel,b8g]
   simp only [List.getD_cons_succ,List.getD_cons_zero]
   rw [← List.append_assoc,hi,itoa_showNat]
   have:=b9p hm hd
   rw [hn] at this
   exact this.symm
theorem d4s (neg:Bool) (n:Nat):a0b neg (fun i=>(k9 n).getD i 0) (k9 n).length=K0 neg n:=by
 unfold a0b K0
 by_cases h:n=0
 ·subst h;rw [F7];rfl
 ·have h0:¬(k9 n).length=0:=by rw [X1 h];simp
  rw [if_neg h0,if_neg h,d9i n h]
  cases neg <;> simp
theorem c5o:∀ l:List Nat,dRs (l.map lg)=l.map fun d:Nat=>D.int .u32 (d:Int)
 | []=>by simp [dRs]
 | d :: l=>by rw [List.map_cons,c01,c5o l];simp [lg,dG]
theorem c2y {S:k8} {M:Mp} {w:World}:∀ {l:List Nat} {vs:List Value},p9 S M w vs (l.map fun d:Nat=>D.int .u32 (d:Int))→vs=l.map fun d:Nat=>Value.int .u32 (d:Int)
 | [],_,h=>by cases h;rfl
 | _ :: _,_,h=>by cases h with | cons _ _ _ _ h1 h2=>cases h1;rw [c2y h2];rfl
theorem kIS:j4 106 a1g:=fun ⟨(neg,n),hn⟩ vs bs hv hb=>by
 change j6 [.a (a08 neg n)] vs at hv
 change (k9 n).length < 4800000 at hn
 cases hb
 refine ⟨.ret (.str (K0 neg n).length (j9 (K0 neg n))),[],fun hok=>?_,.ret _ _ (.s _ _ _ rfl rfl),.nil⟩
 rw [hv.map_toD]
 show CM X0.P X0.G _ _ [] (.ret (.str (n5 (K0 neg n).length (j9 (K0 neg n))))) []
 rw [z7]
 refine K7 (d:=.str (K0 neg n)) Tryz.call106 fun w S M us hg hwi hr=>?_
 simp only [List.map_cons,List.map_nil,dV,a08,dG,u1,c5o,List.length_map] at hr
 cases hr with
 | cons _ _ _ _ r1 r2 =>
 cases r2
 cases r1 with
 | agg ws _ r1 =>
 obtain ⟨ws⟩:=ws
 cases r1 with
 | cons _ _ _ _ q1 q2 =>
 cases q1
 cases q2 with
 | cons _ _ _ _ q1 q3 =>
 cases q3
 cases q1 with
 | slice base len cap vs ds c a r k l z =>
 have hvs:=c2y r
 subst hvs
 refine (b4h neg base (k9 n).length cap (fun i=>(k9 n).getD i 0) w (fun i=>?_) hn hg fun i hi=>?_).mono ?_
 ·by_cases h:i < (k9 n).length
  ·have:=M3 n ((k9 n)[i]) (List.getElem_mem h)
   simp only [List.getD,List.getElem?_eq_getElem h,Option.getD_some]
   exact this
  ·simp [List.getD,List.getElem?_eq_none (Nat.le_of_not_lt h)]
 ·rcases a with a | ⟨b,o,hb,a⟩
  ·rw [List.map_eq_nil_iff] at a
   rw [a] at hi;exact absurd hi (Nat.not_lt_zero _)
  ·have hx:((k9 n).map fun d:Nat=>Value.int .u32 (d:Int))[i]?=some (.int .u32 (((k9 n).getD i 0:Nat):Int)):=by
    simp [List.getD,List.getElem?_eq_getElem hi]
   obtain ⟨h1,h2⟩:=a i _ hx
   have h3:=hwi _ _ h1
   exact ⟨b,o,hb,h3,h2⟩
 ·rintro e w' ⟨rfl,hb⟩
  exact ⟨hb,_,S,rfl,⟨fun _ _ h=>h,fun _ _ h=>.inl h⟩,S3 hwi hb,.str _ _ (by rw [d4s]),Q0 (fun _ _ _ h=>by cases h) (fun _ h=>by cases h)⟩
set_option maxHeartbeats 1000000
theorem _root_.Go.Abs.RB.den {gs:List G} {b:Bx} (h:RB gs b):E0 b=gs.map dG:=by
 cases h with
 | opa q m h1 h2=>subst h1;simp only [E0];exact h2.den
 | cells cs h =>
  simp only [E0]
  rw [h.map_toD,List.map_map]
  exact List.map_congr_left fun g _=>by simp only [Function.comp,dV]
theorem _root_.Go.Abs.RBs.den {gs:List (List G)} {bs:List Bx} (h:RBs gs bs):bs.map E0=gs.map fun g=>g.map dG:=by
 induction h with
 | nil=>rfl
 | cons g gs b bs h1 _ ih=>rw [List.map_cons,List.map_cons,h1.den,ih]
theorem d0o (s:f6) (i c:Nat) (hi:i < s.length) (hs:s.length < 1920000) (hc:c=34∨c=124) (r:V2) (hs':List D)
  (hr:match H1 s c (i+1) [] with
   | .ok (l,j)=>r=.ret (.str (E2 l))∧hs'=[.str s,.int .i64 j]
   | .error (e,p)=>r=.pan (.iface 117 (.agg [.int .i64 e,.int .i64 p]))) :
  CM Tryz.prog GG 116 [.ptr 0 0,.int .u8 c] [[.str s,.int .i64 i]] r [hs']:=by
 refine ⟨Tryz.call116,fun w S M vs hg hM hwi hh hvs=>?_⟩
 obtain ⟨b,k,cs,T,hM0,hb,hcs,hnS⟩:=hh.box 0 _ rfl
 cases hvs with
 | cons _ _ _ _ h1 hvs =>
 cases hvs with
 | cons _ _ _ _ h2 hvs =>
 cases hvs
 cases h2
 cases h1 with
 | ptr _ _ b' c' hM' =>
 rw [hM0] at hM'
 injection hM' with hM'
 injection hM' with e1 e2
 subst e1 e2
 obtain ⟨cs⟩:=cs
 cases hcs with
 | cons _ _ _ _ q1 hcs =>
 cases hcs with
 | cons _ _ _ _ q2 hcs =>
 cases hcs
 cases q2
 cases q1 with
 | str t _ ht =>
 have ht:t=⟨s.toArray⟩:=by subst ht;rfl
 subst ht
 refine (d3u b T s i c w hb hi hs hc).mono ?_
 rintro e w' ⟨hk,he⟩
 refine ⟨⟨hk.os,hk.tape,hk.output,hk.size,fun k' hlt hne=>hk.old k' hlt fun h=>hne 0 k (h ▸ hM0)⟩,S,⟨fun _ _ h=>h,fun _ _ h=>.inl h⟩,fun b' o h=>Nat.lt_of_lt_of_le (hwi b' o h) hk.size,?_⟩
 cases hx:H1 s c (i+1) [] with
 | error ep =>
  obtain ⟨er,p⟩:=ep
  rw [hx] at hr he
  subst hr
  exact ⟨_,he,.iface _ _ _ (.agg _ _ (.k (.int _ _) (.k (.int _ _) .nil)))⟩
 | ok lj =>
  obtain ⟨l,j⟩:=lj
  rw [hx] at hr he
  obtain ⟨rfl,rfl⟩:=hr
  obtain ⟨rfl,hb'⟩:=he
  refine ⟨⟨fun id x hid=>?_,fun id hid=>hh.out id hid,fun i' j' x y b' k' l' hi' hj' _ _ _ _=>?_⟩,_,rfl,.str _ _ rfl,Q0 (fun _ _ _ h=>by cases h) (fun _ h=>by cases h)⟩
  ·match id,hid with
   | 0,hid =>
    simp at hid
    subst hid
    exact ⟨b,k,_,T,hM0,hb',.k (.str _ _ rfl) (.k (.int _ _) .nil),hnS⟩
   | id+1,hid=>simp at hid
  ·have e1:i'=0:=by
    have:=(List.getElem?_eq_some_iff.1 hi').1
    simp at this;exact this
   have e2:j'=0:=by
    have:=(List.getElem?_eq_some_iff.1 hj').1
    simp at this;exact this
   rw [e1,e2]
theorem f4b:j4 116 c0j:=fun p vs bs hv hb=>by
 obtain ⟨⟨⟨⟨s,i⟩,hsi⟩,c⟩,hc,hi,hs⟩:=p
 change c=34∨c=124 at hc
 change i < s.length at hi
 change s.length < 1920000 at hs
 change j6 [.p 0 0,.c (.i .u8 c)] vs at hv
 change RBs [G6 s i] bs at hb
 show ∃ v bs',c0n 116 vs bs v bs'∧j7 (a9w (R2 s i c)) v∧RBs [G6 s (c08 i (R2 s i c))] bs'
 have hd:vs.map toD=[.ptr 0 0,.int .u8 c]:=by rw [hv.map_toD];simp [dV,dG]
 have hbd:bs.map E0=[[.str s,.int .i64 i]]:=by rw [hb.den];simp [G6,dG]
 obtain ⟨n,rfl⟩:∃ n:Nat,c=n:=⟨c.toNat,oM⟩
 have hn:n=34∨n=124:=oM
 unfold R2
 cases hx:H1 s n (i+1) [] with
 | ok lj =>
  obtain ⟨l,j⟩:=lj
  refine ⟨.ret (.str (E2 l).length (j9 (E2 l))),[.cells [.str s.length (j9 s),.int .i64 j]],fun _=>?_,.ret _ _ (.s _ _ _ rfl rfl),.k (scB rfl) .nil⟩
  rw [hd,hbd]
  refine d0o s i n hi hs hn _ _ ?_
  rw [hx]
  refine ⟨?_,?_⟩
  ·show V2.ret (.str (n5 _ _))=_
   rw [z7]
  ·show [D.str (n5 _ _),_]=_
   rw [z7];rfl
 | error ep =>
  obtain ⟨e,p⟩:=ep
  refine ⟨.pan (.iface 117 (.agg [.int .i64 e,.int .i64 p])),[.cells [.str s.length (j9 s),.int .i64 i]],fun _=>?_,.pan _ _ (.fl _ _ _ _ (.k (.i _ _) (.k (.i _ _) .nil))),.k (scB rfl) .nil⟩
  rw [hd,hbd]
  refine d0o s i n hi hs hn _ _ ?_
  rw [hx]
  rfl
end
end Go.Proofs.YtgipbdffgfbedaaGreatDoor
