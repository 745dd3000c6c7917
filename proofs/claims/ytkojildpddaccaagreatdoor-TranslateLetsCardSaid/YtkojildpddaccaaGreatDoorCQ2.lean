/- What the operations say, run: second part. -/
import Derived.Test.YtkojildpddaccaaGreatDoorCQ1
set_option linter.all false
namespace Go.Abs
noncomputable section

theorem b0g:∀ (vs ds:List D) (off:Nat),off+vs.length≤ds.length→M9 ds off vs=ds.take off ++ vs ++ ds.drop (off+vs.length)
 | [],ds,off,h=>by simp [M9]
 | v :: vs,ds,off,h=>by
  simp only [List.length_cons] at h
  simp only [M9]
  rw [b0g vs _ _ (by simp;omega)]
  have e1:(ds.set off v).take (off+1)=ds.take off ++ [v]:=by
   apply List.ext_getElem?
   intro i
   rcases Nat.lt_or_ge i off with hi | hi
   ·rw [List.getElem?_take_of_lt oM,List.getElem?_set_ne oM,List.getElem?_append_left (by simp;omega),List.getElem?_take_of_lt hi]
   ·rcases Nat.eq_or_lt_of_le hi with hi | hi
    ·subst hi
     rw [List.getElem?_take_of_lt oM,List.getElem?_set_self oM,List.getElem?_append_right (by simp;omega)]
     simp [Nat.min_eq_left (show off≤ds.length by omega)]
    ·rw [List.getElem?_eq_none (by simp;omega),List.getElem?_eq_none (by simp;omega)]
  have e2:(ds.set off v).drop (off+1+vs.length)=ds.drop (off+1+vs.length):=by
   apply List.ext_getElem?
   intro i
   rw [List.getElem?_drop,List.getElem?_drop,List.getElem?_set_ne oM]
  rw [e1,e2]
  simp only [List.append_assoc,List.cons_append,List.nil_append,List.length_cons]
  rw [show off+1+vs.length=off+(vs.length+1) by omega]

section
variable {X:Pr} {s:D1} {nid:Nat} {r:R}

theorem b9u {n:Nat}:∀ {ps:List (Nat × V)} {i:Nat} {ds:List D} {qs:List Q},a3o n i ps=some qs→ds.length=(i+ps.length) * n →
  ∃ out,a2z (fun i=>some (i * n,n)) ds (ps.map fun p=>(p.1,toD p.2))=some out∧out.map (renI a0k)=(ds.take (i * n)).map (renI a0k) ++ qs.flatMap fun q=>A6 (den q) 0 n
 | [],i,ds,qs,h,hl=>by
  simp only [a3o] at h
  injection h with h
  subst h
  refine ⟨ds,rfl,?_⟩
  simp only [List.flatMap_nil,List.append_nil]
  rw [List.take_of_length_le (by rw [hl];simp)]
 | (j,v) :: ps,i,ds,qs,h,hl=>by
  simp only [a3o] at h
  split at h
  ·rename_i q qs' hj hq hqs
   injection h with h
   subst h
   have:=Nat.eq_of_beq_eq_true hj
   subst this
   obtain ⟨h1,h2,h3⟩:=d03 hq
   simp only [List.length_cons] at hl
   have hle:i * n+n≤ds.length:=by
    rw [hl]
    have:(i+1) * n≤(i+(ps.length+1)) * n:=Nat.mul_le_mul_right n oM
    rw [Nat.succ_mul] at this
    exact this
   have hw:M9 ds (i * n) (toD v).cells=ds.take (i * n) ++ (toD v).cells ++ ds.drop (i * n+n):=by
    rw [b0g _ _ _ (by rw [h2];exact hle),h2]
   have hlen:(M9 ds (i * n) (toD v).cells).length=(i+1+ps.length) * n:=by
    rw [hw]
    simp only [List.length_append,List.length_take,List.length_drop,h2]
    have:(i+1+ps.length) * n=ds.length:=by rw [hl];congr 1;omega
    omega
   obtain ⟨out,ho,hm⟩:=b9u hqs hlen
   refine ⟨out,?_,?_⟩
   ·simp only [List.map_cons,a2z,h1,h2]
    have e1:Nat.ble (i * n+n) ds.length=true:=by rw [Nat.ble_eq];exact hle
    rw [e1]
    simp only [beq_self_eq_true,Bool.and_self,cond_true]
    exact ho
   ·rw [hm,hw,Nat.succ_mul]
    have e2:(ds.take (i * n) ++ (toD v).cells ++ ds.drop (i * n+n)).take (i * n+n)=ds.take (i * n) ++ (toD v).cells :=
     List.take_left' (by simp only [List.length_append,List.length_take,h2];omega)
    rw [e2,List.map_append,h3,List.flatMap_cons,List.append_assoc]
  ·cases h
theorem b0i {n:Nat}:∀ {ps:List (Nat × V)} {i:Nat} {qs:List Q},a3o n i ps=some qs→qs.length=ps.length
 | [],i,qs,h=>by simp only [a3o] at h;injection h with h;subst h;rfl
 | (j,v) :: ps,i,qs,h=>by
  simp only [a3o] at h
  split at h
  ·rename_i q qs' hj hq hqs
   injection h with h
   subst h
   simp [b0i hqs]
  ·cases h
theorem d5u:∀ (qs:List Q) (i:Nat) (t:s6 Q),i+qs.length+2≤2 ^ E0→(∀ k,k < i→J1 (C3 (mkT qs i t)) k=J1 (C3 t) k)∧∀ k q,qs[k]?=some q→J1 (C3 (mkT qs i t)) (i+k)=den q
 | [],i,t,_=>⟨fun _ _=>rfl,fun k q h=>by simp at h⟩
 | q :: qs,i,t,hb=>by
  simp only [List.length_cons] at hb
  obtain ⟨h1,h2⟩:=d5u qs (i+1) (t.set .no q E0 i) oM
  refine ⟨fun k hk=>?_,fun k x hx=>?_⟩
  ·simp only [mkT];rw [h1 k oM,a4d _ _ _ oM]
  ·simp only [mkT]
   cases k with
   | zero =>
    simp at hx;subst hx
    show J1 (C3 (mkT qs (i+1) (s6.set Q.no q E0 t i))) i=den q
    rw [h1 i oM,b2h _ _ oM]
   | succ k =>
    simp only [List.getElem?_cons_succ] at hx
    have:=h2 k x hx
    rw [show i+1+k=i+(k+1) by omega] at this
    exact this
theorem c0n {T:s6 Den} {n:Nat}:∀ (qs:List Q) (off:Nat),(∀ k q,qs[k]?=some q→J1 T (off+k)=den q)→A8 T n off qs.length=qs.flatMap fun q=>A6 (den q) 0 n
 | [],off,h=>rfl
 | q :: qs,off,h=>by
  simp only [List.length_cons,A8,List.flatMap_cons]
  rw [c0n qs (off+1) (fun k x hx=>by have:=h (k+1) x (by simpa using hx);rw [show off+1+k=off+(k+1) by omega];exact this)]
  have:=h 0 q rfl
  rw [Nat.add_zero] at this
  rw [this]

theorem c54 (z:List D) (n:Nat):(a3e z n).length=n:=by simp [a3e]

theorem c5r {P:Program} {t:TypeId} {x y:V} {K:KV} (h:b87 CR P s nid t x y K=some r):∃ v ws rs,K v ws rs=some r∧a2i P (A0 s) nid t (toD x) (toD y)=some ⟨true,toD v,F1 ws,rs⟩:=by
 unfold b87 at h
 split at h
 ·rename_i e hu
  split at h
  ·rename_i n b z hn hb hz
   cases hg:Nat.beq z.length n && Nat.blt 0 n && a1f s nid with
   | false=>rw [hg] at h;cases h
   | true =>
    rw [hg] at h
    simp only [cond_true] at h
    simp only [Bool.and_eq_true] at hg
    obtain ⟨⟨g1,g2⟩,g3⟩:=hg
    obtain ⟨tr,off,len,c,hx,h⟩:=a1d h
    obtain ⟨t2,off2,m,_,hy,h⟩:=a1d h
    obtain ⟨h0,h⟩:=E6 h
    have h0:(band (Nat.ble ((len+m) * b) 140737488355328) (Nat.ble (len+m) 140737488355328))=true:=h0
    rw [CfN] at h
    rw [M4,Bool.and_eq_true,Nat.ble_eq,Nat.ble_eq] at h0
    obtain ⟨t',h,hold,hnew⟩:=c6z m (t:=tr) (i:=off+len) (j:=off2) h
    have hrows:A8 (C3 t') n off (len+m)=A8 (C3 tr) n off len ++ A8 (C3 t2) n off2 m:=by
     rw [b31]
     congr 1
     ·exact a92 len off off fun k hk=>hold _ oM
     ·exact a92 m (off+len) off2 fun k hk=>hnew k hk
    have hz':=a15 hz
    have hzl:Nat.beq (z.map toD).length n=true:=by rw [List.length_map];exact g1
    have hneed:(decide ((len+m) * b≤H7∧len+m≤H7∧(A8 (C3 tr) n off len).length=len * n∧(A8 (C3 t2) n off2 m).length=m * n) && (A8 (C3 t2) n off2 m).all D.one)=true:=by
     rw [c5a,Bool.and_true,decide_eq_true_iff]
     exact ⟨h0.1,h0.2,G9 _ _,G9 _ _⟩
    split at h
    ·refine ⟨_,_,_,h,?_⟩
     simp only [B5,nAdd,Nat.add_eq,a2i,hu,hx,hy,hn,hb,hz',hzl,g2,a6e g3,Bool.and_self,cond_true,hneed,toD,hrows,F1,List.map_cons,List.map_nil,D6]
    ·rename_i id
     split at h
     ·rename_i l k hbx
      obtain ⟨h1,h⟩:=E6 h
      have h1:(band (Nat.beq l len) (Nat.beq k n))=true:=h1
      rw [M4,Bool.and_eq_true] at h1
      refine ⟨_,_,_,h,?_⟩
      have hh:=U0 hbx (by simp)
      simp only [D6] at hh
      simp only [B5,nAdd,Nat.add_eq,a2i,hu,hx,hy,hn,hb,hz',hzl,g2,a6e g3,Bool.and_self,cond_true,hneed,toD,hrows,F1,List.map_cons,List.map_nil,D6,hh,h1.1,h1.2]
     ·cases h
    ·cases h
  ·cases h
 ·cases h

theorem a6x {v:V} {x:Q} (h:b86 v=some x):toD v=den x 0:=by
 unfold b86 at h
 split at h <;> first
  | (injection h with h;subst h;simp only [toD,den];rfl)
  | (injection h with h;subst h;simp only [toD])
  | cases h
theorem d1v {b:Bx} {cs:List V} (h:d1u CR b=some cs):D6 b=.cells (cs.map toD)∧b ≠ .dead:=by
 unfold d1u at h
 split at h
 ·injection h with h;subst h;exact ⟨rfl,by simp⟩
 ·rename_i x m
  injection h with h
  subst h
  refine ⟨?_,by simp⟩
  simp only [D6,K7,List.map_map]
  congr 1
  exact List.map_congr_left fun i _=>by simp only [Function.comp,toD];exact (a2f x i).symm
 ·cases h
theorem e3v {tr:s6 Q} {y:Q} {off len:Nat} (h1:off < len) (h2:off+2≤2 ^ E0):A8 (C3 (tr.set .no y E0 off)) 1 0 len=(A8 (C3 tr) 1 0 len).set off (den y 0):=by
 have key:∀ (T:s6 Den) (m o i:Nat),i < m→(A8 T 1 o m)[i]?=some (J1 T (o+i) 0):=by
  intro T m
  induction m with
  | zero=>intro o i hi;omega
  | succ m ih =>
   intro o i hi
   simp only [A8,A6,List.cons_append,List.nil_append]
   cases i with
   | zero=>rfl
   | succ i =>
    rw [List.getElem?_cons_succ,ih (o+1) i oM]
    rw [show o+1+i=o+(i+1) by omega]
 apply List.ext_getElem?
 intro i
 rcases Nat.lt_or_ge i len with hi | hi
 ·rw [key _ _ _ _ hi,Nat.zero_add]
  by_cases he:off=i
  ·subst he
   rw [List.getElem?_set_self (by rw [G9,Nat.mul_one];exact hi),b2h _ _ h2]
  ·rw [List.getElem?_set_ne he,key _ _ _ _ hi,Nat.zero_add,a4d _ _ _ (fun e=>he e.symm)]
 ·rw [List.getElem?_eq_none (by rw [G9,Nat.mul_one];exact hi),List.getElem?_eq_none (by rw [List.length_set,G9,Nat.mul_one];exact hi)]
end

section
variable {X:Pr} {s:D1} {nid:Nat} {r:R}

theorem c4q (l:List Operand):l.map (A0 s).eval=(l.map s.eval).map toD:=by
 rw [List.map_map];exact List.map_congr_left fun x _=>z8 s x

theorem d8j {t:TypeId} {parts:Array (Nat × Operand)} {K:KV} (h:R1 CR X s nid (.build t parts) K=some r):∃ v ws rs,K v ws rs=some r∧A5 X (A0 s) nid (.build t parts)=some ⟨true,toD v,F1 ws,rs⟩:=by
 simp only [R1] at h
 split at h
 ·rename_i fs z hu hz
  split at h
  ·rename_i cs hf
   cases ha:(fs.all fun f=>(szOf X.P f.type).isSome) with
   | false=>rw [ha] at h;cases h
   | true =>
    rw [ha] at h
    refine ⟨_,_,_,h,?_⟩
    have:=b57 hf
    simp only [List.map_map] at this
    have e:(parts.toList.map fun p=>(p.1,(A0 s).eval p.2))=parts.toList.map ((fun p:Nat × V=>(p.1,toD p.2)) ∘ fun p=>(p.1,s.eval p.2)) :=
     List.map_congr_left fun p _=>by simp only [Function.comp,z8]
    rw [← e] at this
    simp only [B5,A5,hu,a15 hz,this,G3,ha,toD,E4]
    rfl
  ·cases h
 ·cases h
theorem b89 {t:TypeId} {len:Nat} {parts:Array (Nat × Operand)} {K:KV} (h:R1 CR X s nid (.buildSlice t len parts) K=some r):∃ v ws rs,K v ws rs=some r∧A5 X (A0 s) nid (.buildSlice t len parts)=some ⟨true,toD v,F1 ws,rs⟩:=by
 simp only [R1] at h
 split at h
 ·rename_i e hu
  split at h
  ·rename_i n z hn hz
   split at h
   ·rename_i qs hq
    cases hg:Nat.beq qs.length len && (Nat.ble (len * n) 16777216 && Nat.ble len 16777216) with
    | false=>rw [hg] at h;cases h
    | true =>
     rw [hg] at h
     simp only [Bool.and_eq_true] at hg
     obtain ⟨g1,g2,g3⟩:=hg
     have hql:=Nat.eq_of_beq_eq_true g1
     refine ⟨_,_,_,h,?_⟩
     have hpl:=b0i hq
     simp only [List.length_map] at hpl
     obtain ⟨out,ho,hm⟩:=b9u hq (ds:=a3e (z.map toD) (len * n)) (by rw [c54,Nat.zero_add,List.length_map,← hpl,hql])
     simp only [List.map_map] at ho
     have e:(parts.toList.map fun p=>(p.1,(A0 s).eval p.2))=parts.toList.map ((fun p:Nat × V=>(p.1,toD p.2)) ∘ fun p=>(p.1,s.eval p.2)) :=
      List.map_congr_left fun p _=>by simp only [Function.comp,z8]
     rw [← e] at ho
     simp only [B5,A5,hu,hn,a15 hz,ho,G3,g2,toD,hm,Nat.zero_mul,List.take_zero,List.map_nil,List.nil_append]
     have hb:0+qs.length+2≤2 ^ E0:=by
      rw [Nat.ble_eq] at g3
      show 0+qs.length+2≤2 ^ 48
      omega
     obtain ⟨_,h2⟩:=d5u qs 0 .nil hb
     rw [← hql,c0n qs 0 h2]
     rfl
   ·cases h
  ·cases h
 ·cases h
theorem e4k {t:TypeId} {a:Operand} {K:KV} (h:R1 CR X s nid (.load t a) K=some r):∃ v ws rs,K v ws rs=some r∧A5 X (A0 s) nid (.load t a)=some ⟨true,toD v,F1 ws,rs⟩:=by
 simp only [R1] at h
 split at h
 ·rename_i id off ha
  split at h
  ·rename_i cs hb
   obtain ⟨v,h,hr⟩:=a9w h
   have hh:=U0 hb (by simp)
   refine ⟨_,_,_,h,?_⟩
   simp only [B5,A5,z8,ha,toD,hh,D6,hr,Option.map_some]
   rfl
  ·rename_i x m hb
   obtain ⟨v,h,hr⟩:=a4i h
   have hh:=U0 hb (by simp)
   have:=hr 0 (Nat.zero_le _)
   rw [Nat.sub_zero,Nat.sub_zero] at this
   refine ⟨_,_,_,h,?_⟩
   simp only [B5,A5,z8,ha,toD,hh,D6,this,Option.map_some]
   rfl
  ·rename_i tr len hb
   split at h
   ·rename_i hag
    obtain ⟨h0,h⟩:=E6 h
    have h0:(Nat.ble (off+1) len)=true:=h0
    rw [CfQ] at h
    rw [Nat.ble_eq] at h0
    have hh:=U0 hb (by simp)
    refine ⟨_,_,_,h,?_⟩
    have key:(A8 (C3 tr) 1 0 len)[off]?=some (den (tQ tr off) 0):=by
     have h1:=c0m (T:=C3 tr) (n:=1) (off:=0) (show off < len by omega)
     rw [Nat.mul_one,Nat.zero_add] at h1
     have h2:=congrArg (·[0]?) h1
     simp only [List.getElem?_take_of_lt (show 0 < 1 by omega),List.getElem?_drop,Nat.add_zero] at h2
     rw [h2,b7k]
     rfl
    simp only [B5,A5,z8,ha,toD,hh,D6,S6,hag,key,Option.map_some]
    rfl
   ·cases h
  ·cases h
 ·rename_i x off m ha
  obtain ⟨v,h,hr⟩:=a4i h
  have:=hr off (Nat.le_refl _)
  rw [Nat.add_sub_cancel_left,Nat.sub_self] at this
  refine ⟨_,_,_,h,?_⟩
  simp only [B5,A5,z8,ha,toD,this,Option.map_some]
  rfl
 ·cases h
theorem d8l {t:TypeId} {a x:Operand} {K:KV} (h:R1 CR X s nid (.store t a x) K=some r):∃ v ws rs,K v ws rs=some r∧A5 X (A0 s) nid (.store t a x)=some ⟨true,toD v,F1 ws,rs⟩:=by
 simp only [R1] at h
 split at h
 ·rename_i id off ha
  split at h
  ·rename_i tr len hb hn
   split at h
   ·rename_i y hy
    obtain ⟨h0,h⟩:=E6 h
    have h0:(band (Nat.ble (off+1) len) (Nat.ble (off+2) 281474976710656))=true:=h0
    rw [M4,Bool.and_eq_true,Nat.ble_eq,Nat.ble_eq] at h0
    rw [show CR.sT=fun t i x K=>a10 x E0 t i K from rfl] at h
    simp only [X1] at h
    have hh:=U0 hb (by simp)
    have hv:=a6x hy
    have ho:=M5 y 0
    refine ⟨_,_,_,h,?_⟩
    have hc:(den y 0).cells=[den y 0]:=by cases hd:den y 0 <;> rw [hd] at ho <;> first | rfl | cases ho
    have hok:(den y 0).ok=true:=by simp [D.ok,ho]
    have e1:Nat.ble (off+1) (A8 (C3 tr) 1 0 len).length=true:=by rw [G9,Nat.mul_one,Nat.ble_eq];exact h0.1
    simp only [B5,A5,z8,ha,toD,hh,D6,hn,hv,hok,hc,List.all_cons,List.all_nil,ho,e1,Bool.and_self,List.length_cons,List.length_nil,Nat.zero_add,M9,F1,List.map_cons,List.map_nil,U3]
    rw [e3v oM (by show off+2≤2 ^ 48;exact h0.2)]
    rfl
   ·cases h
  ·rename_i n hn hnr
   split at h
   ·rename_i cs hcs
    obtain ⟨hB,hd⟩:=d1v hcs
    have hh:=U0 (s:=s) (i:=id) rfl hd
    rw [hB] at hh
    split at h
    ·rename_i y m hx
     have hal:(A6 (den y) 0 m).all D.one=true:=a9b (M5 y) m 0
     cases hg:Nat.beq m n && (Nat.beq off 0 && Nat.beq m cs.length) with
     | true =>
      rw [hg] at h
      simp only [Bool.and_eq_true] at hg
      obtain ⟨g1,g2,g3⟩:=hg
      have e1:=Nat.eq_of_beq_eq_true g1
      have e2:=Nat.eq_of_beq_eq_true g2
      have e3:=Nat.eq_of_beq_eq_true g3
      subst e1 e2
      refine ⟨_,_,_,h,?_⟩
      have e4:Nat.ble (0+m) (cs.map toD).length=true:=by rw [List.length_map,Nat.ble_eq];omega
      have e5:M9 (cs.map toD) 0 (A6 (den y) 0 m)=A6 (den y) 0 m:=by
       rw [b0g _ _ _ (by rw [F3,List.length_map];omega),F3,List.take_zero,List.nil_append,List.drop_of_length_le (by rw [List.length_map];omega),List.append_nil]
      simp only [B5,A5,z8,ha,hx,toD,hh,hn,D.ok,D.isAgg,D.cells,F3,g1,hal,e4,Bool.or_true,Bool.and_self,cond_true,e5,F1,List.map_cons,List.map_nil,D6,U3]
     | false =>
      rw [hg] at h
      simp only [cond_false] at h
      cases hg2:Nat.beq m n && Nat.ble (off+n) cs.length with
      | false=>rw [hg2] at h;cases h
      | true =>
       rw [hg2] at h
       simp only [Bool.and_eq_true] at hg2
       obtain ⟨g1,g2⟩:=hg2
       have e1:=Nat.eq_of_beq_eq_true g1
       subst e1
       refine ⟨_,_,_,h,?_⟩
       have e4:Nat.ble (off+m) (cs.map toD).length=true:=by rw [List.length_map];exact g2
       have e6:((b0c 0 m).map fun i=>V.q (celQ y i)).map toD=A6 (den y) 0 m:=by
        rw [K7,List.map_map]
        exact List.map_congr_left fun i _=>by simp only [Function.comp,toD];exact a2f y i
       simp only [B5,A5,z8,ha,hx,toD,hh,hn,D.ok,D.isAgg,D.cells,F3,g1,hal,e4,Bool.or_true,Bool.and_self,cond_true,F1,List.map_cons,List.map_nil,D6,U3,a64]
       rw [e6]
    ·rename_i hna
     split at h
     ·rename_i vs hvs
      obtain ⟨hok,hcl⟩:=a2w hvs
      cases hg:Nat.beq vs.length n && (vs.all b8k && Nat.ble (off+n) cs.length) with
      | false=>rw [hg] at h;cases h
      | true =>
       rw [hg] at h
       simp only [Bool.and_eq_true] at hg
       obtain ⟨g1,g2,g3⟩:=hg
       refine ⟨_,_,_,h,?_⟩
       have e1:Nat.beq (vs.map toD).length n=true:=by rw [List.length_map];exact g1
       have e4:Nat.ble (off+n) (cs.map toD).length=true:=by rw [List.length_map];exact g3
       simp only [B5,A5,z8,ha,toD,hh,hn,hok,hcl,e1,e8g g2,e4,Bool.and_self,cond_true,F1,List.map_cons,List.map_nil,D6,U3,a64]
     ·cases h
   ·cases h
  ·cases h
 ·cases h
theorem d8k {t:TypeId} {x:Operand} {f:Nat} {K:KV} (h:R1 CR X s nid (.field t x f) K=some r):∃ v ws rs,K v ws rs=some r∧A5 X (A0 s) nid (.field t x f)=some ⟨true,toD v,F1 ws,rs⟩:=by
 simp only [R1] at h
 split at h
 ·rename_i fs hu
  split at h
  ·rename_i fd cs hf hx
   obtain ⟨v,h,hr⟩:=a9w h
   refine ⟨_,_,_,h,?_⟩
   simp only [B5,A5,hu,hf,z8,hx,toD,E4,hr,Option.bind_some,B8]
   rfl
  ·rename_i fd y m hf hx
   obtain ⟨v,h,hr⟩:=a4i h
   have:=hr 0 (Nat.zero_le _)
   rw [Nat.sub_zero,Nat.sub_zero] at this
   refine ⟨_,_,_,h,?_⟩
   simp only [B5,A5,hu,hf,z8,hx,toD,this,Option.bind_some,B8]
   rfl
  ·cases h
 ·cases h
theorem c1b {t:TypeId} {x:Operand} {f:Nat} {K:KV} (h:R1 CR X s nid (.fieldAddr t x f) K=some r):∃ v ws rs,K v ws rs=some r∧A5 X (A0 s) nid (.fieldAddr t x f)=some ⟨true,toD v,F1 ws,rs⟩:=by
 simp only [R1] at h
 split at h
 ·rename_i fs hu
  split at h
  ·rename_i fd hf
   split at h
   ·rename_i k hs
    split at h
    ·rename_i id off hx
     exact ⟨_,_,_,h,by simp only [B5,A5,hu,hf,hs,z8,hx,toD,B8];rfl⟩
    ·rename_i y off m hx
     exact ⟨_,_,_,h,by simp only [B5,A5,hu,hf,hs,z8,hx,toD,B8,a7d];rfl⟩
    ·cases h
   ·cases h
  ·cases h
 ·cases h
theorem c1c {t:TypeId} {x i:Operand} {K:KV} (h:R1 CR X s nid (.indexAddr t x i) K=some r):∃ v ws rs,K v ws rs=some r∧A5 X (A0 s) nid (.indexAddr t x i)=some ⟨true,toD v,F1 ws,rs⟩:=by
 simp only [R1] at h
 split at h
 ·rename_i e hu
  split at h
  ·rename_i n hn
   split at h
   ·rename_i id len hx
    obtain ⟨_,k,hi,h⟩:=O4 h
    obtain ⟨h0,h⟩:=E6 h
    have h0:(band (iLe 0 k) (iLt k (len:Int)))=true:=h0
    rw [CfN] at h
    have g:0≤k∧k < (len:Int):=by simpa [M4,W0,a1v] using h0
    refine ⟨_,_,_,h,?_⟩
    simp only [B5,A5,hu,z8,hx,hi,toD,hn,Option.bind_some,G3,decide_eq_true g,nMul,G8]
    rfl
   ·obtain ⟨tr,off,len,c,hx,h⟩:=a1d h
    obtain ⟨_,k,hi,h⟩:=O4 h
    obtain ⟨h0,h⟩:=E6 h
    have h0:(band (iLe 0 k) (iLt k (len:Int)))=true:=h0
    rw [CfQ] at h
    have g:0≤k∧k < (len:Int):=by simpa [M4,W0,a1v] using h0
    refine ⟨_,_,_,h,?_⟩
    have g2:0≤k∧k < (len:Int)∧len * (n+1)≤(A8 (C3 tr) (n+1) off len).length∧0 < n+1:=⟨g.1,g.2,by rw [G9];exact Nat.le_refl _,oM⟩
    simp only [B5,A5,hu,z8,hx,hi,toD,hn,Option.bind_some,G3,decide_eq_true g2,G8]
    rw [c0m (show k.toNat < len by omega),b7k]
    rfl
  ·cases h
 ·cases h
theorem c6x {b:Builtin} {args:Array Operand} {ts:Array TypeId} {K:KV} (h:R1 CR X s nid (.call { callee:=.builtin b,args,argTypes:=ts }) K=some r) :
  ∃ v ws rs,K v ws rs=some r∧A5 X (A0 s) nid (.call { callee:=.builtin b,args,argTypes:=ts })=some ⟨true,toD v,F1 ws,rs⟩:=by
 simp only [R1] at h
 split at h
 ·rename_i x t ha ht
  split at h
  ·rename_i hu
   obtain ⟨l,c,hx,h⟩:=a0i h
   rw [CfI] at h
   exact ⟨_,_,_,h,by simp only [B5,A5,ha,ht,hu,z8,hx,B8,toD,O8];rfl⟩
  ·rename_i e hu
   split at h
   ·rename_i id n hx
    rw [CfI] at h
    exact ⟨_,_,_,h,by simp only [B5,A5,ha,ht,hu,z8,hx,B8,toD];rfl⟩
   ·split at h
    ·obtain ⟨tr,off,len,c,hx,h⟩:=a1d h
     rw [CfI] at h
     exact ⟨_,_,_,h,by simp only [B5,A5,ha,ht,hu,z8,hx,B8,toD];rfl⟩
    ·cases h
  ·cases h
 ·rename_i x y t ts' ha ht
  split at h
  ·rename_i k hu
   obtain ⟨a,hx,h⟩:=X2 h
   obtain ⟨b,hy,h⟩:=X2 h
   rw [CfI] at h
   refine ⟨_,_,_,h,?_⟩
   simp only [B5,A5,ha,z8,hx,hy,B8,toD,b8c,a1v]
   by_cases hab:a < b
   ·simp [hab,F1]
   ·simp [hab,F1]
  ·cases h
 ·rename_i x y t ts' ha ht
  split at h
  ·rename_i k hu
   obtain ⟨a,hx,h⟩:=X2 h
   obtain ⟨b,hy,h⟩:=X2 h
   rw [CfI] at h
   refine ⟨_,_,_,h,?_⟩
   simp only [B5,A5,ha,z8,hx,hy,B8,toD,b8c,a1v]
   by_cases hab:b < a
   ·simp [hab,F1]
   ·simp [hab,F1]
  ·cases h
 ·rename_i x y t u ha ht
  cases hb:Nat.beq t u with
  | false=>rw [hb] at h;cases h
  | true =>
   rw [hb] at h
   obtain ⟨v,ws,rs,h,hd⟩:=c5r h
   exact ⟨v,ws,rs,h,by simp only [B5,A5,ha,ht,hb,cond_true,z8,hd]⟩
 ·cases h

theorem d31 {P:Program} {t:TypeId} {same:Bool} {l c:V} {K:KV} (h:d30 CR P s nid t same l c K=some r):∃ v ws rs,K v ws rs=some r∧b2l P (A0 s) nid t same (toD l) (toD c)=some ⟨true,toD v,F1 ws,rs⟩:=by
 unfold d30 at h
 split at h
 ·rename_i e hu
  split at h
  ·rename_i n b z hn hb hz
   cases hg:Nat.beq z.length n && Nat.blt 0 n with
   | false=>rw [hg] at h;cases h
   | true =>
    rw [hg] at h
    simp only [cond_true] at h
    have hz':=a15 hz
    have hg':(Nat.beq (z.map toD).length n && Nat.blt 0 n)=true:=by rw [List.length_map];exact hg
    split at h
    ·obtain ⟨_,a,hl,h⟩:=O4 h
     obtain ⟨_,m,hc,h⟩:=O4 h
     obtain ⟨h0,h⟩:=E6 h
     have h0:band (iEq a 0) (band (iLe 0 m) (band (Nat.ble (iNat m * b) 140737488355328) (Nat.ble (iNat m) 140737488355328)))=true:=h0
     obtain ⟨hf,h⟩:=a0o h
     refine ⟨_,_,_,h,?_⟩
     have hq:a=0∧0≤m∧m.toNat * b≤H7∧m.toNat≤H7:=by
      simp only [M4,S3,W0,G8,Bool.and_eq_true,beq_iff_eq,decide_eq_true_eq,Nat.ble_eq] at h0
      exact h0
     simp only [b2l,hu,hl,hc,hn,hb,hz',hg',cond_true,decide_eq_true hq,a5f hf,toD,A8,F1,List.map_cons,List.map_nil,D6]
    ·split at h
     ·rename_i z0
      split at h
      ·rename_i x hx
       obtain ⟨_,a,hl,h⟩:=O4 h
       obtain ⟨_,m,hc,h⟩:=O4 h
       obtain ⟨h0,h⟩:=E6 h
       have h0:band (iLe 0 a) (band (iEq a m) (band (Nat.ble (iNat a * b) 140737488355328) (Nat.ble (iNat a) 140737488355328)))=true:=h0
       rw [CfN] at h
       obtain ⟨tr,h,_,hnew⟩:=d0c (CR.iNat a) (t:=.nil) (i:=0) h
       obtain ⟨hf,h⟩:=a0o h
       refine ⟨_,_,_,h,?_⟩
       have hq:0≤a∧a=m∧a.toNat * b≤H7∧a.toNat≤H7:=by
        simp only [M4,S3,W0,G8,Bool.and_eq_true,beq_iff_eq,decide_eq_true_eq,Nat.ble_eq] at h0
        exact h0
       have hn1:n=1:=by
        simp only [Bool.and_eq_true,List.length_cons,List.length_nil] at hg
        exact (Nat.eq_of_beq_eq_true hg.1).symm
       subst hn1
       have hia:CR.iNat a=a.toNat:=G8 a
       rw [hia] at hnew ⊢
       have hrows:A8 (C3 tr) 1 0 a.toNat=a3e [toD z0] (a.toNat * 1):=by
        rw [a6x hx]
        have key:∀ (m off:Nat),(∀ k,k < m→J1 (C3 tr) (off+k)=den x)→A8 (C3 tr) 1 off m=List.replicate m (den x 0):=by
         intro m
         induction m with
         | zero=>intro _ _;rfl
         | succ m ih =>
          intro off hk
          simp only [A8,A6,List.replicate_succ,List.cons_append,List.nil_append]
          have e0:=hk 0 oM
          rw [Nat.add_zero] at e0
          rw [e0,ih (off+1) (fun k hk'=>by have:=hk (k+1) oM;rw [show off+1+k=off+(k+1) by omega];exact this)]
        rw [key _ 0 hnew,Nat.mul_one]
        unfold a3e
        apply List.ext_getElem?
        intro i
        rcases Nat.lt_or_ge i a.toNat with hi | hi
        ·rw [List.getElem?_replicate,if_pos hi,List.getElem?_map,List.getElem?_range hi]
         simp [Nat.mod_one]
        ·rw [List.getElem?_eq_none (by simpa using hi),List.getElem?_eq_none (by simpa using hi)]
       simp only [b2l,hu,hl,hc,hn,hb,hz',hg',cond_true,decide_eq_true hq,a5f hf,toD,F1,List.map_cons,List.map_nil,D6,hrows]
       rfl
      ·cases h
     ·cases h
  ·cases h
 ·cases h
theorem e4l {o:Op} {K:KV} (h:R1 CR X s nid o K=some r):∃ v ws rs,K v ws rs=some r∧A5 X (A0 s) nid o=some ⟨true,toD v,F1 ws,rs⟩:=by
 cases o
 case move x=>exact ⟨_,_,_,h,by simp only [B5,A5,z8,B8];rfl⟩
 case assign x=>exact ⟨_,_,_,h,by simp only [B5,A5,z8,B8];rfl⟩
 case alloc t =>
  simp only [R1] at h
  split at h
  ·rename_i z hz
   obtain ⟨hf,h⟩:=a0o h
   exact ⟨_,_,_,h,by simp only [B5,A5,a15 hz,a5f hf,toD,F1,List.map_cons,List.map_nil,D6]⟩
  ·cases h
 case box t x =>
  simp only [R1] at h
  split at h
  ·rename_i y m hx
   obtain ⟨hf,h⟩:=a0o h
   exact ⟨_,_,_,h,by simp only [B5,A5,z8,hx,toD,D.ok,D.isAgg,Bool.or_true,cond_true,a5f hf,D.cells,F1,List.map_cons,List.map_nil,D6]⟩
  ·split at h
   ·rename_i cs hcs
    obtain ⟨hf,h⟩:=a0o h
    obtain ⟨h1,h2⟩:=a2w hcs
    exact ⟨_,_,_,h,by simp only [B5,A5,z8,h1,cond_true,a5f hf,h2,toD,F1,List.map_cons,List.map_nil,D6]⟩
   ·cases h
 case build t parts=>exact d8j h
 case buildSlice t len parts=>exact b89 h
 case load t a=>exact e4k h
 case store t a x=>exact d8l h
 case nilCheck x =>
  simp only [R1] at h
  split at h
  ·rename_i hx;exact ⟨_,_,_,h,by simp only [B5,A5,z8,hx,toD,B8];rfl⟩
  ·rename_i hx;exact ⟨_,_,_,h,by simp only [B5,A5,z8,hx,toD,B8];rfl⟩
  ·rename_i hx;exact ⟨_,_,_,h,by simp only [B5,A5,z8,hx,toD,B8];rfl⟩
  ·cases h
 case binOp op t x y u =>
  simp only [R1] at h
  obtain ⟨v,h,hd⟩:=d8h h
  exact ⟨_,_,_,h,by simp only [B5,A5,z8,hd];rfl⟩
 case unOp op t x =>
  simp only [R1] at h
  split at h
  ·obtain ⟨b,hx,h⟩:=a0h h
   rw [CfB] at h
   exact ⟨_,_,_,h,by simp only [B5,A5,z8,hx,B8,toD,a2d];rfl⟩
  ·rename_i k hu
   obtain ⟨n,hx,h⟩:=X2 h
   rw [CfI] at h
   exact ⟨_,_,_,h,by simp only [B5,A5,z8,hx,B8,toD,a62,b2u];rfl⟩
  ·cases h
 case convert src dst x =>
  simp only [R1] at h
  obtain ⟨v,h,hd⟩:=d3z h
  exact ⟨_,_,_,h,by simp only [B5,A5,z8,hd];rfl⟩
 case makeInterface t x =>
  simp only [R1] at h
  split at h
  ·cases h
  ·rename_i u h1 hu
   refine ⟨_,_,_,h,?_⟩
   simp only [A5,z8,hu,B8,toD]
   cases u <;> first | rfl | exact (h1 _ rfl).elim
  ·cases h
 case makeFunc fn first captured =>
  simp only [R1] at h
  exact ⟨_,_,_,h,by simp only [B5,A5,c4q,B8,toD,E4];rfl⟩
 case makeSlice t l c =>
  simp only [R1] at h
  obtain ⟨v,ws,rs,h,hd⟩:=d31 h
  exact ⟨v,ws,rs,h,by simp only [A5,z8,hd]⟩
 case slice t x lo hi mx =>
  simp only [R1] at h
  obtain ⟨v,h,hd⟩:=c6y h
  exact ⟨_,_,_,h,by simp only [B5,A5,z8,hd];rfl⟩
 case fieldAddr t x f=>exact c1b h
 case field t x f=>exact d8k h
 case indexAddr t x i=>exact c1c h
 case index t x i =>
  simp only [R1] at h
  split at h
  ·rename_i hu
   obtain ⟨l,c,hx,h⟩:=a0i h
   obtain ⟨_,k,hi,h⟩:=O4 h
   obtain ⟨h0,h⟩:=E6 h
   have h0:(band (iLe 0 k) (iLt k (l:Int)))=true:=h0
   rw [CfI] at h
   have g:0≤k∧k < (l:Int):=by simpa [M4,W0,a1v] using h0
   have g2:0≤k∧k < ((o8 l c).length:Int):=by rw [O8];exact g
   refine ⟨_,_,_,h,?_⟩
   simp only [B5,A5,hu,z8,hx,hi,G3,decide_eq_true g2,toD,G8]
   rw [c9v (show k.toNat < l by omega)]
   rfl
  ·cases h
 case extract x i =>
  simp only [R1] at h
  split at h
  ·rename_i vs hx
   cases hb:Nat.blt i vs.length with
   | false=>rw [hb] at h;cases h
   | true =>
    rw [hb] at h
    have hl:i < vs.length:=by simpa [Nat.blt_eq] using hb
    refine ⟨_,_,_,h,?_⟩
    rw [a2m,List.getD_eq_getElem?_getD,List.getElem?_eq_getElem hl]
    simp only [B5,A5,z8,hx,toD,E4,List.getElem?_map,List.getElem?_eq_getElem hl,Option.map_some,B8,Option.getD_some]
    rfl
  ·cases h
 case call c =>
  obtain ⟨callee,args,ts⟩:=c
  cases callee with
  | builtin b=>exact c6x h
  | value f=>cases h
  | invoke x m=>cases h
 all_goals cases h
end

section
variable {f:Nat→Option Nat}
theorem map_toD {g:V→V} {h:D→D} (e:∀ v,toD (g v)=h (toD v)) (l:List V):(l.map g).map toD=(l.map toD).map h:=by
 rw [List.map_map,List.map_map];exact List.map_congr_left fun v _=>e v
theorem c45 (v:V):toD (V5 f v)=Q7 f (toD v):=by
 cases v
 case slice t n off len c=>cases c <;> simp only [V5,toD,Q7]
 case q x=>simp only [V5,toD];exact (W7 f x 0).symm
 case ptr id off=>simp only [V5,toD,Q7];cases f id <;> simp only [toD]
 all_goals simp only [V5,toD,Q7]
theorem b4x (x:Q) (i:Nat):a7o f (den x i)=den x i:=by
 have h1:=M5 x i
 have h2:=W7 f x i
 cases hd:den x i <;> rw [hd] at h1 h2 <;> first | exact h2 | (cases h1;done) | (exfalso;simp [Q7] at h2;done)
theorem c46 (v:V):toD (a0x f v)=a7o f (toD v):=by
 cases v
 case func fn fs cs=>simp only [a0x,toD,a7o,E4,map_toD (fun v=>c45 (f:=f) v)]
 case q x=>simp only [a0x,V5,toD];exact (b4x x 0).symm
 all_goals (simp only [a0x];rw [c45];simp only [toD,a7o])
theorem a9z (v:V):toD (X9 f v)=a5r f (toD v):=by
 cases v
 case agg cs=>simp only [X9,toD,a5r,E4,map_toD (fun v=>c46 (f:=f) v)]
 case a x m =>
  simp only [X9,toD,a5r]
  congr 1
  rw [K7,List.map_map]
  exact List.map_congr_left fun i _=>(b4x x i).symm
 case q x =>
  simp only [X9,a0x,V5,toD]
  have h1:=M5 x 0
  have h2:=b4x (f:=f) x 0
  cases hd:den x 0 <;> rw [hd] at h1 h2 <;> first | exact h2.symm | cases h1
 all_goals (simp only [X9];rw [c46];simp only [toD,a5r])
theorem a09 (v:V):toD (Y0 f v)=renI f (toD v):=by
 cases v
 case iface t v=>simp only [Y0,toD,renI,a9z]
 case q x=>simp only [Y0,X9,a0x,V5,toD];exact (a2p f x 0).symm
 all_goals (simp only [Y0];rw [a9z];simp only [toD,renI])
theorem a8k (v:V):toD (a30 f v)=ren f (toD v):=by
 cases v
 case tuple vs=>simp only [a30,toD,ren,E4,map_toD (fun v=>a09 (f:=f) v)]
 case q x =>
  simp only [a30,Y0,X9,a0x,V5,toD]
  have h1:=M5 x 0
  have h2:=a2p f x 0
  cases hd:den x 0 <;> rw [hd] at h1 h2 <;> first | exact h2.symm | cases h1
 all_goals (simp only [a30];rw [a09];simp only [toD,ren])
end

def O6:Bx→Bool
 | .cells _ | .opa _ _ | .row _ _=>true
 | _=>false
def J3:Bx→List D
 | .cells cs=>cs.map toD
 | .opa x m=>A6 (den x) 0 m
 | .row t len=>A8 (C3 t) 1 0 len
 | _=>[]
theorem a2e {b:Bx} (h:O6 b=true):D6 b=.cells (J3 b):=by cases b <;> first | rfl | cases h
def a08 (f:Nat→Option Nat):Bx→Bx
 | .cells cs=>.cells (cs.map (Y0 f))
 | b=>b
theorem b40 (f:Nat→Option Nat) (t:s6 Q):∀ (n m off:Nat),(A8 (C3 t) n off m).map (renI f)=A8 (C3 t) n off m
 | _,0,_=>rfl
 | n,m+1,off=>by
  simp only [A8,List.map_append,b40 f t n m]
  congr 1
  rw [W5]
  exact a0a f _ n 0
theorem b3a (f:Nat→Option Nat) {b:Bx}:J3 (a08 f b)=(J3 b).map (renI f):=by
 cases b <;> simp only [a08,J3]
 ·exact map_toD (fun v=>a09 v) _
 ·exact (a0a f _ _ 0).symm
 ·rfl
 ·exact (b40 f _ 1 _ 0).symm
 ·rfl
 ·rfl
theorem c9q (f:Nat→Option Nat) {b:Bx}:O6 (a08 f b)=O6 b:=by cases b <;> rfl

/- What is kept of a state. -/
def V6 (f:Nat→Option Nat):V→V
 | .slice t n off len (.tok id)=>match f id with
  | some j=>.slice t n off len (.tok j)
  | none=>.slice t n off len .no
 | .slice t n off len .exact=>.slice t n off len .exact
 | .bslice id l=>match f id with
  | some j=>.bslice j l
  | none=>.junk
 | .agg cs=>X9 f (.agg cs)
 | .a x m=>.a x m
 | .tuple ds=>.tuple (ds.map (Y0 f))
 | d=>Y0 f d
theorem b4y (f:Nat→Option Nat) (v:V):toD (V6 f v)=Q8 f (toD v):=by
 cases v
 case slice t n off len c =>
  cases c with
  | no=>simp only [V6,Y0,X9,a0x,V5,toD,Q8,renI,a5r,a7o,Q7]
  | exact=>simp only [V6,toD,Q8]
  | tok id=>simp only [V6,toD,Q8];cases f id <;> simp only [toD]
  | fr z=>simp only [V6,Y0,X9,a0x,V5,toD,Q8,renI,a5r,a7o,Q7]
 case bslice id l=>simp only [V6,toD,Q8];cases f id <;> simp only [toD]
 case agg cs=>simp only [V6];rw [a9z];simp only [toD,Q8]
 case a x m =>
  have:=a9z (f:=f) (.a x m)
  simp only [X9,toD] at this
  simp only [V6,toD,Q8]
  exact this
 case tuple ds=>simp only [V6,toD,Q8,E4,map_toD (fun v=>a09 (f:=f) v)]
 case q x =>
  simp only [V6,Y0,X9,a0x,V5,toD]
  have h1:=M5 x 0
  have h2:=a2p f x 0
  have h3:=W7 f x 0
  cases hd:den x 0 <;> rw [hd] at h1 h2 h3 <;> first | exact h2.symm | cases h1 | skip
  all_goals (rename_i c;cases c <;> first | rfl | (simp only [Q7] at h3;cases h3))
 all_goals (simp only [V6];rw [a09];simp only [toD,Q8])
def b4m (f:Nat→Option Nat):Bx→Bx
 | .cells cs=>.cells (cs.map (V6 f))
 | b=>b
theorem c47 (f:Nat→Option Nat) (x:Q) (i:Nat):Q8 f (den x i)=den x i:=by
 have h1:=M5 x i
 have h2:=a2p f x i
 have h3:=W7 f x i
 cases hd:den x i <;> rw [hd] at h1 h2 h3 <;> first | exact h2 | cases h1 | skip
 all_goals (rename_i c;cases c <;> first | rfl | (simp only [Q7] at h3;cases h3))
theorem c6d (f:Nat→Option Nat) (b:Bx):D6 (b4m f b)=a4v f (D6 b):=by
 cases b <;> simp only [b4m,D6,a4v]
 ·rw [map_toD (fun v=>b4y f v)]
 ·congr 1;rw [K7,List.map_map];exact List.map_congr_left fun i _=>(c47 f _ i).symm
 ·congr 1
  rename_i t len
  have:∀ (m off:Nat),(A8 (C3 t) 1 off m).map (Q8 f)=A8 (C3 t) 1 off m:=by
   intro m
   induction m with
   | zero=>intro _;rfl
   | succ m ih =>
    intro off
    simp only [A8,List.map_append,ih]
    congr 1
    rw [W5,K7,List.map_map]
    exact List.map_congr_left fun i _=>c47 f _ i
  exact (this len 0).symm
def b4u:V→Option Nat
 | .ptr id _=>some id
 | _=>none
theorem a8h (x:Q) (i:Nat):pid (den x i)=none∧a9v (den x i)=[]∧a6s (den x i)=[]:=by
 have h1:=M5 x i
 have h3:=W7 a0k x i
 cases hd:den x i <;> rw [hd] at h1 h3 <;> first | exact ⟨rfl,rfl,rfl⟩ | cases h1 | (simp only [Q7,a0k] at h3;cases h3) | skip
 all_goals (rename_i c;cases c <;> first | exact ⟨rfl,rfl,rfl⟩ | (simp only [Q7] at h3;cases h3))
theorem e99 (v:V):b4u v=pid (toD v):=by
 cases v <;> simp only [b4u,toD,pid]
 exact (a8h _ 0).1.symm
theorem a6p (l:List V):l.filterMap b4u=(l.map toD).filterMap pid:=by
 rw [List.filterMap_map];congr 1;funext v;exact e99 v
def b6s:V→List Nat
 | .ptr id _=>[id]
 | .func _ fs cs=>fs.filterMap b4u ++ cs.filterMap b4u
 | _=>[]
theorem e09 (v:V):b6s v=a9v (toD v):=by
 cases v <;> simp only [b6s,toD,a9v]
 ·exact (a8h _ 0).2.1.symm
 ·rw [E4,E4,a6p,a6p]
def b29:V→List Nat
 | .ptr id _=>[id]
 | .slice _ _ _ _ (.tok id)=>[id]
 | .bslice id _=>[id]
 | .func _ fs cs=>fs.filterMap b4u ++ cs.filterMap b4u
 | _=>[]
theorem c43 (v:V):b29 v=a6s (toD v):=by
 cases v <;> simp only [b29,toD,a6s]
 ·rename_i c;cases c <;> rfl
 ·exact (a8h _ 0).2.2.symm
 ·rw [E4,E4,a6p,a6p]
def a91 (n0:Nat) (ks:List Nat) (s:D1):List Nat :=
 let a:=b0w (List.range n0) (ks.flatMap fun i=>b29 (O2 s.tmps i))
 b0w a (a.flatMap fun id=>match P0 s.heap id with
  | .cells ds=>ds.flatMap b29
  | _=>[])
theorem a2j {α β:Type} {f:α→List β}:∀ (l:List α),(∀ x ∈ l,f x=[])→l.flatMap f=[]
 | [],_=>rfl
 | x :: l,h=>by rw [List.flatMap_cons,h x List.mem_cons_self,a2j l fun y hy=>h y (List.mem_cons_of_mem _ hy)];rfl
theorem a3s (s:D1) (i:Nat):(A0 s).tmps.getD i .junk=toD (O2 s.tmps i):=z8 s (.tmp i)
theorem b9w (s:D1) (i:Nat):(A0 s).heap.getD i .dead=D6 (P0 s.heap i):=by
 rw [a2l,List.getD_eq_getElem?_getD,List.getD_eq_getElem?_getD,c0z]
 cases s.heap[i]? <;> rfl
theorem b30 (n0:Nat) (ks:List Nat) (s:D1):a91 n0 ks s=a8l n0 ks (A0 s):=by
 unfold a91 a8l
 have e1:(ks.flatMap fun i=>b29 (O2 s.tmps i))=ks.flatMap fun i=>a6s ((A0 s).tmps.getD i .junk):=by
  congr 1;funext i;rw [a3s,c43]
 have e2:(fun id=>match P0 s.heap id with | .cells ds=>ds.flatMap b29 | _=>[])=fun id=>match (A0 s).heap.getD id .dead with | .cells ds=>ds.flatMap a6s | _=>[]:=by
  funext id
  rw [b9w]
  cases P0 s.heap id <;> simp only [D6]
  ·rw [List.flatMap_map];congr 1;funext v;exact c43 v
  ·rw [K7,List.flatMap_map];exact (a2j _ fun i _=>(a8h _ i).2.2).symm
  ·rename_i t len
   have:∀ (m off:Nat),(A8 (C3 t) 1 off m).flatMap a6s=[]:=by
    intro m
    induction m with
    | zero=>intro _;rfl
    | succ m ih=>intro off;simp only [A8,List.flatMap_append,ih,List.append_nil];rw [W5,K7,List.flatMap_map];exact a2j _ fun i _=>(a8h _ i).2.2
   exact (this len 0).symm
 simp only [e1,e2]
 rfl
def a9h:V→V
 | .slice t n off len _=>.slice t n off len .no
 | v=>v
theorem b3r (v:V):toD (a9h v)=a1e (toD v):=by
 cases v <;> simp only [a9h,toD,a1e]
 rename_i x
 cases hd:den x 0 <;> first | rfl | skip
 rename_i l c k
 cases Z8 x 0 l c k hd
 rfl
def W2 (ids:List Nat):List (Nat × Nat)→D1→Nat→List V × List Bx
 | [],_,_=>([],[])
 | (i,z) :: ks,s,n=>bif Nat.beq z Y5 then (a9h (V6 (pos · ids) (O2 s.tmps i)) :: (W2 ids ks s n).1,(W2 ids ks s n).2) else match O2 s.tmps i,z with
  | .slice t m off l .exact,z+1=>(.slice t m off l (.tok n) :: (W2 ids ks s (n+1)).1,.tok l (z+1) :: (W2 ids ks s (n+1)).2)
  | d,_=>(V6 (pos · ids) d :: (W2 ids ks s n).1,(W2 ids ks s n).2)
theorem a6h {ids:List Nat}:∀ (ks:List (Nat × Nat)) (s:D1) (n:Nat),(W2 ids ks s n).1.map toD=(L2 ids ks (A0 s) n).1∧(W2 ids ks s n).2.map D6=(L2 ids ks (A0 s) n).2
 | [],_,_=>⟨rfl,rfl⟩
 | (i,z) :: ks,s,n=>by
  obtain ⟨h1,h2⟩:=a6h (ids:=ids) ks s n
  obtain ⟨h3,h4⟩:=a6h (ids:=ids) ks s (n+1)
  simp only [W2,L2,a3s]
  cases hf:Nat.beq z Y5 with
  | true=>simp only [cond_true,List.map_cons,b3r,b4y,h1,h2,and_self]
  | false =>
  simp only [cond_false]
  generalize O2 s.tmps i=v
  have hplain:(V6 (pos · ids) v :: (W2 ids ks s n).1).map toD=Q8 (pos · ids) (toD v) :: (L2 ids ks (A0 s) n).1:=by simp only [List.map_cons,b4y,h1]
  cases v
  case slice t m off l c =>
   cases c <;> cases z <;> first
    | exact ⟨hplain,h2⟩
    | (simp only [toD,List.map_cons,h3,h4,D6,and_self])
  case q x =>
   have hn:∀ l c,den x 0 ≠ .slice l c .exact:=fun l c hd=>by cases Z8 x 0 l c _ hd
   simp only [toD] at hplain ⊢
   generalize den x 0=d at hplain hn
   cases d with
   | slice l c k=>cases k <;> cases z <;> first | exact ⟨hplain,h2⟩ | exact (hn _ _ rfl).elim
   | _=>exact ⟨hplain,h2⟩
  all_goals exact ⟨hplain,h2⟩
def b0a (j c z:Nat) (h:List Bx):List Bx:=match P0 h j with
 | .cells cs=>bif Nat.blt c cs.length then bif Nat.beq z Y5 then h.set j (.cells (cs.set c (a9h (O2 cs c)))) else match O2 cs c with
  | .slice t n off len .exact=>(h.set j (.cells (cs.set c (.slice t n off len (.tok h.length))))) ++ [.tok len z]
  | _=>h
  else h
 | _=>h
def b7n:List (Nat × Nat)→List Bx→List Bx
 | [],h=>h
 | (i,z) :: ks,h=>bif Nat.ble 1000000 i then b7n ks (b0a ((i - 1000000) / 1000) ((i - 1000000) % 1000) z h) else b7n ks h
theorem b1u {t:s6 Q}:∀ (m off i l:Nat) (c:List D) (k:Y4),(A8 (C3 t) 1 off m)[i]?=some (.slice l c k)→k=.no
 | 0,off,i,l,c,k,h=>by simp [A8] at h
 | m+1,off,0,l,c,k,h=>by
  simp only [A8,A6,List.cons_append,List.nil_append,List.getElem?_cons_zero] at h
  injection h with h
  exact b2p t off 0 l c k h
 | m+1,off,i+1,l,c,k,h=>by
  simp only [A8,A6,List.cons_append,List.nil_append,List.getElem?_cons_succ] at h
  exact b1u m (off+1) i l c k h
theorem c04 {x:Q} {m i l:Nat} {c:List D} {k:Y4} (h:(A6 (den x) 0 m)[i]?=some (.slice l c k)):k=.no:=by
 rcases Nat.lt_or_ge i m with hi | hi
 ·rw [a4e _ _ _ hi] at h
  injection h with h
  exact Z8 x _ l c k h
 ·rw [List.getElem?_eq_none (by rw [F3];exact hi)] at h;cases h
theorem e0w {h:List Bx} {j:Nat}:(h.map D6)[j]?=if j < h.length then some (D6 (P0 h j)) else none:=by
 rw [a2l,List.getD_eq_getElem?_getD,List.getElem?_map]
 split
 ·rename_i hj;rw [List.getElem?_eq_getElem hj];rfl
 ·rename_i hj;rw [List.getElem?_eq_none oM];rfl
theorem c0s {α:Type} {l:List α} {i:Nat} {x:α} (h:l[i]?=some x):l.set i x=l:=by
 apply List.ext_getElem?
 intro k
 by_cases hk:i=k
 ·subst hk;rw [List.getElem?_set_self (List.getElem?_eq_some_iff.1 h).1,h]
 ·rw [List.getElem?_set_ne hk]
theorem b0m {j c z:Nat} {h:List B4} {ds:List D} (hj:h[j]?=some (.cells ds)) (hd:∀ (i l:Nat) (x:List D) (k:Y4),ds[i]?=some (D.slice l x k)→k=Y4.no):tokCell j c z h=h:=by
 unfold tokCell
 rw [hj]
 simp only []
 split
 ·rename_i d hc
  have e:a1e d=d:=by
   cases d with
   | slice l x k=>cases hd c l x k hc;rfl
   | _=>rfl
  cases Nat.beq z Y5 with
  | true =>
   simp only [cond_true]
   rw [e,c0s hc,c0s hj]
  | false =>
   simp only [cond_false]
   split
   ·cases hd c _ _ _ hc
   ·rfl
 ·rfl
theorem c6v (j c z:Nat) (h:List Bx):(b0a j c z h).map D6=tokCell j c z (h.map D6):=by
 rcases Nat.lt_or_ge j h.length with hj | hj
 ·have hg:(h.map D6)[j]?=some (D6 (P0 h j)):=by rw [e0w,if_pos hj]
  unfold b0a
  generalize hb:P0 h j=b at hg
  cases b with
  | cells cs =>
   unfold tokCell
   rw [hg]
   simp only [D6]
   cases hc:Nat.blt c cs.length with
   | true =>
    have hc':c < cs.length:=by rw [Nat.blt_eq] at hc;exact hc
    have e1:(cs.map toD)[c]?=some (toD (O2 cs c)):=by
     rw [a2m,List.getD_eq_getElem?_getD,List.getElem?_map,List.getElem?_eq_getElem hc'];rfl
    rw [e1]
    simp only [cond_true]
    cases hz:Nat.beq z Y5 with
    | true=>simp only [cond_true,List.map_set,D6,b3r]
    | false =>
     simp only [cond_false]
     generalize O2 cs c=v
     cases v
     case slice t n off len k =>
      cases k <;> simp only [toD,List.map_append,List.map_set,D6,List.map_cons,List.map_nil,List.length_map]
     case q x =>
      simp only [toD]
      cases hd:den x 0 <;> first | rfl | skip
      rename_i l d k
      cases Z8 x 0 l d k hd
      rfl
     all_goals simp only [toD]
   | false =>
    have hc':cs.length≤c:=by
     rcases Nat.lt_or_ge c cs.length with h1 | h1
     ·have:Nat.blt c cs.length=true:=by rw [Nat.blt_eq];exact h1
      rw [hc] at this;cases this
     ·exact h1
    have e1:(cs.map toD)[c]?=none:=List.getElem?_eq_none (by simpa using hc')
    rw [e1]
    rfl
  | opa x m=>exact (b0m hg (fun i l d k hd=>c04 hd)).symm
  | row t len=>exact (b0m hg (fun i l d k hd=>b1u _ _ _ _ _ _ hd)).symm
  | _=>unfold tokCell;rw [hg];rfl
 ·have e2:P0 h j=.dead:=by rw [a2l,List.getD_eq_getElem?_getD,List.getElem?_eq_none hj];rfl
  have hg:(h.map D6)[j]?=none:=List.getElem?_eq_none (by simpa using hj)
  unfold b0a tokCell
  rw [e2,hg]
theorem b5b:∀ (ks:List (Nat × Nat)) (h:List Bx),(b7n ks h).map D6=tokB ks (h.map D6)
 | [],h=>rfl
 | (i,z) :: ks,h=>by
  simp only [b7n,tokB]
  cases Nat.ble 1000000 i with
  | true=>simp only [cond_true];rw [b5b,c6v]
  | false=>simp only [cond_false];rw [b5b]
def a5g (n0:Nat) (ks:List (Nat × Nat)) (s:D1):List V × List Bx :=
 let ids:=a91 n0 (b1t ks) s
 ((W2 ids ks s ids.length).1,b7n ks ((ids.map fun id=>b4m (pos · ids) (P0 s.heap id)) ++ (W2 ids ks s ids.length).2))
theorem b79 (n0:Nat) (ks:List (Nat × Nat)) (s:D1):gcV n0 ks (A0 s)=((a5g n0 ks s).1.map toD,(a5g n0 ks s).2.map D6):=by
 unfold gcV a5g
 simp only [b30,b5b,List.map_append,(a6h _ _ _).1,(a6h _ _ _).2,List.map_map]
 congr 3
 exact List.map_congr_left fun id _=>by simp only [Function.comp,c6d,b9w]
def a4g (n0 n:Nat) (ks:List (Nat × Nat)) (s:D1):Bool:=b6m n0 (a91 n0 (b1t ks) s) && Nat.beq s.tmps.length n && decide (ks.map (·.1)).Nodup
theorem b4r (n0 n:Nat) (ks:List (Nat × Nat)) (s:D1):a4g n0 n ks s=a9t n0 n ks (A0 s):=by
 unfold a4g a9t;rw [b30];simp only [A0,List.length_map]
def c7l (n:Nat) (ks:List Nat) (vs:List V):List V:=(List.range n).map fun i=>match pos i ks with
 | some j=>O2 vs j
 | none=>.junk
def b3h (n:Nat) (ks:List (Nat × Nat)) (vs:List V) (bs:List Bx):D1:={ tmps:=c7l n (ks.map (·.1)) vs,heap:=bs }
theorem c5k (n:Nat) (ks:List (Nat × Nat)) (vs:List V) (bs:List Bx):A0 (b3h n ks vs bs)=a7s n ks (vs.map toD,bs.map D6):=by
 unfold b3h a7s A0 c7l c3l
 simp only [List.map_map]
 congr 1
 refine List.map_congr_left fun i _=>?_
 simp only [Function.comp]
 cases pos i (ks.map (·.1)) with
 | none=>simp only [toD]
 | some j =>
  simp only []
  rw [a2m,List.getD_eq_getElem?_getD,List.getD_eq_getElem?_getD,List.getElem?_map]
  cases vs[j]? <;> simp [toD]

abbrev D8:=List V→List Bx→Om
def a7p:H4→Res
 | .ret v=>.ret (toD v)
 | .pan v=>.pan (toD v)
def E3 (X:Pr) (g:FuncId) (F:D8):Prop:=∀ (vs:List V) (bs:List Bx) (x:H4) (bs':List Bx),F vs bs=some (x,bs')→bs.all O6=true →
 CM X.P X.G g (vs.map toD) (bs.map J3) (a7p x) (bs'.map J3)
theorem CM.pan_any {P:Program} {G:b7u} {f:FuncId} {ds:List D} {hs hs' hs2:List (List D)} {d:D} (h:CM P G f ds hs (.pan d) hs'):CM P G f ds hs (.pan d) hs2:=h
def c7q:B4→Bool
 | .cells _=>true
 | _=>false
theorem d9l (b:Bx):O6 b=c7q (D6 b):=by cases b <;> rfl
theorem b9g {a b:List Bx} (h:a.map D6=b.map D6) (ha:a.all O6=true):b.all O6=true:=by
 have e:∀ l:List Bx,l.all O6=(l.map D6).all c7q:=fun l=>by rw [List.all_map];congr 1;funext b;exact d9l b
 rw [e,← h,← e];exact ha
mutual
def eqQ:Q→Q→Bool
 | .bool a,.bool b=>bsel a b (bnot b)
 | .int k a,.int k' b=>cond (ikEq k k') (iEq a b) false
 | .str l c,.str l' c'=>cond (Nat.beq l l') (Nat.beq c c') false
 | .slice t n o l,.slice t' n' o' l'=>cond (Nat.beq n n') (cond (Nat.beq o o') (cond (Nat.beq l l') (eqT t t') false) false) false
 | .nilp,.nilp=>true
 | .nilIface,.nilIface=>true
 | .agg cs o,.agg cs' o'=>cond (Nat.beq o o') (c3h cs cs') false
 | .aggt t o,.aggt t' o'=>cond (Nat.beq o o') (eqT t t') false
 | .no,.no=>true
 | _,_=>false
def eqT:s6 Q→s6 Q→Bool
 | .nil,.nil=>true
 | .node v l r,.node v' l' r'=>cond (eqQ v v') (cond (eqT l l') (eqT r r') false) false
 | _,_=>false
def c3h:List Q→List Q→Bool
 | [],[]=>true
 | x :: xs,y :: ys=>cond (eqQ x y) (c3h xs ys) false
 | _,_=>false
end
theorem C1 {a b:Bool} (h:cond a b false=true):a=true∧b=true:=by cases a <;> simp_all
theorem b9k {a b:Bool} (h:bsel a b (bnot b)=true):a=b:=by cases a <;> cases b <;> first | rfl | cases h
theorem c3t {a b:Int} (h:iEq a b=true):a=b:=by rw [S3] at h;simpa using h
mutual
theorem b53:∀ {a b:Q},eqQ a b=true→a=b
 | .bool a,b,h=>by cases b <;> simp only [eqQ] at h <;> first | (rw [b9k h]) | cases h
 | .int k a,b,h=>by
  cases b <;> simp only [eqQ] at h <;> first | cases h | skip
  obtain ⟨h1,h2⟩:=C1 h
  rw [a8d h1,c3t h2]
 | .str l c,b,h=>by
  cases b <;> simp only [eqQ] at h <;> first | cases h | skip
  obtain ⟨h1,h2⟩:=C1 h
  rw [Nat.eq_of_beq_eq_true h1,Nat.eq_of_beq_eq_true h2]
 | .slice t n o l,b,h=>by
  cases b <;> simp only [eqQ] at h <;> first | cases h | skip
  obtain ⟨h1,h⟩:=C1 h
  obtain ⟨h2,h⟩:=C1 h
  obtain ⟨h3,h⟩:=C1 h
  rw [Nat.eq_of_beq_eq_true h1,Nat.eq_of_beq_eq_true h2,Nat.eq_of_beq_eq_true h3,b08 h]
 | .nilp,b,h=>by cases b <;> simp only [eqQ] at h <;> first | rfl | cases h
 | .nilIface,b,h=>by cases b <;> simp only [eqQ] at h <;> first | rfl | cases h
 | .agg cs o,b,h=>by
  cases b <;> simp only [eqQ] at h <;> first | cases h | skip
  obtain ⟨h1,h⟩:=C1 h
  rw [Nat.eq_of_beq_eq_true h1,c7h h]
 | .aggt t o,b,h=>by
  cases b <;> simp only [eqQ] at h <;> first | cases h | skip
  obtain ⟨h1,h⟩:=C1 h
  rw [Nat.eq_of_beq_eq_true h1,b08 h]
 | .no,b,h=>by cases b <;> simp only [eqQ] at h <;> first | rfl | cases h
theorem b08:∀ {a b:s6 Q},eqT a b=true→a=b
 | .nil,b,h=>by cases b <;> simp only [eqT] at h <;> first | rfl | cases h
 | .node v l r,b,h=>by
  cases b <;> simp only [eqT] at h <;> first | cases h | skip
  obtain ⟨h1,h⟩:=C1 h
  obtain ⟨h2,h⟩:=C1 h
  rw [b53 h1,b08 h2,b08 h]
theorem c7h:∀ {a b:List Q},c3h a b=true→a=b
 | [],b,h=>by cases b <;> simp only [c3h] at h <;> first | rfl | cases h
 | x :: xs,b,h=>by
  cases b <;> simp only [c3h] at h <;> first | cases h | skip
  obtain ⟨h1,h⟩:=C1 h
  rw [b53 h1,c7h h]
end
def c1i:Y4→Bool
 | .no=>true
 | _=>false
def d56:V→Bool
 | .bool _ | .known _ | .int _ _ | .str _ _ | .q _ | .nilp | .nilIface=>true
 | .slice _ _ _ _ c=>c1i c
 | _=>false
def d3o:V→V→Bool
 | .bool a,.bool b=>bsel a b (bnot b)
 | .int k a,.int k' b=>cond (ikEq k k') (iEq a b) false
 | .str l c,.str l' c'=>cond (Nat.beq l l') (Nat.beq c c') false
 | .slice t n o l c,.slice t' n' o' l' c'=>cond (c1i c) (cond (c1i c') (cond (Nat.beq n n') (cond (Nat.beq o o') (cond (Nat.beq l l') (eqT t t') false) false) false) false) false
 | .q x,.q y=>eqQ x y
 | .nilp,.nilp=>true
 | .nilIface,.nilIface=>true
 | _,_=>false
theorem c2d {c:Y4} (h:c1i c=true):c=.no:=by cases c <;> first | rfl | cases h
theorem e3y {a b:V} (h:d3o a b=true):a=b:=by
 unfold d3o at h
 split at h <;> first | rfl | cases h | skip
 ·rw [b9k h]
 ·obtain ⟨h1,h2⟩:=C1 h;rw [a8d h1,c3t h2]
 ·obtain ⟨h1,h2⟩:=C1 h;rw [Nat.eq_of_beq_eq_true h1,Nat.eq_of_beq_eq_true h2]
 ·obtain ⟨g1,h⟩:=C1 h
  obtain ⟨g2,h⟩:=C1 h
  obtain ⟨h1,h⟩:=C1 h
  obtain ⟨h2,h⟩:=C1 h
  obtain ⟨h3,h⟩:=C1 h
  rw [c2d g1,c2d g2,Nat.eq_of_beq_eq_true h1,Nat.eq_of_beq_eq_true h2,Nat.eq_of_beq_eq_true h3,b08 h]
 ·rw [b53 h]
def b1z:List V→List V→Bool
 | [],[]=>true
 | x :: xs,y :: ys=>cond (d3o x y) (b1z xs ys) false
 | _,_=>false
theorem c0r:∀ {a b:List V},b1z a b=true→a=b
 | [],b,h=>by cases b <;> simp only [b1z] at h <;> first | rfl | cases h
 | x :: xs,b,h=>by
  cases b <;> simp only [b1z] at h <;> first | cases h | skip
  obtain ⟨h1,h⟩:=C1 h
  rw [e3y h1,c0r h]
def eqB:Bx→Bx→Bool
 | .cells a,.cells b=>b1z a b
 | .opa x m,.opa y n=>cond (Nat.beq m n) (eqQ x y) false
 | _,_=>false
theorem f5q {a b:Bx} (h:eqB a b=true):a=b:=by
 unfold eqB at h
 split at h <;> first | cases h | skip
 ·rw [c0r h]
 ·obtain ⟨h1,h⟩:=C1 h;rw [Nat.eq_of_beq_eq_true h1,b53 h]
def b4g:List Bx→List Bx→Bool
 | [],[]=>true
 | x :: xs,y :: ys=>cond (eqB x y) (b4g xs ys) false
 | _,_=>false
theorem c7g:∀ {a b:List Bx},b4g a b=true→a=b
 | [],b,h=>by cases b <;> simp only [b4g] at h <;> first | rfl | cases h
 | x :: xs,b,h=>by
  cases b <;> simp only [b4g] at h <;> first | cases h | skip
  obtain ⟨h1,h⟩:=C1 h
  rw [f5q h1,c7g h]
def same (a b:List Bx) (x:Om):Om:=cond (b4g a b) x none
def c4x:Bx→Bool
 | .cells cs=>cs.all d56
 | .opa _ _=>true
 | _=>false
theorem d1y (f:Nat→Option Nat) {v:V} (h:d56 v=true):renI f (toD v)=toD v:=by
 rw [← a09]
 cases v <;> first | rfl | cases h | skip
 rename_i c
 cases c <;> first | rfl | cases h
theorem b6t (f:Nat→Option Nat) {b:Bx} (h:c4x b=true):(J3 b).map (renI f)=J3 b:=by
 cases b <;> first | cases h | skip
 ·rename_i cs
  simp only [J3,List.map_map]
  refine List.map_congr_left fun v hv=>d1y f (List.all_eq_true.1 h v hv)
 ·exact a0a f _ _ 0
abbrev T5:=FuncId→List Bx→V→List Bx→(V→Option (List Bx)→Om)→Om
def a3g (cr:T5):Prop:=∀ (g:FuncId) (bs0:List Bx) (v:V) (bs:List Bx) (K:V→Option (List Bx)→Om) (r:R),cr g bs0 v bs K=some r →
 (∃ v' bs',toD v'=toD v∧bs'.map D6=bs.map D6∧K v' (some bs')=some r)∨(∃ v',toD v'=toD v∧bs=bs0∧K v' none=some r)
def D1.lay (s:D1) (ws:List (Nat × Bx)):D1:={ s with heap:=ws.foldl (fun h x=>h.set x.1 x.2) s.heap }
def D1.put (s:D1) (dst:Option Tmp) (v:V):D1:=match dst with
 | some t=>{ s with tmps:=s.tmps.set t v }
 | none=>s
theorem a2s (s:D1) (dst:Option Tmp) (v:V):A0 (s.put dst v)=(A0 s).put dst (toD v):=by
 cases dst with
 | none=>rfl
 | some t=>simp only [D1.put,A0,St.put,List.map_set]
theorem b5a (s:D1) (ws:List (Nat × Bx)):A0 (s.lay ws)=(A0 s).lay (F1 ws):=by
 unfold D1.lay St.lay F1 A0
 simp only []
 congr 1
 rw [List.foldl_map]
 generalize s.heap=h
 induction ws generalizing h with
 | nil=>rfl
 | cons x ws ih=>simp only [List.foldl_cons];rw [ih,List.map_set]

def b78 (C:Comb):D1→List V→(List V→List Nat→Om)→Om
 | _,[],K=>K [] []
 | s,.bslice id len :: vs,K=>match P0 s.heap id with
  | .row t len'=>C.chk (C.nEq len len') (b78 C { s with heap:=s.heap.set id .dead } vs fun vs' ks=>K (.slice t 1 0 len .no :: vs') (id :: ks))
  | _=>none
 | s,v :: vs,K=>b78 C s vs fun vs' ks=>K (v :: vs') ks
def a7y (h:List Bx):List Nat→Option (List Bx)
 | []=>some []
 | id :: ids=>bif O6 (P0 h id) then (a7y h ids).map (P0 h id :: ·) else none
def b25 (ids:List Nat) (bs:List Bx):List (Nat × Bx):=(ids.zip bs).map fun p=>(p.1,a08 (ids[·]?) p.2)
def a4z:V→V
 | .slice t n off len (.fr _)=>.slice t n off len .no
 | v=>v
def b6p (nid:Nat):List V→Option (List V × List (Nat × Bx))
 | []=>some ([],[])
 | v :: vs=>match v with
  | .slice t n off len (.fr z)=>bif Nat.beq n z then some (.slice t n off len (.tok nid) :: vs.map a4z,[(nid,.tok len z)]) else none
  | v=>(b6p nid vs).map fun p=>(v :: p.1,p.2)
def e07 (nid:Nat):V→Option (V × List (Nat × Bx))
 | .tuple vs=>(b6p nid vs).map fun p=>(.tuple p.1,p.2)
 | .slice t n off len (.fr z)=>bif Nat.beq n z then some (.slice t n off len (.tok nid),[(nid,.tok len z)]) else none
 | v=>some (v,[])
def c1w (s:D1) (nid:Nat) (v:V) (ws:List (Nat × Bx)) (rs:List Nat) (K:KV):Om :=
 match e07 nid v with
 | some (v',[])=>K v' ws rs
 | some (v',x :: xs)=>cond (a1f (s.lay ws) nid) (K v' (ws ++ x :: xs) (nid :: rs)) none
 | none=>none
def e7z (C:Comb) (fn:FuncId→D8) (cr:T5) (s:D1) (nid:Nat) (g:FuncId) (vs:List V) (K:KV) (Kp:V→List Nat→Om):Om :=
 b78 C s vs fun vs' ks =>
  let ids:=V2 (vs'.flatMap b6s)
  match a7y (s.lay (ks.map fun k=>(k,.dead))).heap ids with
  | some bs=>C.bind (fn g (vs'.map (a30 (pos · ids))) (bs.map (a08 (pos · ids))))
    (fun v bs'=>cr g (bs.map (a08 (pos · ids))) v bs' fun v o=>match o with
     | some bs'=>bif Nat.beq bs'.length ids.length && bs'.all O6 then c1w s nid (a30 (ids[·]?) v) ((ks.map fun k=>(k,Bx.dead)) ++ b25 ids bs') (ids ++ ks) K else none
     | none=>bif bs.all c4x then c1w s nid (a30 (ids[·]?) v) (ks.map fun k=>(k,Bx.dead)) (ids ++ ks) K else none) (fun v=>Kp (C.rn0 v) (ids ++ ks))
  | none=>none

section
variable {X:Pr} {r:R}
theorem a7c {h:List Bx}:∀ {ids:List Nat} {bs:List Bx},a7y h ids=some bs→R4 (h.map D6) ids=some (bs.map J3)∧bs.all O6=true∧bs.length=ids.length
 | [],bs,hb=>by simp only [a7y] at hb;injection hb with hb;subst hb;exact ⟨rfl,rfl,rfl⟩
 | id :: ids,bs,hb=>by
  simp only [a7y] at hb
  cases ho:O6 (P0 h id) with
  | false=>rw [ho] at hb;cases hb
  | true =>
   rw [ho] at hb
   obtain ⟨bs',h1,rfl⟩:=Option.map_eq_some_iff.1 hb
   obtain ⟨h2,h3,h4⟩:=a7c h1
   have e:(h.map D6)[id]?=some (.cells (J3 (P0 h id))):=by
    rw [← a2e ho,List.getElem?_map,a2l,List.getD_eq_getElem?_getD]
    cases hi:h[id]? with
    | none=>rw [a2l,List.getD_eq_getElem?_getD,hi] at ho;cases ho
    | some x=>rfl
   refine ⟨?_,by simp only [List.all_cons,ho,h3,Bool.and_self],by simp [h4]⟩
   simp only [R4,e,h2,Option.map_some,List.map_cons]
theorem b1c:∀ {vs:List V} {s:D1} {K:List V→List Nat→Om},b78 CR s vs K=some r→∃ vs' ks,K vs' ks=some r∧frz (A0 s) (vs.map toD)=some (vs'.map toD,ks)
 | [],s,K,h=>⟨[],[],h,rfl⟩
 | v :: vs,s,K,h=>by
  by_cases hb:∃ id len,v=.bslice id len
  ·obtain ⟨id,len,rfl⟩:=hb
   simp only [b78] at h
   split at h
   ·rename_i t len' hbx
    obtain ⟨h0,h'⟩:=E6 h
    have h0:(Nat.beq len len')=true:=h0
    have he:=Nat.eq_of_beq_eq_true h0
    subst he
    obtain ⟨vs',ks,h,hf⟩:=b1c h'
    have hh:=U0 hbx (by simp)
    refine ⟨_,_,h,?_⟩
    have e:A0 { s with heap:=s.heap.set id .dead }={ A0 s with heap:=(A0 s).heap.set id .dead }:=by simp only [A0,List.map_set,D6]
    rw [e] at hf
    simp only [List.map_cons,toD,frz,hh,D6,hf,Option.map_some,b40]
   ·cases h
  ·have h':b78 CR s vs (fun vs' ks=>K (v :: vs') ks)=some r:=by
    rw [← h]
    cases v <;> first | rfl | exact absurd ⟨_,_,rfl⟩ hb
   obtain ⟨vs',ks,h',hf⟩:=b1c h'
   refine ⟨_,_,h',?_⟩
   have hd:¬∃ id len,toD v=.bslice id len:=by
    rintro ⟨id,len,hd⟩
    cases v <;> simp only [toD] at hd <;> first | (cases hd;done) | skip
    ·have h3:=congrArg (Q7 a0k) hd;rw [W7,hd] at h3;simp only [Q7] at h3;cases h3
    ·exact hb ⟨_,_,rfl⟩
   simp only [List.map_cons]
   have e:frz (A0 s) (toD v :: vs.map toD)=(frz (A0 s) (vs.map toD)).map fun p=>(toD v :: p.1,p.2):=by
    cases hv:toD v <;> first | rfl | exact absurd ⟨_,_,hv⟩ hd
   rw [e,hf]
   rfl
theorem d10 {ids:List Nat} {bs:List Bx} (h:bs.all O6=true):F1 (b25 ids bs)=a5n ids (bs.map J3):=by
 unfold b25 a5n F1
 rw [List.map_map,List.zip_map_right,List.map_map]
 refine List.map_congr_left fun p hp=>?_
 have hm:p.2 ∈ bs:=(List.of_mem_zip hp).2
 have ho:=List.all_eq_true.1 h _ hm
 simp only [Function.comp,Prod.map,id]
 rw [a2e (by rw [c9q];exact ho),b3a]
theorem b7g (v:V):toD (a4z v)=a0s (toD v):=by
 cases v
 case slice t n off len c=>cases c <;> simp only [a4z,toD,a0s]
 case q x =>
  simp only [a4z,toD]
  have h:=W7 a0k x 0
  have h1:=M5 x 0
  cases hd:den x 0 <;> first | rfl | skip
  rename_i l c k
  cases k <;> first | rfl | skip
  exfalso
  exact c3d hd
 all_goals simp only [a4z,toD,a0s]
theorem b6q {nid:Nat}:∀ {vs vs':List V} {ws:List (Nat × Bx)},b6p nid vs=some (vs',ws)→a07 nid (vs.map toD)=(vs'.map toD,F1 ws)
 | [],vs',ws,h=>by simp only [b6p] at h;injection h with h;injection h with h1 h2;subst h1 h2;rfl
 | v :: vs,vs',ws,h=>by
  simp only [b6p] at h
  split at h
  ·rename_i t n off len z
   cases hz:Nat.beq n z with
   | false=>rw [hz] at h;cases h
   | true =>
    rw [hz] at h
    injection h with h;injection h with h1 h2;subst h1 h2
    have:=Nat.eq_of_beq_eq_true hz
    subst this
    simp only [List.map_cons,toD,a07,G9,Nat.beq_refl,cond_true,F1,D6,List.map_nil,map_toD (fun v=>b7g v)]
  ·rename_i hnf
   obtain ⟨p,hp,he⟩:=Option.map_eq_some_iff.1 h
   obtain ⟨p1,p2⟩:=p
   injection he with h1 h2;subst h1 h2
   have ih:=b6q hp
   have hnd:∀ l c z,toD v ≠ .slice l c (.fr z):=fun l c z hd=>by
    cases v <;> simp only [toD] at hd <;> first | (cases hd;done) | skip
    ·injection hd with _ _ hd;subst hd;exact hnf _ _ _ _ _ rfl
    ·exact c3d hd
   rw [List.map_cons,List.map_cons]
   unfold a07
   split
   ·rename_i hd;exact absurd hd (hnd _ _ _)
   ·rw [ih]
theorem c0a {nid:Nat} {v v':V} {ws:List (Nat × Bx)} (h:e07 nid v=some (v',ws)):own nid (toD v)=(toD v',F1 ws):=by
 unfold e07 at h
 split at h
 ·obtain ⟨p,hp,he⟩:=Option.map_eq_some_iff.1 h
  obtain ⟨p1,p2⟩:=p
  injection he with h1 h2;subst h1 h2
  simp only [toD,own,E4,b6q hp]
 ·rename_i t n off len z
  cases hz:Nat.beq n z with
  | false=>rw [hz] at h;cases h
  | true =>
   rw [hz] at h
   injection h with h;injection h with h1 h2;subst h1 h2
   have:=Nat.eq_of_beq_eq_true hz
   subst this
   simp only [toD,own,G9,Nat.beq_refl,cond_true,F1,D6,List.map_cons,List.map_nil]
 ·rename_i h1 h2
  injection h with h;injection h with q1 q2;subst q1 q2
  unfold own
  split
  ·rename_i ds hd
   exfalso
   cases v <;> simp only [toD] at hd <;> first | (cases hd;done) | skip
   ·rename_i x;have:=M5 x 0;rw [hd] at this;cases this
   ·exact h1 _ rfl
  ·rename_i hd
   exfalso
   cases v <;> simp only [toD] at hd <;> first | (cases hd;done) | skip
   ·injection hd with _ _ hd;subst hd;exact h2 _ _ _ _ _ rfl
   ·exact c3d hd
  ·rfl
theorem b6n {s:D1} {nid:Nat} {v:V} {ws:List (Nat × Bx)} {rs:List Nat} {K:KV} (h:c1w s nid v ws rs K=some r) {K':D→List (Nat × B4)→List Nat→Prop} (hK:∀ v ws rs,K v ws rs=some r→K' (toD v) (F1 ws) rs) :
  a06 (A0 s) nid (toD v) (F1 ws) rs K':=by
 unfold c1w at h
 unfold a06
 split at h
 ·rename_i v' ho
  rw [c0a ho]
  exact hK _ _ _ h
 ·rename_i v' x xs ho
  rw [c0a ho]
  simp only [F1,List.map_cons]
  cases hf:a1f (s.lay ws) nid with
  | false=>rw [hf] at h;cases h
  | true =>
   rw [hf] at h
   have e:F2 ((A0 s).lay (ws.map fun p=>(p.1,D6 p.2))) nid=true:=by
    have:=a6e hf
    rw [b5a] at this
    exact this
   rw [e]
   have:=hK _ _ _ h
   simp only [F1,List.map_append,List.map_cons] at this
   exact this
 ·cases h
theorem d3x {fn:FuncId→D8} {cr:T5} (htab:X.tab=[]) (hfn:∀ g,E3 X g (fn g)) (hcr:a3g cr) {s:D1} {nid:Nat} {g:FuncId} {vs:List V} {K:KV} {Kp:V→List Nat→Om} (h:e7z CR fn cr s nid g vs K Kp=some r)
  {K':D→List (Nat × B4)→List Nat→Prop} {Kp':D→List Nat→Prop} (hK:∀ v ws rs,K v ws rs=some r→K' (toD v) (F1 ws) rs) (hKp:∀ v rs,Kp v rs=some r→Kp' (toD v) rs):a0t X (A0 s) nid g (vs.map toD) K' Kp':=by
 obtain ⟨vs',ks,h,hf⟩:=b1c h
 unfold a0t
 rw [hf]
 simp only [] at h ⊢
 have eids:V2 ((vs'.map toD).flatMap a9v)=V2 (vs'.flatMap b6s):=by
  rw [List.flatMap_map];congr 2;funext v;exact (e09 v).symm
 rw [eids]
 generalize V2 (vs'.flatMap b6s)=ids at h ⊢
 have elay:(A0 s).lay (ks.map fun k=>(k,B4.dead))=A0 (s.lay (ks.map fun k=>(k,Bx.dead))):=by
  rw [b5a];congr 1;unfold F1;rw [List.map_map];rfl
 rw [elay]
 split at h
 ·rename_i bs hb
  obtain ⟨h1,h2,h3⟩:=a7c hb
  have h1':R4 (A0 (s.lay (ks.map fun k=>(k,Bx.dead)))).heap ids=some (bs.map J3):=h1
  rw [h1']
  simp only []
  have hall:(bs.map (a08 (pos · ids))).all O6=true:=by
   rw [List.all_map];rw [List.all_eq_true] at h2 ⊢;intro b hbm;simp only [Function.comp,c9q];exact h2 b hbm
  have e1:(vs'.map toD).map (ren (pos · ids))=(vs'.map (a30 (pos · ids))).map toD:=(map_toD (fun v=>a8k v) vs').symm
  have e2:(bs.map J3).map (fun x=>x.map (renI (pos · ids)))=(bs.map (a08 (pos · ids))).map J3:=by
   rw [List.map_map,List.map_map];exact List.map_congr_left fun b _=>(b3a (pos · ids)).symm
  rw [e1,e2]
  unfold b2i
  rw [htab]
  simp only [a4r]
  have h:bind (fn g (vs'.map (a30 (pos · ids))) (bs.map (a08 (pos · ids)))) _ _=some r:=h
  unfold bind at h
  split at h
  ·rename_i v bs' hcall
   have hcm:=hfn g _ _ _ _ hcall hall
   rcases hcr _ _ _ _ _ _ h with ⟨v2,bs2,ev,eb,hk⟩ | ⟨v2,ev,eb,hk⟩
   ·simp only [] at hk
    cases hg:Nat.beq bs2.length ids.length && bs2.all O6 with
    | false=>rw [hg] at hk;cases hk
    | true =>
     rw [hg] at hk
     rw [Bool.and_eq_true] at hg
     have hl2:=Nat.eq_of_beq_eq_true hg.1
     have hok:=b9g eb hg.2
     have ebD:bs2.map J3=bs'.map J3:=by
      have hl:bs2.length=bs'.length:=by have:=congrArg List.length eb;simpa using this
      apply List.ext_getElem
      ·simpa using hl
      ·intro i hi1 hi2
       simp only [List.length_map] at hi1 hi2
       simp only [List.getElem_map]
       have q1:=List.all_eq_true.1 hg.2 _ (List.getElem_mem hi1)
       have q2:=List.all_eq_true.1 hok _ (List.getElem_mem hi2)
       have q3:(bs2.map D6)[i]?=(bs'.map D6)[i]?:=by rw [eb]
       rw [List.getElem?_map,List.getElem?_map,List.getElem?_eq_getElem hi1,List.getElem?_eq_getElem hi2] at q3
       simp only [Option.map_some] at q3
       injection q3 with q3
       rw [a2e q1,a2e q2] at q3
       injection q3
     refine .ret (toD v) (bs'.map J3) hcm (by rw [← ebD,List.length_map];exact hl2) ?_
     have:=b6n hk hK
     rw [a8k,ev] at this
     have e3:F1 ((ks.map fun k=>(k,Bx.dead)) ++ b25 ids bs2)=(ks.map fun k=>(k,B4.dead)) ++ a5n ids (bs'.map J3):=by
      rw [← ebD,← d10 hg.2];unfold F1;rw [List.map_append,List.map_map];rfl
     rw [e3] at this
     exact .inl this
   ·simp only [] at hk
    cases hg:bs.all c4x with
    | false=>rw [hg] at hk;cases hk
    | true =>
     rw [hg] at hk
     subst eb
     refine .ret (toD v) _ hcm (by simp [h3]) (.inr ⟨?_,?_⟩)
     ·rw [List.map_map,List.map_map]
      refine List.map_congr_left fun b hb=>?_
      have hp:=List.all_eq_true.1 hg b hb
      simp only [Function.comp]
      rw [b3a,b6t _ hp,b6t _ hp]
     ·have:=b6n hk hK
      rw [a8k,ev] at this
      have e3:F1 (ks.map fun k=>(k,Bx.dead))=ks.map fun k=>(k,B4.dead):=by unfold F1;rw [List.map_map];rfl
      rw [e3] at this
      exact this
  ·rename_i v bs' hcall
   have hcm:=hfn g _ _ _ _ hcall hall
   refine .pan (toD v) (bs.map J3) (CM.pan_any hcm) (by simp [h3]) ?_
   have:=hKp _ _ h
   rw [show CR.rn0 v=a30 a0k v from rfl,a8k] at this
   exact this
  ·cases h
 ·cases h

def e4j (C:Comb) (X:Pr) (fn:FuncId→D8) (cr:T5) (s:D1) (nid:Nat) (o:Op) (K:KV) (Kp:V→List Nat→Om):Om :=
 match o with
 | .call { callee:=.value f,args,.. }=>match s.eval f with
  | .func (.func g) fs cs=>e7z C fn cr s nid g (fs ++ args.toList.map s.eval ++ cs) K Kp
  | _=>none
 | .panic x=>match s.eval x with
  | .iface t d=>Kp (a30 a0k (.iface t d)) []
  | _=>none
 | .pick c a b=>match s.eval c with
  | .known t=>cond t (K (s.eval a) [] []) (K (s.eval b) [] [])
  | v=>vB C v fun t=>C.cnd t (K (s.eval a) [] []) (K (s.eval b) [] [])
 | o=>R1 C X s nid o K
theorem d8i {fn:FuncId→D8} {cr:T5} (htab:X.tab=[]) (hfn:∀ g,E3 X g (fn g)) (hcr:a3g cr) {s:D1} {nid:Nat} {o:Op} {K:KV} {Kp:V→List Nat→Om} (h:e4j CR X fn cr s nid o K Kp=some r)
  {K':D→List (Nat × B4)→List Nat→Prop} {Kp':D→List Nat→Prop} (hK:∀ v ws rs,K v ws rs=some r→K' (toD v) (F1 ws) rs) (hKp:∀ v rs,Kp v rs=some r→Kp' (toD v) rs):P2 X (A0 s) nid o K' Kp':=by
 have hrest:∀ o:Op,R1 CR X s nid o K=some r→(match A5 X (A0 s) nid o with | some out=>cond out.need (K' out.val out.ws out.rs) False | none=>False):=by
  intro o h
  obtain ⟨v,ws,rs,h,hd⟩:=e4l h
  rw [hd]
  exact hK _ _ _ h
 unfold e4j at h
 unfold P2
 split at h
 ·rename_i f args ts
  simp only []
  split at h
  ·rename_i g fs cs hf
   rw [z8,hf]
   simp only [toD]
   have:=d3x htab hfn hcr h hK hKp
   rw [List.map_append,List.map_append] at this
   rw [E4,E4,c4q]
   exact this
  ·cases h
 ·rename_i x
  simp only []
  split at h
  ·rename_i t d hx
   rw [z8,hx]
   have:=hKp _ _ h
   rw [a8k] at this
   simp only [toD] at this ⊢
   exact this
  ·cases h
 ·rename_i c a b
  simp only [z8]
  split at h
  ·rename_i t hc
   rw [hc]
   simp only [toD]
   cases t
   ·exact hK _ _ _ h
   ·exact hK _ _ _ h
  ·obtain ⟨t,hc,h⟩:=a0h h
   rw [hc]
   simp only []
   have h:cnd t _ _=some r:=h
   rw [a73] at h
   cases t
   ·exact hK _ _ _ h
   ·exact hK _ _ _ h
 ·rename_i h1 h2 h3
  split
  ·exact absurd rfl (h1 _ _ _)
  ·exact absurd rfl (h2 _)
  ·exact absurd rfl (h3 _ _ _)
  ·exact hrest o h

def c5s (C:Comb) (ops:Array Oper) (s:D1) (o:Oper) (Ky Kn:D1→Om):Om :=
 match o.guard with
 | none=>Ky s
 | some (j,want)=>match b1h ops j with
  | none=>Kn s
  | some t=>bif Nat.blt t s.tmps.length then
    match O2 s.tmps t with
    | .known b=>cond (cond want b (!b)) (Ky s) (Kn s)
    | .tuple _=>Kn s
    | v=>vB C v fun b=>match want with
     | true=>C.cnd b (Ky (s.put (some t) (.known true))) (Kn (s.put (some t) (.known false)))
     | false=>C.cnd b (Kn (s.put (some t) (.known true))) (Ky (s.put (some t) (.known false)))
   else Kn s
theorem c6w {ops:Array Oper} {s:D1} {o:Oper} {Ky Kn:D1→Om} (h:c5s CR ops s o Ky Kn=some r) {Ky' Kn':St→Prop} (hy:∀ s,Ky s=some r→Ky' (A0 s)) (hn:∀ s,Kn s=some r→Kn' (A0 s)):a5x ops (A0 s) o Ky' Kn':=by
 unfold c5s at h
 unfold a5x
 split at h
 ·rename_i hg;rw [hg];exact hy _ h
 ·rename_i j want hg
  rw [hg]
  simp only []
  split at h
  ·rename_i ht;rw [ht];exact hn _ h
  ·rename_i t ht
   rw [ht]
   simp only []
   cases hb:Nat.blt t s.tmps.length with
   | false =>
    rw [hb] at h
    have hl:s.tmps.length≤t:=by
     rcases Nat.lt_or_ge t s.tmps.length with h1 | h1
     ·have:Nat.blt t s.tmps.length=true:=by rw [Nat.blt_eq];exact h1
      rw [hb] at this;cases this
     ·exact h1
    have e:(A0 s).tmps[t]?=none:=by simp only [A0,List.getElem?_map,List.getElem?_eq_none hl,Option.map_none]
    rw [e]
    exact hn _ h
   | true =>
    rw [hb] at h
    have hl:t < s.tmps.length:=by rw [Nat.blt_eq] at hb;exact hb
    have e:(A0 s).tmps[t]?=some (toD (O2 s.tmps t)):=by
     rw [a2m,List.getD_eq_getElem?_getD,List.getElem?_eq_getElem hl]
     simp only [A0,List.getElem?_map,List.getElem?_eq_getElem hl,Option.map_some,Option.getD_some]
    rw [e]
    simp only [cond_true] at h
    have key:∀ b,toD (O2 s.tmps t)=.bool b→(A0 s).put (some t) (.bool b)=A0 s:=fun b hb=>b4v (by rw [e,hb])
    split at h
    ·rename_i b hv
     rw [hv]
     have k1:=key b (by rw [hv];simp only [toD])
     simp only [toD]
     cases want <;> cases b <;> simp only [cond_true,cond_false,Bool.not_true,Bool.not_false] at h ⊢ <;> rw [k1] <;> first | exact hy _ h | exact hn _ h
    ·rename_i hv
     rw [hv]
     simp only [toD]
     exact hn _ h
    ·obtain ⟨b,hv,h⟩:=a0h h
     rw [hv]
     simp only []
     have p1:=a2s s (some t) (.known true)
     have p2:=a2s s (some t) (.known false)
     simp only [toD] at p1 p2
     cases want
     ·have h:cnd b _ _=some r:=h
      rw [a73] at h
      cases b <;> simp only [cond_true,cond_false] at h ⊢
      ·rw [← p2];exact hy _ h
      ·rw [← p1];exact hn _ h
     ·have h:cnd b _ _=some r:=h
      rw [a73] at h
      cases b <;> simp only [cond_true,cond_false] at h ⊢
      ·rw [← p2];exact hn _ h
      ·rw [← p1];exact hy _ h

def fLV (l:List V):(List V→Om)→Om:=List.rec (motive:=fun _=>(List V→Om)→Om) (fun K=>K []) (fun x _ ih K=>ih fun l=>K (x :: l)) l
def fLB (l:List Bx):(List Bx→Om)→Om:=List.rec (motive:=fun _=>(List Bx→Om)→Om) (fun K=>K []) (fun x _ ih K=>ih fun l=>K (x :: l)) l
def fSt (s:D1) (K:D1→Om):Om:=fLV s.tmps fun t=>fLB s.heap fun h=>K ⟨t,h⟩
theorem d5e:∀ (l:List V) (K:List V→Om),fLV l K=K l
 | [],_=>rfl
 | x :: l,K=>d5e l fun l=>K (x :: l)
theorem d5d:∀ (l:List Bx) (K:List Bx→Om),fLB l K=K l
 | [],_=>rfl
 | x :: l,K=>d5d l fun l=>K (x :: l)
theorem b1a (s:D1) (K:D1→Om):fSt s K=K s:=by unfold fSt;rw [d5e,d5d]
def b19 (C:Comb) (X:Pr) (fn:FuncId→D8) (cr:T5) (ops:Array Oper) (nid:Nat→Nat):List Nat→D1→List Tr→(D1→List Tr→Om)→(Nat→V→List Nat→List Tr→Om)→Om
 | [],s,tr,K,_=>K s tr
 | i :: l,s,tr,K,Kp=>match ops[i]? with
  | none=>b19 C X fn cr ops nid l s tr K Kp
  | some o=>c5s C ops s o
    (fun s=>e4j C X fn cr s (nid i) o.op (fun d ws rs=>fSt ((s.lay ws).put o.dst d) fun s=>b19 C X fn cr ops nid l s (⟨i,o.dst,.junk,ws.map fun p=>(p.1,.dead),rs⟩ :: tr) K Kp) (fun d rs=>Kp i d rs tr))
    (fun s=>fSt (s.put o.dst (.tuple [])) fun s=>b19 C X fn cr ops nid l s (⟨i,o.dst,.junk,[],[]⟩ :: tr) K Kp)
def Tr.face (t:Tr):Nat × Option Tmp × List Nat × List Nat:=(t.i,t.dst,t.ids,t.rs)
theorem d1m {ops:Array Oper} {x y x' y':Tr} (hx:x.face=x'.face) (hy:y.face=y'.face):R5 ops x y=R5 ops x' y':=by
 unfold Tr.face at hx hy
 injection hx with h1 hx;injection hx with h2 hx;injection hx with h3 h4
 injection hy with g1 hy;injection hy with g2 hy;injection hy with g3 g4
 unfold R5
 rw [h1,h2,h3,h4,g1,g2,g3,g4]
theorem a9y {ops:Array Oper}:∀ {a b:List Tr},a.map Tr.face=b.map Tr.face→S7 ops a=S7 ops b
 | [],[],_=>rfl
 | [],_ :: _,h=>by simp at h
 | _ :: _,[],h=>by simp at h
 | x :: a,y :: b,h=>by
  simp only [List.map_cons,List.cons.injEq] at h
  simp only [S7]
  rw [a9y h.2]
  congr 1
  have:∀ {a b:List Tr},a.map Tr.face=b.map Tr.face→(a.all fun z=>!R5 ops z x || T7 ops z.i ops.size x.i)=b.all fun z=>!R5 ops z y || T7 ops z.i ops.size y.i:=by
   intro a
   induction a with
   | nil=>intro b hab;cases b with
    | nil=>rfl
    | cons=>simp at hab
   | cons z a ih=>intro b hab;cases b with
    | nil=>simp at hab
    | cons u b =>
     simp only [List.map_cons,List.cons.injEq] at hab
     simp only [List.all_cons]
     rw [ih hab.2,d1m hab.1 h.1]
     have e1:z.i=u.i:=congrArg Prod.fst hab.1
     have e2:x.i=y.i:=congrArg Prod.fst h.1
     rw [e1,e2]
  exact this h.2
theorem a1i {fn:FuncId→D8} {cr:T5} (htab:X.tab=[]) (hfn:∀ g,E3 X g (fn g)) (hcr:a3g cr) {ops:Array Oper} {nid:Nat→Nat}:∀ {l:List Nat} {s:D1} {tr:List Tr} {K:D1→List Tr→Om} {Kp:Nat→V→List Nat→List Tr→Om},b19 CR X fn cr ops nid l s tr K Kp=some r →
  ∀ {tr':List Tr} {K':St→List Tr→Prop} {Kp':Nat→D→List Nat→List Tr→Prop},tr.map Tr.face=tr'.map Tr.face→(∀ s t t',t.map Tr.face=t'.map Tr.face→K s t=some r→K' (A0 s) t')→(∀ i v rs t t',t.map Tr.face=t'.map Tr.face→Kp i v rs t=some r→Kp' i (toD v) rs t')→Y3 X ops nid l (A0 s) tr' K' Kp'
 | [],s,tr,K,Kp,h,tr',K',Kp',htr,hK,hKp=>hK _ _ _ htr h
 | i :: l,s,tr,K,Kp,h,tr',K',Kp',htr,hK,hKp=>by
  simp only [b19] at h
  simp only [Y3]
  split at h
  ·rename_i ho;rw [ho];exact a1i htab hfn hcr h htr hK hKp
  ·rename_i o ho
   rw [ho]
   refine c6w h (fun s h=>?_) (fun s h=>?_)
   ·refine d8i htab hfn hcr h (fun v ws rs h=>?_) (fun v rs h=>hKp _ _ _ _ _ htr h)
    rw [b1a] at h
    rw [← b5a,← a2s]
    refine a1i htab hfn hcr h ?_ hK hKp
    simp only [List.map_cons,List.cons.injEq,htr,and_true]
    simp only [Tr.face,Tr.ids,F1,List.map_map]
    rfl
   ·rw [b1a] at h
    have:=a2s s o.dst (.tuple [])
    simp only [toD,U3] at this
    rw [← this]
    refine a1i htab hfn hcr h ?_ hK hKp
    simp only [List.map_cons,List.cons.injEq,htr,and_true]
    rfl

def D1.more (s:D1) (n:Nat):D1:={ s with heap:=s.heap ++ List.replicate n .free }
theorem d8e (s:D1) (n:Nat):A0 (s.more n)=(A0 s).more n:=by simp only [A0,D1.more,St.more,List.map_append,List.map_replicate,D6]
def e0e (C:Comb) (m:H1) (c:Int):Bool:=C.bnot (C.band (C.bnot (C.iEq c m.k0)) (C.band (C.bnot (C.iEq c m.k1)) (C.bnot (C.iEq c m.k2))))
def e4m (C:Comb) (m:H1) (c:Int):Int:=C.isel (C.iEq c m.k0) m.v0 (C.isel (C.iEq c m.k1) m.v1 m.v2)
def e1c (m:H1) (s:D1) (c x:Int):D1:=(((s.put (some m.t0) .junk).put (some m.t1) .junk).put (some m.t2) (.int .u8 c)).put (some m.t3) (.int .i64 x)
theorem e8z (m:H1) (c:Int):e0e CR m c=m.has c:=by
 unfold e0e H1.has
 simp only [f3z,f3y,e4u,a2d,M4,S3]
theorem f3s (m:H1) (c:Int):e4m CR m c=m.val c:=by
 unfold e4m H1.val
 simp only [f4a,e4u,b8c,S3]
theorem d8f (m:H1) (s:D1) (c:Int):A0 (e1c m s c (m.val c))=m.put (A0 s) c:=by
 unfold e1c H1.put
 simp only [a2s,toD]
def b9a (C:Comb) (X:Pr) (fn:FuncId→D8) (cr:T5) (ops:Array Oper) (draw:Bool) (s:D1) (K:D1→Om) (Kp:V→Om):Om :=
 match draw with
 | false=>match b1n ops.toList with
  | none=>fSt (s.more (a3z ops.toList)) fun s'=>b19 C X fn cr ops (fun i=>s.heap.length+a6q ops.toList i) (List.range ops.size) s' [] (fun s _=>K s) (fun _ d _ _=>Kp d)
  | some m=>cond (a4p X.P m.mt && m.ok s.tmps.length) (vI C .u8 (O2 s.tmps m.src) fun c=>C.chk (e0e C m c) (C.fI (e4m C m c) fun x=>fSt (e1c m (s.more (a3z ops.toList)) c x) fun s' =>
   b19 C X fn cr ops (fun i=>s.heap.length+a6q ops.toList i) (List.range' 7 (ops.size - 7)) s' [] (fun s _=>K s) (fun _ d _ _=>Kp d))) none
 | true=>cond (a4q ops)
   (fSt (s.more (a3z ops.toList)) fun s'=>b19 C X fn cr ops (fun i=>s.heap.length+a6q ops.toList i) (List.range ops.size) s' [] (fun s tr=>cond (S7 ops tr) (K s) none)
    (fun i d rs tr=>cond (S7 ops (⟨i,none,.junk,[],rs⟩ :: tr) && (List.range ops.size).all fun j=>Nat.ble j i || T7 ops i ops.size j) (Kp d) none)) none
theorem c5t {fn:FuncId→D8} {cr:T5} (htab:X.tab=[]) (hfn:∀ g,E3 X g (fn g)) (hcr:a3g cr) {ops:Array Oper} {draw:Bool} {s:D1} {K:D1→Om} {Kp:V→Om} (h:b9a CR X fn cr ops draw s K Kp=some r)
  {K':St→Prop} {Kp':D→Prop} (hK:∀ s,K s=some r→K' (A0 s)) (hKp:∀ v,Kp v=some r→Kp' (toD v)):a2u X ops draw (A0 s) K' Kp':=by
 have el:(A0 s).heap.length=s.heap.length:=by simp [A0]
 unfold b9a at h
 unfold a2u
 rw [el,← d8e]
 split at h
 ·simp only []
  split at h
  ·rename_i hm
   rw [hm]
   rw [b1a] at h
   exact a1i htab hfn hcr h rfl (fun s t t' _ h=>hK s h) (fun i v rs t t' _ h=>hKp v h)
  ·rename_i m hm
   rw [hm]
   have et:(A0 s).tmps.length=s.tmps.length:=by simp [A0]
   simp only [et]
   generalize (a4p X.P m.mt && m.ok s.tmps.length)=b at h ⊢
   cases b with
   | false=>cases h
   | true =>
    simp only [cond_true] at h ⊢
    obtain ⟨c,hc,h⟩:=X2 h
    obtain ⟨h0,h⟩:=E6 h
    rw [e8z] at h0
    rw [CfI,f3s,b1a] at h
    have e1:(A0 s).tmps.getD m.src .junk=.int .u8 c:=by
     have:=z8 s (.tmp m.src)
     have e2:(A0 s).eval (.tmp m.src)=(A0 s).tmps.getD m.src .junk:=rfl
     rw [← e2,this];exact hc
    rw [e1]
    simp only [h0,cond_true]
    rw [← d8f]
    exact a1i htab hfn hcr h rfl (fun s t t' _ h=>hK s h) (fun i v rs t t' _ h=>hKp v h)
 ·simp only []
  cases he:a4q ops with
  | false=>rw [he] at h;cases h
  | true =>
   rw [he] at h
   simp only [cond_true] at h ⊢
   rw [b1a] at h
   refine a1i htab hfn hcr h rfl (fun s t t' ht h=>?_) (fun i v rs t t' ht h=>?_)
   ·rw [← a9y ht]
    cases hr:S7 ops t with
    | false=>rw [hr] at h;cases h
    | true=>rw [hr] at h;exact hK s h
   ·rw [← a9y (a:=⟨i,none,.junk,[],rs⟩ :: t) (by simp only [List.map_cons,ht])]
    generalize (S7 ops (⟨i,none,.junk,[],rs⟩ :: t) && (List.range ops.size).all fun j=>Nat.ble j i || T7 ops i ops.size j)=b at h ⊢
    cases b with
    | false=>cases h
    | true=>exact hKp v h
end

inductive Sh where
 | int (k:IntKind)
 | bool
 | str
 | slice (n:Nat) (c:Y4)
 | q
 | a (m:Nat)
 | agg (l:List Sh)
 | tuple (l:List Sh)
 | ptr (id off:Nat)
 | cref (m:Nat)
 | bslice (id:Nat)
 | nilp
 | nilIface
 | iface (t:TypeId) (s:Sh)
 | func (fn:Fn) (fs cs:List Sh)
 | any
inductive ShB where
 | cells (l:List Sh)
 | opa (m:Nat)
 | tok (size:Nat)
 | row
 | any

mutual
def c9y:V→Sh
 | .bool _ | .known _=>.bool
 | .int k _=>.int k
 | .str _ _=>.str
 | .slice _ n _ _ c=>.slice n c
 | .q _=>.q
 | .a _ m=>.a m
 | .agg cs=>.agg (a2r cs)
 | .tuple cs=>.tuple (a2r cs)
 | .ptr id off=>.ptr id off
 | .cref _ _ m=>.cref m
 | .bslice id _=>.bslice id
 | .nilp=>.nilp
 | .nilIface=>.nilIface
 | .iface t v=>.iface t (c9y v)
 | .func fn a b=>.func fn (a2r a) (a2r b)
 | .junk=>.any
def a2r:List V→List Sh
 | []=>[]
 | v :: vs=>c9y v :: a2r vs
end
def c5h:Bx→ShB
 | .cells cs=>.cells (a2r cs)
 | .opa _ m=>.opa m
 | .tok _ z=>.tok z
 | .row _ _=>.row
 | _=>.any
def uI (k:IntKind) (v:V) (K:Int→Om):Om:=match v with
 | .int k' n=>cond (ikEq k k') (K n) none
 | .q x=>cI k x K
 | _=>none
def uB (v:V) (K:Bool→Om):Om:=match v with
 | .bool b=>K b
 | .known b=>K b
 | .q x=>cB x K
 | _=>none
def uS (v:V) (K:Nat→Nat→Om):Om:=match v with
 | .str l c=>K l c
 | .q x=>cS x K
 | _=>none
def uSl (n cN:Nat) (v:V) (K:s6 Q→Nat→Nat→Om):Om:=match v with
 | .slice t n' off len c=>cond (Nat.beq (Y6 c) cN) (Nat.rec (motive:=fun _=>Om) (chk (nEq len 0) (K .nil 0 0)) (fun _ _=>cond (Nat.beq n n') (K t off len) (chk (nEq len 0) (K .nil 0 0))) n') none
 | .q x=>cond (Nat.beq cN 0) (cSl n x K) none
 | _=>none
def uQ (v:V) (K:Q→Om):Om:=match b86 v with
 | some x=>K x
 | none=>match v with
  | .slice t n off len .no=>K (.slice t n off len)
  | _=>none
def uA (m:Nat) (v:V) (K:Q→Om):Om:=match v with
 | .a x m'=>cond (Nat.beq m m') (K x) none
 | .agg cs=>cond (Nat.beq cs.length m) (match exQs cs with
  | some qs=>K (.agg qs 0)
  | none=>none) none
 | _=>none
where
 exQ (v:V):Option Q:=match b86 v with
  | some x=>some x
  | none=>match v with
   | .slice t n off len .no=>some (.slice t n off len)
   | _=>none
 exQs:List V→Option (List Q)
  | []=>some []
  | v :: vs=>match exQ v,exQs vs with
   | some q,some qs=>some (q :: qs)
   | _,_=>none
def uL (v:V) (K:List V→Om):Om:=match v with
 | .agg cs=>K cs
 | _=>none
def uTu (v:V) (K:List V→Om):Om:=match v with
 | .tuple cs=>K cs
 | _=>none
def uP (id off:Nat) (v:V) (K:Om):Om:=match v with
 | .ptr i o=>cond (Nat.beq id i) (cond (Nat.beq off o) K none) none
 | _=>none
def uCref (m:Nat) (v:V) (K:Q→Om):Om:=match v with
 | .cref x off m'=>cond (Nat.beq m m') (fQ (subQ x off) K) none
 | _=>none
def uBs (id:Nat) (v:V) (K:Nat→Om):Om:=match v with
 | .bslice i len=>cond (Nat.beq id i) (K len) none
 | _=>none
def uNilp (v:V) (K:Om):Om:=match v with
 | .nilp=>K
 | .q x=>d0i x K
 | _=>none
def uNilI (v:V) (K:Om):Om:=match v with
 | .nilIface=>K
 | _=>none
def uIf (t:TypeId) (v:V) (K:V→Om):Om:=match v with
 | .iface t' v=>cond (Nat.beq t t') (K v) none
 | _=>none
def uFn (f:Nat) (v:V) (K:List V→List V→Om):Om:=match v with
 | .func (.func f') fs cs=>cond (Nat.beq f f') (K fs cs) none
 | _=>none
def uCons (l:List V) (K:V→List V→Om):Om:=match l with
 | v :: l=>K v l
 | []=>none
def uNil (l:List V) (K:Om):Om:=match l with
 | []=>K
 | _=>none
def uConsB (l:List Bx) (K:Bx→List Bx→Om):Om:=match l with
 | v :: l=>K v l
 | []=>none
def uNilB (l:List Bx) (K:Om):Om:=match l with
 | []=>K
 | _=>none
def uBc (b:Bx) (K:List V→Om):Om:=match b with
 | .cells cs=>K cs
 | .opa x m=>K ((b0c 0 m).map fun i=>.q (celQ x i))
 | _=>none
def uBo (m:Nat) (b:Bx) (K:Q→Om):Om:=match b with
 | .opa x m'=>cond (Nat.beq m m') (K x) none
 | .cells cs=>cond (Nat.beq cs.length m) (match uA.exQs cs with
  | some qs=>K (.agg qs 0)
  | none=>none) none
 | _=>none
def uBt (z:Nat) (b:Bx) (K:Nat→Om):Om:=match b with
 | .tok l z'=>cond (Nat.beq z z') (K l) none
 | _=>none
def uBr (b:Bx) (K:s6 Q→Nat→Om):Om:=match b with
 | .row t len=>K t len
 | _=>none
structure B0 extends Comb where
 uI:IntKind→V→(Int→Om)→Om
 uB:V→(Bool→Om)→Om
 uS:V→(Nat→Nat→Om)→Om
 uSl:Nat→Nat→V→(s6 Q→Nat→Nat→Om)→Om
 uQ:V→(Q→Om)→Om
 uA:Nat→V→(Q→Om)→Om
 uL:V→(List V→Om)→Om
 uTu:V→(List V→Om)→Om
 uP:Nat→Nat→V→Om→Om
 uCref:Nat→V→(Q→Om)→Om
 uBs:Nat→V→(Nat→Om)→Om
 uNilp:V→Om→Om
 uNilI:V→Om→Om
 uIf:Nat→V→(V→Om)→Om
 uFn:Nat→V→(List V→List V→Om)→Om
 uCons:List V→(V→List V→Om)→Om
 uNil:List V→Om→Om
 uConsB:List Bx→(Bx→List Bx→Om)→Om
 uNilB:List Bx→Om→Om
 uBc:Bx→(List V→Om)→Om
 uBo:Nat→Bx→(Q→Om)→Om
 uBt:Nat→Bx→(Nat→Om)→Om
 uBr:Bx→(s6 Q→Nat→Om)→Om
 lp:((List V→List Bx→Om)→List V→List Bx→Om)→List V→List Bx→Om
 jn:((List V→List Bx→Om)→Om)→(List V→List Bx→Om)→Om
 same:List Bx→List Bx→Om→Om
def C9:Nat:=100000
def lp (body:(List V→List Bx→Om)→List V→List Bx→Om):List V→List Bx→Om :=
 Nat.rec (motive:=fun _=>List V→List Bx→Om) (fun _ _=>none) (fun _ ih=>body ih) C9
def jn (f:(List V→List Bx→Om)→Om) (g:List V→List Bx→Om):Om:=f g
def CU:B0:={ CR with
 uI:=uI,uB:=uB,uS:=uS,uSl:=uSl,uQ:=uQ,uA:=uA,uL:=uL,uTu:=uTu,uP:=uP,uCref:=uCref,uBs:=uBs,uNilp:=uNilp,uNilI:=uNilI,uIf:=uIf,uFn:=uFn,uCons:=uCons,uNil:=uNil,
 uConsB:=uConsB,uNilB:=uNilB,uBc:=uBc,uBo:=uBo,uBt:=uBt,uBr:=uBr,lp:=lp,jn:=jn,same:=same }
mutual
def d0m (U:B0):Sh→V→(V→Om)→Om
 | .int k,v,K=>U.uI k v fun n=>K (.int k n)
 | .bool,v,K=>U.uB v fun b=>K (.bool b)
 | .str,v,K=>U.uS v fun l c=>K (.str l c)
 | .slice n c,v,K=>U.uSl n (Y6 c) v fun t off len=>K (.slice t n off len c)
 | .q,v,K=>U.uQ v fun x=>K (.q x)
 | .a m,v,K=>U.uA m v fun x=>K (.a x m)
 | .agg l,v,K=>U.uL v fun cs=>a0w U l cs fun cs=>K (.agg cs)
 | .tuple l,v,K=>U.uTu v fun cs=>a0w U l cs fun cs=>K (.tuple cs)
 | .ptr id off,v,K=>U.uP id off v (K (.ptr id off))
 | .cref m,v,K=>U.uCref m v fun x=>K (.cref x 0 m)
 | .bslice id,v,K=>U.uBs id v fun len=>K (.bslice id len)
 | .nilp,v,K=>U.uNilp v (K .nilp)
 | .nilIface,v,K=>U.uNilI v (K .nilIface)
 | .iface t s,v,K=>U.uIf t v fun v=>d0m U s v fun v=>K (.iface t v)
 | .func (.func f) fs cs,v,K=>U.uFn f v fun a b=>a0w U fs a fun a=>a0w U cs b fun b=>K (.func (.func f) a b)
 | .func _ _ _,_,_=>none
 | .any,v,K=>K v
def a0w (U:B0):List Sh→List V→(List V→Om)→Om
 | [],l,K=>U.uNil l (K [])
 | s :: ss,l,K=>U.uCons l fun v l=>d0m U s v fun v=>a0w U ss l fun l=>K (v :: l)
end
def e5c (U:B0):ShB→Bx→(Bx→Om)→Om
 | .cells l,b,K=>U.uBc b fun cs=>a0w U l cs fun cs=>K (.cells cs)
 | .opa m,b,K=>U.uBo m b fun x=>K (.opa x m)
 | .tok z,b,K=>U.uBt z b fun l=>K (.tok l z)
 | .row,b,K=>U.uBr b fun t len=>K (.row t len)
 | .any,b,K=>K b
def a0m (U:B0):List ShB→List Bx→(List Bx→Om)→Om
 | [],l,K=>U.uNilB l (K [])
 | s :: ss,l,K=>U.uConsB l fun b l=>e5c U s b fun b=>a0m U ss l fun l=>K (b :: l)

section
variable {r:R}
theorem f3p {k:IntKind} {v:V} {K:Int→Om} (h:uI k v K=some r):∃ n,toD v=.int k n∧K n=some r:=X2 (k:=k) (v:=v) (by unfold vI;exact h)
theorem f3o {v:V} {K:Bool→Om} (h:uB v K=some r):∃ b,toD v=.bool b∧K b=some r:=a0h (v:=v) (by unfold vB;exact h)
theorem f3r {v:V} {K:Nat→Nat→Om} (h:uS v K=some r):∃ l c,toD v=.str (o8 l c)∧K l c=some r:=a0i (v:=v) (by unfold vS;exact h)
theorem e4i {n:Nat} {c:Y4} {v:V} {K:s6 Q→Nat→Nat→Om} (h:uSl n (Y6 c) v K=some r):∃ t off len,toD v=.slice len (A8 (C3 t) n off len) c∧K t off len=some r:=by
 unfold uSl at h
 split at h
 ·rename_i t n' off len c'
  cases hc:Nat.beq (Y6 c') (Y6 c) with
  | false=>rw [hc] at h;cases h
  | true =>
   rw [hc] at h
   have:=c2c (Nat.eq_of_beq_eq_true hc)
   subst this
   simp only [cond_true] at h
   cases n' with
   | zero =>
    obtain ⟨h1,h⟩:=a9c (show chk (nEq len 0) (K .nil 0 0)=some r from h)
    have:=Nat.eq_of_beq_eq_true h1
    subst this
    exact ⟨.nil,0,0,by simp only [toD,A8],h⟩
   | succ n' =>
    have h:cond (Nat.beq n (n'+1)) (K t off len) (chk (nEq len 0) (K .nil 0 0))=some r:=h
    cases hn:Nat.beq n (n'+1) with
    | false =>
     rw [hn] at h
     obtain ⟨h1,h⟩:=a9c (show chk (nEq len 0) (K .nil 0 0)=some r from h)
     have:=Nat.eq_of_beq_eq_true h1
     subst this
     exact ⟨.nil,0,0,by simp only [toD,A8],h⟩
    | true=>rw [hn] at h;rw [Nat.eq_of_beq_eq_true hn];exact ⟨t,off,len,by simp only [toD],h⟩
 ·cases hc:Nat.beq (Y6 c) 0 with
  | false=>rw [hc] at h;cases h
  | true =>
   rw [hc] at h
   have:c=.no:=c2c (Nat.eq_of_beq_eq_true hc)
   subst this
   obtain ⟨t,off,len,hx,h'⟩:=c2b h
   exact ⟨t,off,len,by simp only [toD,hx],h'⟩
 ·cases h
theorem d97 {v:V} {x:Q} (h:uA.exQ v=some x):toD v=den x 0:=by
 unfold uA.exQ at h
 split at h
 ·rename_i hx;injection h with h;subst h;exact a6x hx
 ·split at h
  ·injection h with h;subst h;simp only [toD,den];rfl
  ·cases h
theorem b09:∀ {vs:List V} {qs:List Q},uA.exQs vs=some qs→vs.map toD=qs.map (fun x=>den x 0)
 | [],qs,h=>by simp only [uA.exQs] at h;injection h with h;subst h;rfl
 | v :: vs,qs,h=>by
  simp only [uA.exQs] at h
  split at h
  ·rename_i q qs' hq hqs
   injection h with h;subst h
   simp only [List.map_cons,d97 hq,b09 hqs]
  ·cases h
theorem f3q {v:V} {K:Q→Om} (h:uQ v K=some r):∃ x,toD v=den x 0∧K x=some r:=by
 unfold uQ at h
 split at h
 ·rename_i x hx;exact ⟨x,a6x hx,h⟩
 ·split at h
  ·exact ⟨_,by simp only [toD,den];rfl,h⟩
  ·cases h
theorem f3n {m:Nat} {v:V} {K:Q→Om} (h:uA m v K=some r):∃ x,toD v=.agg (A6 (den x) 0 m)∧K x=some r:=by
 unfold uA at h
 split at h
 ·rename_i x m'
  cases hm:Nat.beq m m' with
  | false=>rw [hm] at h;cases h
  | true=>rw [hm] at h;rw [Nat.eq_of_beq_eq_true hm];exact ⟨x,by simp only [toD],h⟩
 ·rename_i cs
  cases hm:Nat.beq cs.length m with
  | false=>rw [hm] at h;cases h
  | true =>
   rw [hm] at h
   simp only [cond_true] at h
   split at h
   ·rename_i qs hqs
    have e:=b09 hqs
    have hl:qs.length=m:=by have:=congrArg List.length e;simp at this;rw [← this];exact Nat.eq_of_beq_eq_true hm
    exact ⟨_,by simp only [toD,E4,e];rw [← hl,b02],h⟩
   ·cases h
 ·cases h
mutual
theorem b0z:∀ {s:Sh} {v:V} {K:V→Om},d0m CU s v K=some r→∃ v',toD v'=toD v∧K v'=some r
 | .int k,v,K,h=>by
  obtain ⟨n,hv,h⟩:=f3p (show uI k v _=some r from h);exact ⟨_,by rw [hv];simp only [toD],h⟩
 | .bool,v,K,h=>by
  obtain ⟨n,hv,h⟩:=f3o (show uB v _=some r from h);exact ⟨_,by rw [hv];simp only [toD],h⟩
 | .str,v,K,h=>by
  obtain ⟨l,c,hv,h⟩:=f3r (show uS v _=some r from h);exact ⟨_,by rw [hv];simp only [toD],h⟩
 | .slice n c,v,K,h=>by
  obtain ⟨t,off,len,hv,h⟩:=e4i (show uSl n (Y6 c) v (fun t off len=>K (.slice t n off len c))=some r from h);exact ⟨_,by rw [hv];simp only [toD],h⟩
 | .q,v,K,h=>by
  obtain ⟨x,hv,h⟩:=f3q (show uQ v _=some r from h);exact ⟨_,by rw [hv];simp only [toD],h⟩
 | .a m,v,K,h=>by
  obtain ⟨x,hv,h⟩:=f3n (show uA m v _=some r from h);exact ⟨_,by rw [hv];simp only [toD],h⟩
 | .agg l,v,K,h=>by
  replace h:uL v _=some r:=h
  unfold uL at h
  split at h
  ·obtain ⟨cs',e,h⟩:=K2 h;exact ⟨_,by simp only [toD,E4,e],h⟩
  ·cases h
 | .tuple l,v,K,h=>by
  replace h:uTu v _=some r:=h
  unfold uTu at h
  split at h
  ·obtain ⟨cs',e,h⟩:=K2 h;exact ⟨_,by simp only [toD,E4,e],h⟩
  ·cases h
 | .ptr id off,v,K,h=>by
  replace h:uP id off v _=some r:=h
  unfold uP at h
  split at h
  ·rename_i i o
   cases h1:Nat.beq id i with
   | false=>rw [h1] at h;cases h
   | true =>
    rw [h1] at h
    cases h2:Nat.beq off o with
    | false=>rw [h2] at h;cases h
    | true=>rw [h2] at h;exact ⟨_,by rw [Nat.eq_of_beq_eq_true h1,Nat.eq_of_beq_eq_true h2],h⟩
  ·cases h
 | .cref m,v,K,h=>by
  replace h:uCref m v _=some r:=h
  unfold uCref at h
  split at h
  ·rename_i x off m'
   cases h1:Nat.beq m m' with
   | false=>rw [h1] at h;cases h
   | true =>
    rw [h1] at h
    simp only [cond_true,b55] at h
    exact ⟨_,by rw [Nat.eq_of_beq_eq_true h1];simp only [toD,b7j,Nat.add_zero],h⟩
  ·cases h
 | .bslice id,v,K,h=>by
  replace h:uBs id v _=some r:=h
  unfold uBs at h
  split at h
  ·rename_i i len
   cases h1:Nat.beq id i with
   | false=>rw [h1] at h;cases h
   | true=>rw [h1] at h;exact ⟨_,by rw [Nat.eq_of_beq_eq_true h1],h⟩
  ·cases h
 | .nilp,v,K,h=>by
  replace h:uNilp v _=some r:=h
  unfold uNilp at h
  split at h
  ·exact ⟨_,rfl,h⟩
  ·obtain ⟨hx,h'⟩:=d0j h;subst hx;exact ⟨_,by simp only [toD,den];rfl,h'⟩
  ·cases h
 | .nilIface,v,K,h=>by
  replace h:uNilI v _=some r:=h
  unfold uNilI at h
  split at h
  ·exact ⟨_,rfl,h⟩
  ·cases h
 | .iface t s,v,K,h=>by
  replace h:uIf t v _=some r:=h
  unfold uIf at h
  split at h
  ·rename_i t' v0
   cases h1:Nat.beq t t' with
   | false=>rw [h1] at h;cases h
   | true =>
    rw [h1] at h
    obtain ⟨v',e,h⟩:=b0z h
    exact ⟨_,by rw [Nat.eq_of_beq_eq_true h1];simp only [toD,e],h⟩
  ·cases h
 | .func (.func f) fs cs,v,K,h=>by
  replace h:uFn f v _=some r:=h
  unfold uFn at h
  split at h
  ·rename_i f' a b
   cases h1:Nat.beq f f' with
   | false=>rw [h1] at h;cases h
   | true =>
    rw [h1] at h
    obtain ⟨a',ea,h⟩:=K2 h
    obtain ⟨b',eb,h⟩:=K2 h
    exact ⟨_,by rw [Nat.eq_of_beq_eq_true h1];simp only [toD,E4,ea,eb],h⟩
  ·cases h
 | .any,v,K,h=>⟨v,rfl,h⟩
theorem K2:∀ {ss:List Sh} {l:List V} {K:List V→Om},a0w CU ss l K=some r→∃ l',l'.map toD=l.map toD∧K l'=some r
 | [],l,K,h=>by
  replace h:uNil l _=some r:=h
  unfold uNil at h
  split at h
  ·exact ⟨[],rfl,h⟩
  ·cases h
 | s :: ss,l,K,h=>by
  replace h:uCons l _=some r:=h
  unfold uCons at h
  split at h
  ·obtain ⟨v',e1,h⟩:=b0z h
   obtain ⟨l',e2,h⟩:=K2 h
   exact ⟨_,by simp only [List.map_cons,e1,e2],h⟩
  ·cases h
end
theorem d0n {s:ShB} {b:Bx} {K:Bx→Om} (h:e5c CU s b K=some r):∃ b',D6 b'=D6 b∧K b'=some r:=by
 cases s with
 | cells l =>
  replace h:uBc b _=some r:=h
  unfold uBc at h
  split at h
  ·obtain ⟨cs',e,h⟩:=K2 h;exact ⟨_,by simp only [D6,e],h⟩
  ·rename_i x m
   obtain ⟨cs',e,h⟩:=K2 h
   refine ⟨_,?_,h⟩
   simp only [D6,e,K7,List.map_map]
   congr 1
   exact List.map_congr_left fun i _=>by simp only [Function.comp,toD];exact a2f x i
  ·cases h
 | opa m =>
  replace h:uBo m b _=some r:=h
  unfold uBo at h
  split at h
  ·rename_i x m'
   cases hm:Nat.beq m m' with
   | false=>rw [hm] at h;cases h
   | true=>rw [hm] at h;exact ⟨_,by rw [Nat.eq_of_beq_eq_true hm],h⟩
  ·rename_i cs
   cases hm:Nat.beq cs.length m with
   | false=>rw [hm] at h;cases h
   | true =>
    rw [hm] at h
    simp only [cond_true] at h
    split at h
    ·rename_i qs hqs
     have e:=b09 hqs
     have hl:qs.length=m:=by have:=congrArg List.length e;simp at this;rw [← this];exact Nat.eq_of_beq_eq_true hm
     exact ⟨_,by simp only [D6,e];rw [← hl,b02],h⟩
    ·cases h
  ·cases h
 | tok z =>
  replace h:uBt z b _=some r:=h
  unfold uBt at h
  split at h
  ·rename_i l z'
   cases hm:Nat.beq z z' with
   | false=>rw [hm] at h;cases h
   | true=>rw [hm] at h;exact ⟨_,by rw [Nat.eq_of_beq_eq_true hm],h⟩
  ·cases h
 | row =>
  replace h:uBr b _=some r:=h
  unfold uBr at h
  split at h
  ·exact ⟨_,rfl,h⟩
  ·cases h
 | any=>exact ⟨b,rfl,h⟩
theorem W6:∀ {ss:List ShB} {l:List Bx} {K:List Bx→Om},a0m CU ss l K=some r→∃ l',l'.map D6=l.map D6∧K l'=some r
 | [],l,K,h=>by
  replace h:uNilB l _=some r:=h
  unfold uNilB at h
  split at h
  ·exact ⟨[],rfl,h⟩
  ·cases h
 | s :: ss,l,K,h=>by
  replace h:uConsB l _=some r:=h
  unfold uConsB at h
  split at h
  ·obtain ⟨v',e1,h⟩:=d0n h
   obtain ⟨l',e2,h⟩:=W6 h
   exact ⟨_,by simp only [List.map_cons,e1,e2],h⟩
  ·cases h
end

structure Ann where
 ks:List (Nat × Nat)
 vs:List Sh
 bs:List ShB

def ev (U:B0) (X:Pr) (fn:FuncId→D8) (cr:T5) (n0:Nat) (AL AJ:Nat→Option Ann):Code→Nat→Nat→D1→(D1→Om)→(Nat→D1→Om)→(D1→Om)→(V→Om)→Om
 | .skip,_,_,s,K,_,_,_=>K s
 | .region _ ops draw,_,_,s,K,_,_,Kp=>b9a U.toComb X fn cr ops draw s K Kp
 | .seq a b,p,q,s,K,Kx,Kr,Kp=>match AJ q with
  | none=>ev U X fn cr n0 AL AJ a p (q+1) s (fun s'=>ev U X fn cr n0 AL AJ b (p+O5 a) (q+1+T6 a) s' K Kx Kr Kp) Kx Kr Kp
  | some A=>U.jn (fun j=>ev U X fn cr n0 AL AJ a p (q+1) s (fun s'=>cond (a4g n0 s.tmps.length A.ks s') (j (a5g n0 A.ks s').1 (a5g n0 A.ks s').2) none) Kx Kr Kp)
    (fun vs bs=>a0w U A.vs vs fun vs=>a0m U A.bs bs fun bs=>ev U X fn cr n0 AL AJ b (p+O5 a) (q+1+T6 a) (b3h s.tmps.length A.ks vs bs) K Kx Kr Kp)
 | .cond c t e,p,q,s,K,Kx,Kr,Kp=>match s.eval c with
  | .known b=>cond b (ev U X fn cr n0 AL AJ t p q s K Kx Kr Kp) (ev U X fn cr n0 AL AJ e (p+O5 t) (q+T6 t) s K Kx Kr Kp)
  | v=>vB U.toComb v fun b=>U.cnd b (ev U X fn cr n0 AL AJ t p q (refV s c true) K Kx Kr Kp) (ev U X fn cr n0 AL AJ e (p+O5 t) (q+T6 t) (refV s c false) K Kx Kr Kp)
 | .block id c,p,q,s,K,Kx,Kr,Kp=>ev U X fn cr n0 AL AJ c p q s K (fun j s'=>cond (Nat.beq j id) (K s') (Kx j s')) Kr Kp
 | .loop c,p,q,s,_,Kx,Kr,Kp=>match AL p with
  | none=>none
  | some A=>cond (a4g n0 s.tmps.length A.ks s) (U.lp (fun self vs bs=>a0w U A.vs vs fun vs=>a0m U A.bs bs fun bs =>
    ev U X fn cr n0 AL AJ c (p+1) q (b3h s.tmps.length A.ks vs bs) (fun s'=>cond (a4g n0 s.tmps.length A.ks s') (self (a5g n0 A.ks s').1 (a5g n0 A.ks s').2) none) Kx Kr Kp) (a5g n0 A.ks s).1 (a5g n0 A.ks s).2) none
 | .exit j,_,_,s,_,Kx,_,_=>Kx j s
 | .ret,_,_,s,_,_,Kr,_=>Kr s
 | _,_,_,_,_,_,_,_=>none
where refV (s:D1) (c:Operand) (b:Bool):D1:=match c with
 | .tmp t=>s.put (some t) (.known b)
 | _=>s

def b0x (A:Ann):Cut:={ π:=List D × List B4→Prop,ι:=fun p=>{ v // p v },ks:=A.ks,V:=fun _ ix=>ix.val }

section
variable {X:Pr} {r:R}
theorem c5o (s:D1) (c:Operand) (b:Bool):A0 (ev.refV s c b)=(A0 s).ref c b:=by
 cases c with
 | tmp t=>have:=a2s s (some t) (.known b);simp only [toD] at this;exact this
 | _=>rfl
theorem d5r {body:(List V→List Bx→Om)→List V→List Bx→Om} {vs:List V} {bs:List Bx} (h:CU.lp body vs bs=some r):∃ n,Nat.rec (motive:=fun _=>List V→List Bx→Om) (fun _ _=>none) (fun _ ih=>body ih) n vs bs=some r:=⟨C9,h⟩

theorem P9 {fn:FuncId→D8} {cr:T5} (htab:X.tab=[]) (hfn:∀ g,E3 X g (fn g)) (hcr:a3g cr) {n0:Nat} {AL AJ:Nat→Option Ann}:∀ (c:Code) {p q:Nat} {s:D1} {K:D1→Om} {Kx:Nat→D1→Om} {Kr:D1→Om} {Kp:V→Om},
  ev CU X fn cr n0 AL AJ c p q s K Kx Kr Kp=some r→∀ {K':St→Prop} {Kx':Nat→St→Prop} {Kr':St→Prop} {Kp':D→Prop},(∀ s,K s=some r→K' (A0 s))→(∀ j s,Kx j s=some r→Kx' j (A0 s))→(∀ s,Kr s=some r→Kr' (A0 s))→(∀ v,Kp v=some r→Kp' (toD v)) →
  vc X n0 (fun _ body s=>a1n n0 body s) (fun q=>(AJ q).map b0x) c p q (A0 s) K' Kx' Kr' Kp'
 | .skip,p,q,s,K,Kx,Kr,Kp,h,K',Kx',Kr',Kp',hK,hx,hr,hp=>hK s h
 | .region id ops draw,p,q,s,K,Kx,Kr,Kp,h,K',Kx',Kr',Kp',hK,hx,hr,hp=>c5t htab hfn hcr h hK hp
 | .seq a b,p,q,s,K,Kx,Kr,Kp,h,K',Kx',Kr',Kp',hK,hx,hr,hp=>by
  simp only [ev] at h
  simp only [vc]
  have el:(A0 s).tmps.length=s.tmps.length:=by simp [A0]
  split at h
  ·rename_i hj
   rw [hj]
   exact P9 htab hfn hcr a h (fun s' h=>P9 htab hfn hcr b h hK hx hr hp) hx hr hp
  ·rename_i A hj
   rw [hj]
   simp only [Option.map_some,b0x]
   have h:jn _ _=some r:=h
   unfold jn at h
   refine ⟨fun v=>vc X n0 (fun _ body s=>a1n n0 body s) (fun q=>(AJ q).map b0x) b (p+O5 a) (q+1+T6 a) (a7s (A0 s).tmps.length A.ks v) K' Kx' Kr' Kp',?_,fun ix=>ix.property⟩
   refine P9 htab hfn hcr a h (fun s' h=>?_) hx hr hp
   rw [el,← b4r]
   cases hok:a4g n0 s.tmps.length A.ks s' with
   | false=>rw [hok] at h;cases h
   | true =>
    rw [hok] at h
    simp only [cond_true] at h ⊢
    obtain ⟨vs',e1,h⟩:=K2 h
    obtain ⟨bs',e2,h⟩:=W6 h
    refine .mk ⟨gcV n0 A.ks (A0 s'),?_⟩ rfl
    rw [b79,← e1,← e2,← c5k]
    exact P9 htab hfn hcr b h hK hx hr hp
 | .cond c t e,p,q,s,K,Kx,Kr,Kp,h,K',Kx',Kr',Kp',hK,hx,hr,hp=>by
  simp only [ev] at h
  simp only [vc]
  rw [z8]
  split at h
  ·rename_i b hc
   rw [hc]
   simp only [toD]
   have e0:(A0 s).eval c=.bool b:=by rw [z8,hc];simp only [toD]
   cases b
   ·simp only [cond_false] at h ⊢;rw [a9x e0];exact P9 htab hfn hcr e h hK hx hr hp
   ·simp only [cond_true] at h ⊢;rw [a9x e0];exact P9 htab hfn hcr t h hK hx hr hp
  ·obtain ⟨b,hv,h⟩:=a0h h
   rw [hv]
   simp only []
   have h:cnd b _ _=some r:=h
   rw [a73] at h
   cases b
   ·simp only [cond_false] at h ⊢;rw [← c5o];exact P9 htab hfn hcr e h hK hx hr hp
   ·simp only [cond_true] at h ⊢;rw [← c5o];exact P9 htab hfn hcr t h hK hx hr hp
 | .block id c,p,q,s,K,Kx,Kr,Kp,h,K',Kx',Kr',Kp',hK,hx,hr,hp=>by
  simp only [ev] at h
  simp only [vc]
  refine P9 htab hfn hcr c h hK (fun j s h=>?_) hr hp
  cases hj:Nat.beq j id with
  | true=>rw [hj] at h;exact hK s h
  | false=>rw [hj] at h;exact hx j s h
 | .loop c,p,q,s,K,Kx,Kr,Kp,h,K',Kx',Kr',Kp',hK,hx,hr,hp=>by
  simp only [ev] at h
  simp only [vc]
  have el:(A0 s).tmps.length=s.tmps.length:=by simp [A0]
  split at h
  ·cases h
  ·rename_i A hA
   cases hok:a4g n0 s.tmps.length A.ks s with
   | false=>rw [hok] at h;cases h
   | true =>
    rw [hok] at h
    simp only [cond_true] at h
    obtain ⟨n,h⟩:=d5r h
    generalize hbody:(fun (self:List V→List Bx→Om) (vs:List V) (bs:List Bx)=>a0w CU A.vs vs fun vs=>a0m CU A.bs bs fun bs =>
     ev CU X fn cr n0 AL AJ c (p+1) q (b3h s.tmps.length A.ks vs bs) (fun s'=>cond (a4g n0 s.tmps.length A.ks s') (self (a5g n0 A.ks s').1 (a5g n0 A.ks s').2) none) Kx Kr Kp)=body at h
    refine a1n.mk { x:(List D × List B4) × Nat // ∃ vs bs,x.1=(vs.map toD,bs.map D6)∧Nat.rec (motive:=fun _=>List V→List Bx→Om) (fun _ _=>none) (fun _ ih=>body ih) x.2 vs bs=some r } (fun i=>i.val.1) (fun i=>i.val.2)
     ⟨(gcV n0 A.ks (A0 s),n),_,_,b79 n0 A.ks s,h⟩ A.ks (by rw [el,← b4r];exact hok) rfl ?_
    rintro ⟨⟨v,m⟩,vs,bs,hv,hrun⟩
    simp only at hv hrun ⊢
    cases m with
    | zero=>cases hrun
    | succ m =>
     have hrun:body (Nat.rec (motive:=fun _=>List V→List Bx→Om) (fun _ _=>none) (fun _ ih=>body ih) m) vs bs=some r:=hrun
     rw [← hbody] at hrun
     obtain ⟨vs',e1,hrun⟩:=K2 hrun
     obtain ⟨bs',e2,hrun⟩:=W6 hrun
     subst hv
     rw [el]
     have e3:A0 (b3h s.tmps.length A.ks vs' bs')=a7s s.tmps.length A.ks (vs.map toD,bs.map D6):=by rw [c5k,e1,e2]
     rw [← e3]
     refine P9 htab hfn hcr c hrun (fun s' h'=>?_) hx hr hp
     rw [← b4r]
     cases hok':a4g n0 s.tmps.length A.ks s' with
     | false=>rw [hok'] at h';cases h'
     | true =>
      rw [hok'] at h'
      simp only [cond_true] at h' ⊢
      rw [hbody] at h'
      exact .mk ⟨(gcV n0 A.ks (A0 s'),m),_,_,b79 n0 A.ks s',h'⟩ (Nat.lt_succ_self m) rfl
 | .exit j,p,q,s,K,Kx,Kr,Kp,h,K',Kx',Kr',Kp',hK,hx,hr,hp=>hx j s h
 | .ret,p,q,s,K,Kx,Kr,Kp,h,K',Kx',Kr',Kp',hK,hx,hr,hp=>hr s h
 | .rangeFunc ..,_,_,_,_,_,_,_,h,_,_,_,_,_,_,_,_=>by cases h
 | .scope _,_,_,_,_,_,_,_,h,_,_,_,_,_,_,_,_=>by cases h
 | .label _,_,_,_,_,_,_,_,h,_,_,_,_,_,_,_,_=>by cases h
 | .goto _,_,_,_,_,_,_,_,h,_,_,_,_,_,_,_,_=>by cases h
 | .refuse _,_,_,_,_,_,_,_,h,_,_,_,_,_,_,_,_=>by cases h
end

def a90 (C:Comb) (P:Program) (s:D1):List ResultVar→(List V→Om)→Om
 | [],K=>K []
 | .tmp t :: rs,K=>a90 C P s rs fun vs=>K (O2 s.tmps t :: vs)
 | .cell x t :: rs,K=>match O2 s.tmps x with
  | .ptr id off=>match P0 s.heap id with
   | .cells cs=>b62 C P t cs off fun v=>a90 C P s rs fun vs=>K (v :: vs)
   | .opa y m=>b27 C P t y off m fun v=>a90 C P s rs fun vs=>K (v :: vs)
   | _=>none
  | _=>none
def c4p:List V→V
 | [v]=>v
 | vs=>.tuple vs
def b3i (n:Nat) (v:V):V:=a4z (Y0 (a0v n) v)
theorem b7h (n:Nat) (v:V):toD (b3i n v)=S8 n (toD v):=by unfold b3i S8;rw [b7g,a09]
def c3s (C:Comb) (n:Nat) (h:List Bx) (g:Option Nat) (v:V) (K:V→Om):Om:=match g,v with
 | some z,.slice t m off len (.tok id)=>match P0 h id with
  | .tok l z'=>bif Nat.ble n id && (Nat.beq z' z && Nat.beq m z) then C.chk (C.nEq l len) (K (.slice t m off len (.fr z))) else none
  | _=>none
 | some z,.slice t m off len .exact=>bif Nat.beq m z then K (.slice t m off len (.fr z)) else bif Nat.beq m 0 then C.chk (C.nEq len 0) (K (.slice .nil z 0 0 (.fr z))) else none
 | _,v=>K (b3i n v)
def a8a (C:Comb) (n:Nat) (h:List Bx):List (Option Nat)→List V→(List V→Om)→Om
 | _,[],K=>K []
 | [],v :: vs,K=>a8a C n h [] vs fun r=>K (b3i n v :: r)
 | g :: gv,v :: vs,K=>c3s C n h g v fun v=>a8a C n h gv vs fun r=>K (v :: r)
def b77 (C:Comb) (P:Program) (rs:List ResultVar) (n:Nat) (gv:List (Option Nat)) (s:D1):Om :=
 a90 C P s rs fun vs=>match a7y s.heap (List.range n) with
  | some bs=>a8a C n s.heap gv vs fun vs=>some (.ret (c4p vs),bs.map (a08 (a0v n)))
  | none=>none
def b7f (ntmps:Nat) (vs:List V) (bs:List Bx):D1:={ tmps:=vs ++ List.replicate (ntmps - vs.length) (.tuple []),heap:=bs }
def d92 (U:B0) (X:Pr) (fn:FuncId→D8) (cr:T5) (AL AJ:Nat→Option Ann) (gv:List (Option Nat)) (f:Func):D8:=fun vs bs =>
 ev U X fn cr bs.length AL AJ (f.body.getD .skip) 0 0 (b7f f.ntmps vs bs) (b77 U.toComb X.P f.results.toList bs.length gv) (fun _ _=>none) (b77 U.toComb X.P f.results.toList bs.length gv) (fun v=>some (.pan v,bs))

section
variable {X:Pr} {r:R}
theorem a4k {P:Program} {s:D1}:∀ {rs:List ResultVar} {K:List V→Om},a90 CR P s rs K=some r→∃ vs,K vs=some r∧a31 P (A0 s) rs=some (vs.map toD)
 | [],K,h=>⟨[],h,rfl⟩
 | .tmp t :: rs,K,h=>by
  simp only [a90] at h
  obtain ⟨vs,h,e⟩:=a4k h
  exact ⟨_,h,by simp only [a31,e,Option.map_some,List.map_cons,a3s]⟩
 | .cell x t :: rs,K,h=>by
  simp only [a90] at h
  split at h
  ·rename_i id off hx
   split at h
   ·rename_i cs hb
    obtain ⟨v,h,hr⟩:=a9w h
    obtain ⟨vs,h,e⟩:=a4k h
    have hh:=U0 hb (by simp)
    refine ⟨_,h,?_⟩
    simp only [a31,a3s,hx,toD,hh,D6,hr,Option.bind_some,e,Option.map_some,List.map_cons]
   ·rename_i y m hb
    obtain ⟨v,h,hr⟩:=a4i h
    obtain ⟨vs,h,e⟩:=a4k h
    have hh:=U0 hb (by simp)
    have:=hr 0 (Nat.zero_le _)
    rw [Nat.sub_zero,Nat.sub_zero] at this
    refine ⟨_,h,?_⟩
    simp only [a31,a3s,hx,toD,hh,D6,this,Option.bind_some,e,Option.map_some,List.map_cons]
   ·cases h
  ·cases h
theorem d51 (vs:List V):toD (c4p vs)=a9u (vs.map toD):=by
 unfold c4p
 split
 ·rfl
 ·rename_i h
  match vs,h with
  | [],_=>simp only [toD,U3,List.map_nil,a9u]
  | [v],h=>exact absurd rfl (h v)
  | v :: w :: vs,_=>simp only [toD,E4,List.map_cons,a9u]
theorem c6a {n:Nat} {s:D1} {g:Option Nat} {v:V} {K:V→Om} (h:c3s CR n s.heap g v K=some r):∃ v',K v'=some r∧a27 n (A0 s).heap g (toD v)=toD v':=by
 unfold c3s at h
 split at h
 ·rename_i z t m off len id
  split at h
  ·rename_i l z' hb
   have hh:=U0 hb (by simp)
   simp only [D6] at hh
   cases hg:Nat.ble n id && (Nat.beq z' z && Nat.beq m z) with
   | false=>rw [hg] at h;cases h
   | true =>
    rw [hg] at h
    simp only [cond_true] at h
    obtain ⟨h0,h⟩:=E6 h
    have h0:Nat.beq l len=true:=h0
    simp only [Bool.and_eq_true] at hg
    obtain ⟨g1,g2,g3⟩:=hg
    have:=Nat.eq_of_beq_eq_true g3
    subst this
    refine ⟨_,h,?_⟩
    simp only [toD,a27,hh,g1,g2,h0,G9,Nat.beq_refl,Bool.and_self,cond_true]
  ·cases h
 ·rename_i z t m off len
  cases hm:Nat.beq m z with
  | true =>
   rw [hm] at h
   have:=Nat.eq_of_beq_eq_true hm
   subst this
   exact ⟨_,h,by simp only [toD,a27,G9,Nat.beq_refl,cond_true]⟩
  | false =>
   rw [hm] at h
   simp only [cond_false] at h
   cases h0:Nat.beq m 0 with
   | false=>rw [h0] at h;cases h
   | true =>
    rw [h0] at h
    simp only [cond_true] at h
    obtain ⟨h1,h⟩:=E6 h
    have h1:Nat.beq len 0=true:=h1
    have:=Nat.eq_of_beq_eq_true h1
    subst this
    exact ⟨_,h,by simp only [toD,a27,A8,List.length_nil,Nat.zero_mul,Nat.beq_refl,cond_true]⟩
 ·rename_i hn1 hn2
  refine ⟨_,h,?_⟩
  rw [b7h]
  unfold a27
  split
  ·rename_i z len c id hd
   exfalso
   cases v <;> simp only [toD] at hd <;> first | (cases hd;done) | skip
   ·injection hd with _ _ hd;subst hd;exact hn1 _ _ _ _ _ _ rfl rfl
   ·cases Z8 _ _ _ _ _ hd
  ·rename_i z len c hd
   exfalso
   cases v <;> simp only [toD] at hd <;> first | (cases hd;done) | skip
   ·injection hd with _ _ hd;subst hd;exact hn2 _ _ _ _ _ rfl rfl
   ·cases Z8 _ _ _ _ _ hd
  ·rfl
theorem a7j {n:Nat} {s:D1}:∀ {gv:List (Option Nat)} {vs:List V} {K:List V→Om},a8a CR n s.heap gv vs K=some r→∃ vs',K vs'=some r∧X7 n (A0 s).heap gv (vs.map toD)=vs'.map toD
 | gv,[],K,h=>by cases gv <;> exact ⟨[],h,by simp [X7]⟩
 | [],v :: vs,K,h=>by
  simp only [a8a] at h
  obtain ⟨vs',h,e⟩:=a7j h
  exact ⟨_,h,by simp only [List.map_cons,X7,b7h,e]⟩
 | g :: gv,v :: vs,K,h=>by
  simp only [a8a] at h
  obtain ⟨v',h,e1⟩:=c6a h
  obtain ⟨vs',h,e⟩:=a7j h
  exact ⟨_,h,by simp only [List.map_cons,X7,e1,e]⟩
theorem a3p {P:Program} {rs:List ResultVar} {n:Nat} {gv:List (Option Nat)} {s:D1} {x:H4} {bs':List Bx} (h:b77 CR P rs n gv s=some (x,bs')):fin P rs n gv (a7p x) (bs'.map J3) (A0 s):=by
 obtain ⟨vs,h,e⟩:=a4k h
 split at h
 ·rename_i bs hb
  obtain ⟨vs',h,eg⟩:=a7j h
  injection h with h
  injection h with h1 h2
  subst h1 h2
  obtain ⟨q1,q2,q3⟩:=a7c hb
  have q1:R4 (A0 s).heap (List.range n)=some (bs.map J3):=q1
  unfold fin
  rw [e,q1]
  refine ⟨?_,?_⟩
  ·simp only [a7p,d51,eg]
  ·rw [List.map_map,List.map_map];exact List.map_congr_left fun b _=>(b3a (a0v n)).symm
 ·cases h
theorem b7m (n:Nat) (vs:List V) {bs:List Bx} (h:bs.all O6=true):A0 (b7f n vs bs)=start n (vs.map toD) (bs.map J3):=by
 unfold b7f start A0
 simp only [List.map_append,List.map_replicate,List.length_map,List.map_map,toD,U3]
 congr 1
 exact List.map_congr_left fun b hb=>a2e (List.all_eq_true.1 h b hb)

theorem e8t {fn:FuncId→D8} {cr:T5} (htab:X.tab=[]) (hfn:∀ g,E3 X g (fn g)) (hcr:a3g cr) {AL AJ:Nat→Option Ann} {gv:List (Option Nat)} {f:FuncId} {F:Func} (hf:X.P.funcs[f]?=some F) (hb:F.body.isSome=true)
  (hcall:∀ args w,(callFunc f args).run X.P w=.ok (.enter f args) w):E3 X f (d92 CU X fn cr AL AJ gv F):=by
 intro vs bs x bs' h hok
 obtain ⟨c,hc⟩:=Option.isSome_iff_exists.1 hb
 unfold d92 at h
 rw [hc] at h
 have:=P9 (X:=X) htab hfn hcr c h (K':=fin X.P F.results.toList bs.length gv (a7p x) (bs'.map J3)) (Kx':=fun _ _=>False) (Kr':=fin X.P F.results.toList bs.length gv (a7p x) (bs'.map J3)) (Kp':=fun d=>a7p x=.pan d)
  (fun s h=>a3p h) (fun _ _ h=>by cases h) (fun s h=>a3p h) (fun v h=>by injection h with h;injection h with h1 h2;rw [← h1];rfl)
 rw [b7m _ _ hok] at this
 have e:(bs.map J3).length=bs.length:=by simp
 refine a2h (X:=X) (gv:=gv) (L:=fun _ body s=>a1n bs.length body s) (J:=fun q=>(AJ q).map b0x) hf hc hcall (fun _ _ _ h=>by rw [e];exact h) ?_
 rw [e]
 exact this

end
def d06 (U:B0) (X:Pr) (fn:FuncId→D8) (cr:T5) (AL AJ:Nat→Option Ann) (gv:List (Option Nat)) (f:Func):D8:=fun vs bs=>match f.body with
 | some (.seq A (.seq R C))=>match a74 R with
  | some (_,t)=>ev U X fn cr bs.length AL AJ A 0 0 (b7f f.ntmps vs bs) (fun s=>match O2 s.tmps t with
    | .ptr _ _=>ev U X fn cr bs.length AL AJ C (O5 A) (T6 A) s (b77 U.toComb X.P f.results.toList bs.length gv) (fun _ _=>none) (b77 U.toComb X.P f.results.toList bs.length gv) (fun _=>none)
    | _=>none) (fun _ _=>none) (b77 U.toComb X.P f.results.toList bs.length gv) (fun _=>none)
  | none=>none
 | _=>none
def d00 (f:Func):Option FuncId:=match f.body with
 | some (.seq _ (.seq R _))=>(a74 R).map (·.1)
 | _=>none
section
variable {X:Pr} {r:R}
theorem d93 {fn:FuncId→D8} {cr:T5} (htab:X.tab=[]) (hfn:∀ g,E3 X g (fn g)) (hcr:a3g cr) {AL AJ:Nat→Option Ann} {gv:List (Option Nat)} {f g:FuncId} {F:Func} (hf:X.P.funcs[f]?=some F) (hd:d00 F=some g)
  (hcall:∀ args w,(callFunc f args).run X.P w=.ok (.enter f args) w) (hg:∀ args w,(callFunc g args).run X.P w=.ok (.enter g args) w) (hidle:d9d X.P g):E3 X f (d06 CU X fn cr AL AJ gv F):=by
 intro vs bs x bs' h hok
 unfold d06 at h
 unfold d00 at hd
 split at h
 ·rename_i A R C hb
  rw [hb] at hd
  simp only [] at hd
  split at h
  ·rename_i g' t hR
   rw [hR] at hd
   injection hd with hd
   subst hd
   have e:(bs.map J3).length=bs.length:=by simp
   refine b71 (X:=X) (gv:=gv) (L:=fun _ body s=>a1n bs.length body s) (J:=fun q=>(AJ q).map b0x) hf hb hR hcall hg hidle (fun _ _ _ h=>by rw [e];exact h) ?_
   rw [e,← b7m _ _ hok]
   refine P9 (X:=X) htab hfn hcr A h (fun s h=>?_) (fun _ _ h=>by cases h) (fun s h=>a3p h) (fun v h=>by cases h)
   split at h
   ·rename_i id off hp
    refine ⟨⟨id,off,?_⟩,P9 (X:=X) htab hfn hcr C h (fun s h=>a3p h) (fun _ _ h=>by cases h) (fun s h=>a3p h) (fun v h=>by cases h)⟩
    have:=z8 s (.tmp t)
    have e2:(A0 s).eval (.tmp t)=(A0 s).tmps.getD t .junk:=rfl
    rw [← e2,this]
    show toD (O2 s.tmps t)=_
    rw [hp]
    simp only [toD]
   ·cases h
  ·cases h
 ·cases h
end
end
end Go.Abs
