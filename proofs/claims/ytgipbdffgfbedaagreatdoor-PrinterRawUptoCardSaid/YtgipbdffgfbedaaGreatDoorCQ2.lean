/- What the operations say, run: second part. -/
import Derived.Test.YtgipbdffgfbedaaGreatDoorCQ1
set_option linter.all false
namespace Go.Abs
noncomputable section

theorem a85:∀ (vs ds:List D) (off:Nat),off+vs.length≤ds.length→K6 ds off vs=ds.take off ++ vs ++ ds.drop (off+vs.length)
 | [],ds,off,h=>by simp [K6]
 | v :: vs,ds,off,h=>by
  simp only [List.length_cons] at h
  simp only [K6]
  rw [a85 vs _ _ (by simp;omega)]
  have e1:(ds.set off v).take (off+1)=ds.take off ++ [v]:=by
   apply List.ext_getElem?
   intro i
   rcases Nat.lt_or_ge i off with hi | hi
   ·rw [List.getElem?_take_of_lt oM,List.getElem?_set_ne oM,List.getElem?_append_left (by simp;omega),List.getElem?_take_of_lt hi]
   ·rcases Nat.eq_or_lt_of_le hi with hi | hi
    ·subst hi
     rw [List.getElem?_take_of_lt oM,List.getElem?_set_self oM,List.getElem?_append_right (by simp;omega)]
     simp [Nat.min_eq_left (show off≤ds.length by omega)]
    ·rw [List.getElem?_eq_none (by simp;omega),List.getElem?_eq_none (by simp;omega)]
  have e2:(ds.set off v).drop (off+1+vs.length)=ds.drop (off+1+vs.length):=by
   apply List.ext_getElem?
   intro i
   rw [List.getElem?_drop,List.getElem?_drop,List.getElem?_set_ne oM]
  rw [e1,e2]
  simp only [List.append_assoc,List.cons_append,List.nil_append,List.length_cons]
  rw [show off+1+vs.length=off+(vs.length+1) by omega]

section
variable {X:Pr} {s:u5} {nid:Nat} {r:R}

theorem b76 {n:Nat}:∀ {ps:List (Nat × V)} {i:Nat} {ds:List D} {qs:List Q},a2p n i ps=some qs→ds.length=(i+ps.length) * n →
  ∃ out,a2a (fun i=>some (i * n,n)) ds (ps.map fun p=>(p.1,toD p.2))=some out∧out.map (renI V0)=(ds.take (i * n)).map (renI V0) ++ qs.flatMap fun q=>n8 (den q) 0 n
 | [],i,ds,qs,h,hl=>by
  simp only [a2p] at h
  injection h with h
  subst h
  refine ⟨ds,rfl,?_⟩
  simp only [List.flatMap_nil,List.append_nil]
  rw [List.take_of_length_le (by rw [hl];simp)]
 | (j,v) :: ps,i,ds,qs,h,hl=>by
  simp only [a2p] at h
  split at h
  ·rename_i q qs' hj hq hqs
   injection h with h
   subst h
   have:=Nat.eq_of_beq_eq_true hj
   subst this
   obtain ⟨h1,h2,h3⟩:=c72 hq
   simp only [List.length_cons] at hl
   have hle:i * n+n≤ds.length:=by
    rw [hl]
    have:(i+1) * n≤(i+(ps.length+1)) * n:=Nat.mul_le_mul_right n oM
    rw [Nat.succ_mul] at this
    exact this
   have hw:K6 ds (i * n) (toD v).cells=ds.take (i * n) ++ (toD v).cells ++ ds.drop (i * n+n):=by
    rw [a85 _ _ _ (by rw [h2];exact hle),h2]
   have hlen:(K6 ds (i * n) (toD v).cells).length=(i+1+ps.length) * n:=by
    rw [hw]
    simp only [List.length_append,List.length_take,List.length_drop,h2]
    have:(i+1+ps.length) * n=ds.length:=by rw [hl];congr 1;omega
    omega
   obtain ⟨out,ho,hm⟩:=b76 hqs hlen
   refine ⟨out,?_,?_⟩
   ·simp only [List.map_cons,a2a,h1,h2]
    have e1:Nat.ble (i * n+n) ds.length=true:=by rw [Nat.ble_eq];exact hle
    rw [e1]
    simp only [beq_self_eq_true,Bool.and_self,cond_true]
    exact ho
   ·rw [hm,hw,Nat.succ_mul]
    have e2:(ds.take (i * n) ++ (toD v).cells ++ ds.drop (i * n+n)).take (i * n+n)=ds.take (i * n) ++ (toD v).cells :=
     List.take_left' (by simp only [List.length_append,List.length_take,h2];omega)
    rw [e2,List.map_append,h3,List.flatMap_cons,List.append_assoc]
  ·cases h
theorem a89 {n:Nat}:∀ {ps:List (Nat × V)} {i:Nat} {qs:List Q},a2p n i ps=some qs→qs.length=ps.length
 | [],i,qs,h=>by simp only [a2p] at h;injection h with h;subst h;rfl
 | (j,v) :: ps,i,qs,h=>by
  simp only [a2p] at h
  split at h
  ·rename_i q qs' hj hq hqs
   injection h with h
   subst h
   simp [a89 hqs]
  ·cases h
theorem d1n:∀ (qs:List Q) (i:Nat) (t:j0 Q),i+qs.length+2≤2 ^ L0→(∀ k,k < i→G9 (t7 (mkT qs i t)) k=G9 (t7 t) k)∧∀ k q,qs[k]?=some q→G9 (t7 (mkT qs i t)) (i+k)=den q
 | [],i,t,_=>⟨fun _ _=>rfl,fun k q h=>by simp at h⟩
 | q :: qs,i,t,hb=>by
  simp only [List.length_cons] at hb
  obtain ⟨h1,h2⟩:=d1n qs (i+1) (t.set .no q L0 i) oM
  refine ⟨fun k hk=>?_,fun k x hx=>?_⟩
  ·simp only [mkT];rw [h1 k oM,a3g _ _ _ oM]
  ·simp only [mkT]
   cases k with
   | zero =>
    simp at hx;subst hx
    show G9 (t7 (mkT qs (i+1) (j0.set Q.no q L0 t i))) i=den q
    rw [h1 i oM,b06 _ _ oM]
   | succ k =>
    simp only [List.getElem?_cons_succ] at hx
    have:=h2 k x hx
    rw [show i+1+k=i+(k+1) by omega] at this
    exact this
theorem b8v {T:j0 Den} {n:Nat}:∀ (qs:List Q) (off:Nat),(∀ k q,qs[k]?=some q→G9 T (off+k)=den q)→rows T n off qs.length=qs.flatMap fun q=>n8 (den q) 0 n
 | [],off,h=>rfl
 | q :: qs,off,h=>by
  simp only [List.length_cons,rows,List.flatMap_cons]
  rw [b8v qs (off+1) (fun k x hx=>by have:=h (k+1) x (by simpa using hx);rw [show off+1+k=off+(k+1) by omega];exact this)]
  have:=h 0 q rfl
  rw [Nat.add_zero] at this
  rw [this]

theorem c35 (z:List D) (n:Nat):(a2j z n).length=n:=by simp [a2j]

theorem c3y {P:Program} {t:TypeId} {x y:V} {K:KV} (h:b7j CR P s nid t x y K=some r):∃ v ws rs,K v ws rs=some r∧a1x P (m6 s) nid t (toD x) (toD y)=some ⟨true,toD v,B8 ws,rs⟩:=by
 unfold b7j at h
 split at h
 ·rename_i e hu
  split at h
  ·rename_i n b z hn hb hz
   cases hg:Nat.beq z.length n && Nat.blt 0 n && a0n s nid with
   | false=>rw [hg] at h;cases h
   | true =>
    rw [hg] at h
    simp only [cond_true] at h
    simp only [Bool.and_eq_true] at hg
    obtain ⟨⟨g1,g2⟩,g3⟩:=hg
    obtain ⟨tr,off,len,c,hx,h⟩:=a0k h
    obtain ⟨t2,off2,m,_,hy,h⟩:=a0k h
    obtain ⟨h0,h⟩:=B3 h
    have h0:(band (Nat.ble ((len+m) * b) 140737488355328) (Nat.ble (len+m) 140737488355328))=true:=h0
    rw [CfN] at h
    rw [J7,Bool.and_eq_true,Nat.ble_eq,Nat.ble_eq] at h0
    obtain ⟨t',h,hold,hnew⟩:=c5g m (t:=tr) (i:=off+len) (j:=off2) h
    have hrows:rows (t7 t') n off (len+m)=rows (t7 tr) n off len ++ rows (t7 t2) n off2 m:=by
     rw [b2g]
     congr 1
     ·exact a8t len off off fun k hk=>hold _ oM
     ·exact a8t m (off+len) off2 fun k hk=>hnew k hk
    have hz':=a1q hz
    have hzl:Nat.beq (z.map toD).length n=true:=by rw [List.length_map];exact g1
    have hneed:(decide ((len+m) * b≤G2∧len+m≤G2∧(rows (t7 tr) n off len).length=len * n∧(rows (t7 t2) n off2 m).length=m * n) && (rows (t7 t2) n off2 m).all D.one)=true:=by
     rw [c26,Bool.and_true,decide_eq_true_iff]
     exact ⟨h0.1,h0.2,D8 _ _,D8 _ _⟩
    split at h
    ·refine ⟨_,_,_,h,?_⟩
     simp only [p7,nAdd,Nat.add_eq,a1x,hu,hx,hy,hn,hb,hz',hzl,g2,a5j g3,Bool.and_self,cond_true,hneed,toD,hrows,B8,List.map_cons,List.map_nil,A3]
    ·rename_i id
     split at h
     ·rename_i l k hbx
      obtain ⟨h1,h⟩:=B3 h
      have h1:(band (Nat.beq l len) (Nat.beq k n))=true:=h1
      rw [J7,Bool.and_eq_true] at h1
      refine ⟨_,_,_,h,?_⟩
      have hh:=R4 hbx (by simp)
      simp only [A3] at hh
      simp only [p7,nAdd,Nat.add_eq,a1x,hu,hx,hy,hn,hb,hz',hzl,g2,a5j g3,Bool.and_self,cond_true,hneed,toD,hrows,B8,List.map_cons,List.map_nil,A3,hh,h1.1,h1.2]
     ·cases h
    ·cases h
  ·cases h
 ·cases h

theorem a5u {v:V} {x:Q} (h:b7i v=some x):toD v=den x 0:=by
 unfold b7i at h
 split at h <;> first
  | (injection h with h;subst h;simp only [toD,den];rfl)
  | (injection h with h;subst h;simp only [toD])
  | cases h
theorem c8v {b:Bx} {cs:List V} (h:c8u CR b=some cs):A3 b=.cells (cs.map toD)∧b ≠ .dead:=by
 unfold c8u at h
 split at h
 ·injection h with h;subst h;exact ⟨rfl,by simp⟩
 ·rename_i x m
  injection h with h
  subst h
  refine ⟨?_,by simp⟩
  simp only [A3,I6,List.map_map]
  congr 1
  exact List.map_congr_left fun i _=>by simp only [Function.comp,toD];exact (a1w x i).symm
 ·cases h
theorem d5x {tr:j0 Q} {y:Q} {off len:Nat} (h1:off < len) (h2:off+2≤2 ^ L0):rows (t7 (tr.set .no y L0 off)) 1 0 len=(rows (t7 tr) 1 0 len).set off (den y 0):=by
 have key:∀ (T:j0 Den) (m o i:Nat),i < m→(rows T 1 o m)[i]?=some (G9 T (o+i) 0):=by
  intro T m
  induction m with
  | zero=>intro o i hi;omega
  | succ m ih =>
   intro o i hi
   simp only [rows,n8,List.cons_append,List.nil_append]
   cases i with
   | zero=>rfl
   | succ i =>
    rw [List.getElem?_cons_succ,ih (o+1) i oM]
    rw [show o+1+i=o+(i+1) by omega]
 apply List.ext_getElem?
 intro i
 rcases Nat.lt_or_ge i len with hi | hi
 ·rw [key _ _ _ _ hi,Nat.zero_add]
  by_cases he:off=i
  ·subst he
   rw [List.getElem?_set_self (by rw [D8,Nat.mul_one];exact hi),b06 _ _ h2]
  ·rw [List.getElem?_set_ne he,key _ _ _ _ hi,Nat.zero_add,a3g _ _ _ (fun e=>he e.symm)]
 ·rw [List.getElem?_eq_none (by rw [D8,Nat.mul_one];exact hi),List.getElem?_eq_none (by rw [List.length_set,D8,Nat.mul_one];exact hi)]
end

section
variable {X:Pr} {s:u5} {nid:Nat} {r:R}

theorem c2l (l:List Operand):l.map (m6 s).eval=(l.map s.eval).map toD:=by
 rw [List.map_map];exact List.map_congr_left fun x _=>m5 s x

theorem d3d {t:TypeId} {parts:Array (Nat × Operand)} {K:KV} (h:O3 CR X s nid (.build t parts) K=some r):∃ v ws rs,K v ws rs=some r∧n9 X (m6 s) nid (.build t parts)=some ⟨true,toD v,B8 ws,rs⟩:=by
 simp only [O3] at h
 split at h
 ·rename_i fs z hu hz
  split at h
  ·rename_i cs hf
   cases ha:(fs.all fun f=>(B7 X.P f.type).isSome) with
   | false=>rw [ha] at h;cases h
   | true =>
    rw [ha] at h
    refine ⟨_,_,_,h,?_⟩
    have:=b4d hf
    simp only [List.map_map] at this
    have e:(parts.toList.map fun p=>(p.1,(m6 s).eval p.2))=parts.toList.map ((fun p:Nat × V=>(p.1,toD p.2)) ∘ fun p=>(p.1,s.eval p.2)) :=
     List.map_congr_left fun p _=>by simp only [Function.comp,m5]
    rw [← e] at this
    simp only [p7,n9,hu,a1q hz,this,C8,ha,toD,B0]
    rfl
  ·cases h
 ·cases h
theorem b7l {t:TypeId} {len:Nat} {parts:Array (Nat × Operand)} {K:KV} (h:O3 CR X s nid (.buildSlice t len parts) K=some r):∃ v ws rs,K v ws rs=some r∧n9 X (m6 s) nid (.buildSlice t len parts)=some ⟨true,toD v,B8 ws,rs⟩:=by
 simp only [O3] at h
 split at h
 ·rename_i e hu
  split at h
  ·rename_i n z hn hz
   split at h
   ·rename_i qs hq
    cases hg:Nat.beq qs.length len && (Nat.ble (len * n) 16777216 && Nat.ble len 16777216) with
    | false=>rw [hg] at h;cases h
    | true =>
     rw [hg] at h
     simp only [Bool.and_eq_true] at hg
     obtain ⟨g1,g2,g3⟩:=hg
     have hql:=Nat.eq_of_beq_eq_true g1
     refine ⟨_,_,_,h,?_⟩
     have hpl:=a89 hq
     simp only [List.length_map] at hpl
     obtain ⟨out,ho,hm⟩:=b76 hq (ds:=a2j (z.map toD) (len * n)) (by rw [c35,Nat.zero_add,List.length_map,← hpl,hql])
     simp only [List.map_map] at ho
     have e:(parts.toList.map fun p=>(p.1,(m6 s).eval p.2))=parts.toList.map ((fun p:Nat × V=>(p.1,toD p.2)) ∘ fun p=>(p.1,s.eval p.2)) :=
      List.map_congr_left fun p _=>by simp only [Function.comp,m5]
     rw [← e] at ho
     simp only [p7,n9,hu,hn,a1q hz,ho,C8,g2,toD,hm,Nat.zero_mul,List.take_zero,List.map_nil,List.nil_append]
     have hb:0+qs.length+2≤2 ^ L0:=by
      rw [Nat.ble_eq] at g3
      show 0+qs.length+2≤2 ^ 48
      omega
     obtain ⟨_,h2⟩:=d1n qs 0 .nil hb
     rw [← hql,b8v qs 0 h2]
     rfl
   ·cases h
  ·cases h
 ·cases h
theorem d6g {t:TypeId} {a:Operand} {K:KV} (h:O3 CR X s nid (.load t a) K=some r):∃ v ws rs,K v ws rs=some r∧n9 X (m6 s) nid (.load t a)=some ⟨true,toD v,B8 ws,rs⟩:=by
 simp only [O3] at h
 split at h
 ·rename_i id off ha
  split at h
  ·rename_i cs hb
   obtain ⟨v,h,hr⟩:=a8n h
   have hh:=R4 hb (by simp)
   refine ⟨_,_,_,h,?_⟩
   simp only [p7,n9,m5,ha,toD,hh,A3,hr,Option.map_some]
   rfl
  ·rename_i x m hb
   obtain ⟨v,h,hr⟩:=a3o h
   have hh:=R4 hb (by simp)
   have:=hr 0 (Nat.zero_le _)
   rw [Nat.sub_zero,Nat.sub_zero] at this
   refine ⟨_,_,_,h,?_⟩
   simp only [p7,n9,m5,ha,toD,hh,A3,this,Option.map_some]
   rfl
  ·rename_i tr len hb
   split at h
   ·rename_i hag
    obtain ⟨h0,h⟩:=B3 h
    have h0:(Nat.ble (off+1) len)=true:=h0
    rw [CfQ] at h
    rw [Nat.ble_eq] at h0
    have hh:=R4 hb (by simp)
    refine ⟨_,_,_,h,?_⟩
    have key:(rows (t7 tr) 1 0 len)[off]?=some (den (tQ tr off) 0):=by
     have h1:=b8u (T:=t7 tr) (n:=1) (off:=0) (show off < len by omega)
     rw [Nat.mul_one,Nat.zero_add] at h1
     have h2:=congrArg (·[0]?) h1
     simp only [List.getElem?_take_of_lt (show 0 < 1 by omega),List.getElem?_drop,Nat.add_zero] at h2
     rw [h2,b51]
     rfl
    simp only [p7,n9,m5,ha,toD,hh,A3,P4,hag,key,Option.map_some]
    rfl
   ·cases h
  ·cases h
 ·rename_i x off m ha
  obtain ⟨v,h,hr⟩:=a3o h
  have:=hr off (Nat.le_refl _)
  rw [Nat.add_sub_cancel_left,Nat.sub_self] at this
  refine ⟨_,_,_,h,?_⟩
  simp only [p7,n9,m5,ha,toD,this,Option.map_some]
  rfl
 ·cases h
theorem d3f {t:TypeId} {a x:Operand} {K:KV} (h:O3 CR X s nid (.store t a x) K=some r):∃ v ws rs,K v ws rs=some r∧n9 X (m6 s) nid (.store t a x)=some ⟨true,toD v,B8 ws,rs⟩:=by
 simp only [O3] at h
 split at h
 ·rename_i id off ha
  split at h
  ·rename_i tr len hb hn
   split at h
   ·rename_i y hy
    obtain ⟨h0,h⟩:=B3 h
    have h0:(band (Nat.ble (off+1) len) (Nat.ble (off+2) 281474976710656))=true:=h0
    rw [J7,Bool.and_eq_true,Nat.ble_eq,Nat.ble_eq] at h0
    rw [show CR.sT=fun t i x K=>a1a x L0 t i K from rfl] at h
    simp only [U7] at h
    have hh:=R4 hb (by simp)
    have hv:=a5u hy
    have ho:=J9 y 0
    refine ⟨_,_,_,h,?_⟩
    have hc:(den y 0).cells=[den y 0]:=by cases hd:den y 0 <;> rw [hd] at ho <;> first | rfl | cases ho
    have hok:(den y 0).ok=true:=by simp [D.ok,ho]
    have e1:Nat.ble (off+1) (rows (t7 tr) 1 0 len).length=true:=by rw [D8,Nat.mul_one,Nat.ble_eq];exact h0.1
    simp only [p7,n9,m5,ha,toD,hh,A3,hn,hv,hok,hc,List.all_cons,List.all_nil,ho,e1,Bool.and_self,List.length_cons,List.length_nil,Nat.zero_add,K6,B8,List.map_cons,List.map_nil,R9]
    rw [d5x oM (by show off+2≤2 ^ 48;exact h0.2)]
    rfl
   ·cases h
  ·rename_i n hn hnr
   split at h
   ·rename_i cs hcs
    obtain ⟨hB,hd⟩:=c8v hcs
    have hh:=R4 (s:=s) (i:=id) rfl hd
    rw [hB] at hh
    split at h
    ·rename_i y m hx
     have hal:(n8 (den y) 0 m).all D.one=true:=a7y (J9 y) m 0
     cases hg:Nat.beq m n && (Nat.beq off 0 && Nat.beq m cs.length) with
     | true =>
      rw [hg] at h
      simp only [Bool.and_eq_true] at hg
      obtain ⟨g1,g2,g3⟩:=hg
      have e1:=Nat.eq_of_beq_eq_true g1
      have e2:=Nat.eq_of_beq_eq_true g2
      have e3:=Nat.eq_of_beq_eq_true g3
      subst e1 e2
      refine ⟨_,_,_,h,?_⟩
      have e4:Nat.ble (0+m) (cs.map toD).length=true:=by rw [List.length_map,Nat.ble_eq];omega
      have e5:K6 (cs.map toD) 0 (n8 (den y) 0 m)=n8 (den y) 0 m:=by
       rw [a85 _ _ _ (by rw [C3,List.length_map];omega),C3,List.take_zero,List.nil_append,List.drop_of_length_le (by rw [List.length_map];omega),List.append_nil]
      simp only [p7,n9,m5,ha,hx,toD,hh,hn,D.ok,D.isAgg,D.cells,C3,g1,hal,e4,Bool.or_true,Bool.and_self,cond_true,e5,B8,List.map_cons,List.map_nil,A3,R9]
     | false =>
      rw [hg] at h
      simp only [cond_false] at h
      cases hg2:Nat.beq m n && Nat.ble (off+n) cs.length with
      | false=>rw [hg2] at h;cases h
      | true =>
       rw [hg2] at h
       simp only [Bool.and_eq_true] at hg2
       obtain ⟨g1,g2⟩:=hg2
       have e1:=Nat.eq_of_beq_eq_true g1
       subst e1
       refine ⟨_,_,_,h,?_⟩
       have e4:Nat.ble (off+m) (cs.map toD).length=true:=by rw [List.length_map];exact g2
       have e6:((a82 0 m).map fun i=>V.q (celQ y i)).map toD=n8 (den y) 0 m:=by
        rw [I6,List.map_map]
        exact List.map_congr_left fun i _=>by simp only [Function.comp,toD];exact a1w y i
       simp only [p7,n9,m5,ha,hx,toD,hh,hn,D.ok,D.isAgg,D.cells,C3,g1,hal,e4,Bool.or_true,Bool.and_self,cond_true,B8,List.map_cons,List.map_nil,A3,R9,a5w]
       rw [e6]
    ·rename_i hna
     split at h
     ·rename_i vs hvs
      obtain ⟨hok,hcl⟩:=a17 hvs
      cases hg:Nat.beq vs.length n && (vs.all b64 && Nat.ble (off+n) cs.length) with
      | false=>rw [hg] at h;cases h
      | true =>
       rw [hg] at h
       simp only [Bool.and_eq_true] at hg
       obtain ⟨g1,g2,g3⟩:=hg
       refine ⟨_,_,_,h,?_⟩
       have e1:Nat.beq (vs.map toD).length n=true:=by rw [List.length_map];exact g1
       have e4:Nat.ble (off+n) (cs.map toD).length=true:=by rw [List.length_map];exact g3
       simp only [p7,n9,m5,ha,toD,hh,hn,hok,hcl,e1,d8e g2,e4,Bool.and_self,cond_true,B8,List.map_cons,List.map_nil,A3,R9,a5w]
     ·cases h
   ·cases h
  ·cases h
 ·cases h
theorem d3e {t:TypeId} {x:Operand} {f:Nat} {K:KV} (h:O3 CR X s nid (.field t x f) K=some r):∃ v ws rs,K v ws rs=some r∧n9 X (m6 s) nid (.field t x f)=some ⟨true,toD v,B8 ws,rs⟩:=by
 simp only [O3] at h
 split at h
 ·rename_i fs hu
  split at h
  ·rename_i fd cs hf hx
   obtain ⟨v,h,hr⟩:=a8n h
   refine ⟨_,_,_,h,?_⟩
   simp only [p7,n9,hu,hf,m5,hx,toD,B0,hr,Option.bind_some,r0]
   rfl
  ·rename_i fd y m hf hx
   obtain ⟨v,h,hr⟩:=a3o h
   have:=hr 0 (Nat.zero_le _)
   rw [Nat.sub_zero,Nat.sub_zero] at this
   refine ⟨_,_,_,h,?_⟩
   simp only [p7,n9,hu,hf,m5,hx,toD,this,Option.bind_some,r0]
   rfl
  ·cases h
 ·cases h
theorem b9r {t:TypeId} {x:Operand} {f:Nat} {K:KV} (h:O3 CR X s nid (.fieldAddr t x f) K=some r):∃ v ws rs,K v ws rs=some r∧n9 X (m6 s) nid (.fieldAddr t x f)=some ⟨true,toD v,B8 ws,rs⟩:=by
 simp only [O3] at h
 split at h
 ·rename_i fs hu
  split at h
  ·rename_i fd hf
   split at h
   ·rename_i k hs
    split at h
    ·rename_i id off hx
     exact ⟨_,_,_,h,by simp only [p7,n9,hu,hf,hs,m5,hx,toD,r0];rfl⟩
    ·rename_i y off m hx
     exact ⟨_,_,_,h,by simp only [p7,n9,hu,hf,hs,m5,hx,toD,r0,a54];rfl⟩
    ·cases h
   ·cases h
  ·cases h
 ·cases h
theorem b9s {t:TypeId} {x i:Operand} {K:KV} (h:O3 CR X s nid (.indexAddr t x i) K=some r):∃ v ws rs,K v ws rs=some r∧n9 X (m6 s) nid (.indexAddr t x i)=some ⟨true,toD v,B8 ws,rs⟩:=by
 simp only [O3] at h
 split at h
 ·rename_i e hu
  split at h
  ·rename_i n hn
   split at h
   ·rename_i id len hx
    obtain ⟨_,k,hi,h⟩:=L8 h
    obtain ⟨h0,h⟩:=B3 h
    have h0:(band (iLe 0 k) (iLt k (len:Int)))=true:=h0
    rw [CfN] at h
    have g:0≤k∧k < (len:Int):=by simpa [J7,T8,Y6] using h0
    refine ⟨_,_,_,h,?_⟩
    simp only [p7,n9,hu,m5,hx,hi,toD,hn,Option.bind_some,C8,decide_eq_true g,nMul,D0]
    rfl
   ·obtain ⟨tr,off,len,c,hx,h⟩:=a0k h
    obtain ⟨_,k,hi,h⟩:=L8 h
    obtain ⟨h0,h⟩:=B3 h
    have h0:(band (iLe 0 k) (iLt k (len:Int)))=true:=h0
    rw [CfQ] at h
    have g:0≤k∧k < (len:Int):=by simpa [J7,T8,Y6] using h0
    refine ⟨_,_,_,h,?_⟩
    have g2:0≤k∧k < (len:Int)∧len * (n+1)≤(rows (t7 tr) (n+1) off len).length∧0 < n+1:=⟨g.1,g.2,by rw [D8];exact Nat.le_refl _,oM⟩
    simp only [p7,n9,hu,m5,hx,hi,toD,hn,Option.bind_some,C8,decide_eq_true g2,D0]
    rw [b8u (show k.toNat < len by omega),b51]
    rfl
  ·cases h
 ·cases h
theorem c5b {b:Builtin} {args:Array Operand} {ts:Array TypeId} {K:KV} (h:O3 CR X s nid (.call { callee:=.builtin b,args,argTypes:=ts }) K=some r) :
  ∃ v ws rs,K v ws rs=some r∧n9 X (m6 s) nid (.call { callee:=.builtin b,args,argTypes:=ts })=some ⟨true,toD v,B8 ws,rs⟩:=by
 simp only [O3] at h
 split at h
 ·rename_i x t ha ht
  split at h
  ·rename_i hu
   obtain ⟨l,c,hx,h⟩:=Y0 h
   rw [CfI] at h
   exact ⟨_,_,_,h,by simp only [p7,n9,ha,ht,hu,m5,hx,r0,toD,P1];rfl⟩
  ·rename_i e hu
   split at h
   ·rename_i id n hx
    rw [CfI] at h
    exact ⟨_,_,_,h,by simp only [p7,n9,ha,ht,hu,m5,hx,r0,toD];rfl⟩
   ·split at h
    ·obtain ⟨tr,off,len,c,hx,h⟩:=a0k h
     rw [CfI] at h
     exact ⟨_,_,_,h,by simp only [p7,n9,ha,ht,hu,m5,hx,r0,toD];rfl⟩
    ·cases h
  ·cases h
 ·rename_i x y t ts' ha ht
  split at h
  ·rename_i k hu
   obtain ⟨a,hx,h⟩:=U8 h
   obtain ⟨b,hy,h⟩:=U8 h
   rw [CfI] at h
   refine ⟨_,_,_,h,?_⟩
   simp only [p7,n9,ha,m5,hx,hy,r0,toD,b6o,Y6]
   by_cases hab:a < b
   ·simp [hab,B8]
   ·simp [hab,B8]
  ·cases h
 ·rename_i x y t ts' ha ht
  split at h
  ·rename_i k hu
   obtain ⟨a,hx,h⟩:=U8 h
   obtain ⟨b,hy,h⟩:=U8 h
   rw [CfI] at h
   refine ⟨_,_,_,h,?_⟩
   simp only [p7,n9,ha,m5,hx,hy,r0,toD,b6o,Y6]
   by_cases hab:b < a
   ·simp [hab,B8]
   ·simp [hab,B8]
  ·cases h
 ·rename_i x y t u ha ht
  cases hb:Nat.beq t u with
  | false=>rw [hb] at h;cases h
  | true =>
   rw [hb] at h
   obtain ⟨v,ws,rs,h,hd⟩:=c3y h
   exact ⟨v,ws,rs,h,by simp only [p7,n9,ha,ht,hb,cond_true,m5,hd]⟩
 ·cases h

theorem c92 {P:Program} {t:TypeId} {same:Bool} {l c:V} {K:KV} (h:c91 CR P s nid t same l c K=some r):∃ v ws rs,K v ws rs=some r∧b1a P (m6 s) nid t same (toD l) (toD c)=some ⟨true,toD v,B8 ws,rs⟩:=by
 unfold c91 at h
 split at h
 ·rename_i e hu
  split at h
  ·rename_i n b z hn hb hz
   cases hg:Nat.beq z.length n && Nat.blt 0 n with
   | false=>rw [hg] at h;cases h
   | true =>
    rw [hg] at h
    simp only [cond_true] at h
    have hz':=a1q hz
    have hg':(Nat.beq (z.map toD).length n && Nat.blt 0 n)=true:=by rw [List.length_map];exact hg
    split at h
    ·obtain ⟨_,a,hl,h⟩:=L8 h
     obtain ⟨_,m,hc,h⟩:=L8 h
     obtain ⟨h0,h⟩:=B3 h
     have h0:band (iEq a 0) (band (iLe 0 m) (band (Nat.ble (iNat m * b) 140737488355328) (Nat.ble (iNat m) 140737488355328)))=true:=h0
     obtain ⟨hf,h⟩:=Y5 h
     refine ⟨_,_,_,h,?_⟩
     have hq:a=0∧0≤m∧m.toNat * b≤G2∧m.toNat≤G2:=by
      simp only [J7,P2,T8,D0,Bool.and_eq_true,beq_iff_eq,decide_eq_true_eq,Nat.ble_eq] at h0
      exact h0
     simp only [b1a,hu,hl,hc,hn,hb,hz',hg',cond_true,decide_eq_true hq,a4u hf,toD,rows,B8,List.map_cons,List.map_nil,A3]
    ·split at h
     ·rename_i z0
      split at h
      ·rename_i x hx
       obtain ⟨_,a,hl,h⟩:=L8 h
       obtain ⟨_,m,hc,h⟩:=L8 h
       obtain ⟨h0,h⟩:=B3 h
       have h0:band (iLe 0 a) (band (iEq a m) (band (Nat.ble (iNat a * b) 140737488355328) (Nat.ble (iNat a) 140737488355328)))=true:=h0
       rw [CfN] at h
       obtain ⟨tr,h,_,hnew⟩:=c7g (CR.iNat a) (t:=.nil) (i:=0) h
       obtain ⟨hf,h⟩:=Y5 h
       refine ⟨_,_,_,h,?_⟩
       have hq:0≤a∧a=m∧a.toNat * b≤G2∧a.toNat≤G2:=by
        simp only [J7,P2,T8,D0,Bool.and_eq_true,beq_iff_eq,decide_eq_true_eq,Nat.ble_eq] at h0
        exact h0
       have hn1:n=1:=by
        simp only [Bool.and_eq_true,List.length_cons,List.length_nil] at hg
        exact (Nat.eq_of_beq_eq_true hg.1).symm
       subst hn1
       have hia:CR.iNat a=a.toNat:=D0 a
       rw [hia] at hnew ⊢
       have hrows:rows (t7 tr) 1 0 a.toNat=a2j [toD z0] (a.toNat * 1):=by
        rw [a5u hx]
        have key:∀ (m off:Nat),(∀ k,k < m→G9 (t7 tr) (off+k)=den x)→rows (t7 tr) 1 off m=List.replicate m (den x 0):=by
         intro m
         induction m with
         | zero=>intro _ _;rfl
         | succ m ih =>
          intro off hk
          simp only [rows,n8,List.replicate_succ,List.cons_append,List.nil_append]
          have e0:=hk 0 oM
          rw [Nat.add_zero] at e0
          rw [e0,ih (off+1) (fun k hk'=>by have:=hk (k+1) oM;rw [show off+1+k=off+(k+1) by omega];exact this)]
        rw [key _ 0 hnew,Nat.mul_one]
        unfold a2j
        apply List.ext_getElem?
        intro i
        rcases Nat.lt_or_ge i a.toNat with hi | hi
        ·rw [List.getElem?_replicate,if_pos hi,List.getElem?_map,List.getElem?_range hi]
         simp [Nat.mod_one]
        ·rw [List.getElem?_eq_none (by simpa using hi),List.getElem?_eq_none (by simpa using hi)]
       simp only [b1a,hu,hl,hc,hn,hb,hz',hg',cond_true,decide_eq_true hq,a4u hf,toD,B8,List.map_cons,List.map_nil,A3,hrows]
       rfl
      ·cases h
     ·cases h
  ·cases h
 ·cases h
theorem d6h {o:Op} {K:KV} (h:O3 CR X s nid o K=some r):∃ v ws rs,K v ws rs=some r∧n9 X (m6 s) nid o=some ⟨true,toD v,B8 ws,rs⟩:=by
 cases o
 case move x=>exact ⟨_,_,_,h,by simp only [p7,n9,m5,r0];rfl⟩
 case assign x=>exact ⟨_,_,_,h,by simp only [p7,n9,m5,r0];rfl⟩
 case alloc t =>
  simp only [O3] at h
  split at h
  ·rename_i z hz
   obtain ⟨hf,h⟩:=Y5 h
   exact ⟨_,_,_,h,by simp only [p7,n9,a1q hz,a4u hf,toD,B8,List.map_cons,List.map_nil,A3]⟩
  ·cases h
 case box t x =>
  simp only [O3] at h
  split at h
  ·rename_i y m hx
   obtain ⟨hf,h⟩:=Y5 h
   exact ⟨_,_,_,h,by simp only [p7,n9,m5,hx,toD,D.ok,D.isAgg,Bool.or_true,cond_true,a4u hf,D.cells,B8,List.map_cons,List.map_nil,A3]⟩
  ·split at h
   ·rename_i cs hcs
    obtain ⟨hf,h⟩:=Y5 h
    obtain ⟨h1,h2⟩:=a17 hcs
    exact ⟨_,_,_,h,by simp only [p7,n9,m5,h1,cond_true,a4u hf,h2,toD,B8,List.map_cons,List.map_nil,A3]⟩
   ·cases h
 case build t parts=>exact d3d h
 case buildSlice t len parts=>exact b7l h
 case load t a=>exact d6g h
 case store t a x=>exact d3f h
 case nilCheck x =>
  simp only [O3] at h
  split at h
  ·rename_i hx;exact ⟨_,_,_,h,by simp only [p7,n9,m5,hx,toD,r0];rfl⟩
  ·rename_i hx;exact ⟨_,_,_,h,by simp only [p7,n9,m5,hx,toD,r0];rfl⟩
  ·rename_i hx;exact ⟨_,_,_,h,by simp only [p7,n9,m5,hx,toD,r0];rfl⟩
  ·cases h
 case binOp op t x y u =>
  simp only [O3] at h
  obtain ⟨v,h,hd⟩:=d3b h
  exact ⟨_,_,_,h,by simp only [p7,n9,m5,hd];rfl⟩
 case unOp op t x =>
  simp only [O3] at h
  split at h
  ·obtain ⟨b,hx,h⟩:=X9 h
   rw [CfB] at h
   exact ⟨_,_,_,h,by simp only [p7,n9,m5,hx,r0,toD,a1t];rfl⟩
  ·rename_i k hu
   obtain ⟨n,hx,h⟩:=U8 h
   rw [CfI] at h
   exact ⟨_,_,_,h,by simp only [p7,n9,m5,hx,r0,toD,a1p,b1g];rfl⟩
  ·cases h
 case convert src dst x =>
  simp only [O3] at h
  obtain ⟨v,h,hd⟩:=c90 h
  exact ⟨_,_,_,h,by simp only [p7,n9,m5,hd];rfl⟩
 case makeInterface t x =>
  simp only [O3] at h
  split at h
  ·cases h
  ·rename_i u h1 hu
   refine ⟨_,_,_,h,?_⟩
   simp only [n9,m5,hu,r0,toD]
   cases u <;> first | rfl | exact (h1 _ rfl).elim
  ·cases h
 case makeFunc fn first captured =>
  simp only [O3] at h
  exact ⟨_,_,_,h,by simp only [p7,n9,c2l,r0,toD,B0];rfl⟩
 case makeSlice t l c =>
  simp only [O3] at h
  obtain ⟨v,ws,rs,h,hd⟩:=c92 h
  exact ⟨v,ws,rs,h,by simp only [n9,m5,hd]⟩
 case slice t x lo hi mx =>
  simp only [O3] at h
  obtain ⟨v,h,hd⟩:=c5c h
  exact ⟨_,_,_,h,by simp only [p7,n9,m5,hd];rfl⟩
 case fieldAddr t x f=>exact b9r h
 case field t x f=>exact d3e h
 case indexAddr t x i=>exact b9s h
 case index t x i =>
  simp only [O3] at h
  split at h
  ·rename_i hu
   obtain ⟨l,c,hx,h⟩:=Y0 h
   obtain ⟨_,k,hi,h⟩:=L8 h
   obtain ⟨h0,h⟩:=B3 h
   have h0:(band (iLe 0 k) (iLt k (l:Int)))=true:=h0
   rw [CfI] at h
   have g:0≤k∧k < (l:Int):=by simpa [J7,T8,Y6] using h0
   have g2:0≤k∧k < ((n5 l c).length:Int):=by rw [P1];exact g
   refine ⟨_,_,_,h,?_⟩
   simp only [p7,n9,hu,m5,hx,hi,C8,decide_eq_true g2,toD,D0]
   rw [c65 (show k.toNat < l by omega)]
   rfl
  ·cases h
 case extract x i =>
  simp only [O3] at h
  split at h
  ·rename_i vs hx
   cases hb:Nat.blt i vs.length with
   | false=>rw [hb] at h;cases h
   | true =>
    rw [hb] at h
    have hl:i < vs.length:=by simpa [Nat.blt_eq] using hb
    refine ⟨_,_,_,h,?_⟩
    rw [a10,List.getD_eq_getElem?_getD,List.getElem?_eq_getElem hl]
    simp only [p7,n9,m5,hx,toD,B0,List.getElem?_map,List.getElem?_eq_getElem hl,Option.map_some,r0,Option.getD_some]
    rfl
  ·cases h
 case call c =>
  obtain ⟨callee,args,ts⟩:=c
  cases callee with
  | builtin b=>exact c5b h
  | value f=>cases h
  | invoke x m=>cases h
 all_goals cases h
end

section
variable {f:Nat→Option Nat}
theorem map_toD {g:V→V} {h:D→D} (e:∀ v,toD (g v)=h (toD v)) (l:List V):(l.map g).map toD=(l.map toD).map h:=by
 rw [List.map_map,List.map_map];exact List.map_congr_left fun v _=>e v
theorem c23 (v:V):toD (T0 f v)=O0 f (toD v):=by
 cases v
 case slice t n off len c=>cases c <;> simp only [T0,toD,O0]
 case q x=>simp only [T0,toD];exact (U3 f x 0).symm
 case ptr id off=>simp only [T0,toD,O0];cases f id <;> simp only [toD]
 all_goals simp only [T0,toD,O0]
theorem b3h (x:Q) (i:Nat):a6k f (den x i)=den x i:=by
 have h1:=J9 x i
 have h2:=U3 f x i
 cases hd:den x i <;> rw [hd] at h1 h2 <;> first | exact h2 | (cases h1;done) | (exfalso;simp [O0] at h2;done)
theorem c24 (v:V):toD (X6 f v)=a6k f (toD v):=by
 cases v
 case func fn fs cs=>simp only [X6,toD,a6k,B0,map_toD (fun v=>c23 (f:=f) v)]
 case q x=>simp only [X6,T0,toD];exact (b3h x 0).symm
 all_goals (simp only [X6];rw [c23];simp only [toD,a6k])
theorem a8q (v:V):toD (T1 f v)=a42 f (toD v):=by
 cases v
 case agg cs=>simp only [T1,toD,a42,B0,map_toD (fun v=>c24 (f:=f) v)]
 case a x m =>
  simp only [T1,toD,a42]
  congr 1
  rw [I6,List.map_map]
  exact List.map_congr_left fun i _=>(b3h x i).symm
 case q x =>
  simp only [T1,X6,T0,toD]
  have h1:=J9 x 0
  have h2:=b3h (f:=f) x 0
  cases hd:den x 0 <;> rw [hd] at h1 h2 <;> first | exact h2.symm | cases h1
 all_goals (simp only [T1];rw [c24];simp only [toD,a42])
theorem a0i (v:V):toD (T2 f v)=renI f (toD v):=by
 cases v
 case iface t v=>simp only [T2,toD,renI,a8q]
 case q x=>simp only [T2,T1,X6,T0,toD];exact (a13 f x 0).symm
 all_goals (simp only [T2];rw [a8q];simp only [toD,renI])
theorem a7e (v:V):toD (a0j f v)=ren f (toD v):=by
 cases v
 case tuple vs=>simp only [a0j,toD,ren,B0,map_toD (fun v=>a0i (f:=f) v)]
 case q x =>
  simp only [a0j,T2,T1,X6,T0,toD]
  have h1:=J9 x 0
  have h2:=a13 f x 0
  cases hd:den x 0 <;> rw [hd] at h1 h2 <;> first | exact h2.symm | cases h1
 all_goals (simp only [a0j];rw [a0i];simp only [toD,ren])
end

def M7:Bx→Bool
 | .cells _ | .opa _ _ | .row _ _=>true
 | _=>false
def E0:Bx→List D
 | .cells cs=>cs.map toD
 | .opa x m=>n8 (den x) 0 m
 | .row t len=>rows (t7 t) 1 0 len
 | _=>[]
theorem a1u {b:Bx} (h:M7 b=true):A3 b=.cells (E0 b):=by cases b <;> first | rfl | cases h
def a0h (f:Nat→Option Nat):Bx→Bx
 | .cells cs=>.cells (cs.map (T2 f))
 | b=>b
theorem b3l (f:Nat→Option Nat) (t:j0 Q):∀ (n m off:Nat),(rows (t7 t) n off m).map (renI f)=rows (t7 t) n off m
 | _,0,_=>rfl
 | n,m+1,off=>by
  simp only [rows,List.map_append,b3l f t n m]
  congr 1
  rw [U0]
  exact X2 f _ n 0
theorem b1o (f:Nat→Option Nat) {b:Bx}:E0 (a0h f b)=(E0 b).map (renI f):=by
 cases b <;> simp only [a0h,E0]
 ·exact map_toD (fun v=>a0i v) _
 ·exact (X2 f _ _ 0).symm
 ·rfl
 ·exact (b3l f _ 1 _ 0).symm
 ·rfl
 ·rfl
theorem c6y (f:Nat→Option Nat) {b:Bx}:M7 (a0h f b)=M7 b:=by cases b <;> rfl

/- What is kept of a state. -/
def T3 (f:Nat→Option Nat):V→V
 | .slice t n off len (.tok id)=>match f id with
  | some j=>.slice t n off len (.tok j)
  | none=>.slice t n off len .no
 | .slice t n off len .exact=>.slice t n off len .exact
 | .bslice id l=>match f id with
  | some j=>.bslice j l
  | none=>.junk
 | .agg cs=>T1 f (.agg cs)
 | .a x m=>.a x m
 | .tuple ds=>.tuple (ds.map (T2 f))
 | d=>T2 f d
theorem b3i (f:Nat→Option Nat) (v:V):toD (T3 f v)=O1 f (toD v):=by
 cases v
 case slice t n off len c =>
  cases c with
  | no=>simp only [T3,T2,T1,X6,T0,toD,O1,renI,a42,a6k,O0]
  | exact=>simp only [T3,toD,O1]
  | tok id=>simp only [T3,toD,O1];cases f id <;> simp only [toD]
  | fr z=>simp only [T3,T2,T1,X6,T0,toD,O1,renI,a42,a6k,O0]
 case bslice id l=>simp only [T3,toD,O1];cases f id <;> simp only [toD]
 case agg cs=>simp only [T3];rw [a8q];simp only [toD,O1]
 case a x m =>
  have:=a8q (f:=f) (.a x m)
  simp only [T1,toD] at this
  simp only [T3,toD,O1]
  exact this
 case tuple ds=>simp only [T3,toD,O1,B0,map_toD (fun v=>a0i (f:=f) v)]
 case q x =>
  simp only [T3,T2,T1,X6,T0,toD]
  have h1:=J9 x 0
  have h2:=a13 f x 0
  have h3:=U3 f x 0
  cases hd:den x 0 <;> rw [hd] at h1 h2 h3 <;> first | exact h2.symm | cases h1 | skip
  all_goals (rename_i c;cases c <;> first | rfl | (simp only [O0] at h3;cases h3))
 all_goals (simp only [T3];rw [a0i];simp only [toD,O1])
def b26 (f:Nat→Option Nat):Bx→Bx
 | .cells cs=>.cells (cs.map (T3 f))
 | b=>b
theorem c25 (f:Nat→Option Nat) (x:Q) (i:Nat):O1 f (den x i)=den x i:=by
 have h1:=J9 x i
 have h2:=a13 f x i
 have h3:=U3 f x i
 cases hd:den x i <;> rw [hd] at h1 h2 h3 <;> first | exact h2 | cases h1 | skip
 all_goals (rename_i c;cases c <;> first | rfl | (simp only [O0] at h3;cases h3))
theorem c4k (f:Nat→Option Nat) (b:Bx):A3 (b26 f b)=a4g f (A3 b):=by
 cases b <;> simp only [b26,A3,a4g]
 ·rw [map_toD (fun v=>b3i f v)]
 ·congr 1;rw [I6,List.map_map];exact List.map_congr_left fun i _=>(c25 f _ i).symm
 ·congr 1
  rename_i t len
  have:∀ (m off:Nat),(rows (t7 t) 1 off m).map (O1 f)=rows (t7 t) 1 off m:=by
   intro m
   induction m with
   | zero=>intro _;rfl
   | succ m ih =>
    intro off
    simp only [rows,List.map_append,ih]
    congr 1
    rw [U0,I6,List.map_map]
    exact List.map_congr_left fun i _=>c25 f _ i
  exact (this len 0).symm
def b3e:V→Option Nat
 | .ptr id _=>some id
 | _=>none
theorem a7c (x:Q) (i:Nat):pid (den x i)=none∧a8m (den x i)=[]∧a5q (den x i)=[]:=by
 have h1:=J9 x i
 have h3:=U3 V0 x i
 cases hd:den x i <;> rw [hd] at h1 h3 <;> first | exact ⟨rfl,rfl,rfl⟩ | cases h1 | (simp only [O0,V0] at h3;cases h3) | skip
 all_goals (rename_i c;cases c <;> first | exact ⟨rfl,rfl,rfl⟩ | (simp only [O0] at h3;cases h3))
theorem d9x (v:V):b3e v=pid (toD v):=by
 cases v <;> simp only [b3e,toD,pid]
 exact (a7c _ 0).1.symm
theorem a5m (l:List V):l.filterMap b3e=(l.map toD).filterMap pid:=by
 rw [List.filterMap_map];congr 1;funext v;exact d9x v
def b48:V→List Nat
 | .ptr id _=>[id]
 | .func _ fs cs=>fs.filterMap b3e ++ cs.filterMap b3e
 | _=>[]
theorem d5g (v:V):b48 v=a8m (toD v):=by
 cases v <;> simp only [b48,toD,a8m]
 ·exact (a7c _ 0).2.1.symm
 ·rw [B0,B0,a5m,a5m]
def b1n:V→List Nat
 | .ptr id _=>[id]
 | .slice _ _ _ _ (.tok id)=>[id]
 | .bslice id _=>[id]
 | .func _ fs cs=>fs.filterMap b3e ++ cs.filterMap b3e
 | _=>[]
theorem c21 (v:V):b1n v=a5q (toD v):=by
 cases v <;> simp only [b1n,toD,a5q]
 ·rename_i c;cases c <;> rfl
 ·exact (a7c _ 0).2.2.symm
 ·rw [B0,B0,a5m,a5m]
def a8s (n0:Nat) (ks:List Nat) (s:u5):List Nat :=
 let a:=a9n (List.range n0) (ks.flatMap fun i=>b1n (L7 s.tmps i))
 a9n a (a.flatMap fun id=>match N0 s.heap id with
  | .cells ds=>ds.flatMap b1n
  | _=>[])
theorem a1y {α β:Type} {f:α→List β}:∀ (l:List α),(∀ x ∈ l,f x=[])→l.flatMap f=[]
 | [],_=>rfl
 | x :: l,h=>by rw [List.flatMap_cons,h x List.mem_cons_self,a1y l fun y hy=>h y (List.mem_cons_of_mem _ hy)];rfl
theorem a2s (s:u5) (i:Nat):(m6 s).tmps.getD i .junk=toD (L7 s.tmps i):=m5 s (.tmp i)
theorem b79 (s:u5) (i:Nat):(m6 s).heap.getD i .dead=A3 (N0 s.heap i):=by
 rw [a1z,List.getD_eq_getElem?_getD,List.getD_eq_getElem?_getD,b9a]
 cases s.heap[i]? <;> rfl
theorem b2f (n0:Nat) (ks:List Nat) (s:u5):a8s n0 ks s=a7g n0 ks (m6 s):=by
 unfold a8s a7g
 have e1:(ks.flatMap fun i=>b1n (L7 s.tmps i))=ks.flatMap fun i=>a5q ((m6 s).tmps.getD i .junk):=by
  congr 1;funext i;rw [a2s,c21]
 have e2:(fun id=>match N0 s.heap id with | .cells ds=>ds.flatMap b1n | _=>[])=fun id=>match (m6 s).heap.getD id .dead with | .cells ds=>ds.flatMap a5q | _=>[]:=by
  funext id
  rw [b79]
  cases N0 s.heap id <;> simp only [A3]
  ·rw [List.flatMap_map];congr 1;funext v;exact c21 v
  ·rw [I6,List.flatMap_map];exact (a1y _ fun i _=>(a7c _ i).2.2).symm
  ·rename_i t len
   have:∀ (m off:Nat),(rows (t7 t) 1 off m).flatMap a5q=[]:=by
    intro m
    induction m with
    | zero=>intro _;rfl
    | succ m ih=>intro off;simp only [rows,List.flatMap_append,ih,List.append_nil];rw [U0,I6,List.flatMap_map];exact a1y _ fun i _=>(a7c _ i).2.2
   exact (this len 0).symm
 simp only [e1,e2]
 rfl
def a79:V→V
 | .slice t n off len _=>.slice t n off len .no
 | v=>v
theorem b14 (v:V):toD (a79 v)=a0m (toD v):=by
 cases v <;> simp only [a79,toD,a0m]
 rename_i x
 cases hd:den x 0 <;> first | rfl | skip
 rename_i l c k
 cases W8 x 0 l c k hd
 rfl
def T9 (ids:List Nat):List (Nat × Nat)→u5→Nat→List V × List Bx
 | [],_,_=>([],[])
 | (i,z) :: ks,s,n=>bif Nat.beq z V6 then (a79 (T3 (pos · ids) (L7 s.tmps i)) :: (T9 ids ks s n).1,(T9 ids ks s n).2) else match L7 s.tmps i,z with
  | .slice t m off l .exact,z+1=>(.slice t m off l (.tok n) :: (T9 ids ks s (n+1)).1,.tok l (z+1) :: (T9 ids ks s (n+1)).2)
  | d,_=>(T3 (pos · ids) d :: (T9 ids ks s n).1,(T9 ids ks s n).2)
theorem a5k {ids:List Nat}:∀ (ks:List (Nat × Nat)) (s:u5) (n:Nat),(T9 ids ks s n).1.map toD=(J1 ids ks (m6 s) n).1∧(T9 ids ks s n).2.map A3=(J1 ids ks (m6 s) n).2
 | [],_,_=>⟨rfl,rfl⟩
 | (i,z) :: ks,s,n=>by
  obtain ⟨h1,h2⟩:=a5k (ids:=ids) ks s n
  obtain ⟨h3,h4⟩:=a5k (ids:=ids) ks s (n+1)
  simp only [T9,J1,a2s]
  cases hf:Nat.beq z V6 with
  | true=>simp only [cond_true,List.map_cons,b14,b3i,h1,h2,and_self]
  | false =>
  simp only [cond_false]
  generalize L7 s.tmps i=v
  have hplain:(T3 (pos · ids) v :: (T9 ids ks s n).1).map toD=O1 (pos · ids) (toD v) :: (J1 ids ks (m6 s) n).1:=by simp only [List.map_cons,b3i,h1]
  cases v
  case slice t m off l c =>
   cases c <;> cases z <;> first
    | exact ⟨hplain,h2⟩
    | (simp only [toD,List.map_cons,h3,h4,A3,and_self])
  case q x =>
   have hn:∀ l c,den x 0 ≠ .slice l c .exact:=fun l c hd=>by cases W8 x 0 l c _ hd
   simp only [toD] at hplain ⊢
   generalize den x 0=d at hplain hn
   cases d with
   | slice l c k=>cases k <;> cases z <;> first | exact ⟨hplain,h2⟩ | exact (hn _ _ rfl).elim
   | _=>exact ⟨hplain,h2⟩
  all_goals exact ⟨hplain,h2⟩
def a8y (j c z:Nat) (h:List Bx):List Bx:=match N0 h j with
 | .cells cs=>bif Nat.blt c cs.length then bif Nat.beq z V6 then h.set j (.cells (cs.set c (a79 (L7 cs c)))) else match L7 cs c with
  | .slice t n off len .exact=>(h.set j (.cells (cs.set c (.slice t n off len (.tok h.length))))) ++ [.tok len z]
  | _=>h
  else h
 | _=>h
def b54:List (Nat × Nat)→List Bx→List Bx
 | [],h=>h
 | (i,z) :: ks,h=>bif Nat.ble 1000000 i then b54 ks (a8y ((i - 1000000) / 1000) ((i - 1000000) % 1000) z h) else b54 ks h
theorem b0j {t:j0 Q}:∀ (m off i l:Nat) (c:List D) (k:V5),(rows (t7 t) 1 off m)[i]?=some (.slice l c k)→k=.no
 | 0,off,i,l,c,k,h=>by simp [rows] at h
 | m+1,off,0,l,c,k,h=>by
  simp only [rows,n8,List.cons_append,List.nil_append,List.getElem?_cons_zero] at h
  injection h with h
  exact b1b t off 0 l c k h
 | m+1,off,i+1,l,c,k,h=>by
  simp only [rows,n8,List.cons_append,List.nil_append,List.getElem?_cons_succ] at h
  exact b0j m (off+1) i l c k h
theorem b9g {x:Q} {m i l:Nat} {c:List D} {k:V5} (h:(n8 (den x) 0 m)[i]?=some (.slice l c k)):k=.no:=by
 rcases Nat.lt_or_ge i m with hi | hi
 ·rw [a3h _ _ _ hi] at h
  injection h with h
  exact W8 x _ l c k h
 ·rw [List.getElem?_eq_none (by rw [C3];exact hi)] at h;cases h
theorem d4w {h:List Bx} {j:Nat}:(h.map A3)[j]?=if j < h.length then some (A3 (N0 h j)) else none:=by
 rw [a1z,List.getD_eq_getElem?_getD,List.getElem?_map]
 split
 ·rename_i hj;rw [List.getElem?_eq_getElem hj];rfl
 ·rename_i hj;rw [List.getElem?_eq_none oM];rfl
theorem b82 {α:Type} {l:List α} {i:Nat} {x:α} (h:l[i]?=some x):l.set i x=l:=by
 apply List.ext_getElem?
 intro k
 by_cases hk:i=k
 ·subst hk;rw [List.getElem?_set_self (List.getElem?_eq_some_iff.1 h).1,h]
 ·rw [List.getElem?_set_ne hk]
theorem a9f {j c z:Nat} {h:List o9} {ds:List D} (hj:h[j]?=some (.cells ds)) (hd:∀ (i l:Nat) (x:List D) (k:V5),ds[i]?=some (D.slice l x k)→k=V5.no):tokCell j c z h=h:=by
 unfold tokCell
 rw [hj]
 simp only []
 split
 ·rename_i d hc
  have e:a0m d=d:=by
   cases d with
   | slice l x k=>cases hd c l x k hc;rfl
   | _=>rfl
  cases Nat.beq z V6 with
  | true =>
   simp only [cond_true]
   rw [e,b82 hc,b82 hj]
  | false =>
   simp only [cond_false]
   split
   ·cases hd c _ _ _ hc
   ·rfl
 ·rfl
theorem c47 (j c z:Nat) (h:List Bx):(a8y j c z h).map A3=tokCell j c z (h.map A3):=by
 rcases Nat.lt_or_ge j h.length with hj | hj
 ·have hg:(h.map A3)[j]?=some (A3 (N0 h j)):=by rw [d4w,if_pos hj]
  unfold a8y
  generalize hb:N0 h j=b at hg
  cases b with
  | cells cs =>
   unfold tokCell
   rw [hg]
   simp only [A3]
   cases hc:Nat.blt c cs.length with
   | true =>
    have hc':c < cs.length:=by rw [Nat.blt_eq] at hc;exact hc
    have e1:(cs.map toD)[c]?=some (toD (L7 cs c)):=by
     rw [a10,List.getD_eq_getElem?_getD,List.getElem?_map,List.getElem?_eq_getElem hc'];rfl
    rw [e1]
    simp only [cond_true]
    cases hz:Nat.beq z V6 with
    | true=>simp only [cond_true,List.map_set,A3,b14]
    | false =>
     simp only [cond_false]
     generalize L7 cs c=v
     cases v
     case slice t n off len k =>
      cases k <;> simp only [toD,List.map_append,List.map_set,A3,List.map_cons,List.map_nil,List.length_map]
     case q x =>
      simp only [toD]
      cases hd:den x 0 <;> first | rfl | skip
      rename_i l d k
      cases W8 x 0 l d k hd
      rfl
     all_goals simp only [toD]
   | false =>
    have hc':cs.length≤c:=by
     rcases Nat.lt_or_ge c cs.length with h1 | h1
     ·have:Nat.blt c cs.length=true:=by rw [Nat.blt_eq];exact h1
      rw [hc] at this;cases this
     ·exact h1
    have e1:(cs.map toD)[c]?=none:=List.getElem?_eq_none (by simpa using hc')
    rw [e1]
    rfl
  | opa x m=>exact (a9f hg (fun i l d k hd=>b9g hd)).symm
  | row t len=>exact (a9f hg (fun i l d k hd=>b0j _ _ _ _ _ _ hd)).symm
  | _=>unfold tokCell;rw [hg];rfl
 ·have e2:N0 h j=.dead:=by rw [a1z,List.getD_eq_getElem?_getD,List.getElem?_eq_none hj];rfl
  have hg:(h.map A3)[j]?=none:=List.getElem?_eq_none (by simpa using hj)
  unfold a8y tokCell
  rw [e2,hg]
theorem b3s:∀ (ks:List (Nat × Nat)) (h:List Bx),(b54 ks h).map A3=tokB ks (h.map A3)
 | [],h=>rfl
 | (i,z) :: ks,h=>by
  simp only [b54,tokB]
  cases Nat.ble 1000000 i with
  | true=>simp only [cond_true];rw [b3s,c47]
  | false=>simp only [cond_false];rw [b3s]
def a4v (n0:Nat) (ks:List (Nat × Nat)) (s:u5):List V × List Bx :=
 let ids:=a8s n0 (b0i ks) s
 ((T9 ids ks s ids.length).1,b54 ks ((ids.map fun id=>b26 (pos · ids) (N0 s.heap id)) ++ (T9 ids ks s ids.length).2))
theorem b6k (n0:Nat) (ks:List (Nat × Nat)) (s:u5):gcV n0 ks (m6 s)=((a4v n0 ks s).1.map toD,(a4v n0 ks s).2.map A3):=by
 unfold gcV a4v
 simp only [b2f,b3s,List.map_append,(a5k _ _ _).1,(a5k _ _ _).2,List.map_map]
 congr 3
 exact List.map_congr_left fun id _=>by simp only [Function.comp,c4k,b79]
def a3n (n0 n:Nat) (ks:List (Nat × Nat)) (s:u5):Bool:=b41 n0 (a8s n0 (b0i ks) s) && Nat.beq s.tmps.length n && decide (ks.map (·.1)).Nodup
theorem b3a (n0 n:Nat) (ks:List (Nat × Nat)) (s:u5):a3n n0 n ks s=a8k n0 n ks (m6 s):=by
 unfold a3n a8k;rw [b2f];simp only [m6,List.length_map]
def c51 (n:Nat) (ks:List Nat) (vs:List V):List V:=(List.range n).map fun i=>match pos i ks with
 | some j=>L7 vs j
 | none=>.junk
def b1v (n:Nat) (ks:List (Nat × Nat)) (vs:List V) (bs:List Bx):u5:={ tmps:=c51 n (ks.map (·.1)) vs,heap:=bs }
theorem c3m (n:Nat) (ks:List (Nat × Nat)) (vs:List V) (bs:List Bx):m6 (b1v n ks vs bs)=a6n n ks (vs.map toD,bs.map A3):=by
 unfold b1v a6n m6 c51 c1h
 simp only [List.map_map]
 congr 1
 refine List.map_congr_left fun i _=>?_
 simp only [Function.comp]
 cases pos i (ks.map (·.1)) with
 | none=>simp only [toD]
 | some j =>
  simp only []
  rw [a10,List.getD_eq_getElem?_getD,List.getD_eq_getElem?_getD,List.getElem?_map]
  cases vs[j]? <;> simp [toD]

abbrev C2:=List V→List Bx→Om
def b0h:J0→V2
 | .ret v=>.ret (toD v)
 | .pan v=>.pan (toD v)
def I8 (X:Pr) (g:FuncId) (F:C2):Prop:=∀ (vs:List V) (bs:List Bx) (x:J0) (bs':List Bx),F vs bs=some (x,bs')→bs.all M7=true →
 CM X.P X.G g (vs.map toD) (bs.map E0) (b0h x) (bs'.map E0)
theorem CM.pan_any {P:Program} {G:a9k} {f:FuncId} {ds:List D} {hs hs' hs2:List (List D)} {d:D} (h:CM P G f ds hs (.pan d) hs'):CM P G f ds hs (.pan d) hs2:=h
def c57:o9→Bool
 | .cells _=>true
 | _=>false
theorem d3s (b:Bx):M7 b=c57 (A3 b):=by cases b <;> rfl
theorem b7s {a b:List Bx} (h:a.map A3=b.map A3) (ha:a.all M7=true):b.all M7=true:=by
 have e:∀ l:List Bx,l.all M7=(l.map A3).all c57:=fun l=>by rw [List.all_map];congr 1;funext b;exact d3s b
 rw [e,← h,← e];exact ha
mutual
def eqQ:Q→Q→Bool
 | .bool a,.bool b=>bsel a b (bnot b)
 | .int k a,.int k' b=>cond (ikEq k k') (iEq a b) false
 | .str l c,.str l' c'=>cond (Nat.beq l l') (Nat.beq c c') false
 | .slice t n o l,.slice t' n' o' l'=>cond (Nat.beq n n') (cond (Nat.beq o o') (cond (Nat.beq l l') (eqT t t') false) false) false
 | .nilp,.nilp=>true
 | .nilIface,.nilIface=>true
 | .agg cs o,.agg cs' o'=>cond (Nat.beq o o') (c1g cs cs') false
 | .aggt t o,.aggt t' o'=>cond (Nat.beq o o') (eqT t t') false
 | .no,.no=>true
 | _,_=>false
def eqT:j0 Q→j0 Q→Bool
 | .nil,.nil=>true
 | .node v l r,.node v' l' r'=>cond (eqQ v v') (cond (eqT l l') (eqT r r') false) false
 | _,_=>false
def c1g:List Q→List Q→Bool
 | [],[]=>true
 | x :: xs,y :: ys=>cond (eqQ x y) (c1g xs ys) false
 | _,_=>false
end
theorem t6 {a b:Bool} (h:cond a b false=true):a=true∧b=true:=by cases a <;> simp_all
theorem b7v {a b:Bool} (h:bsel a b (bnot b)=true):a=b:=by cases a <;> cases b <;> first | rfl | cases h
theorem c1s {a b:Int} (h:iEq a b=true):a=b:=by rw [P2] at h;simpa using h
mutual
theorem b38:∀ {a b:Q},eqQ a b=true→a=b
 | .bool a,b,h=>by cases b <;> simp only [eqQ] at h <;> first | (rw [b7v h]) | cases h
 | .int k a,b,h=>by
  cases b <;> simp only [eqQ] at h <;> first | cases h | skip
  obtain ⟨h1,h2⟩:=t6 h
  rw [a63 h1,c1s h2]
 | .str l c,b,h=>by
  cases b <;> simp only [eqQ] at h <;> first | cases h | skip
  obtain ⟨h1,h2⟩:=t6 h
  rw [Nat.eq_of_beq_eq_true h1,Nat.eq_of_beq_eq_true h2]
 | .slice t n o l,b,h=>by
  cases b <;> simp only [eqQ] at h <;> first | cases h | skip
  obtain ⟨h1,h⟩:=t6 h
  obtain ⟨h2,h⟩:=t6 h
  obtain ⟨h3,h⟩:=t6 h
  rw [Nat.eq_of_beq_eq_true h1,Nat.eq_of_beq_eq_true h2,Nat.eq_of_beq_eq_true h3,a9x h]
 | .nilp,b,h=>by cases b <;> simp only [eqQ] at h <;> first | rfl | cases h
 | .nilIface,b,h=>by cases b <;> simp only [eqQ] at h <;> first | rfl | cases h
 | .agg cs o,b,h=>by
  cases b <;> simp only [eqQ] at h <;> first | cases h | skip
  obtain ⟨h1,h⟩:=t6 h
  rw [Nat.eq_of_beq_eq_true h1,c5x h]
 | .aggt t o,b,h=>by
  cases b <;> simp only [eqQ] at h <;> first | cases h | skip
  obtain ⟨h1,h⟩:=t6 h
  rw [Nat.eq_of_beq_eq_true h1,a9x h]
 | .no,b,h=>by cases b <;> simp only [eqQ] at h <;> first | rfl | cases h
theorem a9x:∀ {a b:j0 Q},eqT a b=true→a=b
 | .nil,b,h=>by cases b <;> simp only [eqT] at h <;> first | rfl | cases h
 | .node v l r,b,h=>by
  cases b <;> simp only [eqT] at h <;> first | cases h | skip
  obtain ⟨h1,h⟩:=t6 h
  obtain ⟨h2,h⟩:=t6 h
  rw [b38 h1,a9x h2,a9x h]
theorem c5x:∀ {a b:List Q},c1g a b=true→a=b
 | [],b,h=>by cases b <;> simp only [c1g] at h <;> first | rfl | cases h
 | x :: xs,b,h=>by
  cases b <;> simp only [c1g] at h <;> first | cases h | skip
  obtain ⟨h1,h⟩:=t6 h
  rw [b38 h1,c5x h]
end
def b9y:V5→Bool
 | .no=>true
 | _=>false
def d10:V→Bool
 | .bool _ | .known _ | .int _ _ | .str _ _ | .q _ | .nilp | .nilIface=>true
 | .slice _ _ _ _ c=>b9y c
 | _=>false
def c9c:V→V→Bool
 | .bool a,.bool b=>bsel a b (bnot b)
 | .int k a,.int k' b=>cond (ikEq k k') (iEq a b) false
 | .str l c,.str l' c'=>cond (Nat.beq l l') (Nat.beq c c') false
 | .slice t n o l c,.slice t' n' o' l' c'=>cond (b9y c) (cond (b9y c') (cond (Nat.beq n n') (cond (Nat.beq o o') (cond (Nat.beq l l') (eqT t t') false) false) false) false) false
 | .q x,.q y=>eqQ x y
 | .nilp,.nilp=>true
 | .nilIface,.nilIface=>true
 | _,_=>false
theorem c0x {c:V5} (h:b9y c=true):c=.no:=by cases c <;> first | rfl | cases h
theorem d5z {a b:V} (h:c9c a b=true):a=b:=by
 unfold c9c at h
 split at h <;> first | rfl | cases h | skip
 ·rw [b7v h]
 ·obtain ⟨h1,h2⟩:=t6 h;rw [a63 h1,c1s h2]
 ·obtain ⟨h1,h2⟩:=t6 h;rw [Nat.eq_of_beq_eq_true h1,Nat.eq_of_beq_eq_true h2]
 ·obtain ⟨g1,h⟩:=t6 h
  obtain ⟨g2,h⟩:=t6 h
  obtain ⟨h1,h⟩:=t6 h
  obtain ⟨h2,h⟩:=t6 h
  obtain ⟨h3,h⟩:=t6 h
  rw [c0x g1,c0x g2,Nat.eq_of_beq_eq_true h1,Nat.eq_of_beq_eq_true h2,Nat.eq_of_beq_eq_true h3,a9x h]
 ·rw [b38 h]
def b0o:List V→List V→Bool
 | [],[]=>true
 | x :: xs,y :: ys=>cond (c9c x y) (b0o xs ys) false
 | _,_=>false
theorem b80:∀ {a b:List V},b0o a b=true→a=b
 | [],b,h=>by cases b <;> simp only [b0o] at h <;> first | rfl | cases h
 | x :: xs,b,h=>by
  cases b <;> simp only [b0o] at h <;> first | cases h | skip
  obtain ⟨h1,h⟩:=t6 h
  rw [d5z h1,b80 h]
def eqB:Bx→Bx→Bool
 | .cells a,.cells b=>b0o a b
 | .opa x m,.opa y n=>cond (Nat.beq m n) (eqQ x y) false
 | _,_=>false
theorem e2c {a b:Bx} (h:eqB a b=true):a=b:=by
 unfold eqB at h
 split at h <;> first | cases h | skip
 ·rw [b80 h]
 ·obtain ⟨h1,h⟩:=t6 h;rw [Nat.eq_of_beq_eq_true h1,b38 h]
def b22:List Bx→List Bx→Bool
 | [],[]=>true
 | x :: xs,y :: ys=>cond (eqB x y) (b22 xs ys) false
 | _,_=>false
theorem c5w:∀ {a b:List Bx},b22 a b=true→a=b
 | [],b,h=>by cases b <;> simp only [b22] at h <;> first | rfl | cases h
 | x :: xs,b,h=>by
  cases b <;> simp only [b22] at h <;> first | cases h | skip
  obtain ⟨h1,h⟩:=t6 h
  rw [e2c h1,c5w h]
def same (a b:List Bx) (x:Om):Om:=cond (b22 a b) x none
def c2t:Bx→Bool
 | .cells cs=>cs.all d10
 | .opa _ _=>true
 | _=>false
theorem c8z (f:Nat→Option Nat) {v:V} (h:d10 v=true):renI f (toD v)=toD v:=by
 rw [← a0i]
 cases v <;> first | rfl | cases h | skip
 rename_i c
 cases c <;> first | rfl | cases h
theorem b49 (f:Nat→Option Nat) {b:Bx} (h:c2t b=true):(E0 b).map (renI f)=E0 b:=by
 cases b <;> first | cases h | skip
 ·rename_i cs
  simp only [E0,List.map_map]
  refine List.map_congr_left fun v hv=>c8z f (List.all_eq_true.1 h v hv)
 ·exact X2 f _ _ 0
abbrev Q6:=FuncId→List Bx→V→List Bx→(V→Option (List Bx)→Om)→Om
def a2l (cr:Q6):Prop:=∀ (g:FuncId) (bs0:List Bx) (v:V) (bs:List Bx) (K:V→Option (List Bx)→Om) (r:R),cr g bs0 v bs K=some r →
 (∃ v' bs',toD v'=toD v∧bs'.map A3=bs.map A3∧K v' (some bs')=some r)∨(∃ v',toD v'=toD v∧bs=bs0∧K v' none=some r)
def u5.lay (s:u5) (ws:List (Nat × Bx)):u5:={ s with heap:=ws.foldl (fun h x=>h.set x.1 x.2) s.heap }
def u5.put (s:u5) (dst:Option Tmp) (v:V):u5:=match dst with
 | some t=>{ s with tmps:=s.tmps.set t v }
 | none=>s
theorem a15 (s:u5) (dst:Option Tmp) (v:V):m6 (s.put dst v)=(m6 s).put dst (toD v):=by
 cases dst with
 | none=>rfl
 | some t=>simp only [u5.put,m6,St.put,List.map_set]
theorem b3r (s:u5) (ws:List (Nat × Bx)):m6 (s.lay ws)=(m6 s).lay (B8 ws):=by
 unfold u5.lay St.lay B8 m6
 simp only []
 congr 1
 rw [List.foldl_map]
 generalize s.heap=h
 induction ws generalizing h with
 | nil=>rfl
 | cons x ws ih=>simp only [List.foldl_cons];rw [ih,List.map_set]

def b6j (C:Comb):u5→List V→(List V→List Nat→Om)→Om
 | _,[],K=>K [] []
 | s,.bslice id len :: vs,K=>match N0 s.heap id with
  | .row t len'=>C.chk (C.nEq len len') (b6j C { s with heap:=s.heap.set id .dead } vs fun vs' ks=>K (.slice t 1 0 len .no :: vs') (id :: ks))
  | _=>none
 | s,v :: vs,K=>b6j C s vs fun vs' ks=>K (v :: vs') ks
def a6t (h:List Bx):List Nat→Option (List Bx)
 | []=>some []
 | id :: ids=>bif M7 (N0 h id) then (a6t h ids).map (N0 h id :: ·) else none
def b1k (ids:List Nat) (bs:List Bx):List (Nat × Bx):=(ids.zip bs).map fun p=>(p.1,a0h (ids[·]?) p.2)
def a4i:V→V
 | .slice t n off len (.fr _)=>.slice t n off len .no
 | v=>v
def b45 (nid:Nat):List V→Option (List V × List (Nat × Bx))
 | []=>some ([],[])
 | v :: vs=>match v with
  | .slice t n off len (.fr z)=>bif Nat.beq n z then some (.slice t n off len (.tok nid) :: vs.map a4i,[(nid,.tok len z)]) else none
  | v=>(b45 nid vs).map fun p=>(v :: p.1,p.2)
def d5f (nid:Nat):V→Option (V × List (Nat × Bx))
 | .tuple vs=>(b45 nid vs).map fun p=>(.tuple p.1,p.2)
 | .slice t n off len (.fr z)=>bif Nat.beq n z then some (.slice t n off len (.tok nid),[(nid,.tok len z)]) else none
 | v=>some (v,[])
def b98 (s:u5) (nid:Nat) (v:V) (ws:List (Nat × Bx)) (rs:List Nat) (K:KV):Om :=
 match d5f nid v with
 | some (v',[])=>K v' ws rs
 | some (v',x :: xs)=>cond (a0n (s.lay ws) nid) (K v' (ws ++ x :: xs) (nid :: rs)) none
 | none=>none
def d77 (C:Comb) (fn:FuncId→C2) (cr:Q6) (s:u5) (nid:Nat) (g:FuncId) (vs:List V) (K:KV) (Kp:V→List Nat→Om):Om :=
 b6j C s vs fun vs' ks =>
  let ids:=S8 (vs'.flatMap b48)
  match a6t (s.lay (ks.map fun k=>(k,.dead))).heap ids with
  | some bs=>C.bind (fn g (vs'.map (a0j (pos · ids))) (bs.map (a0h (pos · ids))))
    (fun v bs'=>cr g (bs.map (a0h (pos · ids))) v bs' fun v o=>match o with
     | some bs'=>bif Nat.beq bs'.length ids.length && bs'.all M7 then b98 s nid (a0j (ids[·]?) v) ((ks.map fun k=>(k,Bx.dead)) ++ b1k ids bs') (ids ++ ks) K else none
     | none=>bif bs.all c2t then b98 s nid (a0j (ids[·]?) v) (ks.map fun k=>(k,Bx.dead)) (ids ++ ks) K else none) (fun v=>Kp (C.rn0 v) (ids ++ ks))
  | none=>none

section
variable {X:Pr} {r:R}
theorem a5z {h:List Bx}:∀ {ids:List Nat} {bs:List Bx},a6t h ids=some bs→O6 (h.map A3) ids=some (bs.map E0)∧bs.all M7=true∧bs.length=ids.length
 | [],bs,hb=>by simp only [a6t] at hb;injection hb with hb;subst hb;exact ⟨rfl,rfl,rfl⟩
 | id :: ids,bs,hb=>by
  simp only [a6t] at hb
  cases ho:M7 (N0 h id) with
  | false=>rw [ho] at hb;cases hb
  | true =>
   rw [ho] at hb
   obtain ⟨bs',h1,rfl⟩:=Option.map_eq_some_iff.1 hb
   obtain ⟨h2,h3,h4⟩:=a5z h1
   have e:(h.map A3)[id]?=some (.cells (E0 (N0 h id))):=by
    rw [← a1u ho,List.getElem?_map,a1z,List.getD_eq_getElem?_getD]
    cases hi:h[id]? with
    | none=>rw [a1z,List.getD_eq_getElem?_getD,hi] at ho;cases ho
    | some x=>rfl
   refine ⟨?_,by simp only [List.all_cons,ho,h3,Bool.and_self],by simp [h4]⟩
   simp only [O6,e,h2,Option.map_some,List.map_cons]
theorem a92:∀ {vs:List V} {s:u5} {K:List V→List Nat→Om},b6j CR s vs K=some r→∃ vs' ks,K vs' ks=some r∧frz (m6 s) (vs.map toD)=some (vs'.map toD,ks)
 | [],s,K,h=>⟨[],[],h,rfl⟩
 | v :: vs,s,K,h=>by
  by_cases hb:∃ id len,v=.bslice id len
  ·obtain ⟨id,len,rfl⟩:=hb
   simp only [b6j] at h
   split at h
   ·rename_i t len' hbx
    obtain ⟨h0,h'⟩:=B3 h
    have h0:(Nat.beq len len')=true:=h0
    have he:=Nat.eq_of_beq_eq_true h0
    subst he
    obtain ⟨vs',ks,h,hf⟩:=a92 h'
    have hh:=R4 hbx (by simp)
    refine ⟨_,_,h,?_⟩
    have e:m6 { s with heap:=s.heap.set id .dead }={ m6 s with heap:=(m6 s).heap.set id .dead }:=by simp only [m6,List.map_set,A3]
    rw [e] at hf
    simp only [List.map_cons,toD,frz,hh,A3,hf,Option.map_some,b3l]
   ·cases h
  ·have h':b6j CR s vs (fun vs' ks=>K (v :: vs') ks)=some r:=by
    rw [← h]
    cases v <;> first | rfl | exact absurd ⟨_,_,rfl⟩ hb
   obtain ⟨vs',ks,h',hf⟩:=a92 h'
   refine ⟨_,_,h',?_⟩
   have hd:¬∃ id len,toD v=.bslice id len:=by
    rintro ⟨id,len,hd⟩
    cases v <;> simp only [toD] at hd <;> first | (cases hd;done) | skip
    ·have h3:=congrArg (O0 V0) hd;rw [U3,hd] at h3;simp only [O0] at h3;cases h3
    ·exact hb ⟨_,_,rfl⟩
   simp only [List.map_cons]
   have e:frz (m6 s) (toD v :: vs.map toD)=(frz (m6 s) (vs.map toD)).map fun p=>(toD v :: p.1,p.2):=by
    cases hv:toD v <;> first | rfl | exact absurd ⟨_,_,hv⟩ hd
   rw [e,hf]
   rfl
theorem c83 {ids:List Nat} {bs:List Bx} (h:bs.all M7=true):B8 (b1k ids bs)=a4z ids (bs.map E0):=by
 unfold b1k a4z B8
 rw [List.map_map,List.zip_map_right,List.map_map]
 refine List.map_congr_left fun p hp=>?_
 have hm:p.2 ∈ bs:=(List.of_mem_zip hp).2
 have ho:=List.all_eq_true.1 h _ hm
 simp only [Function.comp,Prod.map,id]
 rw [a1u (by rw [c6y];exact ho),b1o]
theorem b5x (v:V):toD (a4i v)=Z2 (toD v):=by
 cases v
 case slice t n off len c=>cases c <;> simp only [a4i,toD,Z2]
 case q x =>
  simp only [a4i,toD]
  have h:=U3 V0 x 0
  have h1:=J9 x 0
  cases hd:den x 0 <;> first | rfl | skip
  rename_i l c k
  cases k <;> first | rfl | skip
  exfalso
  exact c1c hd
 all_goals simp only [a4i,toD,Z2]
theorem b46 {nid:Nat}:∀ {vs vs':List V} {ws:List (Nat × Bx)},b45 nid vs=some (vs',ws)→a0g nid (vs.map toD)=(vs'.map toD,B8 ws)
 | [],vs',ws,h=>by simp only [b45] at h;injection h with h;injection h with h1 h2;subst h1 h2;rfl
 | v :: vs,vs',ws,h=>by
  simp only [b45] at h
  split at h
  ·rename_i t n off len z
   cases hz:Nat.beq n z with
   | false=>rw [hz] at h;cases h
   | true =>
    rw [hz] at h
    injection h with h;injection h with h1 h2;subst h1 h2
    have:=Nat.eq_of_beq_eq_true hz
    subst this
    simp only [List.map_cons,toD,a0g,D8,Nat.beq_refl,cond_true,B8,A3,List.map_nil,map_toD (fun v=>b5x v)]
  ·rename_i hnf
   obtain ⟨p,hp,he⟩:=Option.map_eq_some_iff.1 h
   obtain ⟨p1,p2⟩:=p
   injection he with h1 h2;subst h1 h2
   have ih:=b46 hp
   have hnd:∀ l c z,toD v ≠ .slice l c (.fr z):=fun l c z hd=>by
    cases v <;> simp only [toD] at hd <;> first | (cases hd;done) | skip
    ·injection hd with _ _ hd;subst hd;exact hnf _ _ _ _ _ rfl
    ·exact c1c hd
   rw [List.map_cons,List.map_cons]
   unfold a0g
   split
   ·rename_i hd;exact absurd hd (hnd _ _ _)
   ·rw [ih]
theorem b8l {nid:Nat} {v v':V} {ws:List (Nat × Bx)} (h:d5f nid v=some (v',ws)):own nid (toD v)=(toD v',B8 ws):=by
 unfold d5f at h
 split at h
 ·obtain ⟨p,hp,he⟩:=Option.map_eq_some_iff.1 h
  obtain ⟨p1,p2⟩:=p
  injection he with h1 h2;subst h1 h2
  simp only [toD,own,B0,b46 hp]
 ·rename_i t n off len z
  cases hz:Nat.beq n z with
  | false=>rw [hz] at h;cases h
  | true =>
   rw [hz] at h
   injection h with h;injection h with h1 h2;subst h1 h2
   have:=Nat.eq_of_beq_eq_true hz
   subst this
   simp only [toD,own,D8,Nat.beq_refl,cond_true,B8,A3,List.map_cons,List.map_nil]
 ·rename_i h1 h2
  injection h with h;injection h with q1 q2;subst q1 q2
  unfold own
  split
  ·rename_i ds hd
   exfalso
   cases v <;> simp only [toD] at hd <;> first | (cases hd;done) | skip
   ·rename_i x;have:=J9 x 0;rw [hd] at this;cases this
   ·exact h1 _ rfl
  ·rename_i hd
   exfalso
   cases v <;> simp only [toD] at hd <;> first | (cases hd;done) | skip
   ·injection hd with _ _ hd;subst hd;exact h2 _ _ _ _ _ rfl
   ·exact c1c hd
  ·rfl
theorem b43 {s:u5} {nid:Nat} {v:V} {ws:List (Nat × Bx)} {rs:List Nat} {K:KV} (h:b98 s nid v ws rs K=some r) {K':D→List (Nat × o9)→List Nat→Prop} (hK:∀ v ws rs,K v ws rs=some r→K' (toD v) (B8 ws) rs) :
  a0f (m6 s) nid (toD v) (B8 ws) rs K':=by
 unfold b98 at h
 unfold a0f
 split at h
 ·rename_i v' ho
  rw [b8l ho]
  exact hK _ _ _ h
 ·rename_i v' x xs ho
  rw [b8l ho]
  simp only [B8,List.map_cons]
  cases hf:a0n (s.lay ws) nid with
  | false=>rw [hf] at h;cases h
  | true =>
   rw [hf] at h
   have e:C1 ((m6 s).lay (ws.map fun p=>(p.1,A3 p.2))) nid=true:=by
    have:=a5j hf
    rw [b3r] at this
    exact this
   rw [e]
   have:=hK _ _ _ h
   simp only [B8,List.map_append,List.map_cons] at this
   exact this
 ·cases h
theorem c9y {fn:FuncId→C2} {cr:Q6} (htab:X.tab=[]) (hfn:∀ g,I8 X g (fn g)) (hcr:a2l cr) {s:u5} {nid:Nat} {g:FuncId} {vs:List V} {K:KV} {Kp:V→List Nat→Om} (h:d77 CR fn cr s nid g vs K Kp=some r)
  {K':D→List (Nat × o9)→List Nat→Prop} {Kp':D→List Nat→Prop} (hK:∀ v ws rs,K v ws rs=some r→K' (toD v) (B8 ws) rs) (hKp:∀ v rs,Kp v rs=some r→Kp' (toD v) rs):Z3 X (m6 s) nid g (vs.map toD) K' Kp':=by
 obtain ⟨vs',ks,h,hf⟩:=a92 h
 unfold Z3
 rw [hf]
 simp only [] at h ⊢
 have eids:S8 ((vs'.map toD).flatMap a8m)=S8 (vs'.flatMap b48):=by
  rw [List.flatMap_map];congr 2;funext v;exact (d5g v).symm
 rw [eids]
 generalize S8 (vs'.flatMap b48)=ids at h ⊢
 have elay:(m6 s).lay (ks.map fun k=>(k,o9.dead))=m6 (s.lay (ks.map fun k=>(k,Bx.dead))):=by
  rw [b3r];congr 1;unfold B8;rw [List.map_map];rfl
 rw [elay]
 split at h
 ·rename_i bs hb
  obtain ⟨h1,h2,h3⟩:=a5z hb
  have h1':O6 (m6 (s.lay (ks.map fun k=>(k,Bx.dead)))).heap ids=some (bs.map E0):=h1
  rw [h1']
  simp only []
  have hall:(bs.map (a0h (pos · ids))).all M7=true:=by
   rw [List.all_map];rw [List.all_eq_true] at h2 ⊢;intro b hbm;simp only [Function.comp,c6y];exact h2 b hbm
  have e1:(vs'.map toD).map (ren (pos · ids))=(vs'.map (a0j (pos · ids))).map toD:=(map_toD (fun v=>a7e v) vs').symm
  have e2:(bs.map E0).map (fun x=>x.map (renI (pos · ids)))=(bs.map (a0h (pos · ids))).map E0:=by
   rw [List.map_map,List.map_map];exact List.map_congr_left fun b _=>(b1o (pos · ids)).symm
  rw [e1,e2]
  unfold b07
  rw [htab]
  simp only [a4c]
  have h:bind (fn g (vs'.map (a0j (pos · ids))) (bs.map (a0h (pos · ids)))) _ _=some r:=h
  unfold bind at h
  split at h
  ·rename_i v bs' hcall
   have hcm:=hfn g _ _ _ _ hcall hall
   rcases hcr _ _ _ _ _ _ h with ⟨v2,bs2,ev,eb,hk⟩ | ⟨v2,ev,eb,hk⟩
   ·simp only [] at hk
    cases hg:Nat.beq bs2.length ids.length && bs2.all M7 with
    | false=>rw [hg] at hk;cases hk
    | true =>
     rw [hg] at hk
     rw [Bool.and_eq_true] at hg
     have hl2:=Nat.eq_of_beq_eq_true hg.1
     have hok:=b7s eb hg.2
     have ebD:bs2.map E0=bs'.map E0:=by
      have hl:bs2.length=bs'.length:=by have:=congrArg List.length eb;simpa using this
      apply List.ext_getElem
      ·simpa using hl
      ·intro i hi1 hi2
       simp only [List.length_map] at hi1 hi2
       simp only [List.getElem_map]
       have q1:=List.all_eq_true.1 hg.2 _ (List.getElem_mem hi1)
       have q2:=List.all_eq_true.1 hok _ (List.getElem_mem hi2)
       have q3:(bs2.map A3)[i]?=(bs'.map A3)[i]?:=by rw [eb]
       rw [List.getElem?_map,List.getElem?_map,List.getElem?_eq_getElem hi1,List.getElem?_eq_getElem hi2] at q3
       simp only [Option.map_some] at q3
       injection q3 with q3
       rw [a1u q1,a1u q2] at q3
       injection q3
     refine .ret (toD v) (bs'.map E0) hcm (by rw [← ebD,List.length_map];exact hl2) ?_
     have:=b43 hk hK
     rw [a7e,ev] at this
     have e3:B8 ((ks.map fun k=>(k,Bx.dead)) ++ b1k ids bs2)=(ks.map fun k=>(k,o9.dead)) ++ a4z ids (bs'.map E0):=by
      rw [← ebD,← c83 hg.2];unfold B8;rw [List.map_append,List.map_map];rfl
     rw [e3] at this
     exact .inl this
   ·simp only [] at hk
    cases hg:bs.all c2t with
    | false=>rw [hg] at hk;cases hk
    | true =>
     rw [hg] at hk
     subst eb
     refine .ret (toD v) _ hcm (by simp [h3]) (.inr ⟨?_,?_⟩)
     ·rw [List.map_map,List.map_map]
      refine List.map_congr_left fun b hb=>?_
      have hp:=List.all_eq_true.1 hg b hb
      simp only [Function.comp]
      rw [b1o,b49 _ hp,b49 _ hp]
     ·have:=b43 hk hK
      rw [a7e,ev] at this
      have e3:B8 (ks.map fun k=>(k,Bx.dead))=ks.map fun k=>(k,o9.dead):=by unfold B8;rw [List.map_map];rfl
      rw [e3] at this
      exact this
  ·rename_i v bs' hcall
   have hcm:=hfn g _ _ _ _ hcall hall
   refine .pan (toD v) (bs.map E0) (CM.pan_any hcm) (by simp [h3]) ?_
   have:=hKp _ _ h
   rw [show CR.rn0 v=a0j V0 v from rfl,a7e] at this
   exact this
  ·cases h
 ·cases h

def d6f (C:Comb) (X:Pr) (fn:FuncId→C2) (cr:Q6) (s:u5) (nid:Nat) (o:Op) (K:KV) (Kp:V→List Nat→Om):Om :=
 match o with
 | .call { callee:=.value f,args,.. }=>match s.eval f with
  | .func (.func g) fs cs=>d77 C fn cr s nid g (fs ++ args.toList.map s.eval ++ cs) K Kp
  | _=>none
 | .panic x=>match s.eval x with
  | .iface t d=>Kp (a0j V0 (.iface t d)) []
  | _=>none
 | .pick c a b=>match s.eval c with
  | .known t=>cond t (K (s.eval a) [] []) (K (s.eval b) [] [])
  | v=>vB C v fun t=>C.cnd t (K (s.eval a) [] []) (K (s.eval b) [] [])
 | o=>O3 C X s nid o K
theorem d3c {fn:FuncId→C2} {cr:Q6} (htab:X.tab=[]) (hfn:∀ g,I8 X g (fn g)) (hcr:a2l cr) {s:u5} {nid:Nat} {o:Op} {K:KV} {Kp:V→List Nat→Om} (h:d6f CR X fn cr s nid o K Kp=some r)
  {K':D→List (Nat × o9)→List Nat→Prop} {Kp':D→List Nat→Prop} (hK:∀ v ws rs,K v ws rs=some r→K' (toD v) (B8 ws) rs) (hKp:∀ v rs,Kp v rs=some r→Kp' (toD v) rs):N3 X (m6 s) nid o K' Kp':=by
 have hrest:∀ o:Op,O3 CR X s nid o K=some r→(match n9 X (m6 s) nid o with | some out=>cond out.need (K' out.val out.ws out.rs) False | none=>False):=by
  intro o h
  obtain ⟨v,ws,rs,h,hd⟩:=d6h h
  rw [hd]
  exact hK _ _ _ h
 unfold d6f at h
 unfold N3
 split at h
 ·rename_i f args ts
  simp only []
  split at h
  ·rename_i g fs cs hf
   rw [m5,hf]
   simp only [toD]
   have:=c9y htab hfn hcr h hK hKp
   rw [List.map_append,List.map_append] at this
   rw [B0,B0,c2l]
   exact this
  ·cases h
 ·rename_i x
  simp only []
  split at h
  ·rename_i t d hx
   rw [m5,hx]
   have:=hKp _ _ h
   rw [a7e] at this
   simp only [toD] at this ⊢
   exact this
  ·cases h
 ·rename_i c a b
  simp only [m5]
  split at h
  ·rename_i t hc
   rw [hc]
   simp only [toD]
   cases t
   ·exact hK _ _ _ h
   ·exact hK _ _ _ h
  ·obtain ⟨t,hc,h⟩:=X9 h
   rw [hc]
   simp only []
   have h:cnd t _ _=some r:=h
   rw [a6v] at h
   cases t
   ·exact hK _ _ _ h
   ·exact hK _ _ _ h
 ·rename_i h1 h2 h3
  split
  ·exact absurd rfl (h1 _ _ _)
  ·exact absurd rfl (h2 _)
  ·exact absurd rfl (h3 _ _ _)
  ·exact hrest o h

def c3z (C:Comb) (ops:Array Oper) (s:u5) (o:Oper) (Ky Kn:u5→Om):Om :=
 match o.guard with
 | none=>Ky s
 | some (j,want)=>match a97 ops j with
  | none=>Kn s
  | some t=>bif Nat.blt t s.tmps.length then
    match L7 s.tmps t with
    | .known b=>cond (cond want b (!b)) (Ky s) (Kn s)
    | .tuple _=>Kn s
    | v=>vB C v fun b=>match want with
     | true=>C.cnd b (Ky (s.put (some t) (.known true))) (Kn (s.put (some t) (.known false)))
     | false=>C.cnd b (Kn (s.put (some t) (.known true))) (Ky (s.put (some t) (.known false)))
   else Kn s
theorem c5a {ops:Array Oper} {s:u5} {o:Oper} {Ky Kn:u5→Om} (h:c3z CR ops s o Ky Kn=some r) {Ky' Kn':St→Prop} (hy:∀ s,Ky s=some r→Ky' (m6 s)) (hn:∀ s,Kn s=some r→Kn' (m6 s)):a5c ops (m6 s) o Ky' Kn':=by
 unfold c3z at h
 unfold a5c
 split at h
 ·rename_i hg;rw [hg];exact hy _ h
 ·rename_i j want hg
  rw [hg]
  simp only []
  split at h
  ·rename_i ht;rw [ht];exact hn _ h
  ·rename_i t ht
   rw [ht]
   simp only []
   cases hb:Nat.blt t s.tmps.length with
   | false =>
    rw [hb] at h
    have hl:s.tmps.length≤t:=by
     rcases Nat.lt_or_ge t s.tmps.length with h1 | h1
     ·have:Nat.blt t s.tmps.length=true:=by rw [Nat.blt_eq];exact h1
      rw [hb] at this;cases this
     ·exact h1
    have e:(m6 s).tmps[t]?=none:=by simp only [m6,List.getElem?_map,List.getElem?_eq_none hl,Option.map_none]
    rw [e]
    exact hn _ h
   | true =>
    rw [hb] at h
    have hl:t < s.tmps.length:=by rw [Nat.blt_eq] at hb;exact hb
    have e:(m6 s).tmps[t]?=some (toD (L7 s.tmps t)):=by
     rw [a10,List.getD_eq_getElem?_getD,List.getElem?_eq_getElem hl]
     simp only [m6,List.getElem?_map,List.getElem?_eq_getElem hl,Option.map_some,Option.getD_some]
    rw [e]
    simp only [cond_true] at h
    have key:∀ b,toD (L7 s.tmps t)=.bool b→(m6 s).put (some t) (.bool b)=m6 s:=fun b hb=>b3f (by rw [e,hb])
    split at h
    ·rename_i b hv
     rw [hv]
     have k1:=key b (by rw [hv];simp only [toD])
     simp only [toD]
     cases want <;> cases b <;> simp only [cond_true,cond_false,Bool.not_true,Bool.not_false] at h ⊢ <;> rw [k1] <;> first | exact hy _ h | exact hn _ h
    ·rename_i hv
     rw [hv]
     simp only [toD]
     exact hn _ h
    ·obtain ⟨b,hv,h⟩:=X9 h
     rw [hv]
     simp only []
     have p1:=a15 s (some t) (.known true)
     have p2:=a15 s (some t) (.known false)
     simp only [toD] at p1 p2
     cases want
     ·have h:cnd b _ _=some r:=h
      rw [a6v] at h
      cases b <;> simp only [cond_true,cond_false] at h ⊢
      ·rw [← p2];exact hy _ h
      ·rw [← p1];exact hn _ h
     ·have h:cnd b _ _=some r:=h
      rw [a6v] at h
      cases b <;> simp only [cond_true,cond_false] at h ⊢
      ·rw [← p2];exact hn _ h
      ·rw [← p1];exact hy _ h

def fLV (l:List V):(List V→Om)→Om:=List.rec (motive:=fun _=>(List V→Om)→Om) (fun K=>K []) (fun x _ ih K=>ih fun l=>K (x :: l)) l
def fLB (l:List Bx):(List Bx→Om)→Om:=List.rec (motive:=fun _=>(List Bx→Om)→Om) (fun K=>K []) (fun x _ ih K=>ih fun l=>K (x :: l)) l
def fSt (s:u5) (K:u5→Om):Om:=fLV s.tmps fun t=>fLB s.heap fun h=>K ⟨t,h⟩
theorem d0w:∀ (l:List V) (K:List V→Om),fLV l K=K l
 | [],_=>rfl
 | x :: l,K=>d0w l fun l=>K (x :: l)
theorem d0v:∀ (l:List Bx) (K:List Bx→Om),fLB l K=K l
 | [],_=>rfl
 | x :: l,K=>d0v l fun l=>K (x :: l)
theorem a9z (s:u5) (K:u5→Om):fSt s K=K s:=by unfold fSt;rw [d0w,d0v]
def b03 (C:Comb) (X:Pr) (fn:FuncId→C2) (cr:Q6) (ops:Array Oper) (nid:Nat→Nat):List Nat→u5→List Tr→(u5→List Tr→Om)→(Nat→V→List Nat→List Tr→Om)→Om
 | [],s,tr,K,_=>K s tr
 | i :: l,s,tr,K,Kp=>match ops[i]? with
  | none=>b03 C X fn cr ops nid l s tr K Kp
  | some o=>c3z C ops s o
    (fun s=>d6f C X fn cr s (nid i) o.op (fun d ws rs=>fSt ((s.lay ws).put o.dst d) fun s=>b03 C X fn cr ops nid l s (⟨i,o.dst,.junk,ws.map fun p=>(p.1,.dead),rs⟩ :: tr) K Kp) (fun d rs=>Kp i d rs tr))
    (fun s=>fSt (s.put o.dst (.tuple [])) fun s=>b03 C X fn cr ops nid l s (⟨i,o.dst,.junk,[],[]⟩ :: tr) K Kp)
def Tr.face (t:Tr):Nat × Option Tmp × List Nat × List Nat:=(t.i,t.dst,t.ids,t.rs)
theorem c8l {ops:Array Oper} {x y x' y':Tr} (hx:x.face=x'.face) (hy:y.face=y'.face):O7 ops x y=O7 ops x' y':=by
 unfold Tr.face at hx hy
 injection hx with h1 hx;injection hx with h2 hx;injection hx with h3 h4
 injection hy with g1 hy;injection hy with g2 hy;injection hy with g3 g4
 unfold O7
 rw [h1,h2,h3,h4,g1,g2,g3,g4]
theorem a8p {ops:Array Oper}:∀ {a b:List Tr},a.map Tr.face=b.map Tr.face→P5 ops a=P5 ops b
 | [],[],_=>rfl
 | [],_ :: _,h=>by simp at h
 | _ :: _,[],h=>by simp at h
 | x :: a,y :: b,h=>by
  simp only [List.map_cons,List.cons.injEq] at h
  simp only [P5]
  rw [a8p h.2]
  congr 1
  have:∀ {a b:List Tr},a.map Tr.face=b.map Tr.face→(a.all fun z=>!O7 ops z x || Q9 ops z.i ops.size x.i)=b.all fun z=>!O7 ops z y || Q9 ops z.i ops.size y.i:=by
   intro a
   induction a with
   | nil=>intro b hab;cases b with
    | nil=>rfl
    | cons=>simp at hab
   | cons z a ih=>intro b hab;cases b with
    | nil=>simp at hab
    | cons u b =>
     simp only [List.map_cons,List.cons.injEq] at hab
     simp only [List.all_cons]
     rw [ih hab.2,c8l hab.1 h.1]
     have e1:z.i=u.i:=congrArg Prod.fst hab.1
     have e2:x.i=y.i:=congrArg Prod.fst h.1
     rw [e1,e2]
  exact this h.2
theorem a0s {fn:FuncId→C2} {cr:Q6} (htab:X.tab=[]) (hfn:∀ g,I8 X g (fn g)) (hcr:a2l cr) {ops:Array Oper} {nid:Nat→Nat}:∀ {l:List Nat} {s:u5} {tr:List Tr} {K:u5→List Tr→Om} {Kp:Nat→V→List Nat→List Tr→Om},b03 CR X fn cr ops nid l s tr K Kp=some r →
  ∀ {tr':List Tr} {K':St→List Tr→Prop} {Kp':Nat→D→List Nat→List Tr→Prop},tr.map Tr.face=tr'.map Tr.face→(∀ s t t',t.map Tr.face=t'.map Tr.face→K s t=some r→K' (m6 s) t')→(∀ i v rs t t',t.map Tr.face=t'.map Tr.face→Kp i v rs t=some r→Kp' i (toD v) rs t')→V4 X ops nid l (m6 s) tr' K' Kp'
 | [],s,tr,K,Kp,h,tr',K',Kp',htr,hK,hKp=>hK _ _ _ htr h
 | i :: l,s,tr,K,Kp,h,tr',K',Kp',htr,hK,hKp=>by
  simp only [b03] at h
  simp only [V4]
  split at h
  ·rename_i ho;rw [ho];exact a0s htab hfn hcr h htr hK hKp
  ·rename_i o ho
   rw [ho]
   refine c5a h (fun s h=>?_) (fun s h=>?_)
   ·refine d3c htab hfn hcr h (fun v ws rs h=>?_) (fun v rs h=>hKp _ _ _ _ _ htr h)
    rw [a9z] at h
    rw [← b3r,← a15]
    refine a0s htab hfn hcr h ?_ hK hKp
    simp only [List.map_cons,List.cons.injEq,htr,and_true]
    simp only [Tr.face,Tr.ids,B8,List.map_map]
    rfl
   ·rw [a9z] at h
    have:=a15 s o.dst (.tuple [])
    simp only [toD,R9] at this
    rw [← this]
    refine a0s htab hfn hcr h ?_ hK hKp
    simp only [List.map_cons,List.cons.injEq,htr,and_true]
    rfl

def u5.more (s:u5) (n:Nat):u5:={ s with heap:=s.heap ++ List.replicate n .free }
theorem d2z (s:u5) (n:Nat):m6 (s.more n)=(m6 s).more n:=by simp only [m6,u5.more,St.more,List.map_append,List.map_replicate,A3]
def d4a (C:Comb) (m:E3) (c:Int):Bool:=C.bnot (C.band (C.bnot (C.iEq c m.k0)) (C.band (C.bnot (C.iEq c m.k1)) (C.bnot (C.iEq c m.k2))))
def d6i (C:Comb) (m:E3) (c:Int):Int:=C.isel (C.iEq c m.k0) m.v0 (C.isel (C.iEq c m.k1) m.v1 m.v2)
def d5o (m:E3) (s:u5) (c x:Int):u5:=(((s.put (some m.t0) .junk).put (some m.t1) .junk).put (some m.t2) (.int .u8 c)).put (some m.t3) (.int .i64 x)
theorem d8v (m:E3) (c:Int):d4a CR m c=m.has c:=by
 unfold d4a E3.has
 simp only [e1p,e1o,d6q,a1t,J7,P2]
theorem e1g (m:E3) (c:Int):d6i CR m c=m.val c:=by
 unfold d6i E3.val
 simp only [e1q,d6q,b6o,P2]
theorem d20 (m:E3) (s:u5) (c:Int):m6 (d5o m s c (m.val c))=m.put (m6 s) c:=by
 unfold d5o E3.put
 simp only [a15,toD]
def b7m (C:Comb) (X:Pr) (fn:FuncId→C2) (cr:Q6) (ops:Array Oper) (draw:Bool) (s:u5) (K:u5→Om) (Kp:V→Om):Om :=
 match draw with
 | false=>match b0c ops.toList with
  | none=>fSt (s.more (a26 ops.toList)) fun s'=>b03 C X fn cr ops (fun i=>s.heap.length+a5o ops.toList i) (List.range ops.size) s' [] (fun s _=>K s) (fun _ d _ _=>Kp d)
  | some m=>cond (a38 X.P m.mt && m.ok s.tmps.length) (vI C .u8 (L7 s.tmps m.src) fun c=>C.chk (d4a C m c) (C.fI (d6i C m c) fun x=>fSt (d5o m (s.more (a26 ops.toList)) c x) fun s' =>
   b03 C X fn cr ops (fun i=>s.heap.length+a5o ops.toList i) (List.range' 7 (ops.size - 7)) s' [] (fun s _=>K s) (fun _ d _ _=>Kp d))) none
 | true=>cond (a4b ops)
   (fSt (s.more (a26 ops.toList)) fun s'=>b03 C X fn cr ops (fun i=>s.heap.length+a5o ops.toList i) (List.range ops.size) s' [] (fun s tr=>cond (P5 ops tr) (K s) none)
    (fun i d rs tr=>cond (P5 ops (⟨i,none,.junk,[],rs⟩ :: tr) && (List.range ops.size).all fun j=>Nat.ble j i || Q9 ops i ops.size j) (Kp d) none)) none
theorem c30 {fn:FuncId→C2} {cr:Q6} (htab:X.tab=[]) (hfn:∀ g,I8 X g (fn g)) (hcr:a2l cr) {ops:Array Oper} {draw:Bool} {s:u5} {K:u5→Om} {Kp:V→Om} (h:b7m CR X fn cr ops draw s K Kp=some r)
  {K':St→Prop} {Kp':D→Prop} (hK:∀ s,K s=some r→K' (m6 s)) (hKp:∀ v,Kp v=some r→Kp' (toD v)):a16 X ops draw (m6 s) K' Kp':=by
 have el:(m6 s).heap.length=s.heap.length:=by simp [m6]
 unfold b7m at h
 unfold a16
 rw [el,← d2z]
 split at h
 ·simp only []
  split at h
  ·rename_i hm
   rw [hm]
   rw [a9z] at h
   exact a0s htab hfn hcr h rfl (fun s t t' _ h=>hK s h) (fun i v rs t t' _ h=>hKp v h)
  ·rename_i m hm
   rw [hm]
   have et:(m6 s).tmps.length=s.tmps.length:=by simp [m6]
   simp only [et]
   generalize (a38 X.P m.mt && m.ok s.tmps.length)=b at h ⊢
   cases b with
   | false=>cases h
   | true =>
    simp only [cond_true] at h ⊢
    obtain ⟨c,hc,h⟩:=U8 h
    obtain ⟨h0,h⟩:=B3 h
    rw [d8v] at h0
    rw [CfI,e1g,a9z] at h
    have e1:(m6 s).tmps.getD m.src .junk=.int .u8 c:=by
     have:=m5 s (.tmp m.src)
     have e2:(m6 s).eval (.tmp m.src)=(m6 s).tmps.getD m.src .junk:=rfl
     rw [← e2,this];exact hc
    rw [e1]
    simp only [h0,cond_true]
    rw [← d20]
    exact a0s htab hfn hcr h rfl (fun s t t' _ h=>hK s h) (fun i v rs t t' _ h=>hKp v h)
 ·simp only []
  cases he:a4b ops with
  | false=>rw [he] at h;cases h
  | true =>
   rw [he] at h
   simp only [cond_true] at h ⊢
   rw [a9z] at h
   refine a0s htab hfn hcr h rfl (fun s t t' ht h=>?_) (fun i v rs t t' ht h=>?_)
   ·rw [← a8p ht]
    cases hr:P5 ops t with
    | false=>rw [hr] at h;cases h
    | true=>rw [hr] at h;exact hK s h
   ·rw [← a8p (a:=⟨i,none,.junk,[],rs⟩ :: t) (by simp only [List.map_cons,ht])]
    generalize (P5 ops (⟨i,none,.junk,[],rs⟩ :: t) && (List.range ops.size).all fun j=>Nat.ble j i || Q9 ops i ops.size j)=b at h ⊢
    cases b with
    | false=>cases h
    | true=>exact hKp v h
end

inductive Sh where
 | int (k:IntKind)
 | bool
 | str
 | slice (n:Nat) (c:V5)
 | q
 | a (m:Nat)
 | agg (l:List Sh)
 | tuple (l:List Sh)
 | ptr (id off:Nat)
 | cref (m:Nat)
 | bslice (id:Nat)
 | nilp
 | nilIface
 | iface (t:TypeId) (s:Sh)
 | func (fn:Fn) (fs cs:List Sh)
 | any
inductive ShB where
 | cells (l:List Sh)
 | opa (m:Nat)
 | tok (size:Nat)
 | row
 | any

mutual
def c67:V→Sh
 | .bool _ | .known _=>.bool
 | .int k _=>.int k
 | .str _ _=>.str
 | .slice _ n _ _ c=>.slice n c
 | .q _=>.q
 | .a _ m=>.a m
 | .agg cs=>.agg (a14 cs)
 | .tuple cs=>.tuple (a14 cs)
 | .ptr id off=>.ptr id off
 | .cref _ _ m=>.cref m
 | .bslice id _=>.bslice id
 | .nilp=>.nilp
 | .nilIface=>.nilIface
 | .iface t v=>.iface t (c67 v)
 | .func fn a b=>.func fn (a14 a) (a14 b)
 | .junk=>.any
def a14:List V→List Sh
 | []=>[]
 | v :: vs=>c67 v :: a14 vs
end
def c3e:Bx→ShB
 | .cells cs=>.cells (a14 cs)
 | .opa _ m=>.opa m
 | .tok _ z=>.tok z
 | .row _ _=>.row
 | _=>.any
def uI (k:IntKind) (v:V) (K:Int→Om):Om:=match v with
 | .int k' n=>cond (ikEq k k') (K n) none
 | .q x=>cI k x K
 | _=>none
def uB (v:V) (K:Bool→Om):Om:=match v with
 | .bool b=>K b
 | .known b=>K b
 | .q x=>cB x K
 | _=>none
def uS (v:V) (K:Nat→Nat→Om):Om:=match v with
 | .str l c=>K l c
 | .q x=>cS x K
 | _=>none
def uSl (n cN:Nat) (v:V) (K:j0 Q→Nat→Nat→Om):Om:=match v with
 | .slice t n' off len c=>cond (Nat.beq (V7 c) cN) (Nat.rec (motive:=fun _=>Om) (chk (nEq len 0) (K .nil 0 0)) (fun _ _=>cond (Nat.beq n n') (K t off len) (chk (nEq len 0) (K .nil 0 0))) n') none
 | .q x=>cond (Nat.beq cN 0) (cSl n x K) none
 | _=>none
def uQ (v:V) (K:Q→Om):Om:=match b7i v with
 | some x=>K x
 | none=>match v with
  | .slice t n off len .no=>K (.slice t n off len)
  | _=>none
def uA (m:Nat) (v:V) (K:Q→Om):Om:=match v with
 | .a x m'=>cond (Nat.beq m m') (K x) none
 | .agg cs=>cond (Nat.beq cs.length m) (match exQs cs with
  | some qs=>K (.agg qs 0)
  | none=>none) none
 | _=>none
where
 exQ (v:V):Option Q:=match b7i v with
  | some x=>some x
  | none=>match v with
   | .slice t n off len .no=>some (.slice t n off len)
   | _=>none
 exQs:List V→Option (List Q)
  | []=>some []
  | v :: vs=>match exQ v,exQs vs with
   | some q,some qs=>some (q :: qs)
   | _,_=>none
def uL (v:V) (K:List V→Om):Om:=match v with
 | .agg cs=>K cs
 | _=>none
def uTu (v:V) (K:List V→Om):Om:=match v with
 | .tuple cs=>K cs
 | _=>none
def uP (id off:Nat) (v:V) (K:Om):Om:=match v with
 | .ptr i o=>cond (Nat.beq id i) (cond (Nat.beq off o) K none) none
 | _=>none
def uCref (m:Nat) (v:V) (K:Q→Om):Om:=match v with
 | .cref x off m'=>cond (Nat.beq m m') (fQ (subQ x off) K) none
 | _=>none
def uBs (id:Nat) (v:V) (K:Nat→Om):Om:=match v with
 | .bslice i len=>cond (Nat.beq id i) (K len) none
 | _=>none
def uNilp (v:V) (K:Om):Om:=match v with
 | .nilp=>K
 | .q x=>c7o x K
 | _=>none
def uNilI (v:V) (K:Om):Om:=match v with
 | .nilIface=>K
 | _=>none
def uIf (t:TypeId) (v:V) (K:V→Om):Om:=match v with
 | .iface t' v=>cond (Nat.beq t t') (K v) none
 | _=>none
def uFn (f:Nat) (v:V) (K:List V→List V→Om):Om:=match v with
 | .func (.func f') fs cs=>cond (Nat.beq f f') (K fs cs) none
 | _=>none
def uCons (l:List V) (K:V→List V→Om):Om:=match l with
 | v :: l=>K v l
 | []=>none
def uNil (l:List V) (K:Om):Om:=match l with
 | []=>K
 | _=>none
def uConsB (l:List Bx) (K:Bx→List Bx→Om):Om:=match l with
 | v :: l=>K v l
 | []=>none
def uNilB (l:List Bx) (K:Om):Om:=match l with
 | []=>K
 | _=>none
def uBc (b:Bx) (K:List V→Om):Om:=match b with
 | .cells cs=>K cs
 | .opa x m=>K ((a82 0 m).map fun i=>.q (celQ x i))
 | _=>none
def uBo (m:Nat) (b:Bx) (K:Q→Om):Om:=match b with
 | .opa x m'=>cond (Nat.beq m m') (K x) none
 | .cells cs=>cond (Nat.beq cs.length m) (match uA.exQs cs with
  | some qs=>K (.agg qs 0)
  | none=>none) none
 | _=>none
def uBt (z:Nat) (b:Bx) (K:Nat→Om):Om:=match b with
 | .tok l z'=>cond (Nat.beq z z') (K l) none
 | _=>none
def uBr (b:Bx) (K:j0 Q→Nat→Om):Om:=match b with
 | .row t len=>K t len
 | _=>none
structure q7 extends Comb where
 uI:IntKind→V→(Int→Om)→Om
 uB:V→(Bool→Om)→Om
 uS:V→(Nat→Nat→Om)→Om
 uSl:Nat→Nat→V→(j0 Q→Nat→Nat→Om)→Om
 uQ:V→(Q→Om)→Om
 uA:Nat→V→(Q→Om)→Om
 uL:V→(List V→Om)→Om
 uTu:V→(List V→Om)→Om
 uP:Nat→Nat→V→Om→Om
 uCref:Nat→V→(Q→Om)→Om
 uBs:Nat→V→(Nat→Om)→Om
 uNilp:V→Om→Om
 uNilI:V→Om→Om
 uIf:Nat→V→(V→Om)→Om
 uFn:Nat→V→(List V→List V→Om)→Om
 uCons:List V→(V→List V→Om)→Om
 uNil:List V→Om→Om
 uConsB:List Bx→(Bx→List Bx→Om)→Om
 uNilB:List Bx→Om→Om
 uBc:Bx→(List V→Om)→Om
 uBo:Nat→Bx→(Q→Om)→Om
 uBt:Nat→Bx→(Nat→Om)→Om
 uBr:Bx→(j0 Q→Nat→Om)→Om
 lp:((List V→List Bx→Om)→List V→List Bx→Om)→List V→List Bx→Om
 jn:((List V→List Bx→Om)→Om)→(List V→List Bx→Om)→Om
 same:List Bx→List Bx→Om→Om
def y8:Nat:=1099511627776
def lp (body:(List V→List Bx→Om)→List V→List Bx→Om):List V→List Bx→Om :=
 Nat.rec (motive:=fun _=>List V→List Bx→Om) (fun _ _=>none) (fun _ ih=>body ih) y8
def jn (f:(List V→List Bx→Om)→Om) (g:List V→List Bx→Om):Om:=f g
def CU:q7:={ CR with
 uI:=uI,uB:=uB,uS:=uS,uSl:=uSl,uQ:=uQ,uA:=uA,uL:=uL,uTu:=uTu,uP:=uP,uCref:=uCref,uBs:=uBs,uNilp:=uNilp,uNilI:=uNilI,uIf:=uIf,uFn:=uFn,uCons:=uCons,uNil:=uNil,
 uConsB:=uConsB,uNilB:=uNilB,uBc:=uBc,uBo:=uBo,uBt:=uBt,uBr:=uBr,lp:=lp,jn:=jn,same:=same }
mutual
def c7s (U:q7):Sh→V→(V→Om)→Om
 | .int k,v,K=>U.uI k v fun n=>K (.int k n)
 | .bool,v,K=>U.uB v fun b=>K (.bool b)
 | .str,v,K=>U.uS v fun l c=>K (.str l c)
 | .slice n c,v,K=>U.uSl n (V7 c) v fun t off len=>K (.slice t n off len c)
 | .q,v,K=>U.uQ v fun x=>K (.q x)
 | .a m,v,K=>U.uA m v fun x=>K (.a x m)
 | .agg l,v,K=>U.uL v fun cs=>Z6 U l cs fun cs=>K (.agg cs)
 | .tuple l,v,K=>U.uTu v fun cs=>Z6 U l cs fun cs=>K (.tuple cs)
 | .ptr id off,v,K=>U.uP id off v (K (.ptr id off))
 | .cref m,v,K=>U.uCref m v fun x=>K (.cref x 0 m)
 | .bslice id,v,K=>U.uBs id v fun len=>K (.bslice id len)
 | .nilp,v,K=>U.uNilp v (K .nilp)
 | .nilIface,v,K=>U.uNilI v (K .nilIface)
 | .iface t s,v,K=>U.uIf t v fun v=>c7s U s v fun v=>K (.iface t v)
 | .func (.func f) fs cs,v,K=>U.uFn f v fun a b=>Z6 U fs a fun a=>Z6 U cs b fun b=>K (.func (.func f) a b)
 | .func _ _ _,_,_=>none
 | .any,v,K=>K v
def Z6 (U:q7):List Sh→List V→(List V→Om)→Om
 | [],l,K=>U.uNil l (K [])
 | s :: ss,l,K=>U.uCons l fun v l=>c7s U s v fun v=>Z6 U ss l fun l=>K (v :: l)
end
def d6v (U:q7):ShB→Bx→(Bx→Om)→Om
 | .cells l,b,K=>U.uBc b fun cs=>Z6 U l cs fun cs=>K (.cells cs)
 | .opa m,b,K=>U.uBo m b fun x=>K (.opa x m)
 | .tok z,b,K=>U.uBt z b fun l=>K (.tok l z)
 | .row,b,K=>U.uBr b fun t len=>K (.row t len)
 | .any,b,K=>K b
def Y4 (U:q7):List ShB→List Bx→(List Bx→Om)→Om
 | [],l,K=>U.uNilB l (K [])
 | s :: ss,l,K=>U.uConsB l fun b l=>d6v U s b fun b=>Y4 U ss l fun l=>K (b :: l)

section
variable {r:R}
theorem e1d {k:IntKind} {v:V} {K:Int→Om} (h:uI k v K=some r):∃ n,toD v=.int k n∧K n=some r:=U8 (k:=k) (v:=v) (by unfold vI;exact h)
theorem e1c {v:V} {K:Bool→Om} (h:uB v K=some r):∃ b,toD v=.bool b∧K b=some r:=X9 (v:=v) (by unfold vB;exact h)
theorem e1f {v:V} {K:Nat→Nat→Om} (h:uS v K=some r):∃ l c,toD v=.str (n5 l c)∧K l c=some r:=Y0 (v:=v) (by unfold vS;exact h)
theorem d6d {n:Nat} {c:V5} {v:V} {K:j0 Q→Nat→Nat→Om} (h:uSl n (V7 c) v K=some r):∃ t off len,toD v=.slice len (rows (t7 t) n off len) c∧K t off len=some r:=by
 unfold uSl at h
 split at h
 ·rename_i t n' off len c'
  cases hc:Nat.beq (V7 c') (V7 c) with
  | false=>rw [hc] at h;cases h
  | true =>
   rw [hc] at h
   have:=c0w (Nat.eq_of_beq_eq_true hc)
   subst this
   simp only [cond_true] at h
   cases n' with
   | zero =>
    obtain ⟨h1,h⟩:=a7z (show chk (nEq len 0) (K .nil 0 0)=some r from h)
    have:=Nat.eq_of_beq_eq_true h1
    subst this
    exact ⟨.nil,0,0,by simp only [toD,rows],h⟩
   | succ n' =>
    have h:cond (Nat.beq n (n'+1)) (K t off len) (chk (nEq len 0) (K .nil 0 0))=some r:=h
    cases hn:Nat.beq n (n'+1) with
    | false =>
     rw [hn] at h
     obtain ⟨h1,h⟩:=a7z (show chk (nEq len 0) (K .nil 0 0)=some r from h)
     have:=Nat.eq_of_beq_eq_true h1
     subst this
     exact ⟨.nil,0,0,by simp only [toD,rows],h⟩
    | true=>rw [hn] at h;rw [Nat.eq_of_beq_eq_true hn];exact ⟨t,off,len,by simp only [toD],h⟩
 ·cases hc:Nat.beq (V7 c) 0 with
  | false=>rw [hc] at h;cases h
  | true =>
   rw [hc] at h
   have:c=.no:=c0w (Nat.eq_of_beq_eq_true hc)
   subst this
   obtain ⟨t,off,len,hx,h'⟩:=c0v h
   exact ⟨t,off,len,by simp only [toD,hx],h'⟩
 ·cases h
theorem d33 {v:V} {x:Q} (h:uA.exQ v=some x):toD v=den x 0:=by
 unfold uA.exQ at h
 split at h
 ·rename_i hx;injection h with h;subst h;exact a5u hx
 ·split at h
  ·injection h with h;subst h;simp only [toD,den];rfl
  ·cases h
theorem a9y:∀ {vs:List V} {qs:List Q},uA.exQs vs=some qs→vs.map toD=qs.map (fun x=>den x 0)
 | [],qs,h=>by simp only [uA.exQs] at h;injection h with h;subst h;rfl
 | v :: vs,qs,h=>by
  simp only [uA.exQs] at h
  split at h
  ·rename_i q qs' hq hqs
   injection h with h;subst h
   simp only [List.map_cons,d33 hq,a9y hqs]
  ·cases h
theorem e1e {v:V} {K:Q→Om} (h:uQ v K=some r):∃ x,toD v=den x 0∧K x=some r:=by
 unfold uQ at h
 split at h
 ·rename_i x hx;exact ⟨x,a5u hx,h⟩
 ·split at h
  ·exact ⟨_,by simp only [toD,den];rfl,h⟩
  ·cases h
theorem e1b {m:Nat} {v:V} {K:Q→Om} (h:uA m v K=some r):∃ x,toD v=.agg (n8 (den x) 0 m)∧K x=some r:=by
 unfold uA at h
 split at h
 ·rename_i x m'
  cases hm:Nat.beq m m' with
  | false=>rw [hm] at h;cases h
  | true=>rw [hm] at h;rw [Nat.eq_of_beq_eq_true hm];exact ⟨x,by simp only [toD],h⟩
 ·rename_i cs
  cases hm:Nat.beq cs.length m with
  | false=>rw [hm] at h;cases h
  | true =>
   rw [hm] at h
   simp only [cond_true] at h
   split at h
   ·rename_i qs hqs
    have e:=a9y hqs
    have hl:qs.length=m:=by have:=congrArg List.length e;simp at this;rw [← this];exact Nat.eq_of_beq_eq_true hm
    exact ⟨_,by simp only [toD,B0,e];rw [← hl,a9s],h⟩
   ·cases h
 ·cases h
mutual
theorem a9p:∀ {s:Sh} {v:V} {K:V→Om},c7s CU s v K=some r→∃ v',toD v'=toD v∧K v'=some r
 | .int k,v,K,h=>by
  obtain ⟨n,hv,h⟩:=e1d (show uI k v _=some r from h);exact ⟨_,by rw [hv];simp only [toD],h⟩
 | .bool,v,K,h=>by
  obtain ⟨n,hv,h⟩:=e1c (show uB v _=some r from h);exact ⟨_,by rw [hv];simp only [toD],h⟩
 | .str,v,K,h=>by
  obtain ⟨l,c,hv,h⟩:=e1f (show uS v _=some r from h);exact ⟨_,by rw [hv];simp only [toD],h⟩
 | .slice n c,v,K,h=>by
  obtain ⟨t,off,len,hv,h⟩:=d6d (show uSl n (V7 c) v (fun t off len=>K (.slice t n off len c))=some r from h);exact ⟨_,by rw [hv];simp only [toD],h⟩
 | .q,v,K,h=>by
  obtain ⟨x,hv,h⟩:=e1e (show uQ v _=some r from h);exact ⟨_,by rw [hv];simp only [toD],h⟩
 | .a m,v,K,h=>by
  obtain ⟨x,hv,h⟩:=e1b (show uA m v _=some r from h);exact ⟨_,by rw [hv];simp only [toD],h⟩
 | .agg l,v,K,h=>by
  replace h:uL v _=some r:=h
  unfold uL at h
  split at h
  ·obtain ⟨cs',e,h⟩:=H6 h;exact ⟨_,by simp only [toD,B0,e],h⟩
  ·cases h
 | .tuple l,v,K,h=>by
  replace h:uTu v _=some r:=h
  unfold uTu at h
  split at h
  ·obtain ⟨cs',e,h⟩:=H6 h;exact ⟨_,by simp only [toD,B0,e],h⟩
  ·cases h
 | .ptr id off,v,K,h=>by
  replace h:uP id off v _=some r:=h
  unfold uP at h
  split at h
  ·rename_i i o
   cases h1:Nat.beq id i with
   | false=>rw [h1] at h;cases h
   | true =>
    rw [h1] at h
    cases h2:Nat.beq off o with
    | false=>rw [h2] at h;cases h
    | true=>rw [h2] at h;exact ⟨_,by rw [Nat.eq_of_beq_eq_true h1,Nat.eq_of_beq_eq_true h2],h⟩
  ·cases h
 | .cref m,v,K,h=>by
  replace h:uCref m v _=some r:=h
  unfold uCref at h
  split at h
  ·rename_i x off m'
   cases h1:Nat.beq m m' with
   | false=>rw [h1] at h;cases h
   | true =>
    rw [h1] at h
    simp only [cond_true,b4b] at h
    exact ⟨_,by rw [Nat.eq_of_beq_eq_true h1];simp only [toD,b50,Nat.add_zero],h⟩
  ·cases h
 | .bslice id,v,K,h=>by
  replace h:uBs id v _=some r:=h
  unfold uBs at h
  split at h
  ·rename_i i len
   cases h1:Nat.beq id i with
   | false=>rw [h1] at h;cases h
   | true=>rw [h1] at h;exact ⟨_,by rw [Nat.eq_of_beq_eq_true h1],h⟩
  ·cases h
 | .nilp,v,K,h=>by
  replace h:uNilp v _=some r:=h
  unfold uNilp at h
  split at h
  ·exact ⟨_,rfl,h⟩
  ·obtain ⟨hx,h'⟩:=c7p h;subst hx;exact ⟨_,by simp only [toD,den];rfl,h'⟩
  ·cases h
 | .nilIface,v,K,h=>by
  replace h:uNilI v _=some r:=h
  unfold uNilI at h
  split at h
  ·exact ⟨_,rfl,h⟩
  ·cases h
 | .iface t s,v,K,h=>by
  replace h:uIf t v _=some r:=h
  unfold uIf at h
  split at h
  ·rename_i t' v0
   cases h1:Nat.beq t t' with
   | false=>rw [h1] at h;cases h
   | true =>
    rw [h1] at h
    obtain ⟨v',e,h⟩:=a9p h
    exact ⟨_,by rw [Nat.eq_of_beq_eq_true h1];simp only [toD,e],h⟩
  ·cases h
 | .func (.func f) fs cs,v,K,h=>by
  replace h:uFn f v _=some r:=h
  unfold uFn at h
  split at h
  ·rename_i f' a b
   cases h1:Nat.beq f f' with
   | false=>rw [h1] at h;cases h
   | true =>
    rw [h1] at h
    obtain ⟨a',ea,h⟩:=H6 h
    obtain ⟨b',eb,h⟩:=H6 h
    exact ⟨_,by rw [Nat.eq_of_beq_eq_true h1];simp only [toD,B0,ea,eb],h⟩
  ·cases h
 | .any,v,K,h=>⟨v,rfl,h⟩
theorem H6:∀ {ss:List Sh} {l:List V} {K:List V→Om},Z6 CU ss l K=some r→∃ l',l'.map toD=l.map toD∧K l'=some r
 | [],l,K,h=>by
  replace h:uNil l _=some r:=h
  unfold uNil at h
  split at h
  ·exact ⟨[],rfl,h⟩
  ·cases h
 | s :: ss,l,K,h=>by
  replace h:uCons l _=some r:=h
  unfold uCons at h
  split at h
  ·obtain ⟨v',e1,h⟩:=a9p h
   obtain ⟨l',e2,h⟩:=H6 h
   exact ⟨_,by simp only [List.map_cons,e1,e2],h⟩
  ·cases h
end
theorem c7t {s:ShB} {b:Bx} {K:Bx→Om} (h:d6v CU s b K=some r):∃ b',A3 b'=A3 b∧K b'=some r:=by
 cases s with
 | cells l =>
  replace h:uBc b _=some r:=h
  unfold uBc at h
  split at h
  ·obtain ⟨cs',e,h⟩:=H6 h;exact ⟨_,by simp only [A3,e],h⟩
  ·rename_i x m
   obtain ⟨cs',e,h⟩:=H6 h
   refine ⟨_,?_,h⟩
   simp only [A3,e,I6,List.map_map]
   congr 1
   exact List.map_congr_left fun i _=>by simp only [Function.comp,toD];exact a1w x i
  ·cases h
 | opa m =>
  replace h:uBo m b _=some r:=h
  unfold uBo at h
  split at h
  ·rename_i x m'
   cases hm:Nat.beq m m' with
   | false=>rw [hm] at h;cases h
   | true=>rw [hm] at h;exact ⟨_,by rw [Nat.eq_of_beq_eq_true hm],h⟩
  ·rename_i cs
   cases hm:Nat.beq cs.length m with
   | false=>rw [hm] at h;cases h
   | true =>
    rw [hm] at h
    simp only [cond_true] at h
    split at h
    ·rename_i qs hqs
     have e:=a9y hqs
     have hl:qs.length=m:=by have:=congrArg List.length e;simp at this;rw [← this];exact Nat.eq_of_beq_eq_true hm
     exact ⟨_,by simp only [A3,e];rw [← hl,a9s],h⟩
    ·cases h
  ·cases h
 | tok z =>
  replace h:uBt z b _=some r:=h
  unfold uBt at h
  split at h
  ·rename_i l z'
   cases hm:Nat.beq z z' with
   | false=>rw [hm] at h;cases h
   | true=>rw [hm] at h;exact ⟨_,by rw [Nat.eq_of_beq_eq_true hm],h⟩
  ·cases h
 | row =>
  replace h:uBr b _=some r:=h
  unfold uBr at h
  split at h
  ·exact ⟨_,rfl,h⟩
  ·cases h
 | any=>exact ⟨b,rfl,h⟩
theorem U1:∀ {ss:List ShB} {l:List Bx} {K:List Bx→Om},Y4 CU ss l K=some r→∃ l',l'.map A3=l.map A3∧K l'=some r
 | [],l,K,h=>by
  replace h:uNilB l _=some r:=h
  unfold uNilB at h
  split at h
  ·exact ⟨[],rfl,h⟩
  ·cases h
 | s :: ss,l,K,h=>by
  replace h:uConsB l _=some r:=h
  unfold uConsB at h
  split at h
  ·obtain ⟨v',e1,h⟩:=c7t h
   obtain ⟨l',e2,h⟩:=U1 h
   exact ⟨_,by simp only [List.map_cons,e1,e2],h⟩
  ·cases h
end

structure Ann where
 ks:List (Nat × Nat)
 vs:List Sh
 bs:List ShB

def ev (U:q7) (X:Pr) (fn:FuncId→C2) (cr:Q6) (n0:Nat) (AL AJ:Nat→Option Ann):Code→Nat→Nat→u5→(u5→Om)→(Nat→u5→Om)→(u5→Om)→(V→Om)→Om
 | .skip,_,_,s,K,_,_,_=>K s
 | .region _ ops draw,_,_,s,K,_,_,Kp=>b7m U.toComb X fn cr ops draw s K Kp
 | .seq a b,p,q,s,K,Kx,Kr,Kp=>match AJ q with
  | none=>ev U X fn cr n0 AL AJ a p (q+1) s (fun s'=>ev U X fn cr n0 AL AJ b (p+M4 a) (q+1+Q7 a) s' K Kx Kr Kp) Kx Kr Kp
  | some A=>U.jn (fun j=>ev U X fn cr n0 AL AJ a p (q+1) s (fun s'=>cond (a3n n0 s.tmps.length A.ks s') (j (a4v n0 A.ks s').1 (a4v n0 A.ks s').2) none) Kx Kr Kp)
    (fun vs bs=>Z6 U A.vs vs fun vs=>Y4 U A.bs bs fun bs=>ev U X fn cr n0 AL AJ b (p+M4 a) (q+1+Q7 a) (b1v s.tmps.length A.ks vs bs) K Kx Kr Kp)
 | .cond c t e,p,q,s,K,Kx,Kr,Kp=>match s.eval c with
  | .known b=>cond b (ev U X fn cr n0 AL AJ t p q s K Kx Kr Kp) (ev U X fn cr n0 AL AJ e (p+M4 t) (q+Q7 t) s K Kx Kr Kp)
  | v=>vB U.toComb v fun b=>U.cnd b (ev U X fn cr n0 AL AJ t p q (refV s c true) K Kx Kr Kp) (ev U X fn cr n0 AL AJ e (p+M4 t) (q+Q7 t) (refV s c false) K Kx Kr Kp)
 | .block id c,p,q,s,K,Kx,Kr,Kp=>ev U X fn cr n0 AL AJ c p q s K (fun j s'=>cond (Nat.beq j id) (K s') (Kx j s')) Kr Kp
 | .loop c,p,q,s,_,Kx,Kr,Kp=>match AL p with
  | none=>none
  | some A=>cond (a3n n0 s.tmps.length A.ks s) (U.lp (fun self vs bs=>Z6 U A.vs vs fun vs=>Y4 U A.bs bs fun bs =>
    ev U X fn cr n0 AL AJ c (p+1) q (b1v s.tmps.length A.ks vs bs) (fun s'=>cond (a3n n0 s.tmps.length A.ks s') (self (a4v n0 A.ks s').1 (a4v n0 A.ks s').2) none) Kx Kr Kp) (a4v n0 A.ks s).1 (a4v n0 A.ks s).2) none
 | .exit j,_,_,s,_,Kx,_,_=>Kx j s
 | .ret,_,_,s,_,_,Kr,_=>Kr s
 | _,_,_,_,_,_,_,_=>none
where refV (s:u5) (c:Operand) (b:Bool):u5:=match c with
 | .tmp t=>s.put (some t) (.known b)
 | _=>s

def a9o (A:Ann):Cut:={ π:=List D × List o9→Prop,ι:=fun p=>{ v // p v },ks:=A.ks,V:=fun _ ix=>ix.val }

section
variable {X:Pr} {r:R}
theorem c3t (s:u5) (c:Operand) (b:Bool):m6 (ev.refV s c b)=(m6 s).ref c b:=by
 cases c with
 | tmp t=>have:=a15 s (some t) (.known b);simp only [toD] at this;exact this
 | _=>rfl
theorem d1g {body:(List V→List Bx→Om)→List V→List Bx→Om} {vs:List V} {bs:List Bx} (h:CU.lp body vs bs=some r):∃ n,Nat.rec (motive:=fun _=>List V→List Bx→Om) (fun _ _=>none) (fun _ ih=>body ih) n vs bs=some r:=⟨y8,h⟩

theorem N7 {fn:FuncId→C2} {cr:Q6} (htab:X.tab=[]) (hfn:∀ g,I8 X g (fn g)) (hcr:a2l cr) {n0:Nat} {AL AJ:Nat→Option Ann}:∀ (c:Code) {p q:Nat} {s:u5} {K:u5→Om} {Kx:Nat→u5→Om} {Kr:u5→Om} {Kp:V→Om},
  ev CU X fn cr n0 AL AJ c p q s K Kx Kr Kp=some r→∀ {K':St→Prop} {Kx':Nat→St→Prop} {Kr':St→Prop} {Kp':D→Prop},(∀ s,K s=some r→K' (m6 s))→(∀ j s,Kx j s=some r→Kx' j (m6 s))→(∀ s,Kr s=some r→Kr' (m6 s))→(∀ v,Kp v=some r→Kp' (toD v)) →
  vc X n0 (fun _ body s=>a0x n0 body s) (fun q=>(AJ q).map a9o) c p q (m6 s) K' Kx' Kr' Kp'
 | .skip,p,q,s,K,Kx,Kr,Kp,h,K',Kx',Kr',Kp',hK,hx,hr,hp=>hK s h
 | .region id ops draw,p,q,s,K,Kx,Kr,Kp,h,K',Kx',Kr',Kp',hK,hx,hr,hp=>c30 htab hfn hcr h hK hp
 | .seq a b,p,q,s,K,Kx,Kr,Kp,h,K',Kx',Kr',Kp',hK,hx,hr,hp=>by
  simp only [ev] at h
  simp only [vc]
  have el:(m6 s).tmps.length=s.tmps.length:=by simp [m6]
  split at h
  ·rename_i hj
   rw [hj]
   exact N7 htab hfn hcr a h (fun s' h=>N7 htab hfn hcr b h hK hx hr hp) hx hr hp
  ·rename_i A hj
   rw [hj]
   simp only [Option.map_some,a9o]
   have h:jn _ _=some r:=h
   unfold jn at h
   refine ⟨fun v=>vc X n0 (fun _ body s=>a0x n0 body s) (fun q=>(AJ q).map a9o) b (p+M4 a) (q+1+Q7 a) (a6n (m6 s).tmps.length A.ks v) K' Kx' Kr' Kp',?_,fun ix=>ix.property⟩
   refine N7 htab hfn hcr a h (fun s' h=>?_) hx hr hp
   rw [el,← b3a]
   cases hok:a3n n0 s.tmps.length A.ks s' with
   | false=>rw [hok] at h;cases h
   | true =>
    rw [hok] at h
    simp only [cond_true] at h ⊢
    obtain ⟨vs',e1,h⟩:=H6 h
    obtain ⟨bs',e2,h⟩:=U1 h
    refine .mk ⟨gcV n0 A.ks (m6 s'),?_⟩ rfl
    rw [b6k,← e1,← e2,← c3m]
    exact N7 htab hfn hcr b h hK hx hr hp
 | .cond c t e,p,q,s,K,Kx,Kr,Kp,h,K',Kx',Kr',Kp',hK,hx,hr,hp=>by
  simp only [ev] at h
  simp only [vc]
  rw [m5]
  split at h
  ·rename_i b hc
   rw [hc]
   simp only [toD]
   have e0:(m6 s).eval c=.bool b:=by rw [m5,hc];simp only [toD]
   cases b
   ·simp only [cond_false] at h ⊢;rw [a8o e0];exact N7 htab hfn hcr e h hK hx hr hp
   ·simp only [cond_true] at h ⊢;rw [a8o e0];exact N7 htab hfn hcr t h hK hx hr hp
  ·obtain ⟨b,hv,h⟩:=X9 h
   rw [hv]
   simp only []
   have h:cnd b _ _=some r:=h
   rw [a6v] at h
   cases b
   ·simp only [cond_false] at h ⊢;rw [← c3t];exact N7 htab hfn hcr e h hK hx hr hp
   ·simp only [cond_true] at h ⊢;rw [← c3t];exact N7 htab hfn hcr t h hK hx hr hp
 | .block id c,p,q,s,K,Kx,Kr,Kp,h,K',Kx',Kr',Kp',hK,hx,hr,hp=>by
  simp only [ev] at h
  simp only [vc]
  refine N7 htab hfn hcr c h hK (fun j s h=>?_) hr hp
  cases hj:Nat.beq j id with
  | true=>rw [hj] at h;exact hK s h
  | false=>rw [hj] at h;exact hx j s h
 | .loop c,p,q,s,K,Kx,Kr,Kp,h,K',Kx',Kr',Kp',hK,hx,hr,hp=>by
  simp only [ev] at h
  simp only [vc]
  have el:(m6 s).tmps.length=s.tmps.length:=by simp [m6]
  split at h
  ·cases h
  ·rename_i A hA
   cases hok:a3n n0 s.tmps.length A.ks s with
   | false=>rw [hok] at h;cases h
   | true =>
    rw [hok] at h
    simp only [cond_true] at h
    obtain ⟨n,h⟩:=d1g h
    generalize hbody:(fun (self:List V→List Bx→Om) (vs:List V) (bs:List Bx)=>Z6 CU A.vs vs fun vs=>Y4 CU A.bs bs fun bs =>
     ev CU X fn cr n0 AL AJ c (p+1) q (b1v s.tmps.length A.ks vs bs) (fun s'=>cond (a3n n0 s.tmps.length A.ks s') (self (a4v n0 A.ks s').1 (a4v n0 A.ks s').2) none) Kx Kr Kp)=body at h
    refine a0x.mk { x:(List D × List o9) × Nat // ∃ vs bs,x.1=(vs.map toD,bs.map A3)∧Nat.rec (motive:=fun _=>List V→List Bx→Om) (fun _ _=>none) (fun _ ih=>body ih) x.2 vs bs=some r } (fun i=>i.val.1) (fun i=>i.val.2)
     ⟨(gcV n0 A.ks (m6 s),n),_,_,b6k n0 A.ks s,h⟩ A.ks (by rw [el,← b3a];exact hok) rfl ?_
    rintro ⟨⟨v,m⟩,vs,bs,hv,hrun⟩
    simp only at hv hrun ⊢
    cases m with
    | zero=>cases hrun
    | succ m =>
     have hrun:body (Nat.rec (motive:=fun _=>List V→List Bx→Om) (fun _ _=>none) (fun _ ih=>body ih) m) vs bs=some r:=hrun
     rw [← hbody] at hrun
     obtain ⟨vs',e1,hrun⟩:=H6 hrun
     obtain ⟨bs',e2,hrun⟩:=U1 hrun
     subst hv
     rw [el]
     have e3:m6 (b1v s.tmps.length A.ks vs' bs')=a6n s.tmps.length A.ks (vs.map toD,bs.map A3):=by rw [c3m,e1,e2]
     rw [← e3]
     refine N7 htab hfn hcr c hrun (fun s' h'=>?_) hx hr hp
     rw [← b3a]
     cases hok':a3n n0 s.tmps.length A.ks s' with
     | false=>rw [hok'] at h';cases h'
     | true =>
      rw [hok'] at h'
      simp only [cond_true] at h' ⊢
      rw [hbody] at h'
      exact .mk ⟨(gcV n0 A.ks (m6 s'),m),_,_,b6k n0 A.ks s',h'⟩ (Nat.lt_succ_self m) rfl
 | .exit j,p,q,s,K,Kx,Kr,Kp,h,K',Kx',Kr',Kp',hK,hx,hr,hp=>hx j s h
 | .ret,p,q,s,K,Kx,Kr,Kp,h,K',Kx',Kr',Kp',hK,hx,hr,hp=>hr s h
 | .rangeFunc ..,_,_,_,_,_,_,_,h,_,_,_,_,_,_,_,_=>by cases h
 | .scope _,_,_,_,_,_,_,_,h,_,_,_,_,_,_,_,_=>by cases h
 | .label _,_,_,_,_,_,_,_,h,_,_,_,_,_,_,_,_=>by cases h
 | .goto _,_,_,_,_,_,_,_,h,_,_,_,_,_,_,_,_=>by cases h
 | .refuse _,_,_,_,_,_,_,_,h,_,_,_,_,_,_,_,_=>by cases h
end

def a8r (C:Comb) (P:Program) (s:u5):List ResultVar→(List V→Om)→Om
 | [],K=>K []
 | .tmp t :: rs,K=>a8r C P s rs fun vs=>K (L7 s.tmps t :: vs)
 | .cell x t :: rs,K=>match L7 s.tmps x with
  | .ptr id off=>match N0 s.heap id with
   | .cells cs=>b5g C P t cs off fun v=>a8r C P s rs fun vs=>K (v :: vs)
   | .opa y m=>b1m C P t y off m fun v=>a8r C P s rs fun vs=>K (v :: vs)
   | _=>none
  | _=>none
def c2k:List V→V
 | [v]=>v
 | vs=>.tuple vs
def b1w (n:Nat) (v:V):V:=a4i (T2 (Z5 n) v)
theorem b5y (n:Nat) (v:V):toD (b1w n v)=P8 n (toD v):=by unfold b1w P8;rw [b5x,a0i]
def c1q (C:Comb) (n:Nat) (h:List Bx) (g:Option Nat) (v:V) (K:V→Om):Om:=match g,v with
 | some z,.slice t m off len (.tok id)=>match N0 h id with
  | .tok l z'=>bif Nat.ble n id && (Nat.beq z' z && Nat.beq m z) then C.chk (C.nEq l len) (K (.slice t m off len (.fr z))) else none
  | _=>none
 | some z,.slice t m off len .exact=>bif Nat.beq m z then K (.slice t m off len (.fr z)) else bif Nat.beq m 0 then C.chk (C.nEq len 0) (K (.slice .nil z 0 0 (.fr z))) else none
 | _,v=>K (b1w n v)
def a62 (C:Comb) (n:Nat) (h:List Bx):List (Option Nat)→List V→(List V→Om)→Om
 | _,[],K=>K []
 | [],v :: vs,K=>a62 C n h [] vs fun r=>K (b1w n v :: r)
 | g :: gv,v :: vs,K=>c1q C n h g v fun v=>a62 C n h gv vs fun r=>K (v :: r)
def b6i (C:Comb) (P:Program) (rs:List ResultVar) (n:Nat) (gv:List (Option Nat)) (s:u5):Om :=
 a8r C P s rs fun vs=>match a6t s.heap (List.range n) with
  | some bs=>a62 C n s.heap gv vs fun vs=>some (.ret (c2k vs),bs.map (a0h (Z5 n)))
  | none=>none
def b5w (ntmps:Nat) (vs:List V) (bs:List Bx):u5:={ tmps:=vs ++ List.replicate (ntmps - vs.length) (.tuple []),heap:=bs }
def d31 (U:q7) (X:Pr) (fn:FuncId→C2) (cr:Q6) (AL AJ:Nat→Option Ann) (gv:List (Option Nat)) (f:Func):C2:=fun vs bs =>
 ev U X fn cr bs.length AL AJ (f.body.getD .skip) 0 0 (b5w f.ntmps vs bs) (b6i U.toComb X.P f.results.toList bs.length gv) (fun _ _=>none) (b6i U.toComb X.P f.results.toList bs.length gv) (fun v=>some (.pan v,bs))

section
variable {X:Pr} {r:R}
theorem a3q {P:Program} {s:u5}:∀ {rs:List ResultVar} {K:List V→Om},a8r CR P s rs K=some r→∃ vs,K vs=some r∧a27 P (m6 s) rs=some (vs.map toD)
 | [],K,h=>⟨[],h,rfl⟩
 | .tmp t :: rs,K,h=>by
  simp only [a8r] at h
  obtain ⟨vs,h,e⟩:=a3q h
  exact ⟨_,h,by simp only [a27,e,Option.map_some,List.map_cons,a2s]⟩
 | .cell x t :: rs,K,h=>by
  simp only [a8r] at h
  split at h
  ·rename_i id off hx
   split at h
   ·rename_i cs hb
    obtain ⟨v,h,hr⟩:=a8n h
    obtain ⟨vs,h,e⟩:=a3q h
    have hh:=R4 hb (by simp)
    refine ⟨_,h,?_⟩
    simp only [a27,a2s,hx,toD,hh,A3,hr,Option.bind_some,e,Option.map_some,List.map_cons]
   ·rename_i y m hb
    obtain ⟨v,h,hr⟩:=a3o h
    obtain ⟨vs,h,e⟩:=a3q h
    have hh:=R4 hb (by simp)
    have:=hr 0 (Nat.zero_le _)
    rw [Nat.sub_zero,Nat.sub_zero] at this
    refine ⟨_,h,?_⟩
    simp only [a27,a2s,hx,toD,hh,A3,this,Option.bind_some,e,Option.map_some,List.map_cons]
   ·cases h
  ·cases h
theorem d1t (vs:List V):toD (c2k vs)=a8l (vs.map toD):=by
 unfold c2k
 split
 ·rfl
 ·rename_i h
  match vs,h with
  | [],_=>simp only [toD,R9,List.map_nil,a8l]
  | [v],h=>exact absurd rfl (h v)
  | v :: w :: vs,_=>simp only [toD,B0,List.map_cons,a8l]
theorem c4h {n:Nat} {s:u5} {g:Option Nat} {v:V} {K:V→Om} (h:c1q CR n s.heap g v K=some r):∃ v',K v'=some r∧a2c n (m6 s).heap g (toD v)=toD v':=by
 unfold c1q at h
 split at h
 ·rename_i z t m off len id
  split at h
  ·rename_i l z' hb
   have hh:=R4 hb (by simp)
   simp only [A3] at hh
   cases hg:Nat.ble n id && (Nat.beq z' z && Nat.beq m z) with
   | false=>rw [hg] at h;cases h
   | true =>
    rw [hg] at h
    simp only [cond_true] at h
    obtain ⟨h0,h⟩:=B3 h
    have h0:Nat.beq l len=true:=h0
    simp only [Bool.and_eq_true] at hg
    obtain ⟨g1,g2,g3⟩:=hg
    have:=Nat.eq_of_beq_eq_true g3
    subst this
    refine ⟨_,h,?_⟩
    simp only [toD,a2c,hh,g1,g2,h0,D8,Nat.beq_refl,Bool.and_self,cond_true]
  ·cases h
 ·rename_i z t m off len
  cases hm:Nat.beq m z with
  | true =>
   rw [hm] at h
   have:=Nat.eq_of_beq_eq_true hm
   subst this
   exact ⟨_,h,by simp only [toD,a2c,D8,Nat.beq_refl,cond_true]⟩
  | false =>
   rw [hm] at h
   simp only [cond_false] at h
   cases h0:Nat.beq m 0 with
   | false=>rw [h0] at h;cases h
   | true =>
    rw [h0] at h
    simp only [cond_true] at h
    obtain ⟨h1,h⟩:=B3 h
    have h1:Nat.beq len 0=true:=h1
    have:=Nat.eq_of_beq_eq_true h1
    subst this
    exact ⟨_,h,by simp only [toD,a2c,rows,List.length_nil,Nat.zero_mul,Nat.beq_refl,cond_true]⟩
 ·rename_i hn1 hn2
  refine ⟨_,h,?_⟩
  rw [b5y]
  unfold a2c
  split
  ·rename_i z len c id hd
   exfalso
   cases v <;> simp only [toD] at hd <;> first | (cases hd;done) | skip
   ·injection hd with _ _ hd;subst hd;exact hn1 _ _ _ _ _ _ rfl rfl
   ·cases W8 _ _ _ _ _ hd
  ·rename_i z len c hd
   exfalso
   cases v <;> simp only [toD] at hd <;> first | (cases hd;done) | skip
   ·injection hd with _ _ hd;subst hd;exact hn2 _ _ _ _ _ rfl rfl
   ·cases W8 _ _ _ _ _ hd
  ·rfl
theorem a6d {n:Nat} {s:u5}:∀ {gv:List (Option Nat)} {vs:List V} {K:List V→Om},a62 CR n s.heap gv vs K=some r→∃ vs',K vs'=some r∧V3 n (m6 s).heap gv (vs.map toD)=vs'.map toD
 | gv,[],K,h=>by cases gv <;> exact ⟨[],h,by simp [V3]⟩
 | [],v :: vs,K,h=>by
  simp only [a62] at h
  obtain ⟨vs',h,e⟩:=a6d h
  exact ⟨_,h,by simp only [List.map_cons,V3,b5y,e]⟩
 | g :: gv,v :: vs,K,h=>by
  simp only [a62] at h
  obtain ⟨v',h,e1⟩:=c4h h
  obtain ⟨vs',h,e⟩:=a6d h
  exact ⟨_,h,by simp only [List.map_cons,V3,e1,e]⟩
theorem a2q {P:Program} {rs:List ResultVar} {n:Nat} {gv:List (Option Nat)} {s:u5} {x:J0} {bs':List Bx} (h:b6i CR P rs n gv s=some (x,bs')):fin P rs n gv (b0h x) (bs'.map E0) (m6 s):=by
 obtain ⟨vs,h,e⟩:=a3q h
 split at h
 ·rename_i bs hb
  obtain ⟨vs',h,eg⟩:=a6d h
  injection h with h
  injection h with h1 h2
  subst h1 h2
  obtain ⟨q1,q2,q3⟩:=a5z hb
  have q1:O6 (m6 s).heap (List.range n)=some (bs.map E0):=q1
  unfold fin
  rw [e,q1]
  refine ⟨?_,?_⟩
  ·simp only [b0h,d1t,eg]
  ·rw [List.map_map,List.map_map];exact List.map_congr_left fun b _=>(b1o (Z5 n)).symm
 ·cases h
theorem b53 (n:Nat) (vs:List V) {bs:List Bx} (h:bs.all M7=true):m6 (b5w n vs bs)=start n (vs.map toD) (bs.map E0):=by
 unfold b5w start m6
 simp only [List.map_append,List.map_replicate,List.length_map,List.map_map,toD,R9]
 congr 1
 exact List.map_congr_left fun b hb=>a1u (List.all_eq_true.1 h b hb)

theorem d8r {fn:FuncId→C2} {cr:Q6} (htab:X.tab=[]) (hfn:∀ g,I8 X g (fn g)) (hcr:a2l cr) {AL AJ:Nat→Option Ann} {gv:List (Option Nat)} {f:FuncId} {F:Func} (hf:X.P.funcs[f]?=some F) (hb:F.body.isSome=true)
  (hcall:∀ args w,(callFunc f args).run X.P w=.ok (.enter f args) w):I8 X f (d31 CU X fn cr AL AJ gv F):=by
 intro vs bs x bs' h hok
 obtain ⟨c,hc⟩:=Option.isSome_iff_exists.1 hb
 unfold d31 at h
 rw [hc] at h
 have:=N7 (X:=X) htab hfn hcr c h (K':=fin X.P F.results.toList bs.length gv (b0h x) (bs'.map E0)) (Kx':=fun _ _=>False) (Kr':=fin X.P F.results.toList bs.length gv (b0h x) (bs'.map E0)) (Kp':=fun d=>b0h x=.pan d)
  (fun s h=>a2q h) (fun _ _ h=>by cases h) (fun s h=>a2q h) (fun v h=>by injection h with h;injection h with h1 h2;rw [← h1];rfl)
 rw [b53 _ _ hok] at this
 have e:(bs.map E0).length=bs.length:=by simp
 refine a73 (X:=X) (gv:=gv) (L:=fun _ body s=>a0x bs.length body s) (J:=fun q=>(AJ q).map a9o) hf hc hcall (fun _ _ _ h=>by rw [e];exact h) ?_
 rw [e]
 exact this

end
def c73 (U:q7) (X:Pr) (fn:FuncId→C2) (cr:Q6) (AL AJ:Nat→Option Ann) (gv:List (Option Nat)) (f:Func):C2:=fun vs bs=>match f.body with
 | some (.seq A (.seq R C))=>match a6x R with
  | some (_,t)=>ev U X fn cr bs.length AL AJ A 0 0 (b5w f.ntmps vs bs) (fun s=>match L7 s.tmps t with
    | .ptr _ _=>ev U X fn cr bs.length AL AJ C (M4 A) (Q7 A) s (b6i U.toComb X.P f.results.toList bs.length gv) (fun _ _=>none) (b6i U.toComb X.P f.results.toList bs.length gv) (fun _=>none)
    | _=>none) (fun _ _=>none) (b6i U.toComb X.P f.results.toList bs.length gv) (fun _=>none)
  | none=>none
 | _=>none
def c7z (f:Func):Option FuncId:=match f.body with
 | some (.seq _ (.seq R _))=>(a6x R).map (·.1)
 | _=>none
section
variable {X:Pr} {r:R}
theorem d32 {fn:FuncId→C2} {cr:Q6} (htab:X.tab=[]) (hfn:∀ g,I8 X g (fn g)) (hcr:a2l cr) {AL AJ:Nat→Option Ann} {gv:List (Option Nat)} {f g:FuncId} {F:Func} (hf:X.P.funcs[f]?=some F) (hd:c7z F=some g)
  (hcall:∀ args w,(callFunc f args).run X.P w=.ok (.enter f args) w) (hg:∀ args w,(callFunc g args).run X.P w=.ok (.enter g args) w) (hidle:c7j X.P g):I8 X f (c73 CU X fn cr AL AJ gv F):=by
 intro vs bs x bs' h hok
 unfold c73 at h
 unfold c7z at hd
 split at h
 ·rename_i A R C hb
  rw [hb] at hd
  simp only [] at hd
  split at h
  ·rename_i g' t hR
   rw [hR] at hd
   injection hd with hd
   subst hd
   have e:(bs.map E0).length=bs.length:=by simp
   refine b6e (X:=X) (gv:=gv) (L:=fun _ body s=>a0x bs.length body s) (J:=fun q=>(AJ q).map a9o) hf hb hR hcall hg hidle (fun _ _ _ h=>by rw [e];exact h) ?_
   rw [e,← b53 _ _ hok]
   refine N7 (X:=X) htab hfn hcr A h (fun s h=>?_) (fun _ _ h=>by cases h) (fun s h=>a2q h) (fun v h=>by cases h)
   split at h
   ·rename_i id off hp
    refine ⟨⟨id,off,?_⟩,N7 (X:=X) htab hfn hcr C h (fun s h=>a2q h) (fun _ _ h=>by cases h) (fun s h=>a2q h) (fun v h=>by cases h)⟩
    have:=m5 s (.tmp t)
    have e2:(m6 s).eval (.tmp t)=(m6 s).tmps.getD t .junk:=rfl
    rw [← e2,this]
    show toD (L7 s.tmps t)=_
    rw [hp]
    simp only [toD]
   ·cases h
  ·cases h
 ·cases h
end
end
end Go.Abs
