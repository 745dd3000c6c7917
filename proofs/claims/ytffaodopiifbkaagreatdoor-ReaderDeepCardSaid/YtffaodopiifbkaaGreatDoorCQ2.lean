/- What the operations say, run: second part. -/
import Derived.Test.YtffaodopiifbkaaGreatDoorCQ1
set_option linter.all false
namespace Go.Abs
noncomputable section

theorem a8n:∀ (vs ds:List D) (off:Nat),off+vs.length≤ds.length→J5 ds off vs=ds.take off ++ vs ++ ds.drop (off+vs.length)
 | [],ds,off,h=>by simp [J5]
 | v :: vs,ds,off,h=>by
  simp only [List.length_cons] at h
  simp only [J5]
  rw [a8n vs _ _ (by simp;omega)]
  have e1:(ds.set off v).take (off+1)=ds.take off ++ [v]:=by
   apply List.ext_getElem?
   intro i
   rcases Nat.lt_or_ge i off with hi | hi
   ·rw [List.getElem?_take_of_lt oM,List.getElem?_set_ne oM,List.getElem?_append_left (by simp;omega),List.getElem?_take_of_lt hi]
   ·rcases Nat.eq_or_lt_of_le hi with hi | hi
    ·subst hi
     rw [List.getElem?_take_of_lt oM,List.getElem?_set_self oM,List.getElem?_append_right (by simp;omega)]
     simp [Nat.min_eq_left (show off≤ds.length by omega)]
    ·rw [List.getElem?_eq_none (by simp;omega),List.getElem?_eq_none (by simp;omega)]
  have e2:(ds.set off v).drop (off+1+vs.length)=ds.drop (off+1+vs.length):=by
   apply List.ext_getElem?
   intro i
   rw [List.getElem?_drop,List.getElem?_drop,List.getElem?_set_ne oM]
  rw [e1,e2]
  simp only [List.append_assoc,List.cons_append,List.nil_append,List.length_cons]
  rw [show off+1+vs.length=off+(vs.length+1) by omega]

section
variable {X:Pr} {s:y2} {nid:Nat} {r:R}

theorem b9x {n:Nat}:∀ {ps:List (Nat × V)} {i:Nat} {ds:List D} {qs:List Q},a28 n i ps=some qs→ds.length=(i+ps.length) * n →
  ∃ out,a2x (fun i=>some (i * n,n)) ds (ps.map fun p=>(p.1,toD p.2))=some out∧out.map (renI V6)=(ds.take (i * n)).map (renI V6) ++ qs.flatMap fun q=>s9 (den q) 0 n
 | [],i,ds,qs,h,hl=>by
  simp only [a28] at h
  injection h with h
  subst h
  refine ⟨ds,rfl,?_⟩
  simp only [List.flatMap_nil,List.append_nil]
  rw [List.take_of_length_le (by rw [hl];simp)]
 | (j,v) :: ps,i,ds,qs,h,hl=>by
  simp only [a28] at h
  split at h
  ·rename_i q qs' hj hq hqs
   injection h with h
   subst h
   have:=Nat.eq_of_beq_eq_true hj
   subst this
   obtain ⟨h1,h2,h3⟩:=d0d hq
   simp only [List.length_cons] at hl
   have hle:i * n+n≤ds.length:=by
    rw [hl]
    have:(i+1) * n≤(i+(ps.length+1)) * n:=Nat.mul_le_mul_right n oM
    rw [Nat.succ_mul] at this
    exact this
   have hw:J5 ds (i * n) (toD v).cells=ds.take (i * n) ++ (toD v).cells ++ ds.drop (i * n+n):=by
    rw [a8n _ _ _ (by rw [h2];exact hle),h2]
   have hlen:(J5 ds (i * n) (toD v).cells).length=(i+1+ps.length) * n:=by
    rw [hw]
    simp only [List.length_append,List.length_take,List.length_drop,h2]
    have:(i+1+ps.length) * n=ds.length:=by rw [hl];congr 1;omega
    omega
   obtain ⟨out,ho,hm⟩:=b9x hqs hlen
   refine ⟨out,?_,?_⟩
   ·simp only [List.map_cons,a2x,h1,h2]
    have e1:Nat.ble (i * n+n) ds.length=true:=by rw [Nat.ble_eq];exact hle
    rw [e1]
    simp only [beq_self_eq_true,Bool.and_self,cond_true]
    exact ho
   ·rw [hm,hw,Nat.succ_mul]
    have e2:(ds.take (i * n) ++ (toD v).cells ++ ds.drop (i * n+n)).take (i * n+n)=ds.take (i * n) ++ (toD v).cells :=
     List.take_left' (by simp only [List.length_append,List.length_take,h2];omega)
    rw [e2,List.map_append,h3,List.flatMap_cons,List.append_assoc]
  ·cases h
theorem a9z {n:Nat}:∀ {ps:List (Nat × V)} {i:Nat} {qs:List Q},a28 n i ps=some qs→qs.length=ps.length
 | [],i,qs,h=>by simp only [a28] at h;injection h with h;subst h;rfl
 | (j,v) :: ps,i,qs,h=>by
  simp only [a28] at h
  split at h
  ·rename_i q qs' hj hq hqs
   injection h with h
   subst h
   simp [a9z hqs]
  ·cases h
theorem d2x:∀ (qs:List Q) (i:Nat) (t:j9 Q),i+qs.length+2≤2 ^ L1→(∀ k,k < i→G5 (x3 (mkT qs i t)) k=G5 (x3 t) k)∧∀ k q,qs[k]?=some q→G5 (x3 (mkT qs i t)) (i+k)=den q
 | [],i,t,_=>⟨fun _ _=>rfl,fun k q h=>by simp at h⟩
 | q :: qs,i,t,hb=>by
  simp only [List.length_cons] at hb
  obtain ⟨h1,h2⟩:=d2x qs (i+1) (t.set .no q L1 i) oM
  refine ⟨fun k hk=>?_,fun k x hx=>?_⟩
  ·simp only [mkT];rw [h1 k oM,a4i _ _ _ oM]
  ·simp only [mkT]
   cases k with
   | zero =>
    simp at hx;subst hx
    show G5 (x3 (mkT qs (i+1) (j9.set Q.no q L1 t i))) i=den q
    rw [h1 i oM,b2n _ _ oM]
   | succ k =>
    simp only [List.getElem?_cons_succ] at hx
    have:=h2 k x hx
    rw [show i+1+k=i+(k+1) by omega] at this
    exact this
theorem b90 {T:j9 Den} {n:Nat}:∀ (qs:List Q) (off:Nat),(∀ k q,qs[k]?=some q→G5 T (off+k)=den q)→rows T n off qs.length=qs.flatMap fun q=>s9 (den q) 0 n
 | [],off,h=>rfl
 | q :: qs,off,h=>by
  simp only [List.length_cons,rows,List.flatMap_cons]
  rw [b90 qs (off+1) (fun k x hx=>by have:=h (k+1) x (by simpa using hx);rw [show off+1+k=off+(k+1) by omega];exact this)]
  have:=h 0 q rfl
  rw [Nat.add_zero] at this
  rw [this]

theorem c11 (z:List D) (n:Nat):(a2v z n).length=n:=by simp [a2v]

theorem c45 {P:Program} {t:TypeId} {x y:V} {K:KV} (h:b8p CR P s nid t x y K=some r):∃ v ws rs,K v ws rs=some r∧a2n P (p4 s) nid t (toD x) (toD y)=some ⟨true,toD v,B8 ws,rs⟩:=by
 unfold b8p at h
 split at h
 ·rename_i e hu
  split at h
  ·rename_i n b z hn hb hz
   cases hg:Nat.beq z.length n && Nat.blt 0 n && a07 s nid with
   | false=>rw [hg] at h;cases h
   | true =>
    rw [hg] at h
    simp only [cond_true] at h
    simp only [Bool.and_eq_true] at hg
    obtain ⟨⟨g1,g2⟩,g3⟩:=hg
    obtain ⟨tr,off,len,c,hx,h⟩:=a0v h
    obtain ⟨t2,off2,m,_,hy,h⟩:=a0v h
    obtain ⟨h0,h⟩:=B0 h
    have h0:(band (Nat.ble ((len+m) * b) 140737488355328) (Nat.ble (len+m) 140737488355328))=true:=h0
    rw [CfN] at h
    rw [J9,Bool.and_eq_true,Nat.ble_eq,Nat.ble_eq] at h0
    obtain ⟨t',h,hold,hnew⟩:=c7c m (t:=tr) (i:=off+len) (j:=off2) h
    have hrows:rows (x3 t') n off (len+m)=rows (x3 tr) n off len ++ rows (x3 t2) n off2 m:=by
     rw [b2u]
     congr 1
     ·exact a9l len off off fun k hk=>hold _ oM
     ·exact a9l m (off+len) off2 fun k hk=>hnew k hk
    have hz':=a1f hz
    have hzl:Nat.beq (z.map toD).length n=true:=by rw [List.length_map];exact g1
    have hneed:(decide ((len+m) * b≤F6∧len+m≤F6∧(rows (x3 tr) n off len).length=len * n∧(rows (x3 t2) n off2 m).length=m * n) && (rows (x3 t2) n off2 m).all D.one)=true:=by
     rw [c2j,Bool.and_true,decide_eq_true_iff]
     exact ⟨h0.1,h0.2,E1 _ _,E1 _ _⟩
    split at h
    ·refine ⟨_,_,_,h,?_⟩
     simp only [u3,nAdd,Nat.add_eq,a2n,hu,hx,hy,hn,hb,hz',hzl,g2,a6v g3,Bool.and_self,cond_true,hneed,toD,hrows,B8,List.map_cons,List.map_nil,z7]
    ·rename_i id
     split at h
     ·rename_i l k hbx
      obtain ⟨h1,h⟩:=B0 h
      have h1:(band (Nat.beq l len) (Nat.beq k n))=true:=h1
      rw [J9,Bool.and_eq_true] at h1
      refine ⟨_,_,_,h,?_⟩
      have hh:=R9 hbx (by simp)
      simp only [z7] at hh
      simp only [u3,nAdd,Nat.add_eq,a2n,hu,hx,hy,hn,hb,hz',hzl,g2,a6v g3,Bool.and_self,cond_true,hneed,toD,hrows,B8,List.map_cons,List.map_nil,z7,hh,h1.1,h1.2]
     ·cases h
    ·cases h
  ·cases h
 ·cases h

theorem a6t {v:V} {x:Q} (h:b8a v=some x):toD v=den x 0:=by
 unfold b8a at h
 split at h <;> first
  | (injection h with h;subst h;simp only [toD,den];rfl)
  | (injection h with h;subst h;simp only [toD])
  | cases h
theorem d0w {b:Bx} {cs:List V} (h:c9k CR b=some cs):z7 b=.cells (cs.map toD)∧b ≠ .dead:=by
 unfold c9k at h
 split at h
 ·injection h with h;subst h;exact ⟨rfl,by simp⟩
 ·rename_i x m
  injection h with h
  subst h
  refine ⟨?_,by simp⟩
  simp only [z7,H6,List.map_map]
  congr 1
  exact List.map_congr_left fun i _=>by simp only [Function.comp,toD];exact (a2j x i).symm
 ·cases h
theorem d4m {tr:j9 Q} {y:Q} {off len:Nat} (h1:off < len) (h2:off+2≤2 ^ L1):rows (x3 (tr.set .no y L1 off)) 1 0 len=(rows (x3 tr) 1 0 len).set off (den y 0):=by
 have key:∀ (T:j9 Den) (m o i:Nat),i < m→(rows T 1 o m)[i]?=some (G5 T (o+i) 0):=by
  intro T m
  induction m with
  | zero=>intro o i hi;omega
  | succ m ih =>
   intro o i hi
   simp only [rows,s9,List.cons_append,List.nil_append]
   cases i with
   | zero=>rfl
   | succ i =>
    rw [List.getElem?_cons_succ,ih (o+1) i oM]
    rw [show o+1+i=o+(i+1) by omega]
 apply List.ext_getElem?
 intro i
 rcases Nat.lt_or_ge i len with hi | hi
 ·rw [key _ _ _ _ hi,Nat.zero_add]
  by_cases he:off=i
  ·subst he
   rw [List.getElem?_set_self (by rw [E1,Nat.mul_one];exact hi),b2n _ _ h2]
  ·rw [List.getElem?_set_ne he,key _ _ _ _ hi,Nat.zero_add,a4i _ _ _ (fun e=>he e.symm)]
 ·rw [List.getElem?_eq_none (by rw [E1,Nat.mul_one];exact hi),List.getElem?_eq_none (by rw [List.length_set,E1,Nat.mul_one];exact hi)]
end

section
variable {X:Pr} {s:y2} {nid:Nat} {r:R}

theorem c2u (l:List Operand):l.map (p4 s).eval=(l.map s.eval).map toD:=by
 rw [List.map_map];exact List.map_congr_left fun x _=>o9 s x

theorem d1m {t:TypeId} {parts:Array (Nat × Operand)} {K:KV} (h:O2 CR X s nid (.build t parts) K=some r):∃ v ws rs,K v ws rs=some r∧s8 X (p4 s) nid (.build t parts)=some ⟨true,toD v,B8 ws,rs⟩:=by
 simp only [O2] at h
 split at h
 ·rename_i fs z hu hz
  split at h
  ·rename_i cs hf
   cases ha:(fs.all fun f=>(B7 X.P f.type).isSome) with
   | false=>rw [ha] at h;cases h
   | true =>
    rw [ha] at h
    refine ⟨_,_,_,h,?_⟩
    have:=b5o hf
    simp only [List.map_map] at this
    have e:(parts.toList.map fun p=>(p.1,(p4 s).eval p.2))=parts.toList.map ((fun p:Nat × V=>(p.1,toD p.2)) ∘ fun p=>(p.1,s.eval p.2)) :=
     List.map_congr_left fun p _=>by simp only [Function.comp,o9]
    rw [← e] at this
    simp only [u3,s8,hu,a1f hz,this,D4,ha,toD,A9]
    rfl
  ·cases h
 ·cases h
theorem b8n {t:TypeId} {len:Nat} {parts:Array (Nat × Operand)} {K:KV} (h:O2 CR X s nid (.buildSlice t len parts) K=some r):∃ v ws rs,K v ws rs=some r∧s8 X (p4 s) nid (.buildSlice t len parts)=some ⟨true,toD v,B8 ws,rs⟩:=by
 simp only [O2] at h
 split at h
 ·rename_i e hu
  split at h
  ·rename_i n z hn hz
   split at h
   ·rename_i qs hq
    cases hg:Nat.beq qs.length len && (Nat.ble (len * n) 16777216 && Nat.ble len 16777216) with
    | false=>rw [hg] at h;cases h
    | true =>
     rw [hg] at h
     simp only [Bool.and_eq_true] at hg
     obtain ⟨g1,g2,g3⟩:=hg
     have hql:=Nat.eq_of_beq_eq_true g1
     refine ⟨_,_,_,h,?_⟩
     have hpl:=a9z hq
     simp only [List.length_map] at hpl
     obtain ⟨out,ho,hm⟩:=b9x hq (ds:=a2v (z.map toD) (len * n)) (by rw [c11,Nat.zero_add,List.length_map,← hpl,hql])
     simp only [List.map_map] at ho
     have e:(parts.toList.map fun p=>(p.1,(p4 s).eval p.2))=parts.toList.map ((fun p:Nat × V=>(p.1,toD p.2)) ∘ fun p=>(p.1,s.eval p.2)) :=
      List.map_congr_left fun p _=>by simp only [Function.comp,o9]
     rw [← e] at ho
     simp only [u3,s8,hu,hn,a1f hz,ho,D4,g2,toD,hm,Nat.zero_mul,List.take_zero,List.map_nil,List.nil_append]
     have hb:0+qs.length+2≤2 ^ L1:=by
      rw [Nat.ble_eq] at g3
      show 0+qs.length+2≤2 ^ 48
      omega
     obtain ⟨_,h2⟩:=d2x qs 0 .nil hb
     rw [← hql,b90 qs 0 h2]
     rfl
   ·cases h
  ·cases h
 ·cases h
theorem d62 {t:TypeId} {a:Operand} {K:KV} (h:O2 CR X s nid (.load t a) K=some r):∃ v ws rs,K v ws rs=some r∧s8 X (p4 s) nid (.load t a)=some ⟨true,toD v,B8 ws,rs⟩:=by
 simp only [O2] at h
 split at h
 ·rename_i id off ha
  split at h
  ·rename_i cs hb
   obtain ⟨v,h,hr⟩:=a9f h
   have hh:=R9 hb (by simp)
   refine ⟨_,_,_,h,?_⟩
   simp only [u3,s8,o9,ha,toD,hh,z7,hr,Option.map_some]
   rfl
  ·rename_i x m hb
   obtain ⟨v,h,hr⟩:=a4e h
   have hh:=R9 hb (by simp)
   have:=hr 0 (Nat.zero_le _)
   rw [Nat.sub_zero,Nat.sub_zero] at this
   refine ⟨_,_,_,h,?_⟩
   simp only [u3,s8,o9,ha,toD,hh,z7,this,Option.map_some]
   rfl
  ·rename_i tr len hb
   split at h
   ·rename_i hag
    obtain ⟨h0,h⟩:=B0 h
    have h0:(Nat.ble (off+1) len)=true:=h0
    rw [CfQ] at h
    rw [Nat.ble_eq] at h0
    have hh:=R9 hb (by simp)
    refine ⟨_,_,_,h,?_⟩
    have key:(rows (x3 tr) 1 0 len)[off]?=some (den (tQ tr off) 0):=by
     have h1:=b9b (T:=x3 tr) (n:=1) (off:=0) (show off < len by omega)
     rw [Nat.mul_one,Nat.zero_add] at h1
     have h2:=congrArg (·[0]?) h1
     simp only [List.getElem?_take_of_lt (show 0 < 1 by omega),List.getElem?_drop,Nat.add_zero] at h2
     rw [h2,b6a]
     rfl
    simp only [u3,s8,o9,ha,toD,hh,z7,P1,hag,key,Option.map_some]
    rfl
   ·cases h
  ·cases h
 ·rename_i x off m ha
  obtain ⟨v,h,hr⟩:=a4e h
  have:=hr off (Nat.le_refl _)
  rw [Nat.add_sub_cancel_left,Nat.sub_self] at this
  refine ⟨_,_,_,h,?_⟩
  simp only [u3,s8,o9,ha,toD,this,Option.map_some]
  rfl
 ·cases h
theorem d0y {t:TypeId} {a x:Operand} {K:KV} (h:O2 CR X s nid (.store t a x) K=some r):∃ v ws rs,K v ws rs=some r∧s8 X (p4 s) nid (.store t a x)=some ⟨true,toD v,B8 ws,rs⟩:=by
 simp only [O2] at h
 split at h
 ·rename_i id off ha
  split at h
  ·rename_i tr len hb hn
   split at h
   ·rename_i y hy
    obtain ⟨h0,h⟩:=B0 h
    have h0:(band (Nat.ble (off+1) len) (Nat.ble (off+2) 281474976710656))=true:=h0
    rw [J9,Bool.and_eq_true,Nat.ble_eq,Nat.ble_eq] at h0
    rw [show CR.sT=fun t i x K=>a1l x L1 t i K from rfl] at h
    simp only [U5] at h
    have hh:=R9 hb (by simp)
    have hv:=a6t hy
    have ho:=J6 y 0
    refine ⟨_,_,_,h,?_⟩
    have hc:(den y 0).cells=[den y 0]:=by cases hd:den y 0 <;> rw [hd] at ho <;> first | rfl | cases ho
    have hok:(den y 0).ok=true:=by simp [D.ok,ho]
    have e1:Nat.ble (off+1) (rows (x3 tr) 1 0 len).length=true:=by rw [E1,Nat.mul_one,Nat.ble_eq];exact h0.1
    simp only [u3,s8,o9,ha,toD,hh,z7,hn,hv,hok,hc,List.all_cons,List.all_nil,ho,e1,Bool.and_self,List.length_cons,List.length_nil,Nat.zero_add,J5,B8,List.map_cons,List.map_nil,R8]
    rw [d4m oM (by show off+2≤2 ^ 48;exact h0.2)]
    rfl
   ·cases h
  ·rename_i n hn hnr
   split at h
   ·rename_i cs hcs
    obtain ⟨hB,hd⟩:=d0w hcs
    have hh:=R9 (s:=s) (i:=id) rfl hd
    rw [hB] at hh
    split at h
    ·rename_i y m hx
     have hal:(s9 (den y) 0 m).all D.one=true:=a8x (J6 y) m 0
     cases hg:Nat.beq m n && (Nat.beq off 0 && Nat.beq m cs.length) with
     | true =>
      rw [hg] at h
      simp only [Bool.and_eq_true] at hg
      obtain ⟨g1,g2,g3⟩:=hg
      have e1:=Nat.eq_of_beq_eq_true g1
      have e2:=Nat.eq_of_beq_eq_true g2
      have e3:=Nat.eq_of_beq_eq_true g3
      subst e1 e2
      refine ⟨_,_,_,h,?_⟩
      have e4:Nat.ble (0+m) (cs.map toD).length=true:=by rw [List.length_map,Nat.ble_eq];omega
      have e5:J5 (cs.map toD) 0 (s9 (den y) 0 m)=s9 (den y) 0 m:=by
       rw [a8n _ _ _ (by rw [C3,List.length_map];omega),C3,List.take_zero,List.nil_append,List.drop_of_length_le (by rw [List.length_map];omega),List.append_nil]
      simp only [u3,s8,o9,ha,hx,toD,hh,hn,D.ok,D.isAgg,D.cells,C3,g1,hal,e4,Bool.or_true,Bool.and_self,cond_true,e5,B8,List.map_cons,List.map_nil,z7,R8]
     | false =>
      rw [hg] at h
      simp only [cond_false] at h
      cases hg2:Nat.beq m n && Nat.ble (off+n) cs.length with
      | false=>rw [hg2] at h;cases h
      | true =>
       rw [hg2] at h
       simp only [Bool.and_eq_true] at hg2
       obtain ⟨g1,g2⟩:=hg2
       have e1:=Nat.eq_of_beq_eq_true g1
       subst e1
       refine ⟨_,_,_,h,?_⟩
       have e4:Nat.ble (off+m) (cs.map toD).length=true:=by rw [List.length_map];exact g2
       have e6:((a84 0 m).map fun i=>V.q (celQ y i)).map toD=s9 (den y) 0 m:=by
        rw [H6,List.map_map]
        exact List.map_congr_left fun i _=>by simp only [Function.comp,toD];exact a2j y i
       simp only [u3,s8,o9,ha,hx,toD,hh,hn,D.ok,D.isAgg,D.cells,C3,g1,hal,e4,Bool.or_true,Bool.and_self,cond_true,B8,List.map_cons,List.map_nil,z7,R8,a6y]
       rw [e6]
    ·rename_i hna
     split at h
     ·rename_i vs hvs
      obtain ⟨hok,hcl⟩:=a2r hvs
      cases hg:Nat.beq vs.length n && (vs.all b8e && Nat.ble (off+n) cs.length) with
      | false=>rw [hg] at h;cases h
      | true =>
       rw [hg] at h
       simp only [Bool.and_eq_true] at hg
       obtain ⟨g1,g2,g3⟩:=hg
       refine ⟨_,_,_,h,?_⟩
       have e1:Nat.beq (vs.map toD).length n=true:=by rw [List.length_map];exact g1
       have e4:Nat.ble (off+n) (cs.map toD).length=true:=by rw [List.length_map];exact g3
       simp only [u3,s8,o9,ha,toD,hh,hn,hok,hcl,e1,e25 g2,e4,Bool.and_self,cond_true,B8,List.map_cons,List.map_nil,z7,R8,a6y]
     ·cases h
   ·cases h
  ·cases h
 ·cases h
theorem d1b {t:TypeId} {x:Operand} {f:Nat} {K:KV} (h:O2 CR X s nid (.field t x f) K=some r):∃ v ws rs,K v ws rs=some r∧s8 X (p4 s) nid (.field t x f)=some ⟨true,toD v,B8 ws,rs⟩:=by
 simp only [O2] at h
 split at h
 ·rename_i fs hu
  split at h
  ·rename_i fd cs hf hx
   obtain ⟨v,h,hr⟩:=a9f h
   refine ⟨_,_,_,h,?_⟩
   simp only [u3,s8,hu,hf,o9,hx,toD,A9,hr,Option.bind_some,u6]
   rfl
  ·rename_i fd y m hf hx
   obtain ⟨v,h,hr⟩:=a4e h
   have:=hr 0 (Nat.zero_le _)
   rw [Nat.sub_zero,Nat.sub_zero] at this
   refine ⟨_,_,_,h,?_⟩
   simp only [u3,s8,hu,hf,o9,hx,toD,this,Option.bind_some,u6]
   rfl
  ·cases h
 ·cases h
theorem c0v {t:TypeId} {x:Operand} {f:Nat} {K:KV} (h:O2 CR X s nid (.fieldAddr t x f) K=some r):∃ v ws rs,K v ws rs=some r∧s8 X (p4 s) nid (.fieldAddr t x f)=some ⟨true,toD v,B8 ws,rs⟩:=by
 simp only [O2] at h
 split at h
 ·rename_i fs hu
  split at h
  ·rename_i fd hf
   split at h
   ·rename_i k hs
    split at h
    ·rename_i id off hx
     exact ⟨_,_,_,h,by simp only [u3,s8,hu,hf,hs,o9,hx,toD,u6];rfl⟩
    ·rename_i y off m hx
     exact ⟨_,_,_,h,by simp only [u3,s8,hu,hf,hs,o9,hx,toD,u6,a7r];rfl⟩
    ·cases h
   ·cases h
  ·cases h
 ·cases h
theorem c0q {t:TypeId} {x i:Operand} {K:KV} (h:O2 CR X s nid (.indexAddr t x i) K=some r):∃ v ws rs,K v ws rs=some r∧s8 X (p4 s) nid (.indexAddr t x i)=some ⟨true,toD v,B8 ws,rs⟩:=by
 simp only [O2] at h
 split at h
 ·rename_i e hu
  split at h
  ·rename_i n hn
   split at h
   ·rename_i id len hx
    obtain ⟨_,k,hi,h⟩:=L3 h
    obtain ⟨h0,h⟩:=B0 h
    have h0:(band (iLe 0 k) (iLt k (len:Int)))=true:=h0
    rw [CfN] at h
    have g:0≤k∧k < (len:Int):=by simpa [J9,U3,a0i] using h0
    refine ⟨_,_,_,h,?_⟩
    simp only [u3,s8,hu,o9,hx,hi,toD,hn,Option.bind_some,D4,decide_eq_true g,nMul,D2]
    rfl
   ·obtain ⟨tr,off,len,c,hx,h⟩:=a0v h
    obtain ⟨_,k,hi,h⟩:=L3 h
    obtain ⟨h0,h⟩:=B0 h
    have h0:(band (iLe 0 k) (iLt k (len:Int)))=true:=h0
    rw [CfQ] at h
    have g:0≤k∧k < (len:Int):=by simpa [J9,U3,a0i] using h0
    refine ⟨_,_,_,h,?_⟩
    have g2:0≤k∧k < (len:Int)∧len * (n+1)≤(rows (x3 tr) (n+1) off len).length∧0 < n+1:=⟨g.1,g.2,by rw [E1];exact Nat.le_refl _,oM⟩
    simp only [u3,s8,hu,o9,hx,hi,toD,hn,Option.bind_some,D4,decide_eq_true g2,D2]
    rw [b9b (show k.toNat < len by omega),b6a]
    rfl
  ·cases h
 ·cases h
theorem c6f {b:Builtin} {args:Array Operand} {ts:Array TypeId} {K:KV} (h:O2 CR X s nid (.call { callee:=.builtin b,args,argTypes:=ts }) K=some r) :
  ∃ v ws rs,K v ws rs=some r∧s8 X (p4 s) nid (.call { callee:=.builtin b,args,argTypes:=ts })=some ⟨true,toD v,B8 ws,rs⟩:=by
 simp only [O2] at h
 split at h
 ·rename_i x t ha ht
  split at h
  ·rename_i hu
   obtain ⟨l,c,hx,h⟩:=Y4 h
   rw [CfI] at h
   exact ⟨_,_,_,h,by simp only [u3,s8,ha,ht,hu,o9,hx,u6,toD,P8];rfl⟩
  ·rename_i e hu
   split at h
   ·rename_i id n hx
    rw [CfI] at h
    exact ⟨_,_,_,h,by simp only [u3,s8,ha,ht,hu,o9,hx,u6,toD];rfl⟩
   ·split at h
    ·obtain ⟨tr,off,len,c,hx,h⟩:=a0v h
     rw [CfI] at h
     exact ⟨_,_,_,h,by simp only [u3,s8,ha,ht,hu,o9,hx,u6,toD];rfl⟩
    ·cases h
  ·cases h
 ·rename_i x y t ts' ha ht
  split at h
  ·rename_i k hu
   obtain ⟨a,hx,h⟩:=U8 h
   obtain ⟨b,hy,h⟩:=U8 h
   rw [CfI] at h
   refine ⟨_,_,_,h,?_⟩
   simp only [u3,s8,ha,o9,hx,hy,u6,toD,b76,a0i]
   by_cases hab:a < b
   ·simp [hab,B8]
   ·simp [hab,B8]
  ·cases h
 ·rename_i x y t ts' ha ht
  split at h
  ·rename_i k hu
   obtain ⟨a,hx,h⟩:=U8 h
   obtain ⟨b,hy,h⟩:=U8 h
   rw [CfI] at h
   refine ⟨_,_,_,h,?_⟩
   simp only [u3,s8,ha,o9,hx,hy,u6,toD,b76,a0i]
   by_cases hab:b < a
   ·simp [hab,B8]
   ·simp [hab,B8]
  ·cases h
 ·rename_i x y t u ha ht
  cases hb:Nat.beq t u with
  | false=>rw [hb] at h;cases h
  | true =>
   rw [hb] at h
   obtain ⟨v,ws,rs,h,hd⟩:=c45 h
   exact ⟨v,ws,rs,h,by simp only [u3,s8,ha,ht,hb,cond_true,o9,hd]⟩
 ·cases h

theorem c95 {P:Program} {t:TypeId} {same:Bool} {l c:V} {K:KV} (h:c98 CR P s nid t same l c K=some r):∃ v ws rs,K v ws rs=some r∧b1u P (p4 s) nid t same (toD l) (toD c)=some ⟨true,toD v,B8 ws,rs⟩:=by
 unfold c98 at h
 split at h
 ·rename_i e hu
  split at h
  ·rename_i n b z hn hb hz
   cases hg:Nat.beq z.length n && Nat.blt 0 n with
   | false=>rw [hg] at h;cases h
   | true =>
    rw [hg] at h
    simp only [cond_true] at h
    have hz':=a1f hz
    have hg':(Nat.beq (z.map toD).length n && Nat.blt 0 n)=true:=by rw [List.length_map];exact hg
    split at h
    ·obtain ⟨_,a,hl,h⟩:=L3 h
     obtain ⟨_,m,hc,h⟩:=L3 h
     obtain ⟨h0,h⟩:=B0 h
     have h0:band (iEq a 0) (band (iLe 0 m) (band (Nat.ble (iNat m * b) 140737488355328) (Nat.ble (iNat m) 140737488355328)))=true:=h0
     obtain ⟨hf,h⟩:=Z8 h
     refine ⟨_,_,_,h,?_⟩
     have hq:a=0∧0≤m∧m.toNat * b≤F6∧m.toNat≤F6:=by
      simp only [J9,P3,U3,D2,Bool.and_eq_true,beq_iff_eq,decide_eq_true_eq,Nat.ble_eq] at h0
      exact h0
     simp only [b1u,hu,hl,hc,hn,hb,hz',hg',cond_true,decide_eq_true hq,a5x hf,toD,rows,B8,List.map_cons,List.map_nil,z7]
    ·split at h
     ·rename_i z0
      split at h
      ·rename_i x hx
       obtain ⟨_,a,hl,h⟩:=L3 h
       obtain ⟨_,m,hc,h⟩:=L3 h
       obtain ⟨h0,h⟩:=B0 h
       have h0:band (iLe 0 a) (band (iEq a m) (band (Nat.ble (iNat a * b) 140737488355328) (Nat.ble (iNat a) 140737488355328)))=true:=h0
       rw [CfN] at h
       obtain ⟨tr,h,_,hnew⟩:=c7y (CR.iNat a) (t:=.nil) (i:=0) h
       obtain ⟨hf,h⟩:=Z8 h
       refine ⟨_,_,_,h,?_⟩
       have hq:0≤a∧a=m∧a.toNat * b≤F6∧a.toNat≤F6:=by
        simp only [J9,P3,U3,D2,Bool.and_eq_true,beq_iff_eq,decide_eq_true_eq,Nat.ble_eq] at h0
        exact h0
       have hn1:n=1:=by
        simp only [Bool.and_eq_true,List.length_cons,List.length_nil] at hg
        exact (Nat.eq_of_beq_eq_true hg.1).symm
       subst hn1
       have hia:CR.iNat a=a.toNat:=D2 a
       rw [hia] at hnew ⊢
       have hrows:rows (x3 tr) 1 0 a.toNat=a2v [toD z0] (a.toNat * 1):=by
        rw [a6t hx]
        have key:∀ (m off:Nat),(∀ k,k < m→G5 (x3 tr) (off+k)=den x)→rows (x3 tr) 1 off m=List.replicate m (den x 0):=by
         intro m
         induction m with
         | zero=>intro _ _;rfl
         | succ m ih =>
          intro off hk
          simp only [rows,s9,List.replicate_succ,List.cons_append,List.nil_append]
          have e0:=hk 0 oM
          rw [Nat.add_zero] at e0
          rw [e0,ih (off+1) (fun k hk'=>by have:=hk (k+1) oM;rw [show off+1+k=off+(k+1) by omega];exact this)]
        rw [key _ 0 hnew,Nat.mul_one]
        unfold a2v
        apply List.ext_getElem?
        intro i
        rcases Nat.lt_or_ge i a.toNat with hi | hi
        ·rw [List.getElem?_replicate,if_pos hi,List.getElem?_map,List.getElem?_range hi]
         simp [Nat.mod_one]
        ·rw [List.getElem?_eq_none (by simpa using hi),List.getElem?_eq_none (by simpa using hi)]
       simp only [b1u,hu,hl,hc,hn,hb,hz',hg',cond_true,decide_eq_true hq,a5x hf,toD,B8,List.map_cons,List.map_nil,z7,hrows]
       rfl
      ·cases h
     ·cases h
  ·cases h
 ·cases h
theorem d5u {o:Op} {K:KV} (h:O2 CR X s nid o K=some r):∃ v ws rs,K v ws rs=some r∧s8 X (p4 s) nid o=some ⟨true,toD v,B8 ws,rs⟩:=by
 cases o
 case move x=>exact ⟨_,_,_,h,by simp only [u3,s8,o9,u6];rfl⟩
 case assign x=>exact ⟨_,_,_,h,by simp only [u3,s8,o9,u6];rfl⟩
 case alloc t =>
  simp only [O2] at h
  split at h
  ·rename_i z hz
   obtain ⟨hf,h⟩:=Z8 h
   exact ⟨_,_,_,h,by simp only [u3,s8,a1f hz,a5x hf,toD,B8,List.map_cons,List.map_nil,z7]⟩
  ·cases h
 case box t x =>
  simp only [O2] at h
  split at h
  ·rename_i y m hx
   obtain ⟨hf,h⟩:=Z8 h
   exact ⟨_,_,_,h,by simp only [u3,s8,o9,hx,toD,D.ok,D.isAgg,Bool.or_true,cond_true,a5x hf,D.cells,B8,List.map_cons,List.map_nil,z7]⟩
  ·split at h
   ·rename_i cs hcs
    obtain ⟨hf,h⟩:=Z8 h
    obtain ⟨h1,h2⟩:=a2r hcs
    exact ⟨_,_,_,h,by simp only [u3,s8,o9,h1,cond_true,a5x hf,h2,toD,B8,List.map_cons,List.map_nil,z7]⟩
   ·cases h
 case build t parts=>exact d1m h
 case buildSlice t len parts=>exact b8n h
 case load t a=>exact d62 h
 case store t a x=>exact d0y h
 case nilCheck x =>
  simp only [O2] at h
  split at h
  ·rename_i hx;exact ⟨_,_,_,h,by simp only [u3,s8,o9,hx,toD,u6];rfl⟩
  ·rename_i hx;exact ⟨_,_,_,h,by simp only [u3,s8,o9,hx,toD,u6];rfl⟩
  ·rename_i hx;exact ⟨_,_,_,h,by simp only [u3,s8,o9,hx,toD,u6];rfl⟩
  ·cases h
 case binOp op t x y u =>
  simp only [O2] at h
  obtain ⟨v,h,hd⟩:=d3t h
  exact ⟨_,_,_,h,by simp only [u3,s8,o9,hd];rfl⟩
 case unOp op t x =>
  simp only [O2] at h
  split at h
  ·obtain ⟨b,hx,h⟩:=Y9 h
   rw [CfB] at h
   exact ⟨_,_,_,h,by simp only [u3,s8,o9,hx,u6,toD,a2f];rfl⟩
  ·rename_i k hu
   obtain ⟨n,hx,h⟩:=U8 h
   rw [CfI] at h
   exact ⟨_,_,_,h,by simp only [u3,s8,o9,hx,u6,toD,a1j,b2k];rfl⟩
  ·cases h
 case convert src dst x =>
  simp only [O2] at h
  obtain ⟨v,h,hd⟩:=c99 h
  exact ⟨_,_,_,h,by simp only [u3,s8,o9,hd];rfl⟩
 case makeInterface t x =>
  simp only [O2] at h
  split at h
  ·cases h
  ·rename_i u h1 hu
   refine ⟨_,_,_,h,?_⟩
   simp only [s8,o9,hu,u6,toD]
   cases u <;> first | rfl | exact (h1 _ rfl).elim
  ·cases h
 case makeFunc fn first captured =>
  simp only [O2] at h
  exact ⟨_,_,_,h,by simp only [u3,s8,c2u,u6,toD,A9];rfl⟩
 case makeSlice t l c =>
  simp only [O2] at h
  obtain ⟨v,ws,rs,h,hd⟩:=c95 h
  exact ⟨v,ws,rs,h,by simp only [s8,o9,hd]⟩
 case slice t x lo hi mx =>
  simp only [O2] at h
  obtain ⟨v,h,hd⟩:=c6a h
  exact ⟨_,_,_,h,by simp only [u3,s8,o9,hd];rfl⟩
 case fieldAddr t x f=>exact c0v h
 case field t x f=>exact d1b h
 case indexAddr t x i=>exact c0q h
 case index t x i =>
  simp only [O2] at h
  split at h
  ·rename_i hu
   obtain ⟨l,c,hx,h⟩:=Y4 h
   obtain ⟨_,k,hi,h⟩:=L3 h
   obtain ⟨h0,h⟩:=B0 h
   have h0:(band (iLe 0 k) (iLt k (l:Int)))=true:=h0
   rw [CfI] at h
   have g:0≤k∧k < (l:Int):=by simpa [J9,U3,a0i] using h0
   have g2:0≤k∧k < ((q8 l c).length:Int):=by rw [P8];exact g
   refine ⟨_,_,_,h,?_⟩
   simp only [u3,s8,hu,o9,hx,hi,D4,decide_eq_true g2,toD,D2]
   rw [c6y (show k.toNat < l by omega)]
   rfl
  ·cases h
 case extract x i =>
  simp only [O2] at h
  split at h
  ·rename_i vs hx
   cases hb:Nat.blt i vs.length with
   | false=>rw [hb] at h;cases h
   | true =>
    rw [hb] at h
    have hl:i < vs.length:=by simpa [Nat.blt_eq] using hb
    refine ⟨_,_,_,h,?_⟩
    rw [a2b,List.getD_eq_getElem?_getD,List.getElem?_eq_getElem hl]
    simp only [u3,s8,o9,hx,toD,A9,List.getElem?_map,List.getElem?_eq_getElem hl,Option.map_some,u6,Option.getD_some]
    rfl
  ·cases h
 case call c =>
  obtain ⟨callee,args,ts⟩:=c
  cases callee with
  | builtin b=>exact c6f h
  | value f=>cases h
  | invoke x m=>cases h
 all_goals cases h
end

section
variable {f:Nat→Option Nat}
theorem map_toD {g:V→V} {h:D→D} (e:∀ v,toD (g v)=h (toD v)) (l:List V):(l.map g).map toD=(l.map toD).map h:=by
 rw [List.map_map,List.map_map];exact List.map_congr_left fun v _=>e v
theorem c4n (v:V):toD (T3 f v)=N6 f (toD v):=by
 cases v
 case slice t n off len c=>cases c <;> simp only [T3,toD,N6]
 case q x=>simp only [T3,toD];exact (V1 f x 0).symm
 case ptr id off=>simp only [T3,toD,N6];cases f id <;> simp only [toD]
 all_goals simp only [T3,toD,N6]
theorem b39 (x:Q) (i:Nat):a7e f (den x i)=den x i:=by
 have h1:=J6 x i
 have h2:=V1 f x i
 cases hd:den x i <;> rw [hd] at h1 h2 <;> first | exact h2 | (cases h1;done) | (exfalso;simp [N6] at h2;done)
theorem c4w (v:V):toD (Y6 f v)=a7e f (toD v):=by
 cases v
 case func fn fs cs=>simp only [Y6,toD,a7e,A9,map_toD (fun v=>c4n (f:=f) v)]
 case q x=>simp only [Y6,T3,toD];exact (b39 x 0).symm
 all_goals (simp only [Y6];rw [c4n];simp only [toD,a7e])
theorem a9r (v:V):toD (T4 f v)=a5l f (toD v):=by
 cases v
 case agg cs=>simp only [T4,toD,a5l,A9,map_toD (fun v=>c4w (f:=f) v)]
 case a x m =>
  simp only [T4,toD,a5l]
  congr 1
  rw [H6,List.map_map]
  exact List.map_congr_left fun i _=>(b39 x i).symm
 case q x =>
  simp only [T4,Y6,T3,toD]
  have h1:=J6 x 0
  have h2:=b39 (f:=f) x 0
  cases hd:den x 0 <;> rw [hd] at h1 h2 <;> first | exact h2.symm | cases h1
 all_goals (simp only [T4];rw [c4w];simp only [toD,a5l])
theorem a0y (v:V):toD (T7 f v)=renI f (toD v):=by
 cases v
 case iface t v=>simp only [T7,toD,renI,a9r]
 case q x=>simp only [T7,T4,Y6,T3,toD];exact (a18 f x 0).symm
 all_goals (simp only [T7];rw [a9r];simp only [toD,renI])
theorem a7t (v:V):toD (a0z f v)=ren f (toD v):=by
 cases v
 case tuple vs=>simp only [a0z,toD,ren,A9,map_toD (fun v=>a0y (f:=f) v)]
 case q x =>
  simp only [a0z,T7,T4,Y6,T3,toD]
  have h1:=J6 x 0
  have h2:=a18 f x 0
  cases hd:den x 0 <;> rw [hd] at h1 h2 <;> first | exact h2.symm | cases h1
 all_goals (simp only [a0z];rw [a0y];simp only [toD,ren])
end

def M4:Bx→Bool
 | .cells _ | .opa _ _ | .row _ _=>true
 | _=>false
def E7:Bx→List D
 | .cells cs=>cs.map toD
 | .opa x m=>s9 (den x) 0 m
 | .row t len=>rows (x3 t) 1 0 len
 | _=>[]
theorem a2d {b:Bx} (h:M4 b=true):z7 b=.cells (E7 b):=by cases b <;> first | rfl | cases h
def a0r (f:Nat→Option Nat):Bx→Bx
 | .cells cs=>.cells (cs.map (T7 f))
 | b=>b
theorem b32 (f:Nat→Option Nat) (t:j9 Q):∀ (n m off:Nat),(rows (x3 t) n off m).map (renI f)=rows (x3 t) n off m
 | _,0,_=>rfl
 | n,m+1,off=>by
  simp only [rows,List.map_append,b32 f t n m]
  congr 1
  rw [V0]
  exact Y2 f _ n 0
theorem b2o (f:Nat→Option Nat) {b:Bx}:E7 (a0r f b)=(E7 b).map (renI f):=by
 cases b <;> simp only [a0r,E7]
 ·exact map_toD (fun v=>a0y v) _
 ·exact (Y2 f _ _ 0).symm
 ·rfl
 ·exact (b32 f _ 1 _ 0).symm
 ·rfl
 ·rfl
theorem c71 (f:Nat→Option Nat) {b:Bx}:M4 (a0r f b)=M4 b:=by cases b <;> rfl

/- What is kept of a state. -/
def U0 (f:Nat→Option Nat):V→V
 | .slice t n off len (.tok id)=>match f id with
  | some j=>.slice t n off len (.tok j)
  | none=>.slice t n off len .no
 | .slice t n off len .exact=>.slice t n off len .exact
 | .bslice id l=>match f id with
  | some j=>.bslice j l
  | none=>.junk
 | .agg cs=>T4 f (.agg cs)
 | .a x m=>.a x m
 | .tuple ds=>.tuple (ds.map (T7 f))
 | d=>T7 f d
theorem b4a (f:Nat→Option Nat) (v:V):toD (U0 f v)=N9 f (toD v):=by
 cases v
 case slice t n off len c =>
  cases c with
  | no=>simp only [U0,T7,T4,Y6,T3,toD,N9,renI,a5l,a7e,N6]
  | exact=>simp only [U0,toD,N9]
  | tok id=>simp only [U0,toD,N9];cases f id <;> simp only [toD]
  | fr z=>simp only [U0,T7,T4,Y6,T3,toD,N9,renI,a5l,a7e,N6]
 case bslice id l=>simp only [U0,toD,N9];cases f id <;> simp only [toD]
 case agg cs=>simp only [U0];rw [a9r];simp only [toD,N9]
 case a x m =>
  have:=a9r (f:=f) (.a x m)
  simp only [T4,toD] at this
  simp only [U0,toD,N9]
  exact this
 case tuple ds=>simp only [U0,toD,N9,A9,map_toD (fun v=>a0y (f:=f) v)]
 case q x =>
  simp only [U0,T7,T4,Y6,T3,toD]
  have h1:=J6 x 0
  have h2:=a18 f x 0
  have h3:=V1 f x 0
  cases hd:den x 0 <;> rw [hd] at h1 h2 h3 <;> first | exact h2.symm | cases h1 | skip
  all_goals (rename_i c;cases c <;> first | rfl | (simp only [N6] at h3;cases h3))
 all_goals (simp only [U0];rw [a0y];simp only [toD,N9])
def b4w (f:Nat→Option Nat):Bx→Bx
 | .cells cs=>.cells (cs.map (U0 f))
 | b=>b
theorem c2q (f:Nat→Option Nat) (x:Q) (i:Nat):N9 f (den x i)=den x i:=by
 have h1:=J6 x i
 have h2:=a18 f x i
 have h3:=V1 f x i
 cases hd:den x i <;> rw [hd] at h1 h2 h3 <;> first | exact h2 | cases h1 | skip
 all_goals (rename_i c;cases c <;> first | rfl | (simp only [N6] at h3;cases h3))
theorem c5u (f:Nat→Option Nat) (b:Bx):z7 (b4w f b)=a4z f (z7 b):=by
 cases b <;> simp only [b4w,z7,a4z]
 ·rw [map_toD (fun v=>b4a f v)]
 ·congr 1;rw [H6,List.map_map];exact List.map_congr_left fun i _=>(c2q f _ i).symm
 ·congr 1
  rename_i t len
  have:∀ (m off:Nat),(rows (x3 t) 1 off m).map (N9 f)=rows (x3 t) 1 off m:=by
   intro m
   induction m with
   | zero=>intro _;rfl
   | succ m ih =>
    intro off
    simp only [rows,List.map_append,ih]
    congr 1
    rw [V0,H6,List.map_map]
    exact List.map_congr_left fun i _=>c2q f _ i
  exact (this len 0).symm
def b4x:V→Option Nat
 | .ptr id _=>some id
 | _=>none
theorem a8c (x:Q) (i:Nat):pid (den x i)=none∧a8u (den x i)=[]∧a6j (den x i)=[]:=by
 have h1:=J6 x i
 have h3:=V1 V6 x i
 cases hd:den x i <;> rw [hd] at h1 h3 <;> first | exact ⟨rfl,rfl,rfl⟩ | cases h1 | (simp only [N6,V6] at h3;cases h3) | skip
 all_goals (rename_i c;cases c <;> first | exact ⟨rfl,rfl,rfl⟩ | (simp only [N6] at h3;cases h3))
theorem e2d (v:V):b4x v=pid (toD v):=by
 cases v <;> simp only [b4x,toD,pid]
 exact (a8c _ 0).1.symm
theorem a6l (l:List V):l.filterMap b4x=(l.map toD).filterMap pid:=by
 rw [List.filterMap_map];congr 1;funext v;exact e2d v
def b53:V→List Nat
 | .ptr id _=>[id]
 | .func _ fs cs=>fs.filterMap b4x ++ cs.filterMap b4x
 | _=>[]
theorem d5t (v:V):b53 v=a8u (toD v):=by
 cases v <;> simp only [b53,toD,a8u]
 ·exact (a8c _ 0).2.1.symm
 ·rw [A9,A9,a6l,a6l]
def b1v:V→List Nat
 | .ptr id _=>[id]
 | .slice _ _ _ _ (.tok id)=>[id]
 | .bslice id _=>[id]
 | .func _ fs cs=>fs.filterMap b4x ++ cs.filterMap b4x
 | _=>[]
theorem c46 (v:V):b1v v=a6j (toD v):=by
 cases v <;> simp only [b1v,toD,a6j]
 ·rename_i c;cases c <;> rfl
 ·exact (a8c _ 0).2.2.symm
 ·rw [A9,A9,a6l,a6l]
def a9d (n0:Nat) (ks:List Nat) (s:y2):List Nat :=
 let a:=b1d (List.range n0) (ks.flatMap fun i=>b1v (L4 s.tmps i))
 b1d a (a.flatMap fun id=>match M3 s.heap id with
  | .cells ds=>ds.flatMap b1v
  | _=>[])
theorem a16 {α β:Type} {f:α→List β}:∀ (l:List α),(∀ x ∈ l,f x=[])→l.flatMap f=[]
 | [],_=>rfl
 | x :: l,h=>by rw [List.flatMap_cons,h x List.mem_cons_self,a16 l fun y hy=>h y (List.mem_cons_of_mem _ hy)];rfl
theorem a3f (s:y2) (i:Nat):(p4 s).tmps.getD i .junk=toD (L4 s.tmps i):=o9 s (.tmp i)
theorem b88 (s:y2) (i:Nat):(p4 s).heap.getD i .dead=z7 (M3 s.heap i):=by
 rw [a2m,List.getD_eq_getElem?_getD,List.getD_eq_getElem?_getD,b9a]
 cases s.heap[i]? <;> rfl
theorem b3d (n0:Nat) (ks:List Nat) (s:y2):a9d n0 ks s=a74 n0 ks (p4 s):=by
 unfold a9d a74
 have e1:(ks.flatMap fun i=>b1v (L4 s.tmps i))=ks.flatMap fun i=>a6j ((p4 s).tmps.getD i .junk):=by
  congr 1;funext i;rw [a3f,c46]
 have e2:(fun id=>match M3 s.heap id with | .cells ds=>ds.flatMap b1v | _=>[])=fun id=>match (p4 s).heap.getD id .dead with | .cells ds=>ds.flatMap a6j | _=>[]:=by
  funext id
  rw [b88]
  cases M3 s.heap id <;> simp only [z7]
  ·rw [List.flatMap_map];congr 1;funext v;exact c46 v
  ·rw [H6,List.flatMap_map];exact (a16 _ fun i _=>(a8c _ i).2.2).symm
  ·rename_i t len
   have:∀ (m off:Nat),(rows (x3 t) 1 off m).flatMap a6j=[]:=by
    intro m
    induction m with
    | zero=>intro _;rfl
    | succ m ih=>intro off;simp only [rows,List.flatMap_append,ih,List.append_nil];rw [V0,H6,List.flatMap_map];exact a16 _ fun i _=>(a8c _ i).2.2
   exact (this len 0).symm
 simp only [e1,e2]
 rfl
def a8m:V→V
 | .slice t n off len _=>.slice t n off len .no
 | v=>v
theorem b28 (v:V):toD (a8m v)=a06 (toD v):=by
 cases v <;> simp only [a8m,toD,a06]
 rename_i x
 cases hd:den x 0 <;> first | rfl | skip
 rename_i l c k
 cases Z1 x 0 l c k hd
 rfl
def U2 (ids:List Nat):List (Nat × Nat)→y2→Nat→List V × List Bx
 | [],_,_=>([],[])
 | (i,z) :: ks,s,n=>bif Nat.beq z W4 then (a8m (U0 (pos · ids) (L4 s.tmps i)) :: (U2 ids ks s n).1,(U2 ids ks s n).2) else match L4 s.tmps i,z with
  | .slice t m off l .exact,z+1=>(.slice t m off l (.tok n) :: (U2 ids ks s (n+1)).1,.tok l (z+1) :: (U2 ids ks s (n+1)).2)
  | d,_=>(U0 (pos · ids) d :: (U2 ids ks s n).1,(U2 ids ks s n).2)
theorem a6u {ids:List Nat}:∀ (ks:List (Nat × Nat)) (s:y2) (n:Nat),(U2 ids ks s n).1.map toD=(J0 ids ks (p4 s) n).1∧(U2 ids ks s n).2.map z7=(J0 ids ks (p4 s) n).2
 | [],_,_=>⟨rfl,rfl⟩
 | (i,z) :: ks,s,n=>by
  obtain ⟨h1,h2⟩:=a6u (ids:=ids) ks s n
  obtain ⟨h3,h4⟩:=a6u (ids:=ids) ks s (n+1)
  simp only [U2,J0,a3f]
  cases hf:Nat.beq z W4 with
  | true=>simp only [cond_true,List.map_cons,b28,b4a,h1,h2,and_self]
  | false =>
  simp only [cond_false]
  generalize L4 s.tmps i=v
  have hplain:(U0 (pos · ids) v :: (U2 ids ks s n).1).map toD=N9 (pos · ids) (toD v) :: (J0 ids ks (p4 s) n).1:=by simp only [List.map_cons,b4a,h1]
  cases v
  case slice t m off l c =>
   cases c <;> cases z <;> first
    | exact ⟨hplain,h2⟩
    | (simp only [toD,List.map_cons,h3,h4,z7,and_self])
  case q x =>
   have hn:∀ l c,den x 0 ≠ .slice l c .exact:=fun l c hd=>by cases Z1 x 0 l c _ hd
   simp only [toD] at hplain ⊢
   generalize den x 0=d at hplain hn
   cases d with
   | slice l c k=>cases k <;> cases z <;> first | exact ⟨hplain,h2⟩ | exact (hn _ _ rfl).elim
   | _=>exact ⟨hplain,h2⟩
  all_goals exact ⟨hplain,h2⟩
def a8w (j c z:Nat) (h:List Bx):List Bx:=match M3 h j with
 | .cells cs=>bif Nat.blt c cs.length then bif Nat.beq z W4 then h.set j (.cells (cs.set c (a8m (L4 cs c)))) else match L4 cs c with
  | .slice t n off len .exact=>(h.set j (.cells (cs.set c (.slice t n off len (.tok h.length))))) ++ [.tok len z]
  | _=>h
  else h
 | _=>h
def b59:List (Nat × Nat)→List Bx→List Bx
 | [],h=>h
 | (i,z) :: ks,h=>bif Nat.ble 1000000 i then b59 ks (a8w ((i - 1000000) / 1000) ((i - 1000000) % 1000) z h) else b59 ks h
theorem b1q {t:j9 Q}:∀ (m off i l:Nat) (c:List D) (k:X6),(rows (x3 t) 1 off m)[i]?=some (.slice l c k)→k=.no
 | 0,off,i,l,c,k,h=>by simp [rows] at h
 | m+1,off,0,l,c,k,h=>by
  simp only [rows,s9,List.cons_append,List.nil_append,List.getElem?_cons_zero] at h
  injection h with h
  exact b2f t off 0 l c k h
 | m+1,off,i+1,l,c,k,h=>by
  simp only [rows,s9,List.cons_append,List.nil_append,List.getElem?_cons_succ] at h
  exact b1q m (off+1) i l c k h
theorem c0i {x:Q} {m i l:Nat} {c:List D} {k:X6} (h:(s9 (den x) 0 m)[i]?=some (.slice l c k)):k=.no:=by
 rcases Nat.lt_or_ge i m with hi | hi
 ·rw [a4f _ _ _ hi] at h
  injection h with h
  exact Z1 x _ l c k h
 ·rw [List.getElem?_eq_none (by rw [C3];exact hi)] at h;cases h
theorem d4w {h:List Bx} {j:Nat}:(h.map z7)[j]?=if j < h.length then some (z7 (M3 h j)) else none:=by
 rw [a2m,List.getD_eq_getElem?_getD,List.getElem?_map]
 split
 ·rename_i hj;rw [List.getElem?_eq_getElem hj];rfl
 ·rename_i hj;rw [List.getElem?_eq_none oM];rfl
theorem b82 {α:Type} {l:List α} {i:Nat} {x:α} (h:l[i]?=some x):l.set i x=l:=by
 apply List.ext_getElem?
 intro k
 by_cases hk:i=k
 ·subst hk;rw [List.getElem?_set_self (List.getElem?_eq_some_iff.1 h).1,h]
 ·rw [List.getElem?_set_ne hk]
theorem a94 {j c z:Nat} {h:List u1} {ds:List D} (hj:h[j]?=some (.cells ds)) (hd:∀ (i l:Nat) (x:List D) (k:X6),ds[i]?=some (D.slice l x k)→k=X6.no):tokCell j c z h=h:=by
 unfold tokCell
 rw [hj]
 simp only []
 split
 ·rename_i d hc
  have e:a06 d=d:=by
   cases d with
   | slice l x k=>cases hd c l x k hc;rfl
   | _=>rfl
  cases Nat.beq z W4 with
  | true =>
   simp only [cond_true]
   rw [e,b82 hc,b82 hj]
  | false =>
   simp only [cond_false]
   split
   ·cases hd c _ _ _ hc
   ·rfl
 ·rfl
theorem c6c (j c z:Nat) (h:List Bx):(a8w j c z h).map z7=tokCell j c z (h.map z7):=by
 rcases Nat.lt_or_ge j h.length with hj | hj
 ·have hg:(h.map z7)[j]?=some (z7 (M3 h j)):=by rw [d4w,if_pos hj]
  unfold a8w
  generalize hb:M3 h j=b at hg
  cases b with
  | cells cs =>
   unfold tokCell
   rw [hg]
   simp only [z7]
   cases hc:Nat.blt c cs.length with
   | true =>
    have hc':c < cs.length:=by rw [Nat.blt_eq] at hc;exact hc
    have e1:(cs.map toD)[c]?=some (toD (L4 cs c)):=by
     rw [a2b,List.getD_eq_getElem?_getD,List.getElem?_map,List.getElem?_eq_getElem hc'];rfl
    rw [e1]
    simp only [cond_true]
    cases hz:Nat.beq z W4 with
    | true=>simp only [cond_true,List.map_set,z7,b28]
    | false =>
     simp only [cond_false]
     generalize L4 cs c=v
     cases v
     case slice t n off len k =>
      cases k <;> simp only [toD,List.map_append,List.map_set,z7,List.map_cons,List.map_nil,List.length_map]
     case q x =>
      simp only [toD]
      cases hd:den x 0 <;> first | rfl | skip
      rename_i l d k
      cases Z1 x 0 l d k hd
      rfl
     all_goals simp only [toD]
   | false =>
    have hc':cs.length≤c:=by
     rcases Nat.lt_or_ge c cs.length with h1 | h1
     ·have:Nat.blt c cs.length=true:=by rw [Nat.blt_eq];exact h1
      rw [hc] at this;cases this
     ·exact h1
    have e1:(cs.map toD)[c]?=none:=List.getElem?_eq_none (by simpa using hc')
    rw [e1]
    rfl
  | opa x m=>exact (a94 hg (fun i l d k hd=>c0i hd)).symm
  | row t len=>exact (a94 hg (fun i l d k hd=>b1q _ _ _ _ _ _ hd)).symm
  | _=>unfold tokCell;rw [hg];rfl
 ·have e2:M3 h j=.dead:=by rw [a2m,List.getD_eq_getElem?_getD,List.getElem?_eq_none hj];rfl
  have hg:(h.map z7)[j]?=none:=List.getElem?_eq_none (by simpa using hj)
  unfold a8w tokCell
  rw [e2,hg]
theorem b4l:∀ (ks:List (Nat × Nat)) (h:List Bx),(b59 ks h).map z7=tokB ks (h.map z7)
 | [],h=>rfl
 | (i,z) :: ks,h=>by
  simp only [b59,tokB]
  cases Nat.ble 1000000 i with
  | true=>simp only [cond_true];rw [b4l,c6c]
  | false=>simp only [cond_false];rw [b4l]
def a5r (n0:Nat) (ks:List (Nat × Nat)) (s:y2):List V × List Bx :=
 let ids:=a9d n0 (b0x ks) s
 ((U2 ids ks s ids.length).1,b59 ks ((ids.map fun id=>b4w (pos · ids) (M3 s.heap id)) ++ (U2 ids ks s ids.length).2))
theorem b7j (n0:Nat) (ks:List (Nat × Nat)) (s:y2):gcV n0 ks (p4 s)=((a5r n0 ks s).1.map toD,(a5r n0 ks s).2.map z7):=by
 unfold gcV a5r
 simp only [b3d,b4l,List.map_append,(a6u _ _ _).1,(a6u _ _ _).2,List.map_map]
 congr 3
 exact List.map_congr_left fun id _=>by simp only [Function.comp,c5u,b88]
def a35 (n0 n:Nat) (ks:List (Nat × Nat)) (s:y2):Bool:=b55 n0 (a9d n0 (b0x ks) s) && Nat.beq s.tmps.length n && decide (ks.map (·.1)).Nodup
theorem b4j (n0 n:Nat) (ks:List (Nat × Nat)) (s:y2):a35 n0 n ks s=a81 n0 n ks (p4 s):=by
 unfold a35 a81;rw [b3d];simp only [p4,List.length_map]
def c7h (n:Nat) (ks:List Nat) (vs:List V):List V:=(List.range n).map fun i=>match pos i ks with
 | some j=>L4 vs j
 | none=>.junk
def b2l (n:Nat) (ks:List (Nat × Nat)) (vs:List V) (bs:List Bx):y2:={ tmps:=c7h n (ks.map (·.1)) vs,heap:=bs }
theorem c4y (n:Nat) (ks:List (Nat × Nat)) (vs:List V) (bs:List Bx):p4 (b2l n ks vs bs)=a7s n ks (vs.map toD,bs.map z7):=by
 unfold b2l a7s p4 c7h c28
 simp only [List.map_map]
 congr 1
 refine List.map_congr_left fun i _=>?_
 simp only [Function.comp]
 cases pos i (ks.map (·.1)) with
 | none=>simp only [toD]
 | some j =>
  simp only []
  rw [a2b,List.getD_eq_getElem?_getD,List.getD_eq_getElem?_getD,List.getElem?_map]
  cases vs[j]? <;> simp [toD]

abbrev C6:=List V→List Bx→Om
def a7d:E6→S6
 | .ret v=>.ret (toD v)
 | .pan v=>.pan (toD v)
def K9 (X:Pr) (g:FuncId) (F:C6):Prop:=∀ (vs:List V) (bs:List Bx) (x:E6) (bs':List Bx),F vs bs=some (x,bs')→bs.all M4=true →
 CM X.P X.G g (vs.map toD) (bs.map E7) (a7d x) (bs'.map E7)
theorem CM.pan_any {P:Program} {G:b8q} {f:FuncId} {ds:List D} {hs hs' hs2:List (List D)} {d:D} (h:CM P G f ds hs (.pan d) hs'):CM P G f ds hs (.pan d) hs2:=h
def c6p:u1→Bool
 | .cells _=>true
 | _=>false
theorem d5p (b:Bx):M4 b=c6p (z7 b):=by cases b <;> rfl
theorem b9q {a b:List Bx} (h:a.map z7=b.map z7) (ha:a.all M4=true):b.all M4=true:=by
 have e:∀ l:List Bx,l.all M4=(l.map z7).all c6p:=fun l=>by rw [List.all_map];congr 1;funext b;exact d5p b
 rw [e,← h,← e];exact ha
mutual
def eqQ:Q→Q→Bool
 | .bool a,.bool b=>bsel a b (bnot b)
 | .int k a,.int k' b=>cond (ikEq k k') (iEq a b) false
 | .str l c,.str l' c'=>cond (Nat.beq l l') (Nat.beq c c') false
 | .slice t n o l,.slice t' n' o' l'=>cond (Nat.beq n n') (cond (Nat.beq o o') (cond (Nat.beq l l') (eqT t t') false) false) false
 | .nilp,.nilp=>true
 | .nilIface,.nilIface=>true
 | .agg cs o,.agg cs' o'=>cond (Nat.beq o o') (c4z cs cs') false
 | .aggt t o,.aggt t' o'=>cond (Nat.beq o o') (eqT t t') false
 | .no,.no=>true
 | _,_=>false
def eqT:j9 Q→j9 Q→Bool
 | .nil,.nil=>true
 | .node v l r,.node v' l' r'=>cond (eqQ v v') (cond (eqT l l') (eqT r r') false) false
 | _,_=>false
def c4z:List Q→List Q→Bool
 | [],[]=>true
 | x :: xs,y :: ys=>cond (eqQ x y) (c4z xs ys) false
 | _,_=>false
end
theorem u9 {a b:Bool} (h:cond a b false=true):a=true∧b=true:=by cases a <;> simp_all
theorem c0c {a b:Bool} (h:bsel a b (bnot b)=true):a=b:=by cases a <;> cases b <;> first | rfl | cases h
theorem c3s {a b:Int} (h:iEq a b=true):a=b:=by rw [P3] at h;simpa using h
mutual
theorem b6g:∀ {a b:Q},eqQ a b=true→a=b
 | .bool a,b,h=>by cases b <;> simp only [eqQ] at h <;> first | (rw [c0c h]) | cases h
 | .int k a,b,h=>by
  cases b <;> simp only [eqQ] at h <;> first | cases h | skip
  obtain ⟨h1,h2⟩:=u9 h
  rw [a79 h1,c3s h2]
 | .str l c,b,h=>by
  cases b <;> simp only [eqQ] at h <;> first | cases h | skip
  obtain ⟨h1,h2⟩:=u9 h
  rw [Nat.eq_of_beq_eq_true h1,Nat.eq_of_beq_eq_true h2]
 | .slice t n o l,b,h=>by
  cases b <;> simp only [eqQ] at h <;> first | cases h | skip
  obtain ⟨h1,h⟩:=u9 h
  obtain ⟨h2,h⟩:=u9 h
  obtain ⟨h3,h⟩:=u9 h
  rw [Nat.eq_of_beq_eq_true h1,Nat.eq_of_beq_eq_true h2,Nat.eq_of_beq_eq_true h3,b03 h]
 | .nilp,b,h=>by cases b <;> simp only [eqQ] at h <;> first | rfl | cases h
 | .nilIface,b,h=>by cases b <;> simp only [eqQ] at h <;> first | rfl | cases h
 | .agg cs o,b,h=>by
  cases b <;> simp only [eqQ] at h <;> first | cases h | skip
  obtain ⟨h1,h⟩:=u9 h
  rw [Nat.eq_of_beq_eq_true h1,c61 h]
 | .aggt t o,b,h=>by
  cases b <;> simp only [eqQ] at h <;> first | cases h | skip
  obtain ⟨h1,h⟩:=u9 h
  rw [Nat.eq_of_beq_eq_true h1,b03 h]
 | .no,b,h=>by cases b <;> simp only [eqQ] at h <;> first | rfl | cases h
theorem b03:∀ {a b:j9 Q},eqT a b=true→a=b
 | .nil,b,h=>by cases b <;> simp only [eqT] at h <;> first | rfl | cases h
 | .node v l r,b,h=>by
  cases b <;> simp only [eqT] at h <;> first | cases h | skip
  obtain ⟨h1,h⟩:=u9 h
  obtain ⟨h2,h⟩:=u9 h
  rw [b6g h1,b03 h2,b03 h]
theorem c61:∀ {a b:List Q},c4z a b=true→a=b
 | [],b,h=>by cases b <;> simp only [c4z] at h <;> first | rfl | cases h
 | x :: xs,b,h=>by
  cases b <;> simp only [c4z] at h <;> first | cases h | skip
  obtain ⟨h1,h⟩:=u9 h
  rw [b6g h1,c61 h]
end
def c1h:X6→Bool
 | .no=>true
 | _=>false
def d2j:V→Bool
 | .bool _ | .known _ | .int _ _ | .str _ _ | .q _ | .nilp | .nilIface=>true
 | .slice _ _ _ _ c=>c1h c
 | _=>false
def c9h:V→V→Bool
 | .bool a,.bool b=>bsel a b (bnot b)
 | .int k a,.int k' b=>cond (ikEq k k') (iEq a b) false
 | .str l c,.str l' c'=>cond (Nat.beq l l') (Nat.beq c c') false
 | .slice t n o l c,.slice t' n' o' l' c'=>cond (c1h c) (cond (c1h c') (cond (Nat.beq n n') (cond (Nat.beq o o') (cond (Nat.beq l l') (eqT t t') false) false) false) false) false
 | .q x,.q y=>eqQ x y
 | .nilp,.nilp=>true
 | .nilIface,.nilIface=>true
 | _,_=>false
theorem c44 {c:X6} (h:c1h c=true):c=.no:=by cases c <;> first | rfl | cases h
theorem d67 {a b:V} (h:c9h a b=true):a=b:=by
 unfold c9h at h
 split at h <;> first | rfl | cases h | skip
 ·rw [c0c h]
 ·obtain ⟨h1,h2⟩:=u9 h;rw [a79 h1,c3s h2]
 ·obtain ⟨h1,h2⟩:=u9 h;rw [Nat.eq_of_beq_eq_true h1,Nat.eq_of_beq_eq_true h2]
 ·obtain ⟨g1,h⟩:=u9 h
  obtain ⟨g2,h⟩:=u9 h
  obtain ⟨h1,h⟩:=u9 h
  obtain ⟨h2,h⟩:=u9 h
  obtain ⟨h3,h⟩:=u9 h
  rw [c44 g1,c44 g2,Nat.eq_of_beq_eq_true h1,Nat.eq_of_beq_eq_true h2,Nat.eq_of_beq_eq_true h3,b03 h]
 ·rw [b6g h]
def b1c:List V→List V→Bool
 | [],[]=>true
 | x :: xs,y :: ys=>cond (c9h x y) (b1c xs ys) false
 | _,_=>false
theorem b96:∀ {a b:List V},b1c a b=true→a=b
 | [],b,h=>by cases b <;> simp only [b1c] at h <;> first | rfl | cases h
 | x :: xs,b,h=>by
  cases b <;> simp only [b1c] at h <;> first | cases h | skip
  obtain ⟨h1,h⟩:=u9 h
  rw [d67 h1,b96 h]
def eqB:Bx→Bx→Bool
 | .cells a,.cells b=>b1c a b
 | .opa x m,.opa y n=>cond (Nat.beq m n) (eqQ x y) false
 | _,_=>false
theorem e6s {a b:Bx} (h:eqB a b=true):a=b:=by
 unfold eqB at h
 split at h <;> first | cases h | skip
 ·rw [b96 h]
 ·obtain ⟨h1,h⟩:=u9 h;rw [Nat.eq_of_beq_eq_true h1,b6g h]
def b3q:List Bx→List Bx→Bool
 | [],[]=>true
 | x :: xs,y :: ys=>cond (eqB x y) (b3q xs ys) false
 | _,_=>false
theorem c63:∀ {a b:List Bx},b3q a b=true→a=b
 | [],b,h=>by cases b <;> simp only [b3q] at h <;> first | rfl | cases h
 | x :: xs,b,h=>by
  cases b <;> simp only [b3q] at h <;> first | cases h | skip
  obtain ⟨h1,h⟩:=u9 h
  rw [e6s h1,c63 h]
def same (a b:List Bx) (x:Om):Om:=cond (b3q a b) x none
def c3d:Bx→Bool
 | .cells cs=>cs.all d2j
 | .opa _ _=>true
 | _=>false
theorem c9u (f:Nat→Option Nat) {v:V} (h:d2j v=true):renI f (toD v)=toD v:=by
 rw [← a0y]
 cases v <;> first | rfl | cases h | skip
 rename_i c
 cases c <;> first | rfl | cases h
theorem b5f (f:Nat→Option Nat) {b:Bx} (h:c3d b=true):(E7 b).map (renI f)=E7 b:=by
 cases b <;> first | cases h | skip
 ·rename_i cs
  simp only [E7,List.map_map]
  refine List.map_congr_left fun v hv=>c9u f (List.all_eq_true.1 h v hv)
 ·exact Y2 f _ _ 0
abbrev Q6:=FuncId→List Bx→V→List Bx→(V→Option (List Bx)→Om)→Om
def a3g (cr:Q6):Prop:=∀ (g:FuncId) (bs0:List Bx) (v:V) (bs:List Bx) (K:V→Option (List Bx)→Om) (r:R),cr g bs0 v bs K=some r →
 (∃ v' bs',toD v'=toD v∧bs'.map z7=bs.map z7∧K v' (some bs')=some r)∨(∃ v',toD v'=toD v∧bs=bs0∧K v' none=some r)
def y2.lay (s:y2) (ws:List (Nat × Bx)):y2:={ s with heap:=ws.foldl (fun h x=>h.set x.1 x.2) s.heap }
def y2.put (s:y2) (dst:Option Tmp) (v:V):y2:=match dst with
 | some t=>{ s with tmps:=s.tmps.set t v }
 | none=>s
theorem a2o (s:y2) (dst:Option Tmp) (v:V):p4 (s.put dst v)=(p4 s).put dst (toD v):=by
 cases dst with
 | none=>rfl
 | some t=>simp only [y2.put,p4,St.put,List.map_set]
theorem b4c (s:y2) (ws:List (Nat × Bx)):p4 (s.lay ws)=(p4 s).lay (B8 ws):=by
 unfold y2.lay St.lay B8 p4
 simp only []
 congr 1
 rw [List.foldl_map]
 generalize s.heap=h
 induction ws generalizing h with
 | nil=>rfl
 | cons x ws ih=>simp only [List.foldl_cons];rw [ih,List.map_set]

def b75 (C:Comb):y2→List V→(List V→List Nat→Om)→Om
 | _,[],K=>K [] []
 | s,.bslice id len :: vs,K=>match M3 s.heap id with
  | .row t len'=>C.chk (C.nEq len len') (b75 C { s with heap:=s.heap.set id .dead } vs fun vs' ks=>K (.slice t 1 0 len .no :: vs') (id :: ks))
  | _=>none
 | s,v :: vs,K=>b75 C s vs fun vs' ks=>K (v :: vs') ks
def a8b (h:List Bx):List Nat→Option (List Bx)
 | []=>some []
 | id :: ids=>bif M4 (M3 h id) then (a8b h ids).map (M3 h id :: ·) else none
def b19 (ids:List Nat) (bs:List Bx):List (Nat × Bx):=(ids.zip bs).map fun p=>(p.1,a0r (ids[·]?) p.2)
def a5b:V→V
 | .slice t n off len (.fr _)=>.slice t n off len .no
 | v=>v
def b57 (nid:Nat):List V→Option (List V × List (Nat × Bx))
 | []=>some ([],[])
 | v :: vs=>match v with
  | .slice t n off len (.fr z)=>bif Nat.beq n z then some (.slice t n off len (.tok nid) :: vs.map a5b,[(nid,.tok len z)]) else none
  | v=>(b57 nid vs).map fun p=>(v :: p.1,p.2)
def d4h (nid:Nat):V→Option (V × List (Nat × Bx))
 | .tuple vs=>(b57 nid vs).map fun p=>(.tuple p.1,p.2)
 | .slice t n off len (.fr z)=>bif Nat.beq n z then some (.slice t n off len (.tok nid),[(nid,.tok len z)]) else none
 | v=>some (v,[])
def c1b (s:y2) (nid:Nat) (v:V) (ws:List (Nat × Bx)) (rs:List Nat) (K:KV):Om :=
 match d4h nid v with
 | some (v',[])=>K v' ws rs
 | some (v',x :: xs)=>cond (a07 (s.lay ws) nid) (K v' (ws ++ x :: xs) (nid :: rs)) none
 | none=>none
def d85 (C:Comb) (fn:FuncId→C6) (cr:Q6) (s:y2) (nid:Nat) (g:FuncId) (vs:List V) (K:KV) (Kp:V→List Nat→Om):Om :=
 b75 C s vs fun vs' ks =>
  let ids:=T9 (vs'.flatMap b53)
  match a8b (s.lay (ks.map fun k=>(k,.dead))).heap ids with
  | some bs=>C.bind (fn g (vs'.map (a0z (pos · ids))) (bs.map (a0r (pos · ids))))
    (fun v bs'=>cr g (bs.map (a0r (pos · ids))) v bs' fun v o=>match o with
     | some bs'=>bif Nat.beq bs'.length ids.length && bs'.all M4 then c1b s nid (a0z (ids[·]?) v) ((ks.map fun k=>(k,Bx.dead)) ++ b19 ids bs') (ids ++ ks) K else none
     | none=>bif bs.all c3d then c1b s nid (a0z (ids[·]?) v) (ks.map fun k=>(k,Bx.dead)) (ids ++ ks) K else none) (fun v=>Kp (C.rn0 v) (ids ++ ks))
  | none=>none

section
variable {X:Pr} {r:R}
theorem a7g {h:List Bx}:∀ {ids:List Nat} {bs:List Bx},a8b h ids=some bs→O4 (h.map z7) ids=some (bs.map E7)∧bs.all M4=true∧bs.length=ids.length
 | [],bs,hb=>by simp only [a8b] at hb;injection hb with hb;subst hb;exact ⟨rfl,rfl,rfl⟩
 | id :: ids,bs,hb=>by
  simp only [a8b] at hb
  cases ho:M4 (M3 h id) with
  | false=>rw [ho] at hb;cases hb
  | true =>
   rw [ho] at hb
   obtain ⟨bs',h1,rfl⟩:=Option.map_eq_some_iff.1 hb
   obtain ⟨h2,h3,h4⟩:=a7g h1
   have e:(h.map z7)[id]?=some (.cells (E7 (M3 h id))):=by
    rw [← a2d ho,List.getElem?_map,a2m,List.getD_eq_getElem?_getD]
    cases hi:h[id]? with
    | none=>rw [a2m,List.getD_eq_getElem?_getD,hi] at ho;cases ho
    | some x=>rfl
   refine ⟨?_,by simp only [List.all_cons,ho,h3,Bool.and_self],by simp [h4]⟩
   simp only [O4,e,h2,Option.map_some,List.map_cons]
theorem b0g:∀ {vs:List V} {s:y2} {K:List V→List Nat→Om},b75 CR s vs K=some r→∃ vs' ks,K vs' ks=some r∧frz (p4 s) (vs.map toD)=some (vs'.map toD,ks)
 | [],s,K,h=>⟨[],[],h,rfl⟩
 | v :: vs,s,K,h=>by
  by_cases hb:∃ id len,v=.bslice id len
  ·obtain ⟨id,len,rfl⟩:=hb
   simp only [b75] at h
   split at h
   ·rename_i t len' hbx
    obtain ⟨h0,h'⟩:=B0 h
    have h0:(Nat.beq len len')=true:=h0
    have he:=Nat.eq_of_beq_eq_true h0
    subst he
    obtain ⟨vs',ks,h,hf⟩:=b0g h'
    have hh:=R9 hbx (by simp)
    refine ⟨_,_,h,?_⟩
    have e:p4 { s with heap:=s.heap.set id .dead }={ p4 s with heap:=(p4 s).heap.set id .dead }:=by simp only [p4,List.map_set,z7]
    rw [e] at hf
    simp only [List.map_cons,toD,frz,hh,z7,hf,Option.map_some,b32]
   ·cases h
  ·have h':b75 CR s vs (fun vs' ks=>K (v :: vs') ks)=some r:=by
    rw [← h]
    cases v <;> first | rfl | exact absurd ⟨_,_,rfl⟩ hb
   obtain ⟨vs',ks,h',hf⟩:=b0g h'
   refine ⟨_,_,h',?_⟩
   have hd:¬∃ id len,toD v=.bslice id len:=by
    rintro ⟨id,len,hd⟩
    cases v <;> simp only [toD] at hd <;> first | (cases hd;done) | skip
    ·have h3:=congrArg (N6 V6) hd;rw [V1,hd] at h3;simp only [N6] at h3;cases h3
    ·exact hb ⟨_,_,rfl⟩
   simp only [List.map_cons]
   have e:frz (p4 s) (toD v :: vs.map toD)=(frz (p4 s) (vs.map toD)).map fun p=>(toD v :: p.1,p.2):=by
    cases hv:toD v <;> first | rfl | exact absurd ⟨_,_,hv⟩ hd
   rw [e,hf]
   rfl
theorem c8v {ids:List Nat} {bs:List Bx} (h:bs.all M4=true):B8 (b19 ids bs)=a5j ids (bs.map E7):=by
 unfold b19 a5j B8
 rw [List.map_map,List.zip_map_right,List.map_map]
 refine List.map_congr_left fun p hp=>?_
 have hm:p.2 ∈ bs:=(List.of_mem_zip hp).2
 have ho:=List.all_eq_true.1 h _ hm
 simp only [Function.comp,Prod.map,id]
 rw [a2d (by rw [c71];exact ho),b2o]
theorem b6l (v:V):toD (a5b v)=Z9 (toD v):=by
 cases v
 case slice t n off len c=>cases c <;> simp only [a5b,toD,Z9]
 case q x =>
  simp only [a5b,toD]
  have h:=V1 V6 x 0
  have h1:=J6 x 0
  cases hd:den x 0 <;> first | rfl | skip
  rename_i l c k
  cases k <;> first | rfl | skip
  exfalso
  exact c39 hd
 all_goals simp only [a5b,toD,Z9]
theorem b6w {nid:Nat}:∀ {vs vs':List V} {ws:List (Nat × Bx)},b57 nid vs=some (vs',ws)→a0u nid (vs.map toD)=(vs'.map toD,B8 ws)
 | [],vs',ws,h=>by simp only [b57] at h;injection h with h;injection h with h1 h2;subst h1 h2;rfl
 | v :: vs,vs',ws,h=>by
  simp only [b57] at h
  split at h
  ·rename_i t n off len z
   cases hz:Nat.beq n z with
   | false=>rw [hz] at h;cases h
   | true =>
    rw [hz] at h
    injection h with h;injection h with h1 h2;subst h1 h2
    have:=Nat.eq_of_beq_eq_true hz
    subst this
    simp only [List.map_cons,toD,a0u,E1,Nat.beq_refl,cond_true,B8,z7,List.map_nil,map_toD (fun v=>b6l v)]
  ·rename_i hnf
   obtain ⟨p,hp,he⟩:=Option.map_eq_some_iff.1 h
   obtain ⟨p1,p2⟩:=p
   injection he with h1 h2;subst h1 h2
   have ih:=b6w hp
   have hnd:∀ l c z,toD v ≠ .slice l c (.fr z):=fun l c z hd=>by
    cases v <;> simp only [toD] at hd <;> first | (cases hd;done) | skip
    ·injection hd with _ _ hd;subst hd;exact hnf _ _ _ _ _ rfl
    ·exact c39 hd
   rw [List.map_cons,List.map_cons]
   unfold a0u
   split
   ·rename_i hd;exact absurd hd (hnd _ _ _)
   ·rw [ih]
theorem b93 {nid:Nat} {v v':V} {ws:List (Nat × Bx)} (h:d4h nid v=some (v',ws)):own nid (toD v)=(toD v',B8 ws):=by
 unfold d4h at h
 split at h
 ·obtain ⟨p,hp,he⟩:=Option.map_eq_some_iff.1 h
  obtain ⟨p1,p2⟩:=p
  injection he with h1 h2;subst h1 h2
  simp only [toD,own,A9,b6w hp]
 ·rename_i t n off len z
  cases hz:Nat.beq n z with
  | false=>rw [hz] at h;cases h
  | true =>
   rw [hz] at h
   injection h with h;injection h with h1 h2;subst h1 h2
   have:=Nat.eq_of_beq_eq_true hz
   subst this
   simp only [toD,own,E1,Nat.beq_refl,cond_true,B8,z7,List.map_cons,List.map_nil]
 ·rename_i h1 h2
  injection h with h;injection h with q1 q2;subst q1 q2
  unfold own
  split
  ·rename_i ds hd
   exfalso
   cases v <;> simp only [toD] at hd <;> first | (cases hd;done) | skip
   ·rename_i x;have:=J6 x 0;rw [hd] at this;cases this
   ·exact h1 _ rfl
  ·rename_i hd
   exfalso
   cases v <;> simp only [toD] at hd <;> first | (cases hd;done) | skip
   ·injection hd with _ _ hd;subst hd;exact h2 _ _ _ _ _ rfl
   ·exact c39 hd
  ·rfl
theorem b6r {s:y2} {nid:Nat} {v:V} {ws:List (Nat × Bx)} {rs:List Nat} {K:KV} (h:c1b s nid v ws rs K=some r) {K':D→List (Nat × u1)→List Nat→Prop} (hK:∀ v ws rs,K v ws rs=some r→K' (toD v) (B8 ws) rs) :
  a0s (p4 s) nid (toD v) (B8 ws) rs K':=by
 unfold c1b at h
 unfold a0s
 split at h
 ·rename_i v' ho
  rw [b93 ho]
  exact hK _ _ _ h
 ·rename_i v' x xs ho
  rw [b93 ho]
  simp only [B8,List.map_cons]
  cases hf:a07 (s.lay ws) nid with
  | false=>rw [hf] at h;cases h
  | true =>
   rw [hf] at h
   have e:C0 ((p4 s).lay (ws.map fun p=>(p.1,z7 p.2))) nid=true:=by
    have:=a6v hf
    rw [b4c] at this
    exact this
   rw [e]
   have:=hK _ _ _ h
   simp only [B8,List.map_append,List.map_cons] at this
   exact this
 ·cases h
theorem c8o {fn:FuncId→C6} {cr:Q6} (htab:X.tab=[]) (hfn:∀ g,K9 X g (fn g)) (hcr:a3g cr) {s:y2} {nid:Nat} {g:FuncId} {vs:List V} {K:KV} {Kp:V→List Nat→Om} (h:d85 CR fn cr s nid g vs K Kp=some r)
  {K':D→List (Nat × u1)→List Nat→Prop} {Kp':D→List Nat→Prop} (hK:∀ v ws rs,K v ws rs=some r→K' (toD v) (B8 ws) rs) (hKp:∀ v rs,Kp v rs=some r→Kp' (toD v) rs):a0g X (p4 s) nid g (vs.map toD) K' Kp':=by
 obtain ⟨vs',ks,h,hf⟩:=b0g h
 unfold a0g
 rw [hf]
 simp only [] at h ⊢
 have eids:T9 ((vs'.map toD).flatMap a8u)=T9 (vs'.flatMap b53):=by
  rw [List.flatMap_map];congr 2;funext v;exact (d5t v).symm
 rw [eids]
 generalize T9 (vs'.flatMap b53)=ids at h ⊢
 have elay:(p4 s).lay (ks.map fun k=>(k,u1.dead))=p4 (s.lay (ks.map fun k=>(k,Bx.dead))):=by
  rw [b4c];congr 1;unfold B8;rw [List.map_map];rfl
 rw [elay]
 split at h
 ·rename_i bs hb
  obtain ⟨h1,h2,h3⟩:=a7g hb
  have h1':O4 (p4 (s.lay (ks.map fun k=>(k,Bx.dead)))).heap ids=some (bs.map E7):=h1
  rw [h1']
  simp only []
  have hall:(bs.map (a0r (pos · ids))).all M4=true:=by
   rw [List.all_map];rw [List.all_eq_true] at h2 ⊢;intro b hbm;simp only [Function.comp,c71];exact h2 b hbm
  have e1:(vs'.map toD).map (ren (pos · ids))=(vs'.map (a0z (pos · ids))).map toD:=(map_toD (fun v=>a7t v) vs').symm
  have e2:(bs.map E7).map (fun x=>x.map (renI (pos · ids)))=(bs.map (a0r (pos · ids))).map E7:=by
   rw [List.map_map,List.map_map];exact List.map_congr_left fun b _=>(b2o (pos · ids)).symm
  rw [e1,e2]
  unfold b18
  rw [htab]
  simp only [a49]
  have h:bind (fn g (vs'.map (a0z (pos · ids))) (bs.map (a0r (pos · ids)))) _ _=some r:=h
  unfold bind at h
  split at h
  ·rename_i v bs' hcall
   have hcm:=hfn g _ _ _ _ hcall hall
   rcases hcr _ _ _ _ _ _ h with ⟨v2,bs2,ev,eb,hk⟩ | ⟨v2,ev,eb,hk⟩
   ·simp only [] at hk
    cases hg:Nat.beq bs2.length ids.length && bs2.all M4 with
    | false=>rw [hg] at hk;cases hk
    | true =>
     rw [hg] at hk
     rw [Bool.and_eq_true] at hg
     have hl2:=Nat.eq_of_beq_eq_true hg.1
     have hok:=b9q eb hg.2
     have ebD:bs2.map E7=bs'.map E7:=by
      have hl:bs2.length=bs'.length:=by have:=congrArg List.length eb;simpa using this
      apply List.ext_getElem
      ·simpa using hl
      ·intro i hi1 hi2
       simp only [List.length_map] at hi1 hi2
       simp only [List.getElem_map]
       have q1:=List.all_eq_true.1 hg.2 _ (List.getElem_mem hi1)
       have q2:=List.all_eq_true.1 hok _ (List.getElem_mem hi2)
       have q3:(bs2.map z7)[i]?=(bs'.map z7)[i]?:=by rw [eb]
       rw [List.getElem?_map,List.getElem?_map,List.getElem?_eq_getElem hi1,List.getElem?_eq_getElem hi2] at q3
       simp only [Option.map_some] at q3
       injection q3 with q3
       rw [a2d q1,a2d q2] at q3
       injection q3
     refine .ret (toD v) (bs'.map E7) hcm (by rw [← ebD,List.length_map];exact hl2) ?_
     have:=b6r hk hK
     rw [a7t,ev] at this
     have e3:B8 ((ks.map fun k=>(k,Bx.dead)) ++ b19 ids bs2)=(ks.map fun k=>(k,u1.dead)) ++ a5j ids (bs'.map E7):=by
      rw [← ebD,← c8v hg.2];unfold B8;rw [List.map_append,List.map_map];rfl
     rw [e3] at this
     exact .inl this
   ·simp only [] at hk
    cases hg:bs.all c3d with
    | false=>rw [hg] at hk;cases hk
    | true =>
     rw [hg] at hk
     subst eb
     refine .ret (toD v) _ hcm (by simp [h3]) (.inr ⟨?_,?_⟩)
     ·rw [List.map_map,List.map_map]
      refine List.map_congr_left fun b hb=>?_
      have hp:=List.all_eq_true.1 hg b hb
      simp only [Function.comp]
      rw [b2o,b5f _ hp,b5f _ hp]
     ·have:=b6r hk hK
      rw [a7t,ev] at this
      have e3:B8 (ks.map fun k=>(k,Bx.dead))=ks.map fun k=>(k,u1.dead):=by unfold B8;rw [List.map_map];rfl
      rw [e3] at this
      exact this
  ·rename_i v bs' hcall
   have hcm:=hfn g _ _ _ _ hcall hall
   refine .pan (toD v) (bs.map E7) (CM.pan_any hcm) (by simp [h3]) ?_
   have:=hKp _ _ h
   rw [show CR.rn0 v=a0z V6 v from rfl,a7t] at this
   exact this
  ·cases h
 ·cases h

def d45 (C:Comb) (X:Pr) (fn:FuncId→C6) (cr:Q6) (s:y2) (nid:Nat) (o:Op) (K:KV) (Kp:V→List Nat→Om):Om :=
 match o with
 | .call { callee:=.value f,args,.. }=>match s.eval f with
  | .func (.func g) fs cs=>d85 C fn cr s nid g (fs ++ args.toList.map s.eval ++ cs) K Kp
  | _=>none
 | .panic x=>match s.eval x with
  | .iface t d=>Kp (a0z V6 (.iface t d)) []
  | _=>none
 | .pick c a b=>match s.eval c with
  | .known t=>cond t (K (s.eval a) [] []) (K (s.eval b) [] [])
  | v=>vB C v fun t=>C.cnd t (K (s.eval a) [] []) (K (s.eval b) [] [])
 | o=>O2 C X s nid o K
theorem d2o {fn:FuncId→C6} {cr:Q6} (htab:X.tab=[]) (hfn:∀ g,K9 X g (fn g)) (hcr:a3g cr) {s:y2} {nid:Nat} {o:Op} {K:KV} {Kp:V→List Nat→Om} (h:d45 CR X fn cr s nid o K Kp=some r)
  {K':D→List (Nat × u1)→List Nat→Prop} {Kp':D→List Nat→Prop} (hK:∀ v ws rs,K v ws rs=some r→K' (toD v) (B8 ws) rs) (hKp:∀ v rs,Kp v rs=some r→Kp' (toD v) rs):M5 X (p4 s) nid o K' Kp':=by
 have hrest:∀ o:Op,O2 CR X s nid o K=some r→(match s8 X (p4 s) nid o with | some out=>cond out.need (K' out.val out.ws out.rs) False | none=>False):=by
  intro o h
  obtain ⟨v,ws,rs,h,hd⟩:=d5u h
  rw [hd]
  exact hK _ _ _ h
 unfold d45 at h
 unfold M5
 split at h
 ·rename_i f args ts
  simp only []
  split at h
  ·rename_i g fs cs hf
   rw [o9,hf]
   simp only [toD]
   have:=c8o htab hfn hcr h hK hKp
   rw [List.map_append,List.map_append] at this
   rw [A9,A9,c2u]
   exact this
  ·cases h
 ·rename_i x
  simp only []
  split at h
  ·rename_i t d hx
   rw [o9,hx]
   have:=hKp _ _ h
   rw [a7t] at this
   simp only [toD] at this ⊢
   exact this
  ·cases h
 ·rename_i c a b
  simp only [o9]
  split at h
  ·rename_i t hc
   rw [hc]
   simp only [toD]
   cases t
   ·exact hK _ _ _ h
   ·exact hK _ _ _ h
  ·obtain ⟨t,hc,h⟩:=Y9 h
   rw [hc]
   simp only []
   have h:cnd t _ _=some r:=h
   rw [a7u] at h
   cases t
   ·exact hK _ _ _ h
   ·exact hK _ _ _ h
 ·rename_i h1 h2 h3
  split
  ·exact absurd rfl (h1 _ _ _)
  ·exact absurd rfl (h2 _)
  ·exact absurd rfl (h3 _ _ _)
  ·exact hrest o h

def c1v (C:Comb) (ops:Array Oper) (s:y2) (o:Oper) (Ky Kn:y2→Om):Om :=
 match o.guard with
 | none=>Ky s
 | some (j,want)=>match b0f ops j with
  | none=>Kn s
  | some t=>bif Nat.blt t s.tmps.length then
    match L4 s.tmps t with
    | .known b=>cond (cond want b (!b)) (Ky s) (Kn s)
    | .tuple _=>Kn s
    | v=>vB C v fun b=>match want with
     | true=>C.cnd b (Ky (s.put (some t) (.known true))) (Kn (s.put (some t) (.known false)))
     | false=>C.cnd b (Kn (s.put (some t) (.known true))) (Ky (s.put (some t) (.known false)))
   else Kn s
theorem c6e {ops:Array Oper} {s:y2} {o:Oper} {Ky Kn:y2→Om} (h:c1v CR ops s o Ky Kn=some r) {Ky' Kn':St→Prop} (hy:∀ s,Ky s=some r→Ky' (p4 s)) (hn:∀ s,Kn s=some r→Kn' (p4 s)):a5z ops (p4 s) o Ky' Kn':=by
 unfold c1v at h
 unfold a5z
 split at h
 ·rename_i hg;rw [hg];exact hy _ h
 ·rename_i j want hg
  rw [hg]
  simp only []
  split at h
  ·rename_i ht;rw [ht];exact hn _ h
  ·rename_i t ht
   rw [ht]
   simp only []
   cases hb:Nat.blt t s.tmps.length with
   | false =>
    rw [hb] at h
    have hl:s.tmps.length≤t:=by
     rcases Nat.lt_or_ge t s.tmps.length with h1 | h1
     ·have:Nat.blt t s.tmps.length=true:=by rw [Nat.blt_eq];exact h1
      rw [hb] at this;cases this
     ·exact h1
    have e:(p4 s).tmps[t]?=none:=by simp only [p4,List.getElem?_map,List.getElem?_eq_none hl,Option.map_none]
    rw [e]
    exact hn _ h
   | true =>
    rw [hb] at h
    have hl:t < s.tmps.length:=by rw [Nat.blt_eq] at hb;exact hb
    have e:(p4 s).tmps[t]?=some (toD (L4 s.tmps t)):=by
     rw [a2b,List.getD_eq_getElem?_getD,List.getElem?_eq_getElem hl]
     simp only [p4,List.getElem?_map,List.getElem?_eq_getElem hl,Option.map_some,Option.getD_some]
    rw [e]
    simp only [cond_true] at h
    have key:∀ b,toD (L4 s.tmps t)=.bool b→(p4 s).put (some t) (.bool b)=p4 s:=fun b hb=>b4o (by rw [e,hb])
    split at h
    ·rename_i b hv
     rw [hv]
     have k1:=key b (by rw [hv];simp only [toD])
     simp only [toD]
     cases want <;> cases b <;> simp only [cond_true,cond_false,Bool.not_true,Bool.not_false] at h ⊢ <;> rw [k1] <;> first | exact hy _ h | exact hn _ h
    ·rename_i hv
     rw [hv]
     simp only [toD]
     exact hn _ h
    ·obtain ⟨b,hv,h⟩:=Y9 h
     rw [hv]
     simp only []
     have p1:=a2o s (some t) (.known true)
     have p2:=a2o s (some t) (.known false)
     simp only [toD] at p1 p2
     cases want
     ·have h:cnd b _ _=some r:=h
      rw [a7u] at h
      cases b <;> simp only [cond_true,cond_false] at h ⊢
      ·rw [← p2];exact hy _ h
      ·rw [← p1];exact hn _ h
     ·have h:cnd b _ _=some r:=h
      rw [a7u] at h
      cases b <;> simp only [cond_true,cond_false] at h ⊢
      ·rw [← p2];exact hn _ h
      ·rw [← p1];exact hy _ h

def fLV (l:List V):(List V→Om)→Om:=List.rec (motive:=fun _=>(List V→Om)→Om) (fun K=>K []) (fun x _ ih K=>ih fun l=>K (x :: l)) l
def fLB (l:List Bx):(List Bx→Om)→Om:=List.rec (motive:=fun _=>(List Bx→Om)→Om) (fun K=>K []) (fun x _ ih K=>ih fun l=>K (x :: l)) l
def fSt (s:y2) (K:y2→Om):Om:=fLV s.tmps fun t=>fLB s.heap fun h=>K ⟨t,h⟩
theorem d2a:∀ (l:List V) (K:List V→Om),fLV l K=K l
 | [],_=>rfl
 | x :: l,K=>d2a l fun l=>K (x :: l)
theorem d3q:∀ (l:List Bx) (K:List Bx→Om),fLB l K=K l
 | [],_=>rfl
 | x :: l,K=>d3q l fun l=>K (x :: l)
theorem b0t (s:y2) (K:y2→Om):fSt s K=K s:=by unfold fSt;rw [d2a,d3q]
def b0j (C:Comb) (X:Pr) (fn:FuncId→C6) (cr:Q6) (ops:Array Oper) (nid:Nat→Nat):List Nat→y2→List Tr→(y2→List Tr→Om)→(Nat→V→List Nat→List Tr→Om)→Om
 | [],s,tr,K,_=>K s tr
 | i :: l,s,tr,K,Kp=>match ops[i]? with
  | none=>b0j C X fn cr ops nid l s tr K Kp
  | some o=>c1v C ops s o
    (fun s=>d45 C X fn cr s (nid i) o.op (fun d ws rs=>fSt ((s.lay ws).put o.dst d) fun s=>b0j C X fn cr ops nid l s (⟨i,o.dst,.junk,ws.map fun p=>(p.1,.dead),rs⟩ :: tr) K Kp) (fun d rs=>Kp i d rs tr))
    (fun s=>fSt (s.put o.dst (.tuple [])) fun s=>b0j C X fn cr ops nid l s (⟨i,o.dst,.junk,[],[]⟩ :: tr) K Kp)
def Tr.face (t:Tr):Nat × Option Tmp × List Nat × List Nat:=(t.i,t.dst,t.ids,t.rs)
theorem c9j {ops:Array Oper} {x y x' y':Tr} (hx:x.face=x'.face) (hy:y.face=y'.face):O3 ops x y=O3 ops x' y':=by
 unfold Tr.face at hx hy
 injection hx with h1 hx;injection hx with h2 hx;injection hx with h3 h4
 injection hy with g1 hy;injection hy with g2 hy;injection hy with g3 g4
 unfold O3
 rw [h1,h2,h3,h4,g1,g2,g3,g4]
theorem a8o {ops:Array Oper}:∀ {a b:List Tr},a.map Tr.face=b.map Tr.face→P6 ops a=P6 ops b
 | [],[],_=>rfl
 | [],_ :: _,h=>by simp at h
 | _ :: _,[],h=>by simp at h
 | x :: a,y :: b,h=>by
  simp only [List.map_cons,List.cons.injEq] at h
  simp only [P6]
  rw [a8o h.2]
  congr 1
  have:∀ {a b:List Tr},a.map Tr.face=b.map Tr.face→(a.all fun z=>!O3 ops z x || Q7 ops z.i ops.size x.i)=b.all fun z=>!O3 ops z y || Q7 ops z.i ops.size y.i:=by
   intro a
   induction a with
   | nil=>intro b hab;cases b with
    | nil=>rfl
    | cons=>simp at hab
   | cons z a ih=>intro b hab;cases b with
    | nil=>simp at hab
    | cons u b =>
     simp only [List.map_cons,List.cons.injEq] at hab
     simp only [List.all_cons]
     rw [ih hab.2,c9j hab.1 h.1]
     have e1:z.i=u.i:=congrArg Prod.fst hab.1
     have e2:x.i=y.i:=congrArg Prod.fst h.1
     rw [e1,e2]
  exact this h.2
theorem a08 {fn:FuncId→C6} {cr:Q6} (htab:X.tab=[]) (hfn:∀ g,K9 X g (fn g)) (hcr:a3g cr) {ops:Array Oper} {nid:Nat→Nat}:∀ {l:List Nat} {s:y2} {tr:List Tr} {K:y2→List Tr→Om} {Kp:Nat→V→List Nat→List Tr→Om},b0j CR X fn cr ops nid l s tr K Kp=some r →
  ∀ {tr':List Tr} {K':St→List Tr→Prop} {Kp':Nat→D→List Nat→List Tr→Prop},tr.map Tr.face=tr'.map Tr.face→(∀ s t t',t.map Tr.face=t'.map Tr.face→K s t=some r→K' (p4 s) t')→(∀ i v rs t t',t.map Tr.face=t'.map Tr.face→Kp i v rs t=some r→Kp' i (toD v) rs t')→W0 X ops nid l (p4 s) tr' K' Kp'
 | [],s,tr,K,Kp,h,tr',K',Kp',htr,hK,hKp=>hK _ _ _ htr h
 | i :: l,s,tr,K,Kp,h,tr',K',Kp',htr,hK,hKp=>by
  simp only [b0j] at h
  simp only [W0]
  split at h
  ·rename_i ho;rw [ho];exact a08 htab hfn hcr h htr hK hKp
  ·rename_i o ho
   rw [ho]
   refine c6e h (fun s h=>?_) (fun s h=>?_)
   ·refine d2o htab hfn hcr h (fun v ws rs h=>?_) (fun v rs h=>hKp _ _ _ _ _ htr h)
    rw [b0t] at h
    rw [← b4c,← a2o]
    refine a08 htab hfn hcr h ?_ hK hKp
    simp only [List.map_cons,List.cons.injEq,htr,and_true]
    simp only [Tr.face,Tr.ids,B8,List.map_map]
    rfl
   ·rw [b0t] at h
    have:=a2o s o.dst (.tuple [])
    simp only [toD,R8] at this
    rw [← this]
    refine a08 htab hfn hcr h ?_ hK hKp
    simp only [List.map_cons,List.cons.injEq,htr,and_true]
    rfl

def y2.more (s:y2) (n:Nat):y2:={ s with heap:=s.heap ++ List.replicate n .free }
theorem d01 (s:y2) (n:Nat):p4 (s.more n)=(p4 s).more n:=by simp only [p4,y2.more,St.more,List.map_append,List.map_replicate,z7]
def d5w (C:Comb) (m:E2) (c:Int):Bool:=C.bnot (C.band (C.bnot (C.iEq c m.k0)) (C.band (C.bnot (C.iEq c m.k1)) (C.bnot (C.iEq c m.k2))))
def d6c (C:Comb) (m:E2) (c:Int):Int:=C.isel (C.iEq c m.k0) m.v0 (C.isel (C.iEq c m.k1) m.v1 m.v2)
def d7e (m:E2) (s:y2) (c x:Int):y2:=(((s.put (some m.t0) .junk).put (some m.t1) .junk).put (some m.t2) (.int .u8 c)).put (some m.t3) (.int .i64 x)
theorem e2p (m:E2) (c:Int):d5w CR m c=m.has c:=by
 unfold d5w E2.has
 simp only [e9y,e8n,d9t,a2f,J9,P3]
theorem e2f (m:E2) (c:Int):d6c CR m c=m.val c:=by
 unfold d6c E2.val
 simp only [e4m,d9t,b76,P3]
theorem d28 (m:E2) (s:y2) (c:Int):p4 (d7e m s c (m.val c))=m.put (p4 s) c:=by
 unfold d7e E2.put
 simp only [a2o,toD]
def b74 (C:Comb) (X:Pr) (fn:FuncId→C6) (cr:Q6) (ops:Array Oper) (draw:Bool) (s:y2) (K:y2→Om) (Kp:V→Om):Om :=
 match draw with
 | false=>match b1i ops.toList with
  | none=>fSt (s.more (a3r ops.toList)) fun s'=>b0j C X fn cr ops (fun i=>s.heap.length+a6f ops.toList i) (List.range ops.size) s' [] (fun s _=>K s) (fun _ d _ _=>Kp d)
  | some m=>cond (a5a X.P m.mt && m.ok s.tmps.length) (vI C .u8 (L4 s.tmps m.src) fun c=>C.chk (d5w C m c) (C.fI (d6c C m c) fun x=>fSt (d7e m (s.more (a3r ops.toList)) c x) fun s' =>
   b0j C X fn cr ops (fun i=>s.heap.length+a6f ops.toList i) (List.range' 7 (ops.size - 7)) s' [] (fun s _=>K s) (fun _ d _ _=>Kp d))) none
 | true=>cond (a4y ops)
   (fSt (s.more (a3r ops.toList)) fun s'=>b0j C X fn cr ops (fun i=>s.heap.length+a6f ops.toList i) (List.range ops.size) s' [] (fun s tr=>cond (P6 ops tr) (K s) none)
    (fun i d rs tr=>cond (P6 ops (⟨i,none,.junk,[],rs⟩ :: tr) && (List.range ops.size).all fun j=>Nat.ble j i || Q7 ops i ops.size j) (Kp d) none)) none
theorem c40 {fn:FuncId→C6} {cr:Q6} (htab:X.tab=[]) (hfn:∀ g,K9 X g (fn g)) (hcr:a3g cr) {ops:Array Oper} {draw:Bool} {s:y2} {K:y2→Om} {Kp:V→Om} (h:b74 CR X fn cr ops draw s K Kp=some r)
  {K':St→Prop} {Kp':D→Prop} (hK:∀ s,K s=some r→K' (p4 s)) (hKp:∀ v,Kp v=some r→Kp' (toD v)):a2h X ops draw (p4 s) K' Kp':=by
 have el:(p4 s).heap.length=s.heap.length:=by simp [p4]
 unfold b74 at h
 unfold a2h
 rw [el,← d01]
 split at h
 ·simp only []
  split at h
  ·rename_i hm
   rw [hm]
   rw [b0t] at h
   exact a08 htab hfn hcr h rfl (fun s t t' _ h=>hK s h) (fun i v rs t t' _ h=>hKp v h)
  ·rename_i m hm
   rw [hm]
   have et:(p4 s).tmps.length=s.tmps.length:=by simp [p4]
   simp only [et]
   generalize (a5a X.P m.mt && m.ok s.tmps.length)=b at h ⊢
   cases b with
   | false=>cases h
   | true =>
    simp only [cond_true] at h ⊢
    obtain ⟨c,hc,h⟩:=U8 h
    obtain ⟨h0,h⟩:=B0 h
    rw [e2p] at h0
    rw [CfI,e2f,b0t] at h
    have e1:(p4 s).tmps.getD m.src .junk=.int .u8 c:=by
     have:=o9 s (.tmp m.src)
     have e2:(p4 s).eval (.tmp m.src)=(p4 s).tmps.getD m.src .junk:=rfl
     rw [← e2,this];exact hc
    rw [e1]
    simp only [h0,cond_true]
    rw [← d28]
    exact a08 htab hfn hcr h rfl (fun s t t' _ h=>hK s h) (fun i v rs t t' _ h=>hKp v h)
 ·simp only []
  cases he:a4y ops with
  | false=>rw [he] at h;cases h
  | true =>
   rw [he] at h
   simp only [cond_true] at h ⊢
   rw [b0t] at h
   refine a08 htab hfn hcr h rfl (fun s t t' ht h=>?_) (fun i v rs t t' ht h=>?_)
   ·rw [← a8o ht]
    cases hr:P6 ops t with
    | false=>rw [hr] at h;cases h
    | true=>rw [hr] at h;exact hK s h
   ·rw [← a8o (a:=⟨i,none,.junk,[],rs⟩ :: t) (by simp only [List.map_cons,ht])]
    generalize (P6 ops (⟨i,none,.junk,[],rs⟩ :: t) && (List.range ops.size).all fun j=>Nat.ble j i || Q7 ops i ops.size j)=b at h ⊢
    cases b with
    | false=>cases h
    | true=>exact hKp v h
end

inductive Sh where
 | int (k:IntKind)
 | bool
 | str
 | slice (n:Nat) (c:X6)
 | q
 | a (m:Nat)
 | agg (l:List Sh)
 | tuple (l:List Sh)
 | ptr (id off:Nat)
 | cref (m:Nat)
 | bslice (id:Nat)
 | nilp
 | nilIface
 | iface (t:TypeId) (s:Sh)
 | func (fn:Fn) (fs cs:List Sh)
 | any
inductive ShB where
 | cells (l:List Sh)
 | opa (m:Nat)
 | tok (size:Nat)
 | row
 | any

mutual
def c7b:V→Sh
 | .bool _ | .known _=>.bool
 | .int k _=>.int k
 | .str _ _=>.str
 | .slice _ n _ _ c=>.slice n c
 | .q _=>.q
 | .a _ m=>.a m
 | .agg cs=>.agg (a2k cs)
 | .tuple cs=>.tuple (a2k cs)
 | .ptr id off=>.ptr id off
 | .cref _ _ m=>.cref m
 | .bslice id _=>.bslice id
 | .nilp=>.nilp
 | .nilIface=>.nilIface
 | .iface t v=>.iface t (c7b v)
 | .func fn a b=>.func fn (a2k a) (a2k b)
 | .junk=>.any
def a2k:List V→List Sh
 | []=>[]
 | v :: vs=>c7b v :: a2k vs
end
def c4f:Bx→ShB
 | .cells cs=>.cells (a2k cs)
 | .opa _ m=>.opa m
 | .tok _ z=>.tok z
 | .row _ _=>.row
 | _=>.any
def uI (k:IntKind) (v:V) (K:Int→Om):Om:=match v with
 | .int k' n=>cond (ikEq k k') (K n) none
 | .q x=>cI k x K
 | _=>none
def uB (v:V) (K:Bool→Om):Om:=match v with
 | .bool b=>K b
 | .known b=>K b
 | .q x=>cB x K
 | _=>none
def uS (v:V) (K:Nat→Nat→Om):Om:=match v with
 | .str l c=>K l c
 | .q x=>cS x K
 | _=>none
def uSl (n cN:Nat) (v:V) (K:j9 Q→Nat→Nat→Om):Om:=match v with
 | .slice t n' off len c=>cond (Nat.beq (X1 c) cN) (Nat.rec (motive:=fun _=>Om) (chk (nEq len 0) (K .nil 0 0)) (fun _ _=>cond (Nat.beq n n') (K t off len) (chk (nEq len 0) (K .nil 0 0))) n') none
 | .q x=>cond (Nat.beq cN 0) (cSl n x K) none
 | _=>none
def uQ (v:V) (K:Q→Om):Om:=match b8a v with
 | some x=>K x
 | none=>match v with
  | .slice t n off len .no=>K (.slice t n off len)
  | _=>none
def uA (m:Nat) (v:V) (K:Q→Om):Om:=match v with
 | .a x m'=>cond (Nat.beq m m') (K x) none
 | .agg cs=>cond (Nat.beq cs.length m) (match exQs cs with
  | some qs=>K (.agg qs 0)
  | none=>none) none
 | _=>none
where
 exQ (v:V):Option Q:=match b8a v with
  | some x=>some x
  | none=>match v with
   | .slice t n off len .no=>some (.slice t n off len)
   | _=>none
 exQs:List V→Option (List Q)
  | []=>some []
  | v :: vs=>match exQ v,exQs vs with
   | some q,some qs=>some (q :: qs)
   | _,_=>none
def uL (v:V) (K:List V→Om):Om:=match v with
 | .agg cs=>K cs
 | _=>none
def uTu (v:V) (K:List V→Om):Om:=match v with
 | .tuple cs=>K cs
 | _=>none
def uP (id off:Nat) (v:V) (K:Om):Om:=match v with
 | .ptr i o=>cond (Nat.beq id i) (cond (Nat.beq off o) K none) none
 | _=>none
def uCref (m:Nat) (v:V) (K:Q→Om):Om:=match v with
 | .cref x off m'=>cond (Nat.beq m m') (fQ (subQ x off) K) none
 | _=>none
def uBs (id:Nat) (v:V) (K:Nat→Om):Om:=match v with
 | .bslice i len=>cond (Nat.beq id i) (K len) none
 | _=>none
def uNilp (v:V) (K:Om):Om:=match v with
 | .nilp=>K
 | .q x=>c8r x K
 | _=>none
def uNilI (v:V) (K:Om):Om:=match v with
 | .nilIface=>K
 | _=>none
def uIf (t:TypeId) (v:V) (K:V→Om):Om:=match v with
 | .iface t' v=>cond (Nat.beq t t') (K v) none
 | _=>none
def uFn (f:Nat) (v:V) (K:List V→List V→Om):Om:=match v with
 | .func (.func f') fs cs=>cond (Nat.beq f f') (K fs cs) none
 | _=>none
def uCons (l:List V) (K:V→List V→Om):Om:=match l with
 | v :: l=>K v l
 | []=>none
def uNil (l:List V) (K:Om):Om:=match l with
 | []=>K
 | _=>none
def uConsB (l:List Bx) (K:Bx→List Bx→Om):Om:=match l with
 | v :: l=>K v l
 | []=>none
def uNilB (l:List Bx) (K:Om):Om:=match l with
 | []=>K
 | _=>none
def uBc (b:Bx) (K:List V→Om):Om:=match b with
 | .cells cs=>K cs
 | .opa x m=>K ((a84 0 m).map fun i=>.q (celQ x i))
 | _=>none
def uBo (m:Nat) (b:Bx) (K:Q→Om):Om:=match b with
 | .opa x m'=>cond (Nat.beq m m') (K x) none
 | .cells cs=>cond (Nat.beq cs.length m) (match uA.exQs cs with
  | some qs=>K (.agg qs 0)
  | none=>none) none
 | _=>none
def uBt (z:Nat) (b:Bx) (K:Nat→Om):Om:=match b with
 | .tok l z'=>cond (Nat.beq z z') (K l) none
 | _=>none
def uBr (b:Bx) (K:j9 Q→Nat→Om):Om:=match b with
 | .row t len=>K t len
 | _=>none
structure t6 extends Comb where
 uI:IntKind→V→(Int→Om)→Om
 uB:V→(Bool→Om)→Om
 uS:V→(Nat→Nat→Om)→Om
 uSl:Nat→Nat→V→(j9 Q→Nat→Nat→Om)→Om
 uQ:V→(Q→Om)→Om
 uA:Nat→V→(Q→Om)→Om
 uL:V→(List V→Om)→Om
 uTu:V→(List V→Om)→Om
 uP:Nat→Nat→V→Om→Om
 uCref:Nat→V→(Q→Om)→Om
 uBs:Nat→V→(Nat→Om)→Om
 uNilp:V→Om→Om
 uNilI:V→Om→Om
 uIf:Nat→V→(V→Om)→Om
 uFn:Nat→V→(List V→List V→Om)→Om
 uCons:List V→(V→List V→Om)→Om
 uNil:List V→Om→Om
 uConsB:List Bx→(Bx→List Bx→Om)→Om
 uNilB:List Bx→Om→Om
 uBc:Bx→(List V→Om)→Om
 uBo:Nat→Bx→(Q→Om)→Om
 uBt:Nat→Bx→(Nat→Om)→Om
 uBr:Bx→(j9 Q→Nat→Om)→Om
 lp:((List V→List Bx→Om)→List V→List Bx→Om)→List V→List Bx→Om
 jn:((List V→List Bx→Om)→Om)→(List V→List Bx→Om)→Om
 same:List Bx→List Bx→Om→Om
def x8:Nat:=100000
def lp (body:(List V→List Bx→Om)→List V→List Bx→Om):List V→List Bx→Om :=
 Nat.rec (motive:=fun _=>List V→List Bx→Om) (fun _ _=>none) (fun _ ih=>body ih) x8
def jn (f:(List V→List Bx→Om)→Om) (g:List V→List Bx→Om):Om:=f g
def CU:t6:={ CR with
 uI:=uI,uB:=uB,uS:=uS,uSl:=uSl,uQ:=uQ,uA:=uA,uL:=uL,uTu:=uTu,uP:=uP,uCref:=uCref,uBs:=uBs,uNilp:=uNilp,uNilI:=uNilI,uIf:=uIf,uFn:=uFn,uCons:=uCons,uNil:=uNil,
 uConsB:=uConsB,uNilB:=uNilB,uBc:=uBc,uBo:=uBo,uBt:=uBt,uBr:=uBr,lp:=lp,jn:=jn,same:=same }
mutual
def d0k (U:t6):Sh→V→(V→Om)→Om
 | .int k,v,K=>U.uI k v fun n=>K (.int k n)
 | .bool,v,K=>U.uB v fun b=>K (.bool b)
 | .str,v,K=>U.uS v fun l c=>K (.str l c)
 | .slice n c,v,K=>U.uSl n (X1 c) v fun t off len=>K (.slice t n off len c)
 | .q,v,K=>U.uQ v fun x=>K (.q x)
 | .a m,v,K=>U.uA m v fun x=>K (.a x m)
 | .agg l,v,K=>U.uL v fun cs=>a0q U l cs fun cs=>K (.agg cs)
 | .tuple l,v,K=>U.uTu v fun cs=>a0q U l cs fun cs=>K (.tuple cs)
 | .ptr id off,v,K=>U.uP id off v (K (.ptr id off))
 | .cref m,v,K=>U.uCref m v fun x=>K (.cref x 0 m)
 | .bslice id,v,K=>U.uBs id v fun len=>K (.bslice id len)
 | .nilp,v,K=>U.uNilp v (K .nilp)
 | .nilIface,v,K=>U.uNilI v (K .nilIface)
 | .iface t s,v,K=>U.uIf t v fun v=>d0k U s v fun v=>K (.iface t v)
 | .func (.func f) fs cs,v,K=>U.uFn f v fun a b=>a0q U fs a fun a=>a0q U cs b fun b=>K (.func (.func f) a b)
 | .func _ _ _,_,_=>none
 | .any,v,K=>K v
def a0q (U:t6):List Sh→List V→(List V→Om)→Om
 | [],l,K=>U.uNil l (K [])
 | s :: ss,l,K=>U.uCons l fun v l=>d0k U s v fun v=>a0q U ss l fun l=>K (v :: l)
end
def d9f (U:t6):ShB→Bx→(Bx→Om)→Om
 | .cells l,b,K=>U.uBc b fun cs=>a0q U l cs fun cs=>K (.cells cs)
 | .opa m,b,K=>U.uBo m b fun x=>K (.opa x m)
 | .tok z,b,K=>U.uBt z b fun l=>K (.tok l z)
 | .row,b,K=>U.uBr b fun t len=>K (.row t len)
 | .any,b,K=>K b
def a0f (U:t6):List ShB→List Bx→(List Bx→Om)→Om
 | [],l,K=>U.uNilB l (K [])
 | s :: ss,l,K=>U.uConsB l fun b l=>d9f U s b fun b=>a0f U ss l fun l=>K (b :: l)

section
variable {r:R}
theorem e18 {k:IntKind} {v:V} {K:Int→Om} (h:uI k v K=some r):∃ n,toD v=.int k n∧K n=some r:=U8 (k:=k) (v:=v) (by unfold vI;exact h)
theorem e0x {v:V} {K:Bool→Om} (h:uB v K=some r):∃ b,toD v=.bool b∧K b=some r:=Y9 (v:=v) (by unfold vB;exact h)
theorem e2w {v:V} {K:Nat→Nat→Om} (h:uS v K=some r):∃ l c,toD v=.str (q8 l c)∧K l c=some r:=Y4 (v:=v) (by unfold vS;exact h)
theorem d6s {n:Nat} {c:X6} {v:V} {K:j9 Q→Nat→Nat→Om} (h:uSl n (X1 c) v K=some r):∃ t off len,toD v=.slice len (rows (x3 t) n off len) c∧K t off len=some r:=by
 unfold uSl at h
 split at h
 ·rename_i t n' off len c'
  cases hc:Nat.beq (X1 c') (X1 c) with
  | false=>rw [hc] at h;cases h
  | true =>
   rw [hc] at h
   have:=c2w (Nat.eq_of_beq_eq_true hc)
   subst this
   simp only [cond_true] at h
   cases n' with
   | zero =>
    obtain ⟨h1,h⟩:=a8l (show chk (nEq len 0) (K .nil 0 0)=some r from h)
    have:=Nat.eq_of_beq_eq_true h1
    subst this
    exact ⟨.nil,0,0,by simp only [toD,rows],h⟩
   | succ n' =>
    have h:cond (Nat.beq n (n'+1)) (K t off len) (chk (nEq len 0) (K .nil 0 0))=some r:=h
    cases hn:Nat.beq n (n'+1) with
    | false =>
     rw [hn] at h
     obtain ⟨h1,h⟩:=a8l (show chk (nEq len 0) (K .nil 0 0)=some r from h)
     have:=Nat.eq_of_beq_eq_true h1
     subst this
     exact ⟨.nil,0,0,by simp only [toD,rows],h⟩
    | true=>rw [hn] at h;rw [Nat.eq_of_beq_eq_true hn];exact ⟨t,off,len,by simp only [toD],h⟩
 ·cases hc:Nat.beq (X1 c) 0 with
  | false=>rw [hc] at h;cases h
  | true =>
   rw [hc] at h
   have:c=.no:=c2w (Nat.eq_of_beq_eq_true hc)
   subst this
   obtain ⟨t,off,len,hx,h'⟩:=c2z h
   exact ⟨t,off,len,by simp only [toD,hx],h'⟩
 ·cases h
theorem d66 {v:V} {x:Q} (h:uA.exQ v=some x):toD v=den x 0:=by
 unfold uA.exQ at h
 split at h
 ·rename_i hx;injection h with h;subst h;exact a6t hx
 ·split at h
  ·injection h with h;subst h;simp only [toD,den];rfl
  ·cases h
theorem b1b:∀ {vs:List V} {qs:List Q},uA.exQs vs=some qs→vs.map toD=qs.map (fun x=>den x 0)
 | [],qs,h=>by simp only [uA.exQs] at h;injection h with h;subst h;rfl
 | v :: vs,qs,h=>by
  simp only [uA.exQs] at h
  split at h
  ·rename_i q qs' hq hqs
   injection h with h;subst h
   simp only [List.map_cons,d66 hq,b1b hqs]
  ·cases h
theorem e2t {v:V} {K:Q→Om} (h:uQ v K=some r):∃ x,toD v=den x 0∧K x=some r:=by
 unfold uQ at h
 split at h
 ·rename_i x hx;exact ⟨x,a6t hx,h⟩
 ·split at h
  ·exact ⟨_,by simp only [toD,den];rfl,h⟩
  ·cases h
theorem e00 {m:Nat} {v:V} {K:Q→Om} (h:uA m v K=some r):∃ x,toD v=.agg (s9 (den x) 0 m)∧K x=some r:=by
 unfold uA at h
 split at h
 ·rename_i x m'
  cases hm:Nat.beq m m' with
  | false=>rw [hm] at h;cases h
  | true=>rw [hm] at h;rw [Nat.eq_of_beq_eq_true hm];exact ⟨x,by simp only [toD],h⟩
 ·rename_i cs
  cases hm:Nat.beq cs.length m with
  | false=>rw [hm] at h;cases h
  | true =>
   rw [hm] at h
   simp only [cond_true] at h
   split at h
   ·rename_i qs hqs
    have e:=b1b hqs
    have hl:qs.length=m:=by have:=congrArg List.length e;simp at this;rw [← this];exact Nat.eq_of_beq_eq_true hm
    exact ⟨_,by simp only [toD,A9,e];rw [← hl,b0l],h⟩
   ·cases h
 ·cases h
mutual
theorem b1p:∀ {s:Sh} {v:V} {K:V→Om},d0k CU s v K=some r→∃ v',toD v'=toD v∧K v'=some r
 | .int k,v,K,h=>by
  obtain ⟨n,hv,h⟩:=e18 (show uI k v _=some r from h);exact ⟨_,by rw [hv];simp only [toD],h⟩
 | .bool,v,K,h=>by
  obtain ⟨n,hv,h⟩:=e0x (show uB v _=some r from h);exact ⟨_,by rw [hv];simp only [toD],h⟩
 | .str,v,K,h=>by
  obtain ⟨l,c,hv,h⟩:=e2w (show uS v _=some r from h);exact ⟨_,by rw [hv];simp only [toD],h⟩
 | .slice n c,v,K,h=>by
  obtain ⟨t,off,len,hv,h⟩:=d6s (show uSl n (X1 c) v (fun t off len=>K (.slice t n off len c))=some r from h);exact ⟨_,by rw [hv];simp only [toD],h⟩
 | .q,v,K,h=>by
  obtain ⟨x,hv,h⟩:=e2t (show uQ v _=some r from h);exact ⟨_,by rw [hv];simp only [toD],h⟩
 | .a m,v,K,h=>by
  obtain ⟨x,hv,h⟩:=e00 (show uA m v _=some r from h);exact ⟨_,by rw [hv];simp only [toD],h⟩
 | .agg l,v,K,h=>by
  replace h:uL v _=some r:=h
  unfold uL at h
  split at h
  ·obtain ⟨cs',e,h⟩:=H8 h;exact ⟨_,by simp only [toD,A9,e],h⟩
  ·cases h
 | .tuple l,v,K,h=>by
  replace h:uTu v _=some r:=h
  unfold uTu at h
  split at h
  ·obtain ⟨cs',e,h⟩:=H8 h;exact ⟨_,by simp only [toD,A9,e],h⟩
  ·cases h
 | .ptr id off,v,K,h=>by
  replace h:uP id off v _=some r:=h
  unfold uP at h
  split at h
  ·rename_i i o
   cases h1:Nat.beq id i with
   | false=>rw [h1] at h;cases h
   | true =>
    rw [h1] at h
    cases h2:Nat.beq off o with
    | false=>rw [h2] at h;cases h
    | true=>rw [h2] at h;exact ⟨_,by rw [Nat.eq_of_beq_eq_true h1,Nat.eq_of_beq_eq_true h2],h⟩
  ·cases h
 | .cref m,v,K,h=>by
  replace h:uCref m v _=some r:=h
  unfold uCref at h
  split at h
  ·rename_i x off m'
   cases h1:Nat.beq m m' with
   | false=>rw [h1] at h;cases h
   | true =>
    rw [h1] at h
    simp only [cond_true,b5b] at h
    exact ⟨_,by rw [Nat.eq_of_beq_eq_true h1];simp only [toD,b40,Nat.add_zero],h⟩
  ·cases h
 | .bslice id,v,K,h=>by
  replace h:uBs id v _=some r:=h
  unfold uBs at h
  split at h
  ·rename_i i len
   cases h1:Nat.beq id i with
   | false=>rw [h1] at h;cases h
   | true=>rw [h1] at h;exact ⟨_,by rw [Nat.eq_of_beq_eq_true h1],h⟩
  ·cases h
 | .nilp,v,K,h=>by
  replace h:uNilp v _=some r:=h
  unfold uNilp at h
  split at h
  ·exact ⟨_,rfl,h⟩
  ·obtain ⟨hx,h'⟩:=c9e h;subst hx;exact ⟨_,by simp only [toD,den];rfl,h'⟩
  ·cases h
 | .nilIface,v,K,h=>by
  replace h:uNilI v _=some r:=h
  unfold uNilI at h
  split at h
  ·exact ⟨_,rfl,h⟩
  ·cases h
 | .iface t s,v,K,h=>by
  replace h:uIf t v _=some r:=h
  unfold uIf at h
  split at h
  ·rename_i t' v0
   cases h1:Nat.beq t t' with
   | false=>rw [h1] at h;cases h
   | true =>
    rw [h1] at h
    obtain ⟨v',e,h⟩:=b1p h
    exact ⟨_,by rw [Nat.eq_of_beq_eq_true h1];simp only [toD,e],h⟩
  ·cases h
 | .func (.func f) fs cs,v,K,h=>by
  replace h:uFn f v _=some r:=h
  unfold uFn at h
  split at h
  ·rename_i f' a b
   cases h1:Nat.beq f f' with
   | false=>rw [h1] at h;cases h
   | true =>
    rw [h1] at h
    obtain ⟨a',ea,h⟩:=H8 h
    obtain ⟨b',eb,h⟩:=H8 h
    exact ⟨_,by rw [Nat.eq_of_beq_eq_true h1];simp only [toD,A9,ea,eb],h⟩
  ·cases h
 | .any,v,K,h=>⟨v,rfl,h⟩
theorem H8:∀ {ss:List Sh} {l:List V} {K:List V→Om},a0q CU ss l K=some r→∃ l',l'.map toD=l.map toD∧K l'=some r
 | [],l,K,h=>by
  replace h:uNil l _=some r:=h
  unfold uNil at h
  split at h
  ·exact ⟨[],rfl,h⟩
  ·cases h
 | s :: ss,l,K,h=>by
  replace h:uCons l _=some r:=h
  unfold uCons at h
  split at h
  ·obtain ⟨v',e1,h⟩:=b1p h
   obtain ⟨l',e2,h⟩:=H8 h
   exact ⟨_,by simp only [List.map_cons,e1,e2],h⟩
  ·cases h
end
theorem c88 {s:ShB} {b:Bx} {K:Bx→Om} (h:d9f CU s b K=some r):∃ b',z7 b'=z7 b∧K b'=some r:=by
 cases s with
 | cells l =>
  replace h:uBc b _=some r:=h
  unfold uBc at h
  split at h
  ·obtain ⟨cs',e,h⟩:=H8 h;exact ⟨_,by simp only [z7,e],h⟩
  ·rename_i x m
   obtain ⟨cs',e,h⟩:=H8 h
   refine ⟨_,?_,h⟩
   simp only [z7,e,H6,List.map_map]
   congr 1
   exact List.map_congr_left fun i _=>by simp only [Function.comp,toD];exact a2j x i
  ·cases h
 | opa m =>
  replace h:uBo m b _=some r:=h
  unfold uBo at h
  split at h
  ·rename_i x m'
   cases hm:Nat.beq m m' with
   | false=>rw [hm] at h;cases h
   | true=>rw [hm] at h;exact ⟨_,by rw [Nat.eq_of_beq_eq_true hm],h⟩
  ·rename_i cs
   cases hm:Nat.beq cs.length m with
   | false=>rw [hm] at h;cases h
   | true =>
    rw [hm] at h
    simp only [cond_true] at h
    split at h
    ·rename_i qs hqs
     have e:=b1b hqs
     have hl:qs.length=m:=by have:=congrArg List.length e;simp at this;rw [← this];exact Nat.eq_of_beq_eq_true hm
     exact ⟨_,by simp only [z7,e];rw [← hl,b0l],h⟩
    ·cases h
  ·cases h
 | tok z =>
  replace h:uBt z b _=some r:=h
  unfold uBt at h
  split at h
  ·rename_i l z'
   cases hm:Nat.beq z z' with
   | false=>rw [hm] at h;cases h
   | true=>rw [hm] at h;exact ⟨_,by rw [Nat.eq_of_beq_eq_true hm],h⟩
  ·cases h
 | row =>
  replace h:uBr b _=some r:=h
  unfold uBr at h
  split at h
  ·exact ⟨_,rfl,h⟩
  ·cases h
 | any=>exact ⟨b,rfl,h⟩
theorem V3:∀ {ss:List ShB} {l:List Bx} {K:List Bx→Om},a0f CU ss l K=some r→∃ l',l'.map z7=l.map z7∧K l'=some r
 | [],l,K,h=>by
  replace h:uNilB l _=some r:=h
  unfold uNilB at h
  split at h
  ·exact ⟨[],rfl,h⟩
  ·cases h
 | s :: ss,l,K,h=>by
  replace h:uConsB l _=some r:=h
  unfold uConsB at h
  split at h
  ·obtain ⟨v',e1,h⟩:=c88 h
   obtain ⟨l',e2,h⟩:=V3 h
   exact ⟨_,by simp only [List.map_cons,e1,e2],h⟩
  ·cases h
end

structure Ann where
 ks:List (Nat × Nat)
 vs:List Sh
 bs:List ShB

def ev (U:t6) (X:Pr) (fn:FuncId→C6) (cr:Q6) (n0:Nat) (AL AJ:Nat→Option Ann):Code→Nat→Nat→y2→(y2→Om)→(Nat→y2→Om)→(y2→Om)→(V→Om)→Om
 | .skip,_,_,s,K,_,_,_=>K s
 | .region _ ops draw,_,_,s,K,_,_,Kp=>b74 U.toComb X fn cr ops draw s K Kp
 | .seq a b,p,q,s,K,Kx,Kr,Kp=>match AJ q with
  | none=>ev U X fn cr n0 AL AJ a p (q+1) s (fun s'=>ev U X fn cr n0 AL AJ b (p+L6 a) (q+1+Q2 a) s' K Kx Kr Kp) Kx Kr Kp
  | some A=>U.jn (fun j=>ev U X fn cr n0 AL AJ a p (q+1) s (fun s'=>cond (a35 n0 s.tmps.length A.ks s') (j (a5r n0 A.ks s').1 (a5r n0 A.ks s').2) none) Kx Kr Kp)
    (fun vs bs=>a0q U A.vs vs fun vs=>a0f U A.bs bs fun bs=>ev U X fn cr n0 AL AJ b (p+L6 a) (q+1+Q2 a) (b2l s.tmps.length A.ks vs bs) K Kx Kr Kp)
 | .cond c t e,p,q,s,K,Kx,Kr,Kp=>match s.eval c with
  | .known b=>cond b (ev U X fn cr n0 AL AJ t p q s K Kx Kr Kp) (ev U X fn cr n0 AL AJ e (p+L6 t) (q+Q2 t) s K Kx Kr Kp)
  | v=>vB U.toComb v fun b=>U.cnd b (ev U X fn cr n0 AL AJ t p q (refV s c true) K Kx Kr Kp) (ev U X fn cr n0 AL AJ e (p+L6 t) (q+Q2 t) (refV s c false) K Kx Kr Kp)
 | .block id c,p,q,s,K,Kx,Kr,Kp=>ev U X fn cr n0 AL AJ c p q s K (fun j s'=>cond (Nat.beq j id) (K s') (Kx j s')) Kr Kp
 | .loop c,p,q,s,_,Kx,Kr,Kp=>match AL p with
  | none=>none
  | some A=>cond (a35 n0 s.tmps.length A.ks s) (U.lp (fun self vs bs=>a0q U A.vs vs fun vs=>a0f U A.bs bs fun bs =>
    ev U X fn cr n0 AL AJ c (p+1) q (b2l s.tmps.length A.ks vs bs) (fun s'=>cond (a35 n0 s.tmps.length A.ks s') (self (a5r n0 A.ks s').1 (a5r n0 A.ks s').2) none) Kx Kr Kp) (a5r n0 A.ks s).1 (a5r n0 A.ks s).2) none
 | .exit j,_,_,s,_,Kx,_,_=>Kx j s
 | .ret,_,_,s,_,_,Kr,_=>Kr s
 | _,_,_,_,_,_,_,_=>none
where refV (s:y2) (c:Operand) (b:Bool):y2:=match c with
 | .tmp t=>s.put (some t) (.known b)
 | _=>s

def b1e (A:Ann):Cut:={ π:=List D × List u1→Prop,ι:=fun p=>{ v // p v },ks:=A.ks,V:=fun _ ix=>ix.val }

section
variable {X:Pr} {r:R}
theorem c37 (s:y2) (c:Operand) (b:Bool):p4 (ev.refV s c b)=(p4 s).ref c b:=by
 cases c with
 | tmp t=>have:=a2o s (some t) (.known b);simp only [toD] at this;exact this
 | _=>rfl
theorem d2p {body:(List V→List Bx→Om)→List V→List Bx→Om} {vs:List V} {bs:List Bx} (h:CU.lp body vs bs=some r):∃ n,Nat.rec (motive:=fun _=>List V→List Bx→Om) (fun _ _=>none) (fun _ ih=>body ih) n vs bs=some r:=⟨x8,h⟩

theorem N4 {fn:FuncId→C6} {cr:Q6} (htab:X.tab=[]) (hfn:∀ g,K9 X g (fn g)) (hcr:a3g cr) {n0:Nat} {AL AJ:Nat→Option Ann}:∀ (c:Code) {p q:Nat} {s:y2} {K:y2→Om} {Kx:Nat→y2→Om} {Kr:y2→Om} {Kp:V→Om},
  ev CU X fn cr n0 AL AJ c p q s K Kx Kr Kp=some r→∀ {K':St→Prop} {Kx':Nat→St→Prop} {Kr':St→Prop} {Kp':D→Prop},(∀ s,K s=some r→K' (p4 s))→(∀ j s,Kx j s=some r→Kx' j (p4 s))→(∀ s,Kr s=some r→Kr' (p4 s))→(∀ v,Kp v=some r→Kp' (toD v)) →
  vc X n0 (fun _ body s=>a1u n0 body s) (fun q=>(AJ q).map b1e) c p q (p4 s) K' Kx' Kr' Kp'
 | .skip,p,q,s,K,Kx,Kr,Kp,h,K',Kx',Kr',Kp',hK,hx,hr,hp=>hK s h
 | .region id ops draw,p,q,s,K,Kx,Kr,Kp,h,K',Kx',Kr',Kp',hK,hx,hr,hp=>c40 htab hfn hcr h hK hp
 | .seq a b,p,q,s,K,Kx,Kr,Kp,h,K',Kx',Kr',Kp',hK,hx,hr,hp=>by
  simp only [ev] at h
  simp only [vc]
  have el:(p4 s).tmps.length=s.tmps.length:=by simp [p4]
  split at h
  ·rename_i hj
   rw [hj]
   exact N4 htab hfn hcr a h (fun s' h=>N4 htab hfn hcr b h hK hx hr hp) hx hr hp
  ·rename_i A hj
   rw [hj]
   simp only [Option.map_some,b1e]
   have h:jn _ _=some r:=h
   unfold jn at h
   refine ⟨fun v=>vc X n0 (fun _ body s=>a1u n0 body s) (fun q=>(AJ q).map b1e) b (p+L6 a) (q+1+Q2 a) (a7s (p4 s).tmps.length A.ks v) K' Kx' Kr' Kp',?_,fun ix=>ix.property⟩
   refine N4 htab hfn hcr a h (fun s' h=>?_) hx hr hp
   rw [el,← b4j]
   cases hok:a35 n0 s.tmps.length A.ks s' with
   | false=>rw [hok] at h;cases h
   | true =>
    rw [hok] at h
    simp only [cond_true] at h ⊢
    obtain ⟨vs',e1,h⟩:=H8 h
    obtain ⟨bs',e2,h⟩:=V3 h
    refine .mk ⟨gcV n0 A.ks (p4 s'),?_⟩ rfl
    rw [b7j,← e1,← e2,← c4y]
    exact N4 htab hfn hcr b h hK hx hr hp
 | .cond c t e,p,q,s,K,Kx,Kr,Kp,h,K',Kx',Kr',Kp',hK,hx,hr,hp=>by
  simp only [ev] at h
  simp only [vc]
  rw [o9]
  split at h
  ·rename_i b hc
   rw [hc]
   simp only [toD]
   have e0:(p4 s).eval c=.bool b:=by rw [o9,hc];simp only [toD]
   cases b
   ·simp only [cond_false] at h ⊢;rw [a9p e0];exact N4 htab hfn hcr e h hK hx hr hp
   ·simp only [cond_true] at h ⊢;rw [a9p e0];exact N4 htab hfn hcr t h hK hx hr hp
  ·obtain ⟨b,hv,h⟩:=Y9 h
   rw [hv]
   simp only []
   have h:cnd b _ _=some r:=h
   rw [a7u] at h
   cases b
   ·simp only [cond_false] at h ⊢;rw [← c37];exact N4 htab hfn hcr e h hK hx hr hp
   ·simp only [cond_true] at h ⊢;rw [← c37];exact N4 htab hfn hcr t h hK hx hr hp
 | .block id c,p,q,s,K,Kx,Kr,Kp,h,K',Kx',Kr',Kp',hK,hx,hr,hp=>by
  simp only [ev] at h
  simp only [vc]
  refine N4 htab hfn hcr c h hK (fun j s h=>?_) hr hp
  cases hj:Nat.beq j id with
  | true=>rw [hj] at h;exact hK s h
  | false=>rw [hj] at h;exact hx j s h
 | .loop c,p,q,s,K,Kx,Kr,Kp,h,K',Kx',Kr',Kp',hK,hx,hr,hp=>by
  simp only [ev] at h
  simp only [vc]
  have el:(p4 s).tmps.length=s.tmps.length:=by simp [p4]
  split at h
  ·cases h
  ·rename_i A hA
   cases hok:a35 n0 s.tmps.length A.ks s with
   | false=>rw [hok] at h;cases h
   | true =>
    rw [hok] at h
    simp only [cond_true] at h
    obtain ⟨n,h⟩:=d2p h
    generalize hbody:(fun (self:List V→List Bx→Om) (vs:List V) (bs:List Bx)=>a0q CU A.vs vs fun vs=>a0f CU A.bs bs fun bs =>
     ev CU X fn cr n0 AL AJ c (p+1) q (b2l s.tmps.length A.ks vs bs) (fun s'=>cond (a35 n0 s.tmps.length A.ks s') (self (a5r n0 A.ks s').1 (a5r n0 A.ks s').2) none) Kx Kr Kp)=body at h
    refine a1u.mk { x:(List D × List u1) × Nat // ∃ vs bs,x.1=(vs.map toD,bs.map z7)∧Nat.rec (motive:=fun _=>List V→List Bx→Om) (fun _ _=>none) (fun _ ih=>body ih) x.2 vs bs=some r } (fun i=>i.val.1) (fun i=>i.val.2)
     ⟨(gcV n0 A.ks (p4 s),n),_,_,b7j n0 A.ks s,h⟩ A.ks (by rw [el,← b4j];exact hok) rfl ?_
    rintro ⟨⟨v,m⟩,vs,bs,hv,hrun⟩
    simp only at hv hrun ⊢
    cases m with
    | zero=>cases hrun
    | succ m =>
     have hrun:body (Nat.rec (motive:=fun _=>List V→List Bx→Om) (fun _ _=>none) (fun _ ih=>body ih) m) vs bs=some r:=hrun
     rw [← hbody] at hrun
     obtain ⟨vs',e1,hrun⟩:=H8 hrun
     obtain ⟨bs',e2,hrun⟩:=V3 hrun
     subst hv
     rw [el]
     have e3:p4 (b2l s.tmps.length A.ks vs' bs')=a7s s.tmps.length A.ks (vs.map toD,bs.map z7):=by rw [c4y,e1,e2]
     rw [← e3]
     refine N4 htab hfn hcr c hrun (fun s' h'=>?_) hx hr hp
     rw [← b4j]
     cases hok':a35 n0 s.tmps.length A.ks s' with
     | false=>rw [hok'] at h';cases h'
     | true =>
      rw [hok'] at h'
      simp only [cond_true] at h' ⊢
      rw [hbody] at h'
      exact .mk ⟨(gcV n0 A.ks (p4 s'),m),_,_,b7j n0 A.ks s',h'⟩ (Nat.lt_succ_self m) rfl
 | .exit j,p,q,s,K,Kx,Kr,Kp,h,K',Kx',Kr',Kp',hK,hx,hr,hp=>hx j s h
 | .ret,p,q,s,K,Kx,Kr,Kp,h,K',Kx',Kr',Kp',hK,hx,hr,hp=>hr s h
 | .rangeFunc ..,_,_,_,_,_,_,_,h,_,_,_,_,_,_,_,_=>by cases h
 | .scope _,_,_,_,_,_,_,_,h,_,_,_,_,_,_,_,_=>by cases h
 | .label _,_,_,_,_,_,_,_,h,_,_,_,_,_,_,_,_=>by cases h
 | .goto _,_,_,_,_,_,_,_,h,_,_,_,_,_,_,_,_=>by cases h
 | .refuse _,_,_,_,_,_,_,_,h,_,_,_,_,_,_,_,_=>by cases h
end

def a8k (C:Comb) (P:Program) (s:y2):List ResultVar→(List V→Om)→Om
 | [],K=>K []
 | .tmp t :: rs,K=>a8k C P s rs fun vs=>K (L4 s.tmps t :: vs)
 | .cell x t :: rs,K=>match L4 s.tmps x with
  | .ptr id off=>match M3 s.heap id with
   | .cells cs=>b50 C P t cs off fun v=>a8k C P s rs fun vs=>K (v :: vs)
   | .opa y m=>b2g C P t y off m fun v=>a8k C P s rs fun vs=>K (v :: vs)
   | _=>none
  | _=>none
def c42:List V→V
 | [v]=>v
 | vs=>.tuple vs
def b12 (n:Nat) (v:V):V:=a5b (T7 (a0n n) v)
theorem b6i (n:Nat) (v:V):toD (b12 n v)=P4 n (toD v):=by unfold b12 P4;rw [b6l,a0y]
def c4j (C:Comb) (n:Nat) (h:List Bx) (g:Option Nat) (v:V) (K:V→Om):Om:=match g,v with
 | some z,.slice t m off len (.tok id)=>match M3 h id with
  | .tok l z'=>bif Nat.ble n id && (Nat.beq z' z && Nat.beq m z) then C.chk (C.nEq l len) (K (.slice t m off len (.fr z))) else none
  | _=>none
 | some z,.slice t m off len .exact=>bif Nat.beq m z then K (.slice t m off len (.fr z)) else bif Nat.beq m 0 then C.chk (C.nEq len 0) (K (.slice .nil z 0 0 (.fr z))) else none
 | _,v=>K (b12 n v)
def a7y (C:Comb) (n:Nat) (h:List Bx):List (Option Nat)→List V→(List V→Om)→Om
 | _,[],K=>K []
 | [],v :: vs,K=>a7y C n h [] vs fun r=>K (b12 n v :: r)
 | g :: gv,v :: vs,K=>c4j C n h g v fun v=>a7y C n h gv vs fun r=>K (v :: r)
def b7n (C:Comb) (P:Program) (rs:List ResultVar) (n:Nat) (gv:List (Option Nat)) (s:y2):Om :=
 a8k C P s rs fun vs=>match a8b s.heap (List.range n) with
  | some bs=>a7y C n s.heap gv vs fun vs=>some (.ret (c42 vs),bs.map (a0r (a0n n)))
  | none=>none
def b6s (ntmps:Nat) (vs:List V) (bs:List Bx):y2:={ tmps:=vs ++ List.replicate (ntmps - vs.length) (.tuple []),heap:=bs }
def d60 (U:t6) (X:Pr) (fn:FuncId→C6) (cr:Q6) (AL AJ:Nat→Option Ann) (gv:List (Option Nat)) (f:Func):C6:=fun vs bs =>
 ev U X fn cr bs.length AL AJ (f.body.getD .skip) 0 0 (b6s f.ntmps vs bs) (b7n U.toComb X.P f.results.toList bs.length gv) (fun _ _=>none) (b7n U.toComb X.P f.results.toList bs.length gv) (fun v=>some (.pan v,bs))

section
variable {X:Pr} {r:R}
theorem a4m {P:Program} {s:y2}:∀ {rs:List ResultVar} {K:List V→Om},a8k CR P s rs K=some r→∃ vs,K vs=some r∧a3s P (p4 s) rs=some (vs.map toD)
 | [],K,h=>⟨[],h,rfl⟩
 | .tmp t :: rs,K,h=>by
  simp only [a8k] at h
  obtain ⟨vs,h,e⟩:=a4m h
  exact ⟨_,h,by simp only [a3s,e,Option.map_some,List.map_cons,a3f]⟩
 | .cell x t :: rs,K,h=>by
  simp only [a8k] at h
  split at h
  ·rename_i id off hx
   split at h
   ·rename_i cs hb
    obtain ⟨v,h,hr⟩:=a9f h
    obtain ⟨vs,h,e⟩:=a4m h
    have hh:=R9 hb (by simp)
    refine ⟨_,h,?_⟩
    simp only [a3s,a3f,hx,toD,hh,z7,hr,Option.bind_some,e,Option.map_some,List.map_cons]
   ·rename_i y m hb
    obtain ⟨v,h,hr⟩:=a4e h
    obtain ⟨vs,h,e⟩:=a4m h
    have hh:=R9 hb (by simp)
    have:=hr 0 (Nat.zero_le _)
    rw [Nat.sub_zero,Nat.sub_zero] at this
    refine ⟨_,h,?_⟩
    simp only [a3s,a3f,hx,toD,hh,z7,this,Option.bind_some,e,Option.map_some,List.map_cons]
   ·cases h
  ·cases h
theorem d13 (vs:List V):toD (c42 vs)=a89 (vs.map toD):=by
 unfold c42
 split
 ·rfl
 ·rename_i h
  match vs,h with
  | [],_=>simp only [toD,R8,List.map_nil,a89]
  | [v],h=>exact absurd rfl (h v)
  | v :: w :: vs,_=>simp only [toD,A9,List.map_cons,a89]
theorem c5f {n:Nat} {s:y2} {g:Option Nat} {v:V} {K:V→Om} (h:c4j CR n s.heap g v K=some r):∃ v',K v'=some r∧a2t n (p4 s).heap g (toD v)=toD v':=by
 unfold c4j at h
 split at h
 ·rename_i z t m off len id
  split at h
  ·rename_i l z' hb
   have hh:=R9 hb (by simp)
   simp only [z7] at hh
   cases hg:Nat.ble n id && (Nat.beq z' z && Nat.beq m z) with
   | false=>rw [hg] at h;cases h
   | true =>
    rw [hg] at h
    simp only [cond_true] at h
    obtain ⟨h0,h⟩:=B0 h
    have h0:Nat.beq l len=true:=h0
    simp only [Bool.and_eq_true] at hg
    obtain ⟨g1,g2,g3⟩:=hg
    have:=Nat.eq_of_beq_eq_true g3
    subst this
    refine ⟨_,h,?_⟩
    simp only [toD,a2t,hh,g1,g2,h0,E1,Nat.beq_refl,Bool.and_self,cond_true]
  ·cases h
 ·rename_i z t m off len
  cases hm:Nat.beq m z with
  | true =>
   rw [hm] at h
   have:=Nat.eq_of_beq_eq_true hm
   subst this
   exact ⟨_,h,by simp only [toD,a2t,E1,Nat.beq_refl,cond_true]⟩
  | false =>
   rw [hm] at h
   simp only [cond_false] at h
   cases h0:Nat.beq m 0 with
   | false=>rw [h0] at h;cases h
   | true =>
    rw [h0] at h
    simp only [cond_true] at h
    obtain ⟨h1,h⟩:=B0 h
    have h1:Nat.beq len 0=true:=h1
    have:=Nat.eq_of_beq_eq_true h1
    subst this
    exact ⟨_,h,by simp only [toD,a2t,rows,List.length_nil,Nat.zero_mul,Nat.beq_refl,cond_true]⟩
 ·rename_i hn1 hn2
  refine ⟨_,h,?_⟩
  rw [b6i]
  unfold a2t
  split
  ·rename_i z len c id hd
   exfalso
   cases v <;> simp only [toD] at hd <;> first | (cases hd;done) | skip
   ·injection hd with _ _ hd;subst hd;exact hn1 _ _ _ _ _ _ rfl rfl
   ·cases Z1 _ _ _ _ _ hd
  ·rename_i z len c hd
   exfalso
   cases v <;> simp only [toD] at hd <;> first | (cases hd;done) | skip
   ·injection hd with _ _ hd;subst hd;exact hn2 _ _ _ _ _ rfl rfl
   ·cases Z1 _ _ _ _ _ hd
  ·rfl
theorem a7j {n:Nat} {s:y2}:∀ {gv:List (Option Nat)} {vs:List V} {K:List V→Om},a7y CR n s.heap gv vs K=some r→∃ vs',K vs'=some r∧W2 n (p4 s).heap gv (vs.map toD)=vs'.map toD
 | gv,[],K,h=>by cases gv <;> exact ⟨[],h,by simp [W2]⟩
 | [],v :: vs,K,h=>by
  simp only [a7y] at h
  obtain ⟨vs',h,e⟩:=a7j h
  exact ⟨_,h,by simp only [List.map_cons,W2,b6i,e]⟩
 | g :: gv,v :: vs,K,h=>by
  simp only [a7y] at h
  obtain ⟨v',h,e1⟩:=c5f h
  obtain ⟨vs',h,e⟩:=a7j h
  exact ⟨_,h,by simp only [List.map_cons,W2,e1,e]⟩
theorem a3k {P:Program} {rs:List ResultVar} {n:Nat} {gv:List (Option Nat)} {s:y2} {x:E6} {bs':List Bx} (h:b7n CR P rs n gv s=some (x,bs')):fin P rs n gv (a7d x) (bs'.map E7) (p4 s):=by
 obtain ⟨vs,h,e⟩:=a4m h
 split at h
 ·rename_i bs hb
  obtain ⟨vs',h,eg⟩:=a7j h
  injection h with h
  injection h with h1 h2
  subst h1 h2
  obtain ⟨q1,q2,q3⟩:=a7g hb
  have q1:O4 (p4 s).heap (List.range n)=some (bs.map E7):=q1
  unfold fin
  rw [e,q1]
  refine ⟨?_,?_⟩
  ·simp only [a7d,d13,eg]
  ·rw [List.map_map,List.map_map];exact List.map_congr_left fun b _=>(b2o (a0n n)).symm
 ·cases h
theorem b5j (n:Nat) (vs:List V) {bs:List Bx} (h:bs.all M4=true):p4 (b6s n vs bs)=start n (vs.map toD) (bs.map E7):=by
 unfold b6s start p4
 simp only [List.map_append,List.map_replicate,List.length_map,List.map_map,toD,R8]
 congr 1
 exact List.map_congr_left fun b hb=>a2d (List.all_eq_true.1 h b hb)

theorem e1i {fn:FuncId→C6} {cr:Q6} (htab:X.tab=[]) (hfn:∀ g,K9 X g (fn g)) (hcr:a3g cr) {AL AJ:Nat→Option Ann} {gv:List (Option Nat)} {f:FuncId} {F:Func} (hf:X.P.funcs[f]?=some F) (hb:F.body.isSome=true)
  (hcall:∀ args w,(callFunc f args).run X.P w=.ok (.enter f args) w):K9 X f (d60 CU X fn cr AL AJ gv F):=by
 intro vs bs x bs' h hok
 obtain ⟨c,hc⟩:=Option.isSome_iff_exists.1 hb
 unfold d60 at h
 rw [hc] at h
 have:=N4 (X:=X) htab hfn hcr c h (K':=fin X.P F.results.toList bs.length gv (a7d x) (bs'.map E7)) (Kx':=fun _ _=>False) (Kr':=fin X.P F.results.toList bs.length gv (a7d x) (bs'.map E7)) (Kp':=fun d=>a7d x=.pan d)
  (fun s h=>a3k h) (fun _ _ h=>by cases h) (fun s h=>a3k h) (fun v h=>by injection h with h;injection h with h1 h2;rw [← h1];rfl)
 rw [b5j _ _ hok] at this
 have e:(bs.map E7).length=bs.length:=by simp
 refine a15 (X:=X) (gv:=gv) (L:=fun _ body s=>a1u bs.length body s) (J:=fun q=>(AJ q).map b1e) hf hc hcall (fun _ _ _ h=>by rw [e];exact h) ?_
 rw [e]
 exact this

end
def c8d (U:t6) (X:Pr) (fn:FuncId→C6) (cr:Q6) (AL AJ:Nat→Option Ann) (gv:List (Option Nat)) (f:Func):C6:=fun vs bs=>match f.body with
 | some (.seq A (.seq R C))=>match a8a R with
  | some (_,t)=>ev U X fn cr bs.length AL AJ A 0 0 (b6s f.ntmps vs bs) (fun s=>match L4 s.tmps t with
    | .ptr _ _=>ev U X fn cr bs.length AL AJ C (L6 A) (Q2 A) s (b7n U.toComb X.P f.results.toList bs.length gv) (fun _ _=>none) (b7n U.toComb X.P f.results.toList bs.length gv) (fun _=>none)
    | _=>none) (fun _ _=>none) (b7n U.toComb X.P f.results.toList bs.length gv) (fun _=>none)
  | none=>none
 | _=>none
def c9i (f:Func):Option FuncId:=match f.body with
 | some (.seq _ (.seq R _))=>(a8a R).map (·.1)
 | _=>none
section
variable {X:Pr} {r:R}
theorem d6f {fn:FuncId→C6} {cr:Q6} (htab:X.tab=[]) (hfn:∀ g,K9 X g (fn g)) (hcr:a3g cr) {AL AJ:Nat→Option Ann} {gv:List (Option Nat)} {f g:FuncId} {F:Func} (hf:X.P.funcs[f]?=some F) (hd:c9i F=some g)
  (hcall:∀ args w,(callFunc f args).run X.P w=.ok (.enter f args) w) (hg:∀ args w,(callFunc g args).run X.P w=.ok (.enter g args) w) (hidle:c9g X.P g):K9 X f (c8d CU X fn cr AL AJ gv F):=by
 intro vs bs x bs' h hok
 unfold c8d at h
 unfold c9i at hd
 split at h
 ·rename_i A R C hb
  rw [hb] at hd
  simp only [] at hd
  split at h
  ·rename_i g' t hR
   rw [hR] at hd
   injection hd with hd
   subst hd
   have e:(bs.map E7).length=bs.length:=by simp
   refine b7p (X:=X) (gv:=gv) (L:=fun _ body s=>a1u bs.length body s) (J:=fun q=>(AJ q).map b1e) hf hb hR hcall hg hidle (fun _ _ _ h=>by rw [e];exact h) ?_
   rw [e,← b5j _ _ hok]
   refine N4 (X:=X) htab hfn hcr A h (fun s h=>?_) (fun _ _ h=>by cases h) (fun s h=>a3k h) (fun v h=>by cases h)
   split at h
   ·rename_i id off hp
    refine ⟨⟨id,off,?_⟩,N4 (X:=X) htab hfn hcr C h (fun s h=>a3k h) (fun _ _ h=>by cases h) (fun s h=>a3k h) (fun v h=>by cases h)⟩
    have:=o9 s (.tmp t)
    have e2:(p4 s).eval (.tmp t)=(p4 s).tmps.getD t .junk:=rfl
    rw [← e2,this]
    show toD (L4 s.tmps t)=_
    rw [hp]
    simp only [toD]
   ·cases h
  ·cases h
 ·cases h
end
end
end Go.Abs
