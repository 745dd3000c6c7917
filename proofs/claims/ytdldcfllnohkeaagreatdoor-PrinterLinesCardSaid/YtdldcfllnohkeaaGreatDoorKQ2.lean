/- What the operations say, run: second part. -/
import Derived.Test.YtdldcfllnohkeaaGreatDoorKQ1
set_option linter.all false
namespace Go.Abs
noncomputable section

theorem a96:∀ (vs ds:List D) (off:Nat),off+vs.length≤ds.length→L2 ds off vs=ds.take off ++ vs ++ ds.drop (off+vs.length)
 | [],ds,off,h=>by simp [L2]
 | v :: vs,ds,off,h=>by
  simp only [List.length_cons] at h
  simp only [L2]
  rw [a96 vs _ _ (by simp;omega)]
  have e1:(ds.set off v).take (off+1)=ds.take off ++ [v]:=by
   apply List.ext_getElem?
   intro i
   rcases Nat.lt_or_ge i off with hi | hi
   ·rw [List.getElem?_take_of_lt oM,List.getElem?_set_ne oM,List.getElem?_append_left (by simp;omega),List.getElem?_take_of_lt hi]
   ·rcases Nat.eq_or_lt_of_le hi with hi | hi
    ·subst hi
     rw [List.getElem?_take_of_lt oM,List.getElem?_set_self oM,List.getElem?_append_right (by simp;omega)]
     simp [Nat.min_eq_left (show off≤ds.length by omega)]
    ·rw [List.getElem?_eq_none (by simp;omega),List.getElem?_eq_none (by simp;omega)]
  have e2:(ds.set off v).drop (off+1+vs.length)=ds.drop (off+1+vs.length):=by
   apply List.ext_getElem?
   intro i
   rw [List.getElem?_drop,List.getElem?_drop,List.getElem?_set_ne oM]
  rw [e1,e2]
  simp only [List.append_assoc,List.cons_append,List.nil_append,List.length_cons]
  rw [show off+1+vs.length=off+(vs.length+1) by omega]

section
variable {X:Pr} {s:w9} {nid:Nat} {r:R}

theorem b9k {n:Nat}:∀ {ps:List (Nat × V)} {i:Nat} {ds:List D} {qs:List Q},a3c n i ps=some qs→ds.length=(i+ps.length) * n →
  ∃ out,a2u (fun i=>some (i * n,n)) ds (ps.map fun p=>(p.1,toD p.2))=some out∧out.map (renI W3)=(ds.take (i * n)).map (renI W3) ++ qs.flatMap fun q=>n7 (den q) 0 n
 | [],i,ds,qs,h,hl=>by
  simp only [a3c] at h
  injection h with h
  subst h
  refine ⟨ds,rfl,?_⟩
  simp only [List.flatMap_nil,List.append_nil]
  rw [List.take_of_length_le (by rw [hl];simp)]
 | (j,v) :: ps,i,ds,qs,h,hl=>by
  simp only [a3c] at h
  split at h
  ·rename_i q qs' hj hq hqs
   injection h with h
   subst h
   have:=Nat.eq_of_beq_eq_true hj
   subst this
   obtain ⟨h1,h2,h3⟩:=d0e hq
   simp only [List.length_cons] at hl
   have hle:i * n+n≤ds.length:=by
    rw [hl]
    have:(i+1) * n≤(i+(ps.length+1)) * n:=Nat.mul_le_mul_right n oM
    rw [Nat.succ_mul] at this
    exact this
   have hw:L2 ds (i * n) (toD v).cells=ds.take (i * n) ++ (toD v).cells ++ ds.drop (i * n+n):=by
    rw [a96 _ _ _ (by rw [h2];exact hle),h2]
   have hlen:(L2 ds (i * n) (toD v).cells).length=(i+1+ps.length) * n:=by
    rw [hw]
    simp only [List.length_append,List.length_take,List.length_drop,h2]
    have:(i+1+ps.length) * n=ds.length:=by rw [hl];congr 1;omega
    omega
   obtain ⟨out,ho,hm⟩:=b9k hqs hlen
   refine ⟨out,?_,?_⟩
   ·simp only [List.map_cons,a2u,h1,h2]
    have e1:Nat.ble (i * n+n) ds.length=true:=by rw [Nat.ble_eq];exact hle
    rw [e1]
    simp only [beq_self_eq_true,Bool.and_self,cond_true]
    exact ho
   ·rw [hm,hw,Nat.succ_mul]
    have e2:(ds.take (i * n) ++ (toD v).cells ++ ds.drop (i * n+n)).take (i * n+n)=ds.take (i * n) ++ (toD v).cells :=
     List.take_left' (by simp only [List.length_append,List.length_take,h2];omega)
    rw [e2,List.map_append,h3,List.flatMap_cons,List.append_assoc]
  ·cases h
theorem a99 {n:Nat}:∀ {ps:List (Nat × V)} {i:Nat} {qs:List Q},a3c n i ps=some qs→qs.length=ps.length
 | [],i,qs,h=>by simp only [a3c] at h;injection h with h;subst h;rfl
 | (j,v) :: ps,i,qs,h=>by
  simp only [a3c] at h
  split at h
  ·rename_i q qs' hj hq hqs
   injection h with h
   subst h
   simp [a99 hqs]
  ·cases h
theorem d4e:∀ (qs:List Q) (i:Nat) (t:i7 Q),i+qs.length+2≤2 ^ L5→(∀ k,k < i→H5 (u2 (mkT qs i t)) k=H5 (u2 t) k)∧∀ k q,qs[k]?=some q→H5 (u2 (mkT qs i t)) (i+k)=den q
 | [],i,t,_=>⟨fun _ _=>rfl,fun k q h=>by simp at h⟩
 | q :: qs,i,t,hb=>by
  simp only [List.length_cons] at hb
  obtain ⟨h1,h2⟩:=d4e qs (i+1) (t.set .no q L5 i) oM
  refine ⟨fun k hk=>?_,fun k x hx=>?_⟩
  ·simp only [mkT];rw [h1 k oM,a3z _ _ _ oM]
  ·simp only [mkT]
   cases k with
   | zero =>
    simp at hx;subst hx
    show H5 (u2 (mkT qs (i+1) (i7.set Q.no q L5 t i))) i=den q
    rw [h1 i oM,b2b _ _ oM]
   | succ k =>
    simp only [List.getElem?_cons_succ] at hx
    have:=h2 k x hx
    rw [show i+1+k=i+(k+1) by omega] at this
    exact this
theorem c0e {T:i7 Den} {n:Nat}:∀ (qs:List Q) (off:Nat),(∀ k q,qs[k]?=some q→H5 T (off+k)=den q)→rows T n off qs.length=qs.flatMap fun q=>n7 (den q) 0 n
 | [],off,h=>rfl
 | q :: qs,off,h=>by
  simp only [List.length_cons,rows,List.flatMap_cons]
  rw [c0e qs (off+1) (fun k x hx=>by have:=h (k+1) x (by simpa using hx);rw [show off+1+k=off+(k+1) by omega];exact this)]
  have:=h 0 q rfl
  rw [Nat.add_zero] at this
  rw [this]

theorem c5x (z:List D) (n:Nat):(a27 z n).length=n:=by simp [a27]

theorem c5r {P:Program} {t:TypeId} {x y:V} {K:KV} (h:b8w CR P s nid t x y K=some r):∃ v ws rs,K v ws rs=some r∧a2g P (l8 s) nid t (toD x) (toD y)=some ⟨true,toD v,B8 ws,rs⟩:=by
 unfold b8w at h
 split at h
 ·rename_i e hu
  split at h
  ·rename_i n b z hn hb hz
   cases hg:Nat.beq z.length n && Nat.blt 0 n && a05 s nid with
   | false=>rw [hg] at h;cases h
   | true =>
    rw [hg] at h
    simp only [cond_true] at h
    simp only [Bool.and_eq_true] at hg
    obtain ⟨⟨g1,g2⟩,g3⟩:=hg
    obtain ⟨tr,off,len,c,hx,h⟩:=a02 h
    obtain ⟨t2,off2,m,_,hy,h⟩:=a02 h
    obtain ⟨h0,h⟩:=B3 h
    have h0:(band (Nat.ble ((len+m) * b) 140737488355328) (Nat.ble (len+m) 140737488355328))=true:=h0
    rw [CfN] at h
    rw [K6,Bool.and_eq_true,Nat.ble_eq,Nat.ble_eq] at h0
    obtain ⟨t',h,hold,hnew⟩:=c7b m (t:=tr) (i:=off+len) (j:=off2) h
    have hrows:rows (u2 t') n off (len+m)=rows (u2 tr) n off len ++ rows (u2 t2) n off2 m:=by
     rw [b3m]
     congr 1
     ·exact a9p len off off fun k hk=>hold _ oM
     ·exact a9p m (off+len) off2 fun k hk=>hnew k hk
    have hz':=a17 hz
    have hzl:Nat.beq (z.map toD).length n=true:=by rw [List.length_map];exact g1
    have hneed:(decide ((len+m) * b≤G6∧len+m≤G6∧(rows (u2 tr) n off len).length=len * n∧(rows (u2 t2) n off2 m).length=m * n) && (rows (u2 t2) n off2 m).all D.one)=true:=by
     rw [c41,Bool.and_true,decide_eq_true_iff]
     exact ⟨h0.1,h0.2,E4 _ _,E4 _ _⟩
    split at h
    ·refine ⟨_,_,_,h,?_⟩
     simp only [q7,nAdd,Nat.add_eq,a2g,hu,hx,hy,hn,hb,hz',hzl,g2,a6d g3,Bool.and_self,cond_true,hneed,toD,hrows,B8,List.map_cons,List.map_nil,z8]
    ·rename_i id
     split at h
     ·rename_i l k hbx
      obtain ⟨h1,h⟩:=B3 h
      have h1:(band (Nat.beq l len) (Nat.beq k n))=true:=h1
      rw [K6,Bool.and_eq_true] at h1
      refine ⟨_,_,_,h,?_⟩
      have hh:=T3 hbx (by simp)
      simp only [z8] at hh
      simp only [q7,nAdd,Nat.add_eq,a2g,hu,hx,hy,hn,hb,hz',hzl,g2,a6d g3,Bool.and_self,cond_true,hneed,toD,hrows,B8,List.map_cons,List.map_nil,z8,hh,h1.1,h1.2]
     ·cases h
    ·cases h
  ·cases h
 ·cases h

theorem a6r {v:V} {x:Q} (h:b8v v=some x):toD v=den x 0:=by
 unfold b8v at h
 split at h <;> first
  | (injection h with h;subst h;simp only [toD,den];rfl)
  | (injection h with h;subst h;simp only [toD])
  | cases h
theorem d1b {b:Bx} {cs:List V} (h:d1a CR b=some cs):z8 b=.cells (cs.map toD)∧b ≠ .dead:=by
 unfold d1a at h
 split at h
 ·injection h with h;subst h;exact ⟨rfl,by simp⟩
 ·rename_i x m
  injection h with h
  subst h
  refine ⟨?_,by simp⟩
  simp only [z8,J3,List.map_map]
  congr 1
  exact List.map_congr_left fun i _=>by simp only [Function.comp,toD];exact (a2f x i).symm
 ·cases h
theorem d92 {tr:i7 Q} {y:Q} {off len:Nat} (h1:off < len) (h2:off+2≤2 ^ L5):rows (u2 (tr.set .no y L5 off)) 1 0 len=(rows (u2 tr) 1 0 len).set off (den y 0):=by
 have key:∀ (T:i7 Den) (m o i:Nat),i < m→(rows T 1 o m)[i]?=some (H5 T (o+i) 0):=by
  intro T m
  induction m with
  | zero=>intro o i hi;omega
  | succ m ih =>
   intro o i hi
   simp only [rows,n7,List.cons_append,List.nil_append]
   cases i with
   | zero=>rfl
   | succ i =>
    rw [List.getElem?_cons_succ,ih (o+1) i oM]
    rw [show o+1+i=o+(i+1) by omega]
 apply List.ext_getElem?
 intro i
 rcases Nat.lt_or_ge i len with hi | hi
 ·rw [key _ _ _ _ hi,Nat.zero_add]
  by_cases he:off=i
  ·subst he
   rw [List.getElem?_set_self (by rw [E4,Nat.mul_one];exact hi),b2b _ _ h2]
  ·rw [List.getElem?_set_ne he,key _ _ _ _ hi,Nat.zero_add,a3z _ _ _ (fun e=>he e.symm)]
 ·rw [List.getElem?_eq_none (by rw [E4,Nat.mul_one];exact hi),List.getElem?_eq_none (by rw [List.length_set,E4,Nat.mul_one];exact hi)]
end

section
variable {X:Pr} {s:w9} {nid:Nat} {r:R}

theorem c4e (l:List Operand):l.map (l8 s).eval=(l.map s.eval).map toD:=by
 rw [List.map_map];exact List.map_congr_left fun x _=>l7 s x

theorem d54 {t:TypeId} {parts:Array (Nat × Operand)} {K:KV} (h:P3 CR X s nid (.build t parts) K=some r):∃ v ws rs,K v ws rs=some r∧m9 X (l8 s) nid (.build t parts)=some ⟨true,toD v,B8 ws,rs⟩:=by
 simp only [P3] at h
 split at h
 ·rename_i fs z hu hz
  split at h
  ·rename_i cs hf
   cases ha:(fs.all fun f=>(B7 X.P f.type).isSome) with
   | false=>rw [ha] at h;cases h
   | true =>
    rw [ha] at h
    refine ⟨_,_,_,h,?_⟩
    have:=b5l hf
    simp only [List.map_map] at this
    have e:(parts.toList.map fun p=>(p.1,(l8 s).eval p.2))=parts.toList.map ((fun p:Nat × V=>(p.1,toD p.2)) ∘ fun p=>(p.1,s.eval p.2)) :=
     List.map_congr_left fun p _=>by simp only [Function.comp,l7]
    rw [← e] at this
    simp only [q7,m9,hu,a17 hz,this,D0,ha,toD,A9]
    rfl
  ·cases h
 ·cases h
theorem b8y {t:TypeId} {len:Nat} {parts:Array (Nat × Operand)} {K:KV} (h:P3 CR X s nid (.buildSlice t len parts) K=some r):∃ v ws rs,K v ws rs=some r∧m9 X (l8 s) nid (.buildSlice t len parts)=some ⟨true,toD v,B8 ws,rs⟩:=by
 simp only [P3] at h
 split at h
 ·rename_i e hu
  split at h
  ·rename_i n z hn hz
   split at h
   ·rename_i qs hq
    cases hg:Nat.beq qs.length len && (Nat.ble (len * n) 16777216 && Nat.ble len 16777216) with
    | false=>rw [hg] at h;cases h
    | true =>
     rw [hg] at h
     simp only [Bool.and_eq_true] at hg
     obtain ⟨g1,g2,g3⟩:=hg
     have hql:=Nat.eq_of_beq_eq_true g1
     refine ⟨_,_,_,h,?_⟩
     have hpl:=a99 hq
     simp only [List.length_map] at hpl
     obtain ⟨out,ho,hm⟩:=b9k hq (ds:=a27 (z.map toD) (len * n)) (by rw [c5x,Nat.zero_add,List.length_map,← hpl,hql])
     simp only [List.map_map] at ho
     have e:(parts.toList.map fun p=>(p.1,(l8 s).eval p.2))=parts.toList.map ((fun p:Nat × V=>(p.1,toD p.2)) ∘ fun p=>(p.1,s.eval p.2)) :=
      List.map_congr_left fun p _=>by simp only [Function.comp,l7]
     rw [← e] at ho
     simp only [q7,m9,hu,hn,a17 hz,ho,D0,g2,toD,hm,Nat.zero_mul,List.take_zero,List.map_nil,List.nil_append]
     have hb:0+qs.length+2≤2 ^ L5:=by
      rw [Nat.ble_eq] at g3
      show 0+qs.length+2≤2 ^ 48
      omega
     obtain ⟨_,h2⟩:=d4e qs 0 .nil hb
     rw [← hql,c0e qs 0 h2]
     rfl
   ·cases h
  ·cases h
 ·cases h
theorem e0n {t:TypeId} {a:Operand} {K:KV} (h:P3 CR X s nid (.load t a) K=some r):∃ v ws rs,K v ws rs=some r∧m9 X (l8 s) nid (.load t a)=some ⟨true,toD v,B8 ws,rs⟩:=by
 simp only [P3] at h
 split at h
 ·rename_i id off ha
  split at h
  ·rename_i cs hb
   obtain ⟨v,h,hr⟩:=a9j h
   have hh:=T3 hb (by simp)
   refine ⟨_,_,_,h,?_⟩
   simp only [q7,m9,l7,ha,toD,hh,z8,hr,Option.map_some]
   rfl
  ·rename_i x m hb
   obtain ⟨v,h,hr⟩:=a4a h
   have hh:=T3 hb (by simp)
   have:=hr 0 (Nat.zero_le _)
   rw [Nat.sub_zero,Nat.sub_zero] at this
   refine ⟨_,_,_,h,?_⟩
   simp only [q7,m9,l7,ha,toD,hh,z8,this,Option.map_some]
   rfl
  ·rename_i tr len hb
   split at h
   ·rename_i hag
    obtain ⟨h0,h⟩:=B3 h
    have h0:(Nat.ble (off+1) len)=true:=h0
    rw [CfQ] at h
    rw [Nat.ble_eq] at h0
    have hh:=T3 hb (by simp)
    refine ⟨_,_,_,h,?_⟩
    have key:(rows (u2 tr) 1 0 len)[off]?=some (den (tQ tr off) 0):=by
     have h1:=c0d (T:=u2 tr) (n:=1) (off:=0) (show off < len by omega)
     rw [Nat.mul_one,Nat.zero_add] at h1
     have h2:=congrArg (·[0]?) h1
     simp only [List.getElem?_take_of_lt (show 0 < 1 by omega),List.getElem?_drop,Nat.add_zero] at h2
     rw [h2,b7d]
     rfl
    simp only [q7,m9,l7,ha,toD,hh,z8,Q7,hag,key,Option.map_some]
    rfl
   ·cases h
  ·cases h
 ·rename_i x off m ha
  obtain ⟨v,h,hr⟩:=a4a h
  have:=hr off (Nat.le_refl _)
  rw [Nat.add_sub_cancel_left,Nat.sub_self] at this
  refine ⟨_,_,_,h,?_⟩
  simp only [q7,m9,l7,ha,toD,this,Option.map_some]
  rfl
 ·cases h
theorem d56 {t:TypeId} {a x:Operand} {K:KV} (h:P3 CR X s nid (.store t a x) K=some r):∃ v ws rs,K v ws rs=some r∧m9 X (l8 s) nid (.store t a x)=some ⟨true,toD v,B8 ws,rs⟩:=by
 simp only [P3] at h
 split at h
 ·rename_i id off ha
  split at h
  ·rename_i tr len hb hn
   split at h
   ·rename_i y hy
    obtain ⟨h0,h⟩:=B3 h
    have h0:(band (Nat.ble (off+1) len) (Nat.ble (off+2) 281474976710656))=true:=h0
    rw [K6,Bool.and_eq_true,Nat.ble_eq,Nat.ble_eq] at h0
    rw [show CR.sT=fun t i x K=>a1q x L5 t i K from rfl] at h
    simp only [W0] at h
    have hh:=T3 hb (by simp)
    have hv:=a6r hy
    have ho:=K8 y 0
    refine ⟨_,_,_,h,?_⟩
    have hc:(den y 0).cells=[den y 0]:=by cases hd:den y 0 <;> rw [hd] at ho <;> first | rfl | cases ho
    have hok:(den y 0).ok=true:=by simp [D.ok,ho]
    have e1:Nat.ble (off+1) (rows (u2 tr) 1 0 len).length=true:=by rw [E4,Nat.mul_one,Nat.ble_eq];exact h0.1
    simp only [q7,m9,l7,ha,toD,hh,z8,hn,hv,hok,hc,List.all_cons,List.all_nil,ho,e1,Bool.and_self,List.length_cons,List.length_nil,Nat.zero_add,L2,B8,List.map_cons,List.map_nil,R7]
    rw [d92 oM (by show off+2≤2 ^ 48;exact h0.2)]
    rfl
   ·cases h
  ·rename_i n hn hnr
   split at h
   ·rename_i cs hcs
    obtain ⟨hB,hd⟩:=d1b hcs
    have hh:=T3 (s:=s) (i:=id) rfl hd
    rw [hB] at hh
    split at h
    ·rename_i y m hx
     have hal:(n7 (den y) 0 m).all D.one=true:=a8u (K8 y) m 0
     cases hg:Nat.beq m n && (Nat.beq off 0 && Nat.beq m cs.length) with
     | true =>
      rw [hg] at h
      simp only [Bool.and_eq_true] at hg
      obtain ⟨g1,g2,g3⟩:=hg
      have e1:=Nat.eq_of_beq_eq_true g1
      have e2:=Nat.eq_of_beq_eq_true g2
      have e3:=Nat.eq_of_beq_eq_true g3
      subst e1 e2
      refine ⟨_,_,_,h,?_⟩
      have e4:Nat.ble (0+m) (cs.map toD).length=true:=by rw [List.length_map,Nat.ble_eq];omega
      have e5:L2 (cs.map toD) 0 (n7 (den y) 0 m)=n7 (den y) 0 m:=by
       rw [a96 _ _ _ (by rw [C1,List.length_map];omega),C1,List.take_zero,List.nil_append,List.drop_of_length_le (by rw [List.length_map];omega),List.append_nil]
      simp only [q7,m9,l7,ha,hx,toD,hh,hn,D.ok,D.isAgg,D.cells,C1,g1,hal,e4,Bool.or_true,Bool.and_self,cond_true,e5,B8,List.map_cons,List.map_nil,z8,R7]
     | false =>
      rw [hg] at h
      simp only [cond_false] at h
      cases hg2:Nat.beq m n && Nat.ble (off+n) cs.length with
      | false=>rw [hg2] at h;cases h
      | true =>
       rw [hg2] at h
       simp only [Bool.and_eq_true] at hg2
       obtain ⟨g1,g2⟩:=hg2
       have e1:=Nat.eq_of_beq_eq_true g1
       subst e1
       refine ⟨_,_,_,h,?_⟩
       have e4:Nat.ble (off+m) (cs.map toD).length=true:=by rw [List.length_map];exact g2
       have e6:((a92 0 m).map fun i=>V.q (celQ y i)).map toD=n7 (den y) 0 m:=by
        rw [J3,List.map_map]
        exact List.map_congr_left fun i _=>by simp only [Function.comp,toD];exact a2f y i
       simp only [q7,m9,l7,ha,hx,toD,hh,hn,D.ok,D.isAgg,D.cells,C1,g1,hal,e4,Bool.or_true,Bool.and_self,cond_true,B8,List.map_cons,List.map_nil,z8,R7,a6t]
       rw [e6]
    ·rename_i hna
     split at h
     ·rename_i vs hvs
      obtain ⟨hok,hcl⟩:=a2r hvs
      cases hg:Nat.beq vs.length n && (vs.all b8e && Nat.ble (off+n) cs.length) with
      | false=>rw [hg] at h;cases h
      | true =>
       rw [hg] at h
       simp only [Bool.and_eq_true] at hg
       obtain ⟨g1,g2,g3⟩:=hg
       refine ⟨_,_,_,h,?_⟩
       have e1:Nat.beq (vs.map toD).length n=true:=by rw [List.length_map];exact g1
       have e4:Nat.ble (off+n) (cs.map toD).length=true:=by rw [List.length_map];exact g3
       simp only [q7,m9,l7,ha,toD,hh,hn,hok,hcl,e1,e2m g2,e4,Bool.and_self,cond_true,B8,List.map_cons,List.map_nil,z8,R7,a6t]
     ·cases h
   ·cases h
  ·cases h
 ·cases h
theorem d55 {t:TypeId} {x:Operand} {f:Nat} {K:KV} (h:P3 CR X s nid (.field t x f) K=some r):∃ v ws rs,K v ws rs=some r∧m9 X (l8 s) nid (.field t x f)=some ⟨true,toD v,B8 ws,rs⟩:=by
 simp only [P3] at h
 split at h
 ·rename_i fs hu
  split at h
  ·rename_i fd cs hf hx
   obtain ⟨v,h,hr⟩:=a9j h
   refine ⟨_,_,_,h,?_⟩
   simp only [q7,m9,hu,hf,l7,hx,toD,A9,hr,Option.bind_some,s9]
   rfl
  ·rename_i fd y m hf hx
   obtain ⟨v,h,hr⟩:=a4a h
   have:=hr 0 (Nat.zero_le _)
   rw [Nat.sub_zero,Nat.sub_zero] at this
   refine ⟨_,_,_,h,?_⟩
   simp only [q7,m9,hu,hf,l7,hx,toD,this,Option.bind_some,s9]
   rfl
  ·cases h
 ·cases h
theorem c1e {t:TypeId} {x:Operand} {f:Nat} {K:KV} (h:P3 CR X s nid (.fieldAddr t x f) K=some r):∃ v ws rs,K v ws rs=some r∧m9 X (l8 s) nid (.fieldAddr t x f)=some ⟨true,toD v,B8 ws,rs⟩:=by
 simp only [P3] at h
 split at h
 ·rename_i fs hu
  split at h
  ·rename_i fd hf
   split at h
   ·rename_i k hs
    split at h
    ·rename_i id off hx
     exact ⟨_,_,_,h,by simp only [q7,m9,hu,hf,hs,l7,hx,toD,s9];rfl⟩
    ·rename_i y off m hx
     exact ⟨_,_,_,h,by simp only [q7,m9,hu,hf,hs,l7,hx,toD,s9,a6y];rfl⟩
    ·cases h
   ·cases h
  ·cases h
 ·cases h
theorem c1f {t:TypeId} {x i:Operand} {K:KV} (h:P3 CR X s nid (.indexAddr t x i) K=some r):∃ v ws rs,K v ws rs=some r∧m9 X (l8 s) nid (.indexAddr t x i)=some ⟨true,toD v,B8 ws,rs⟩:=by
 simp only [P3] at h
 split at h
 ·rename_i e hu
  split at h
  ·rename_i n hn
   split at h
   ·rename_i id len hx
    obtain ⟨_,k,hi,h⟩:=M8 h
    obtain ⟨h0,h⟩:=B3 h
    have h0:(band (iLe 0 k) (iLt k (len:Int)))=true:=h0
    rw [CfN] at h
    have g:0≤k∧k < (len:Int):=by simpa [K6,V2,Z8] using h0
    refine ⟨_,_,_,h,?_⟩
    simp only [q7,m9,hu,l7,hx,hi,toD,hn,Option.bind_some,D0,decide_eq_true g,nMul,D2]
    rfl
   ·obtain ⟨tr,off,len,c,hx,h⟩:=a02 h
    obtain ⟨_,k,hi,h⟩:=M8 h
    obtain ⟨h0,h⟩:=B3 h
    have h0:(band (iLe 0 k) (iLt k (len:Int)))=true:=h0
    rw [CfQ] at h
    have g:0≤k∧k < (len:Int):=by simpa [K6,V2,Z8] using h0
    refine ⟨_,_,_,h,?_⟩
    have g2:0≤k∧k < (len:Int)∧len * (n+1)≤(rows (u2 tr) (n+1) off len).length∧0 < n+1:=⟨g.1,g.2,by rw [E4];exact Nat.le_refl _,oM⟩
    simp only [q7,m9,hu,l7,hx,hi,toD,hn,Option.bind_some,D0,decide_eq_true g2,D2]
    rw [c0d (show k.toNat < len by omega),b7d]
    rfl
  ·cases h
 ·cases h
theorem c66 {b:Builtin} {args:Array Operand} {ts:Array TypeId} {K:KV} (h:P3 CR X s nid (.call { callee:=.builtin b,args,argTypes:=ts }) K=some r) :
  ∃ v ws rs,K v ws rs=some r∧m9 X (l8 s) nid (.call { callee:=.builtin b,args,argTypes:=ts })=some ⟨true,toD v,B8 ws,rs⟩:=by
 simp only [P3] at h
 split at h
 ·rename_i x t ha ht
  split at h
  ·rename_i hu
   obtain ⟨l,c,hx,h⟩:=Z2 h
   rw [CfI] at h
   exact ⟨_,_,_,h,by simp only [q7,m9,ha,ht,hu,l7,hx,s9,toD,Q2];rfl⟩
  ·rename_i e hu
   split at h
   ·rename_i id n hx
    rw [CfI] at h
    exact ⟨_,_,_,h,by simp only [q7,m9,ha,ht,hu,l7,hx,s9,toD];rfl⟩
   ·split at h
    ·obtain ⟨tr,off,len,c,hx,h⟩:=a02 h
     rw [CfI] at h
     exact ⟨_,_,_,h,by simp only [q7,m9,ha,ht,hu,l7,hx,s9,toD];rfl⟩
    ·cases h
  ·cases h
 ·rename_i x y t ts' ha ht
  split at h
  ·rename_i k hu
   obtain ⟨a,hx,h⟩:=W1 h
   obtain ⟨b,hy,h⟩:=W1 h
   rw [CfI] at h
   refine ⟨_,_,_,h,?_⟩
   simp only [q7,m9,ha,l7,hx,hy,s9,toD,b73,Z8]
   by_cases hab:a < b
   ·simp [hab,B8]
   ·simp [hab,B8]
  ·cases h
 ·rename_i x y t ts' ha ht
  split at h
  ·rename_i k hu
   obtain ⟨a,hx,h⟩:=W1 h
   obtain ⟨b,hy,h⟩:=W1 h
   rw [CfI] at h
   refine ⟨_,_,_,h,?_⟩
   simp only [q7,m9,ha,l7,hx,hy,s9,toD,b73,Z8]
   by_cases hab:b < a
   ·simp [hab,B8]
   ·simp [hab,B8]
  ·cases h
 ·rename_i x y t u ha ht
  cases hb:Nat.beq t u with
  | false=>rw [hb] at h;cases h
  | true =>
   rw [hb] at h
   obtain ⟨v,ws,rs,h,hd⟩:=c5r h
   exact ⟨v,ws,rs,h,by simp only [q7,m9,ha,ht,hb,cond_true,l7,hd]⟩
 ·cases h

theorem d2k {P:Program} {t:TypeId} {same:Bool} {l c:V} {K:KV} (h:d2j CR P s nid t same l c K=some r):∃ v ws rs,K v ws rs=some r∧b2f P (l8 s) nid t same (toD l) (toD c)=some ⟨true,toD v,B8 ws,rs⟩:=by
 unfold d2j at h
 split at h
 ·rename_i e hu
  split at h
  ·rename_i n b z hn hb hz
   cases hg:Nat.beq z.length n && Nat.blt 0 n with
   | false=>rw [hg] at h;cases h
   | true =>
    rw [hg] at h
    simp only [cond_true] at h
    have hz':=a17 hz
    have hg':(Nat.beq (z.map toD).length n && Nat.blt 0 n)=true:=by rw [List.length_map];exact hg
    split at h
    ·obtain ⟨_,a,hl,h⟩:=M8 h
     obtain ⟨_,m,hc,h⟩:=M8 h
     obtain ⟨h0,h⟩:=B3 h
     have h0:band (iEq a 0) (band (iLe 0 m) (band (Nat.ble (iNat m * b) 140737488355328) (Nat.ble (iNat m) 140737488355328)))=true:=h0
     obtain ⟨hf,h⟩:=Z7 h
     refine ⟨_,_,_,h,?_⟩
     have hq:a=0∧0≤m∧m.toNat * b≤G6∧m.toNat≤G6:=by
      simp only [K6,Q3,V2,D2,Bool.and_eq_true,beq_iff_eq,decide_eq_true_eq,Nat.ble_eq] at h0
      exact h0
     simp only [b2f,hu,hl,hc,hn,hb,hz',hg',cond_true,decide_eq_true hq,a5g hf,toD,rows,B8,List.map_cons,List.map_nil,z8]
    ·split at h
     ·rename_i z0
      split at h
      ·rename_i x hx
       obtain ⟨_,a,hl,h⟩:=M8 h
       obtain ⟨_,m,hc,h⟩:=M8 h
       obtain ⟨h0,h⟩:=B3 h
       have h0:band (iLe 0 a) (band (iEq a m) (band (Nat.ble (iNat a * b) 140737488355328) (Nat.ble (iNat a) 140737488355328)))=true:=h0
       rw [CfN] at h
       obtain ⟨tr,h,_,hnew⟩:=c9p (CR.iNat a) (t:=.nil) (i:=0) h
       obtain ⟨hf,h⟩:=Z7 h
       refine ⟨_,_,_,h,?_⟩
       have hq:0≤a∧a=m∧a.toNat * b≤G6∧a.toNat≤G6:=by
        simp only [K6,Q3,V2,D2,Bool.and_eq_true,beq_iff_eq,decide_eq_true_eq,Nat.ble_eq] at h0
        exact h0
       have hn1:n=1:=by
        simp only [Bool.and_eq_true,List.length_cons,List.length_nil] at hg
        exact (Nat.eq_of_beq_eq_true hg.1).symm
       subst hn1
       have hia:CR.iNat a=a.toNat:=D2 a
       rw [hia] at hnew ⊢
       have hrows:rows (u2 tr) 1 0 a.toNat=a27 [toD z0] (a.toNat * 1):=by
        rw [a6r hx]
        have key:∀ (m off:Nat),(∀ k,k < m→H5 (u2 tr) (off+k)=den x)→rows (u2 tr) 1 off m=List.replicate m (den x 0):=by
         intro m
         induction m with
         | zero=>intro _ _;rfl
         | succ m ih =>
          intro off hk
          simp only [rows,n7,List.replicate_succ,List.cons_append,List.nil_append]
          have e0:=hk 0 oM
          rw [Nat.add_zero] at e0
          rw [e0,ih (off+1) (fun k hk'=>by have:=hk (k+1) oM;rw [show off+1+k=off+(k+1) by omega];exact this)]
        rw [key _ 0 hnew,Nat.mul_one]
        unfold a27
        apply List.ext_getElem?
        intro i
        rcases Nat.lt_or_ge i a.toNat with hi | hi
        ·rw [List.getElem?_replicate,if_pos hi,List.getElem?_map,List.getElem?_range hi]
         simp [Nat.mod_one]
        ·rw [List.getElem?_eq_none (by simpa using hi),List.getElem?_eq_none (by simpa using hi)]
       simp only [b2f,hu,hl,hc,hn,hb,hz',hg',cond_true,decide_eq_true hq,a5g hf,toD,B8,List.map_cons,List.map_nil,z8,hrows]
       rfl
      ·cases h
     ·cases h
  ·cases h
 ·cases h
theorem e0o {o:Op} {K:KV} (h:P3 CR X s nid o K=some r):∃ v ws rs,K v ws rs=some r∧m9 X (l8 s) nid o=some ⟨true,toD v,B8 ws,rs⟩:=by
 cases o
 case move x=>exact ⟨_,_,_,h,by simp only [q7,m9,l7,s9];rfl⟩
 case assign x=>exact ⟨_,_,_,h,by simp only [q7,m9,l7,s9];rfl⟩
 case alloc t =>
  simp only [P3] at h
  split at h
  ·rename_i z hz
   obtain ⟨hf,h⟩:=Z7 h
   exact ⟨_,_,_,h,by simp only [q7,m9,a17 hz,a5g hf,toD,B8,List.map_cons,List.map_nil,z8]⟩
  ·cases h
 case box t x =>
  simp only [P3] at h
  split at h
  ·rename_i y m hx
   obtain ⟨hf,h⟩:=Z7 h
   exact ⟨_,_,_,h,by simp only [q7,m9,l7,hx,toD,D.ok,D.isAgg,Bool.or_true,cond_true,a5g hf,D.cells,B8,List.map_cons,List.map_nil,z8]⟩
  ·split at h
   ·rename_i cs hcs
    obtain ⟨hf,h⟩:=Z7 h
    obtain ⟨h1,h2⟩:=a2r hcs
    exact ⟨_,_,_,h,by simp only [q7,m9,l7,h1,cond_true,a5g hf,h2,toD,B8,List.map_cons,List.map_nil,z8]⟩
   ·cases h
 case build t parts=>exact d54 h
 case buildSlice t len parts=>exact b8y h
 case load t a=>exact e0n h
 case store t a x=>exact d56 h
 case nilCheck x =>
  simp only [P3] at h
  split at h
  ·rename_i hx;exact ⟨_,_,_,h,by simp only [q7,m9,l7,hx,toD,s9];rfl⟩
  ·rename_i hx;exact ⟨_,_,_,h,by simp only [q7,m9,l7,hx,toD,s9];rfl⟩
  ·rename_i hx;exact ⟨_,_,_,h,by simp only [q7,m9,l7,hx,toD,s9];rfl⟩
  ·cases h
 case binOp op t x y u =>
  simp only [P3] at h
  obtain ⟨v,h,hd⟩:=d52 h
  exact ⟨_,_,_,h,by simp only [q7,m9,l7,hd];rfl⟩
 case unOp op t x =>
  simp only [P3] at h
  split at h
  ·obtain ⟨b,hx,h⟩:=Z1 h
   rw [CfB] at h
   exact ⟨_,_,_,h,by simp only [q7,m9,l7,hx,s9,toD,a2b];rfl⟩
  ·rename_i k hu
   obtain ⟨n,hx,h⟩:=W1 h
   rw [CfI] at h
   exact ⟨_,_,_,h,by simp only [q7,m9,l7,hx,s9,toD,a16,b2j];rfl⟩
  ·cases h
 case convert src dst x =>
  simp only [P3] at h
  obtain ⟨v,h,hd⟩:=d2i h
  exact ⟨_,_,_,h,by simp only [q7,m9,l7,hd];rfl⟩
 case makeInterface t x =>
  simp only [P3] at h
  split at h
  ·cases h
  ·rename_i u h1 hu
   refine ⟨_,_,_,h,?_⟩
   simp only [m9,l7,hu,s9,toD]
   cases u <;> first | rfl | exact (h1 _ rfl).elim
  ·cases h
 case makeFunc fn first captured =>
  simp only [P3] at h
  exact ⟨_,_,_,h,by simp only [q7,m9,c4e,s9,toD,A9];rfl⟩
 case makeSlice t l c =>
  simp only [P3] at h
  obtain ⟨v,ws,rs,h,hd⟩:=d2k h
  exact ⟨v,ws,rs,h,by simp only [m9,l7,hd]⟩
 case slice t x lo hi mx =>
  simp only [P3] at h
  obtain ⟨v,h,hd⟩:=c67 h
  exact ⟨_,_,_,h,by simp only [q7,m9,l7,hd];rfl⟩
 case fieldAddr t x f=>exact c1e h
 case field t x f=>exact d55 h
 case indexAddr t x i=>exact c1f h
 case index t x i =>
  simp only [P3] at h
  split at h
  ·rename_i hu
   obtain ⟨l,c,hx,h⟩:=Z2 h
   obtain ⟨_,k,hi,h⟩:=M8 h
   obtain ⟨h0,h⟩:=B3 h
   have h0:(band (iLe 0 k) (iLt k (l:Int)))=true:=h0
   rw [CfI] at h
   have g:0≤k∧k < (l:Int):=by simpa [K6,V2,Z8] using h0
   have g2:0≤k∧k < ((k6 l c).length:Int):=by rw [Q2];exact g
   refine ⟨_,_,_,h,?_⟩
   simp only [q7,m9,hu,l7,hx,hi,D0,decide_eq_true g2,toD,D2]
   rw [c9d (show k.toNat < l by omega)]
   rfl
  ·cases h
 case extract x i =>
  simp only [P3] at h
  split at h
  ·rename_i vs hx
   cases hb:Nat.blt i vs.length with
   | false=>rw [hb] at h;cases h
   | true =>
    rw [hb] at h
    have hl:i < vs.length:=by simpa [Nat.blt_eq] using hb
    refine ⟨_,_,_,h,?_⟩
    rw [a2k,List.getD_eq_getElem?_getD,List.getElem?_eq_getElem hl]
    simp only [q7,m9,l7,hx,toD,A9,List.getElem?_map,List.getElem?_eq_getElem hl,Option.map_some,s9,Option.getD_some]
    rfl
  ·cases h
 case call c =>
  obtain ⟨callee,args,ts⟩:=c
  cases callee with
  | builtin b=>exact c66 h
  | value f=>cases h
  | invoke x m=>cases h
 all_goals cases h
end

section
variable {f:Nat→Option Nat}
theorem map_toD {g:V→V} {h:D→D} (e:∀ v,toD (g v)=h (toD v)) (l:List V):(l.map g).map toD=(l.map toD).map h:=by
 rw [List.map_map,List.map_map];exact List.map_congr_left fun v _=>e v
theorem c4y (v:V):toD (U6 f v)=O9 f (toD v):=by
 cases v
 case slice t n off len c=>cases c <;> simp only [U6,toD,O9]
 case q x=>simp only [U6,toD];exact (V7 f x 0).symm
 case ptr id off=>simp only [U6,toD,O9];cases f id <;> simp only [toD]
 all_goals simp only [U6,toD,O9]
theorem b4o (x:Q) (i:Nat):a7i f (den x i)=den x i:=by
 have h1:=K8 x i
 have h2:=V7 f x i
 cases hd:den x i <;> rw [hd] at h1 h2 <;> first | exact h2 | (cases h1;done) | (exfalso;simp [O9] at h2;done)
theorem c4z (v:V):toD (Y7 f v)=a7i f (toD v):=by
 cases v
 case func fn fs cs=>simp only [Y7,toD,a7i,A9,map_toD (fun v=>c4y (f:=f) v)]
 case q x=>simp only [Y7,U6,toD];exact (b4o x 0).symm
 all_goals (simp only [Y7];rw [c4y];simp only [toD,a7i])
theorem a9m (v:V):toD (U7 f v)=a5p f (toD v):=by
 cases v
 case agg cs=>simp only [U7,toD,a5p,A9,map_toD (fun v=>c4z (f:=f) v)]
 case a x m =>
  simp only [U7,toD,a5p]
  congr 1
  rw [J3,List.map_map]
  exact List.map_congr_left fun i _=>(b4o x i).symm
 case q x =>
  simp only [U7,Y7,U6,toD]
  have h1:=K8 x 0
  have h2:=b4o (f:=f) x 0
  cases hd:den x 0 <;> rw [hd] at h1 h2 <;> first | exact h2.symm | cases h1
 all_goals (simp only [U7];rw [c4z];simp only [toD,a5p])
theorem a00 (v:V):toD (U8 f v)=renI f (toD v):=by
 cases v
 case iface t v=>simp only [U8,toD,renI,a9m]
 case q x=>simp only [U8,U7,Y7,U6,toD];exact (a2n f x 0).symm
 all_goals (simp only [U8];rw [a9m];simp only [toD,renI])
theorem a8b (v:V):toD (a01 f v)=ren f (toD v):=by
 cases v
 case tuple vs=>simp only [a01,toD,ren,A9,map_toD (fun v=>a00 (f:=f) v)]
 case q x =>
  simp only [a01,U8,U7,Y7,U6,toD]
  have h1:=K8 x 0
  have h2:=a2n f x 0
  cases hd:den x 0 <;> rw [hd] at h1 h2 <;> first | exact h2.symm | cases h1
 all_goals (simp only [a01];rw [a00];simp only [toD,ren])
end

def N3:Bx→Bool
 | .cells _ | .opa _ _ | .row _ _=>true
 | _=>false
def E5:Bx→List D
 | .cells cs=>cs.map toD
 | .opa x m=>n7 (den x) 0 m
 | .row t len=>rows (u2 t) 1 0 len
 | _=>[]
theorem a2c {b:Bx} (h:N3 b=true):z8 b=.cells (E5 b):=by cases b <;> first | rfl | cases h
def a0z (f:Nat→Option Nat):Bx→Bx
 | .cells cs=>.cells (cs.map (U8 f))
 | b=>b
theorem b4s (f:Nat→Option Nat) (t:i7 Q):∀ (n m off:Nat),(rows (u2 t) n off m).map (renI f)=rows (u2 t) n off m
 | _,0,_=>rfl
 | n,m+1,off=>by
  simp only [rows,List.map_append,b4s f t n m]
  congr 1
  rw [V4]
  exact Y4 f _ n 0
theorem b2u (f:Nat→Option Nat) {b:Bx}:E5 (a0z f b)=(E5 b).map (renI f):=by
 cases b <;> simp only [a0z,E5]
 ·exact map_toD (fun v=>a00 v) _
 ·exact (Y4 f _ _ 0).symm
 ·rfl
 ·exact (b4s f _ 1 _ 0).symm
 ·rfl
 ·rfl
theorem c86 (f:Nat→Option Nat) {b:Bx}:N3 (a0z f b)=N3 b:=by cases b <;> rfl

/- What is kept of a state. -/
def U9 (f:Nat→Option Nat):V→V
 | .slice t n off len (.tok id)=>match f id with
  | some j=>.slice t n off len (.tok j)
  | none=>.slice t n off len .no
 | .slice t n off len .exact=>.slice t n off len .exact
 | .bslice id l=>match f id with
  | some j=>.bslice j l
  | none=>.junk
 | .agg cs=>U7 f (.agg cs)
 | .a x m=>.a x m
 | .tuple ds=>.tuple (ds.map (U8 f))
 | d=>U8 f d
theorem b4p (f:Nat→Option Nat) (v:V):toD (U9 f v)=P0 f (toD v):=by
 cases v
 case slice t n off len c =>
  cases c with
  | no=>simp only [U9,U8,U7,Y7,U6,toD,P0,renI,a5p,a7i,O9]
  | exact=>simp only [U9,toD,P0]
  | tok id=>simp only [U9,toD,P0];cases f id <;> simp only [toD]
  | fr z=>simp only [U9,U8,U7,Y7,U6,toD,P0,renI,a5p,a7i,O9]
 case bslice id l=>simp only [U9,toD,P0];cases f id <;> simp only [toD]
 case agg cs=>simp only [U9];rw [a9m];simp only [toD,P0]
 case a x m =>
  have:=a9m (f:=f) (.a x m)
  simp only [U7,toD] at this
  simp only [U9,toD,P0]
  exact this
 case tuple ds=>simp only [U9,toD,P0,A9,map_toD (fun v=>a00 (f:=f) v)]
 case q x =>
  simp only [U9,U8,U7,Y7,U6,toD]
  have h1:=K8 x 0
  have h2:=a2n f x 0
  have h3:=V7 f x 0
  cases hd:den x 0 <;> rw [hd] at h1 h2 h3 <;> first | exact h2.symm | cases h1 | skip
  all_goals (rename_i c;cases c <;> first | rfl | (simp only [O9] at h3;cases h3))
 all_goals (simp only [U9];rw [a00];simp only [toD,P0])
def b4c (f:Nat→Option Nat):Bx→Bx
 | .cells cs=>.cells (cs.map (U9 f))
 | b=>b
theorem c40 (f:Nat→Option Nat) (x:Q) (i:Nat):P0 f (den x i)=den x i:=by
 have h1:=K8 x i
 have h2:=a2n f x i
 have h3:=V7 f x i
 cases hd:den x i <;> rw [hd] at h1 h2 h3 <;> first | exact h2 | cases h1 | skip
 all_goals (rename_i c;cases c <;> first | rfl | (simp only [O9] at h3;cases h3))
theorem c6a (f:Nat→Option Nat) (b:Bx):z8 (b4c f b)=a4y f (z8 b):=by
 cases b <;> simp only [b4c,z8,a4y]
 ·rw [map_toD (fun v=>b4p f v)]
 ·congr 1;rw [J3,List.map_map];exact List.map_congr_left fun i _=>(c40 f _ i).symm
 ·congr 1
  rename_i t len
  have:∀ (m off:Nat),(rows (u2 t) 1 off m).map (P0 f)=rows (u2 t) 1 off m:=by
   intro m
   induction m with
   | zero=>intro _;rfl
   | succ m ih =>
    intro off
    simp only [rows,List.map_append,ih]
    congr 1
    rw [V4,J3,List.map_map]
    exact List.map_congr_left fun i _=>c40 f _ i
  exact (this len 0).symm
def b4l:V→Option Nat
 | .ptr id _=>some id
 | _=>none
theorem a78 (x:Q) (i:Nat):pid (den x i)=none∧a9i (den x i)=[]∧a6l (den x i)=[]:=by
 have h1:=K8 x i
 have h3:=V7 W3 x i
 cases hd:den x i <;> rw [hd] at h1 h3 <;> first | exact ⟨rfl,rfl,rfl⟩ | cases h1 | (simp only [O9,W3] at h3;cases h3) | skip
 all_goals (rename_i c;cases c <;> first | exact ⟨rfl,rfl,rfl⟩ | (simp only [O9] at h3;cases h3))
theorem e4e (v:V):b4l v=pid (toD v):=by
 cases v <;> simp only [b4l,toD,pid]
 exact (a78 _ 0).1.symm
theorem a6h (l:List V):l.filterMap b4l=(l.map toD).filterMap pid:=by
 rw [List.filterMap_map];congr 1;funext v;exact e4e v
def b6k:V→List Nat
 | .ptr id _=>[id]
 | .func _ fs cs=>fs.filterMap b4l ++ cs.filterMap b4l
 | _=>[]
theorem d8c (v:V):b6k v=a9i (toD v):=by
 cases v <;> simp only [b6k,toD,a9i]
 ·exact (a78 _ 0).2.1.symm
 ·rw [A9,A9,a6h,a6h]
def b2t:V→List Nat
 | .ptr id _=>[id]
 | .slice _ _ _ _ (.tok id)=>[id]
 | .bslice id _=>[id]
 | .func _ fs cs=>fs.filterMap b4l ++ cs.filterMap b4l
 | _=>[]
theorem c4w (v:V):b2t v=a6l (toD v):=by
 cases v <;> simp only [b2t,toD,a6l]
 ·rename_i c;cases c <;> rfl
 ·exact (a78 _ 0).2.2.symm
 ·rw [A9,A9,a6h,a6h]
def a9o (n0:Nat) (ks:List Nat) (s:w9):List Nat :=
 let a:=b0o (List.range n0) (ks.flatMap fun i=>b2t (M7 s.tmps i))
 b0o a (a.flatMap fun id=>match N8 s.heap id with
  | .cells ds=>ds.flatMap b2t
  | _=>[])
theorem a2h {α β:Type} {f:α→List β}:∀ (l:List α),(∀ x ∈ l,f x=[])→l.flatMap f=[]
 | [],_=>rfl
 | x :: l,h=>by rw [List.flatMap_cons,h x List.mem_cons_self,a2h l fun y hy=>h y (List.mem_cons_of_mem _ hy)];rfl
theorem a3f (s:w9) (i:Nat):(l8 s).tmps.getD i .junk=toD (M7 s.tmps i):=l7 s (.tmp i)
theorem b9n (s:w9) (i:Nat):(l8 s).heap.getD i .dead=z8 (N8 s.heap i):=by
 rw [a2j,List.getD_eq_getElem?_getD,List.getD_eq_getElem?_getD,c0t]
 cases s.heap[i]? <;> rfl
theorem b3l (n0:Nat) (ks:List Nat) (s:w9):a9o n0 ks s=a8d n0 ks (l8 s):=by
 unfold a9o a8d
 have e1:(ks.flatMap fun i=>b2t (M7 s.tmps i))=ks.flatMap fun i=>a6l ((l8 s).tmps.getD i .junk):=by
  congr 1;funext i;rw [a3f,c4w]
 have e2:(fun id=>match N8 s.heap id with | .cells ds=>ds.flatMap b2t | _=>[])=fun id=>match (l8 s).heap.getD id .dead with | .cells ds=>ds.flatMap a6l | _=>[]:=by
  funext id
  rw [b9n]
  cases N8 s.heap id <;> simp only [z8]
  ·rw [List.flatMap_map];congr 1;funext v;exact c4w v
  ·rw [J3,List.flatMap_map];exact (a2h _ fun i _=>(a78 _ i).2.2).symm
  ·rename_i t len
   have:∀ (m off:Nat),(rows (u2 t) 1 off m).flatMap a6l=[]:=by
    intro m
    induction m with
    | zero=>intro _;rfl
    | succ m ih=>intro off;simp only [rows,List.flatMap_append,ih,List.append_nil];rw [V4,J3,List.flatMap_map];exact a2h _ fun i _=>(a78 _ i).2.2
   exact (this len 0).symm
 simp only [e1,e2]
 rfl
def a82:V→V
 | .slice t n off len _=>.slice t n off len .no
 | v=>v
theorem b3a (v:V):toD (a82 v)=a04 (toD v):=by
 cases v <;> simp only [a82,toD,a04]
 rename_i x
 cases hd:den x 0 <;> first | rfl | skip
 rename_i l c k
 cases Y1 x 0 l c k hd
 rfl
def V3 (ids:List Nat):List (Nat × Nat)→w9→Nat→List V × List Bx
 | [],_,_=>([],[])
 | (i,z) :: ks,s,n=>bif Nat.beq z X1 then (a82 (U9 (pos · ids) (M7 s.tmps i)) :: (V3 ids ks s n).1,(V3 ids ks s n).2) else match M7 s.tmps i,z with
  | .slice t m off l .exact,z+1=>(.slice t m off l (.tok n) :: (V3 ids ks s (n+1)).1,.tok l (z+1) :: (V3 ids ks s (n+1)).2)
  | d,_=>(U9 (pos · ids) d :: (V3 ids ks s n).1,(V3 ids ks s n).2)
theorem a6e {ids:List Nat}:∀ (ks:List (Nat × Nat)) (s:w9) (n:Nat),(V3 ids ks s n).1.map toD=(J8 ids ks (l8 s) n).1∧(V3 ids ks s n).2.map z8=(J8 ids ks (l8 s) n).2
 | [],_,_=>⟨rfl,rfl⟩
 | (i,z) :: ks,s,n=>by
  obtain ⟨h1,h2⟩:=a6e (ids:=ids) ks s n
  obtain ⟨h3,h4⟩:=a6e (ids:=ids) ks s (n+1)
  simp only [V3,J8,a3f]
  cases hf:Nat.beq z X1 with
  | true=>simp only [cond_true,List.map_cons,b3a,b4p,h1,h2,and_self]
  | false =>
  simp only [cond_false]
  generalize M7 s.tmps i=v
  have hplain:(U9 (pos · ids) v :: (V3 ids ks s n).1).map toD=P0 (pos · ids) (toD v) :: (J8 ids ks (l8 s) n).1:=by simp only [List.map_cons,b4p,h1]
  cases v
  case slice t m off l c =>
   cases c <;> cases z <;> first
    | exact ⟨hplain,h2⟩
    | (simp only [toD,List.map_cons,h3,h4,z8,and_self])
  case q x =>
   have hn:∀ l c,den x 0 ≠ .slice l c .exact:=fun l c hd=>by cases Y1 x 0 l c _ hd
   simp only [toD] at hplain ⊢
   generalize den x 0=d at hplain hn
   cases d with
   | slice l c k=>cases k <;> cases z <;> first | exact ⟨hplain,h2⟩ | exact (hn _ _ rfl).elim
   | _=>exact ⟨hplain,h2⟩
  all_goals exact ⟨hplain,h2⟩
def a9y (j c z:Nat) (h:List Bx):List Bx:=match N8 h j with
 | .cells cs=>bif Nat.blt c cs.length then bif Nat.beq z X1 then h.set j (.cells (cs.set c (a82 (M7 cs c)))) else match M7 cs c with
  | .slice t n off len .exact=>(h.set j (.cells (cs.set c (.slice t n off len (.tok h.length))))) ++ [.tok len z]
  | _=>h
  else h
 | _=>h
def b7g:List (Nat × Nat)→List Bx→List Bx
 | [],h=>h
 | (i,z) :: ks,h=>bif Nat.ble 1000000 i then b7g ks (a9y ((i - 1000000) / 1000) ((i - 1000000) % 1000) z h) else b7g ks h
theorem b1l {t:i7 Q}:∀ (m off i l:Nat) (c:List D) (k:W9),(rows (u2 t) 1 off m)[i]?=some (.slice l c k)→k=.no
 | 0,off,i,l,c,k,h=>by simp [rows] at h
 | m+1,off,0,l,c,k,h=>by
  simp only [rows,n7,List.cons_append,List.nil_append,List.getElem?_cons_zero] at h
  injection h with h
  exact b2g t off 0 l c k h
 | m+1,off,i+1,l,c,k,h=>by
  simp only [rows,n7,List.cons_append,List.nil_append,List.getElem?_cons_succ] at h
  exact b1l m (off+1) i l c k h
theorem c00 {x:Q} {m i l:Nat} {c:List D} {k:W9} (h:(n7 (den x) 0 m)[i]?=some (.slice l c k)):k=.no:=by
 rcases Nat.lt_or_ge i m with hi | hi
 ·rw [a30 _ _ _ hi] at h
  injection h with h
  exact Y1 x _ l c k h
 ·rw [List.getElem?_eq_none (by rw [C1];exact hi)] at h;cases h
theorem d7s {h:List Bx} {j:Nat}:(h.map z8)[j]?=if j < h.length then some (z8 (N8 h j)) else none:=by
 rw [a2j,List.getD_eq_getElem?_getD,List.getElem?_map]
 split
 ·rename_i hj;rw [List.getElem?_eq_getElem hj];rfl
 ·rename_i hj;rw [List.getElem?_eq_none oM];rfl
theorem c0l {α:Type} {l:List α} {i:Nat} {x:α} (h:l[i]?=some x):l.set i x=l:=by
 apply List.ext_getElem?
 intro k
 by_cases hk:i=k
 ·subst hk;rw [List.getElem?_set_self (List.getElem?_eq_some_iff.1 h).1,h]
 ·rw [List.getElem?_set_ne hk]
theorem b0f {j c z:Nat} {h:List p8} {ds:List D} (hj:h[j]?=some (.cells ds)) (hd:∀ (i l:Nat) (x:List D) (k:W9),ds[i]?=some (D.slice l x k)→k=W9.no):tokCell j c z h=h:=by
 unfold tokCell
 rw [hj]
 simp only []
 split
 ·rename_i d hc
  have e:a04 d=d:=by
   cases d with
   | slice l x k=>cases hd c l x k hc;rfl
   | _=>rfl
  cases Nat.beq z X1 with
  | true =>
   simp only [cond_true]
   rw [e,c0l hc,c0l hj]
  | false =>
   simp only [cond_false]
   split
   ·cases hd c _ _ _ hc
   ·rfl
 ·rfl
theorem c62 (j c z:Nat) (h:List Bx):(a9y j c z h).map z8=tokCell j c z (h.map z8):=by
 rcases Nat.lt_or_ge j h.length with hj | hj
 ·have hg:(h.map z8)[j]?=some (z8 (N8 h j)):=by rw [d7s,if_pos hj]
  unfold a9y
  generalize hb:N8 h j=b at hg
  cases b with
  | cells cs =>
   unfold tokCell
   rw [hg]
   simp only [z8]
   cases hc:Nat.blt c cs.length with
   | true =>
    have hc':c < cs.length:=by rw [Nat.blt_eq] at hc;exact hc
    have e1:(cs.map toD)[c]?=some (toD (M7 cs c)):=by
     rw [a2k,List.getD_eq_getElem?_getD,List.getElem?_map,List.getElem?_eq_getElem hc'];rfl
    rw [e1]
    simp only [cond_true]
    cases hz:Nat.beq z X1 with
    | true=>simp only [cond_true,List.map_set,z8,b3a]
    | false =>
     simp only [cond_false]
     generalize M7 cs c=v
     cases v
     case slice t n off len k =>
      cases k <;> simp only [toD,List.map_append,List.map_set,z8,List.map_cons,List.map_nil,List.length_map]
     case q x =>
      simp only [toD]
      cases hd:den x 0 <;> first | rfl | skip
      rename_i l d k
      cases Y1 x 0 l d k hd
      rfl
     all_goals simp only [toD]
   | false =>
    have hc':cs.length≤c:=by
     rcases Nat.lt_or_ge c cs.length with h1 | h1
     ·have:Nat.blt c cs.length=true:=by rw [Nat.blt_eq];exact h1
      rw [hc] at this;cases this
     ·exact h1
    have e1:(cs.map toD)[c]?=none:=List.getElem?_eq_none (by simpa using hc')
    rw [e1]
    rfl
  | opa x m=>exact (b0f hg (fun i l d k hd=>c00 hd)).symm
  | row t len=>exact (b0f hg (fun i l d k hd=>b1l _ _ _ _ _ _ hd)).symm
  | _=>unfold tokCell;rw [hg];rfl
 ·have e2:N8 h j=.dead:=by rw [a2j,List.getD_eq_getElem?_getD,List.getElem?_eq_none hj];rfl
  have hg:(h.map z8)[j]?=none:=List.getElem?_eq_none (by simpa using hj)
  unfold a9y tokCell
  rw [e2,hg]
theorem b4x:∀ (ks:List (Nat × Nat)) (h:List Bx),(b7g ks h).map z8=tokB ks (h.map z8)
 | [],h=>rfl
 | (i,z) :: ks,h=>by
  simp only [b7g,tokB]
  cases Nat.ble 1000000 i with
  | true=>simp only [cond_true];rw [b4x,c62]
  | false=>simp only [cond_false];rw [b4x]
def a5h (n0:Nat) (ks:List (Nat × Nat)) (s:w9):List V × List Bx :=
 let ids:=a9o n0 (b1k ks) s
 ((V3 ids ks s ids.length).1,b7g ks ((ids.map fun id=>b4c (pos · ids) (N8 s.heap id)) ++ (V3 ids ks s ids.length).2))
theorem b7z (n0:Nat) (ks:List (Nat × Nat)) (s:w9):gcV n0 ks (l8 s)=((a5h n0 ks s).1.map toD,(a5h n0 ks s).2.map z8):=by
 unfold gcV a5h
 simp only [b3l,b4x,List.map_append,(a6e _ _ _).1,(a6e _ _ _).2,List.map_map]
 congr 3
 exact List.map_congr_left fun id _=>by simp only [Function.comp,c6a,b9n]
def a38 (n0 n:Nat) (ks:List (Nat × Nat)) (s:w9):Bool:=b6c n0 (a9o n0 (b1k ks) s) && Nat.beq s.tmps.length n && decide (ks.map (·.1)).Nodup
theorem b4h (n0 n:Nat) (ks:List (Nat × Nat)) (s:w9):a38 n0 n ks s=a9g n0 n ks (l8 s):=by
 unfold a38 a9g;rw [b3l];simp only [l8,List.length_map]
def c7w (n:Nat) (ks:List Nat) (vs:List V):List V:=(List.range n).map fun i=>match pos i ks with
 | some j=>M7 vs j
 | none=>.junk
def b21 (n:Nat) (ks:List (Nat × Nat)) (vs:List V) (bs:List Bx):w9:={ tmps:=c7w n (ks.map (·.1)) vs,heap:=bs }
theorem c5f (n:Nat) (ks:List (Nat × Nat)) (vs:List V) (bs:List Bx):l8 (b21 n ks vs bs)=a7m n ks (vs.map toD,bs.map z8):=by
 unfold b21 a7m l8 c7w c2z
 simp only [List.map_map]
 congr 1
 refine List.map_congr_left fun i _=>?_
 simp only [Function.comp]
 cases pos i (ks.map (·.1)) with
 | none=>simp only [toD]
 | some j =>
  simp only []
  rw [a2k,List.getD_eq_getElem?_getD,List.getD_eq_getElem?_getD,List.getElem?_map]
  cases vs[j]? <;> simp [toD]

abbrev C5:=List V→List Bx→Om
def b1j:J7→V1
 | .ret v=>.ret (toD v)
 | .pan v=>.pan (toD v)
def L4 (X:Pr) (g:FuncId) (F:C5):Prop:=∀ (vs:List V) (bs:List Bx) (x:J7) (bs':List Bx),F vs bs=some (x,bs')→bs.all N3=true →
 CM X.P X.G g (vs.map toD) (bs.map E5) (b1j x) (bs'.map E5)
theorem CM.pan_any {P:Program} {G:b0k} {f:FuncId} {ds:List D} {hs hs' hs2:List (List D)} {d:D} (h:CM P G f ds hs (.pan d) hs'):CM P G f ds hs (.pan d) hs2:=h
def c73:p8→Bool
 | .cells _=>true
 | _=>false
theorem d6m (b:Bx):N3 b=c73 (z8 b):=by cases b <;> rfl
theorem b84 {a b:List Bx} (h:a.map z8=b.map z8) (ha:a.all N3=true):b.all N3=true:=by
 have e:∀ l:List Bx,l.all N3=(l.map z8).all c73:=fun l=>by rw [List.all_map];congr 1;funext b;exact d6m b
 rw [e,← h,← e];exact ha
mutual
def eqQ:Q→Q→Bool
 | .bool a,.bool b=>bsel a b (bnot b)
 | .int k a,.int k' b=>cond (ikEq k k') (iEq a b) false
 | .str l c,.str l' c'=>cond (Nat.beq l l') (Nat.beq c c') false
 | .slice t n o l,.slice t' n' o' l'=>cond (Nat.beq n n') (cond (Nat.beq o o') (cond (Nat.beq l l') (eqT t t') false) false) false
 | .nilp,.nilp=>true
 | .nilIface,.nilIface=>true
 | .agg cs o,.agg cs' o'=>cond (Nat.beq o o') (c2y cs cs') false
 | .aggt t o,.aggt t' o'=>cond (Nat.beq o o') (eqT t t') false
 | .no,.no=>true
 | _,_=>false
def eqT:i7 Q→i7 Q→Bool
 | .nil,.nil=>true
 | .node v l r,.node v' l' r'=>cond (eqQ v v') (cond (eqT l l') (eqT r r') false) false
 | _,_=>false
def c2y:List Q→List Q→Bool
 | [],[]=>true
 | x :: xs,y :: ys=>cond (eqQ x y) (c2y xs ys) false
 | _,_=>false
end
theorem t7 {a b:Bool} (h:cond a b false=true):a=true∧b=true:=by cases a <;> simp_all
theorem b87 {a b:Bool} (h:bsel a b (bnot b)=true):a=b:=by cases a <;> cases b <;> first | rfl | cases h
theorem c29 {a b:Int} (h:iEq a b=true):a=b:=by rw [Q3] at h;simpa using h
mutual
theorem b5g:∀ {a b:Q},eqQ a b=true→a=b
 | .bool a,b,h=>by cases b <;> simp only [eqQ] at h <;> first | (rw [b87 h]) | cases h
 | .int k a,b,h=>by
  cases b <;> simp only [eqQ] at h <;> first | cases h | skip
  obtain ⟨h1,h2⟩:=t7 h
  rw [a7z h1,c29 h2]
 | .str l c,b,h=>by
  cases b <;> simp only [eqQ] at h <;> first | cases h | skip
  obtain ⟨h1,h2⟩:=t7 h
  rw [Nat.eq_of_beq_eq_true h1,Nat.eq_of_beq_eq_true h2]
 | .slice t n o l,b,h=>by
  cases b <;> simp only [eqQ] at h <;> first | cases h | skip
  obtain ⟨h1,h⟩:=t7 h
  obtain ⟨h2,h⟩:=t7 h
  obtain ⟨h3,h⟩:=t7 h
  rw [Nat.eq_of_beq_eq_true h1,Nat.eq_of_beq_eq_true h2,Nat.eq_of_beq_eq_true h3,b0z h]
 | .nilp,b,h=>by cases b <;> simp only [eqQ] at h <;> first | rfl | cases h
 | .nilIface,b,h=>by cases b <;> simp only [eqQ] at h <;> first | rfl | cases h
 | .agg cs o,b,h=>by
  cases b <;> simp only [eqQ] at h <;> first | cases h | skip
  obtain ⟨h1,h⟩:=t7 h
  rw [Nat.eq_of_beq_eq_true h1,c7s h]
 | .aggt t o,b,h=>by
  cases b <;> simp only [eqQ] at h <;> first | cases h | skip
  obtain ⟨h1,h⟩:=t7 h
  rw [Nat.eq_of_beq_eq_true h1,b0z h]
 | .no,b,h=>by cases b <;> simp only [eqQ] at h <;> first | rfl | cases h
theorem b0z:∀ {a b:i7 Q},eqT a b=true→a=b
 | .nil,b,h=>by cases b <;> simp only [eqT] at h <;> first | rfl | cases h
 | .node v l r,b,h=>by
  cases b <;> simp only [eqT] at h <;> first | cases h | skip
  obtain ⟨h1,h⟩:=t7 h
  obtain ⟨h2,h⟩:=t7 h
  rw [b5g h1,b0z h2,b0z h]
theorem c7s:∀ {a b:List Q},c2y a b=true→a=b
 | [],b,h=>by cases b <;> simp only [c2y] at h <;> first | rfl | cases h
 | x :: xs,b,h=>by
  cases b <;> simp only [c2y] at h <;> first | cases h | skip
  obtain ⟨h1,h⟩:=t7 h
  rw [b5g h1,c7s h]
end
def c1l:W9→Bool
 | .no=>true
 | _=>false
def d4v:V→Bool
 | .bool _ | .known _ | .int _ _ | .str _ _ | .q _ | .nilp | .nilIface=>true
 | .slice _ _ _ _ c=>c1l c
 | _=>false
def d1s:V→V→Bool
 | .bool a,.bool b=>bsel a b (bnot b)
 | .int k a,.int k' b=>cond (ikEq k k') (iEq a b) false
 | .str l c,.str l' c'=>cond (Nat.beq l l') (Nat.beq c c') false
 | .slice t n o l c,.slice t' n' o' l' c'=>cond (c1l c) (cond (c1l c') (cond (Nat.beq n n') (cond (Nat.beq o o') (cond (Nat.beq l l') (eqT t t') false) false) false) false) false
 | .q x,.q y=>eqQ x y
 | .nilp,.nilp=>true
 | .nilIface,.nilIface=>true
 | _,_=>false
theorem c2d {c:W9} (h:c1l c=true):c=.no:=by cases c <;> first | rfl | cases h
theorem d94 {a b:V} (h:d1s a b=true):a=b:=by
 unfold d1s at h
 split at h <;> first | rfl | cases h | skip
 ·rw [b87 h]
 ·obtain ⟨h1,h2⟩:=t7 h;rw [a7z h1,c29 h2]
 ·obtain ⟨h1,h2⟩:=t7 h;rw [Nat.eq_of_beq_eq_true h1,Nat.eq_of_beq_eq_true h2]
 ·obtain ⟨g1,h⟩:=t7 h
  obtain ⟨g2,h⟩:=t7 h
  obtain ⟨h1,h⟩:=t7 h
  obtain ⟨h2,h⟩:=t7 h
  obtain ⟨h3,h⟩:=t7 h
  rw [c2d g1,c2d g2,Nat.eq_of_beq_eq_true h1,Nat.eq_of_beq_eq_true h2,Nat.eq_of_beq_eq_true h3,b0z h]
 ·rw [b5g h]
def b1r:List V→List V→Bool
 | [],[]=>true
 | x :: xs,y :: ys=>cond (d1s x y) (b1r xs ys) false
 | _,_=>false
theorem c0j:∀ {a b:List V},b1r a b=true→a=b
 | [],b,h=>by cases b <;> simp only [b1r] at h <;> first | rfl | cases h
 | x :: xs,b,h=>by
  cases b <;> simp only [b1r] at h <;> first | cases h | skip
  obtain ⟨h1,h⟩:=t7 h
  rw [d94 h1,c0j h]
def eqB:Bx→Bx→Bool
 | .cells a,.cells b=>b1r a b
 | .opa x m,.opa y n=>cond (Nat.beq m n) (eqQ x y) false
 | _,_=>false
theorem e7a {a b:Bx} (h:eqB a b=true):a=b:=by
 unfold eqB at h
 split at h <;> first | cases h | skip
 ·rw [c0j h]
 ·obtain ⟨h1,h⟩:=t7 h;rw [Nat.eq_of_beq_eq_true h1,b5g h]
def b37:List Bx→List Bx→Bool
 | [],[]=>true
 | x :: xs,y :: ys=>cond (eqB x y) (b37 xs ys) false
 | _,_=>false
theorem c7r:∀ {a b:List Bx},b37 a b=true→a=b
 | [],b,h=>by cases b <;> simp only [b37] at h <;> first | rfl | cases h
 | x :: xs,b,h=>by
  cases b <;> simp only [b37] at h <;> first | cases h | skip
  obtain ⟨h1,h⟩:=t7 h
  rw [e7a h1,c7r h]
def same (a b:List Bx) (x:Om):Om:=cond (b37 a b) x none
def c4n:Bx→Bool
 | .cells cs=>cs.all d4v
 | .opa _ _=>true
 | _=>false
theorem d1g (f:Nat→Option Nat) {v:V} (h:d4v v=true):renI f (toD v)=toD v:=by
 rw [← a00]
 cases v <;> first | rfl | cases h | skip
 rename_i c
 cases c <;> first | rfl | cases h
theorem b6l (f:Nat→Option Nat) {b:Bx} (h:c4n b=true):(E5 b).map (renI f)=E5 b:=by
 cases b <;> first | cases h | skip
 ·rename_i cs
  simp only [E5,List.map_map]
  refine List.map_congr_left fun v hv=>d1g f (List.all_eq_true.1 h v hv)
 ·exact Y4 f _ _ 0
abbrev R9:=FuncId→List Bx→V→List Bx→(V→Option (List Bx)→Om)→Om
def a28 (cr:R9):Prop:=∀ (g:FuncId) (bs0:List Bx) (v:V) (bs:List Bx) (K:V→Option (List Bx)→Om) (r:R),cr g bs0 v bs K=some r →
 (∃ v' bs',toD v'=toD v∧bs'.map z8=bs.map z8∧K v' (some bs')=some r)∨(∃ v',toD v'=toD v∧bs=bs0∧K v' none=some r)
def w9.lay (s:w9) (ws:List (Nat × Bx)):w9:={ s with heap:=ws.foldl (fun h x=>h.set x.1 x.2) s.heap }
def w9.put (s:w9) (dst:Option Tmp) (v:V):w9:=match dst with
 | some t=>{ s with tmps:=s.tmps.set t v }
 | none=>s
theorem a2p (s:w9) (dst:Option Tmp) (v:V):l8 (s.put dst v)=(l8 s).put dst (toD v):=by
 cases dst with
 | none=>rfl
 | some t=>simp only [w9.put,l8,St.put,List.map_set]
theorem b4w (s:w9) (ws:List (Nat × Bx)):l8 (s.lay ws)=(l8 s).lay (B8 ws):=by
 unfold w9.lay St.lay B8 l8
 simp only []
 congr 1
 rw [List.foldl_map]
 generalize s.heap=h
 induction ws generalizing h with
 | nil=>rfl
 | cons x ws ih=>simp only [List.foldl_cons];rw [ih,List.map_set]

def b7y (C:Comb):w9→List V→(List V→List Nat→Om)→Om
 | _,[],K=>K [] []
 | s,.bslice id len :: vs,K=>match N8 s.heap id with
  | .row t len'=>C.chk (C.nEq len len') (b7y C { s with heap:=s.heap.set id .dead } vs fun vs' ks=>K (.slice t 1 0 len .no :: vs') (id :: ks))
  | _=>none
 | s,v :: vs,K=>b7y C s vs fun vs' ks=>K (v :: vs') ks
def a7s (h:List Bx):List Nat→Option (List Bx)
 | []=>some []
 | id :: ids=>bif N3 (N8 h id) then (a7s h ids).map (N8 h id :: ·) else none
def b2q (ids:List Nat) (bs:List Bx):List (Nat × Bx):=(ids.zip bs).map fun p=>(p.1,a0z (ids[·]?) p.2)
def a40:V→V
 | .slice t n off len (.fr _)=>.slice t n off len .no
 | v=>v
def b6h (nid:Nat):List V→Option (List V × List (Nat × Bx))
 | []=>some ([],[])
 | v :: vs=>match v with
  | .slice t n off len (.fr z)=>bif Nat.beq n z then some (.slice t n off len (.tok nid) :: vs.map a40,[(nid,.tok len z)]) else none
  | v=>(b6h nid vs).map fun p=>(v :: p.1,p.2)
def d8b (nid:Nat):V→Option (V × List (Nat × Bx))
 | .tuple vs=>(b6h nid vs).map fun p=>(.tuple p.1,p.2)
 | .slice t n off len (.fr z)=>bif Nat.beq n z then some (.slice t n off len (.tok nid),[(nid,.tok len z)]) else none
 | v=>some (v,[])
def c1r (s:w9) (nid:Nat) (v:V) (ws:List (Nat × Bx)) (rs:List Nat) (K:KV):Om :=
 match d8b nid v with
 | some (v',[])=>K v' ws rs
 | some (v',x :: xs)=>cond (a05 (s.lay ws) nid) (K v' (ws ++ x :: xs) (nid :: rs)) none
 | none=>none
def e2g (C:Comb) (fn:FuncId→C5) (cr:R9) (s:w9) (nid:Nat) (g:FuncId) (vs:List V) (K:KV) (Kp:V→List Nat→Om):Om :=
 b7y C s vs fun vs' ks =>
  let ids:=U3 (vs'.flatMap b6k)
  match a7s (s.lay (ks.map fun k=>(k,.dead))).heap ids with
  | some bs=>C.bind (fn g (vs'.map (a01 (pos · ids))) (bs.map (a0z (pos · ids))))
    (fun v bs'=>cr g (bs.map (a0z (pos · ids))) v bs' fun v o=>match o with
     | some bs'=>bif Nat.beq bs'.length ids.length && bs'.all N3 then c1r s nid (a01 (ids[·]?) v) ((ks.map fun k=>(k,Bx.dead)) ++ b2q ids bs') (ids ++ ks) K else none
     | none=>bif bs.all c4n then c1r s nid (a01 (ids[·]?) v) (ks.map fun k=>(k,Bx.dead)) (ids ++ ks) K else none) (fun v=>Kp (C.rn0 v) (ids ++ ks))
  | none=>none

section
variable {X:Pr} {r:R}
theorem a6w {h:List Bx}:∀ {ids:List Nat} {bs:List Bx},a7s h ids=some bs→P7 (h.map z8) ids=some (bs.map E5)∧bs.all N3=true∧bs.length=ids.length
 | [],bs,hb=>by simp only [a7s] at hb;injection hb with hb;subst hb;exact ⟨rfl,rfl,rfl⟩
 | id :: ids,bs,hb=>by
  simp only [a7s] at hb
  cases ho:N3 (N8 h id) with
  | false=>rw [ho] at hb;cases hb
  | true =>
   rw [ho] at hb
   obtain ⟨bs',h1,rfl⟩:=Option.map_eq_some_iff.1 hb
   obtain ⟨h2,h3,h4⟩:=a6w h1
   have e:(h.map z8)[id]?=some (.cells (E5 (N8 h id))):=by
    rw [← a2c ho,List.getElem?_map,a2j,List.getD_eq_getElem?_getD]
    cases hi:h[id]? with
    | none=>rw [a2j,List.getD_eq_getElem?_getD,hi] at ho;cases ho
    | some x=>rfl
   refine ⟨?_,by simp only [List.all_cons,ho,h3,Bool.and_self],by simp [h4]⟩
   simp only [P7,e,h2,Option.map_some,List.map_cons]
theorem b03:∀ {vs:List V} {s:w9} {K:List V→List Nat→Om},b7y CR s vs K=some r→∃ vs' ks,K vs' ks=some r∧frz (l8 s) (vs.map toD)=some (vs'.map toD,ks)
 | [],s,K,h=>⟨[],[],h,rfl⟩
 | v :: vs,s,K,h=>by
  by_cases hb:∃ id len,v=.bslice id len
  ·obtain ⟨id,len,rfl⟩:=hb
   simp only [b7y] at h
   split at h
   ·rename_i t len' hbx
    obtain ⟨h0,h'⟩:=B3 h
    have h0:(Nat.beq len len')=true:=h0
    have he:=Nat.eq_of_beq_eq_true h0
    subst he
    obtain ⟨vs',ks,h,hf⟩:=b03 h'
    have hh:=T3 hbx (by simp)
    refine ⟨_,_,h,?_⟩
    have e:l8 { s with heap:=s.heap.set id .dead }={ l8 s with heap:=(l8 s).heap.set id .dead }:=by simp only [l8,List.map_set,z8]
    rw [e] at hf
    simp only [List.map_cons,toD,frz,hh,z8,hf,Option.map_some,b4s]
   ·cases h
  ·have h':b7y CR s vs (fun vs' ks=>K (v :: vs') ks)=some r:=by
    rw [← h]
    cases v <;> first | rfl | exact absurd ⟨_,_,rfl⟩ hb
   obtain ⟨vs',ks,h',hf⟩:=b03 h'
   refine ⟨_,_,h',?_⟩
   have hd:¬∃ id len,toD v=.bslice id len:=by
    rintro ⟨id,len,hd⟩
    cases v <;> simp only [toD] at hd <;> first | (cases hd;done) | skip
    ·have h3:=congrArg (O9 W3) hd;rw [V7,hd] at h3;simp only [O9] at h3;cases h3
    ·exact hb ⟨_,_,rfl⟩
   simp only [List.map_cons]
   have e:frz (l8 s) (toD v :: vs.map toD)=(frz (l8 s) (vs.map toD)).map fun p=>(toD v :: p.1,p.2):=by
    cases hv:toD v <;> first | rfl | exact absurd ⟨_,_,hv⟩ hd
   rw [e,hf]
   rfl
theorem d1i {ids:List Nat} {bs:List Bx} (h:bs.all N3=true):B8 (b2q ids bs)=a5m ids (bs.map E5):=by
 unfold b2q a5m B8
 rw [List.map_map,List.zip_map_right,List.map_map]
 refine List.map_congr_left fun p hp=>?_
 have hm:p.2 ∈ bs:=(List.of_mem_zip hp).2
 have ho:=List.all_eq_true.1 h _ hm
 simp only [Function.comp,Prod.map,id]
 rw [a2c (by rw [c86];exact ho),b2u]
theorem b69 (v:V):toD (a40 v)=a0g (toD v):=by
 cases v
 case slice t n off len c=>cases c <;> simp only [a40,toD,a0g]
 case q x =>
  simp only [a40,toD]
  have h:=V7 W3 x 0
  have h1:=K8 x 0
  cases hd:den x 0 <;> first | rfl | skip
  rename_i l c k
  cases k <;> first | rfl | skip
  exfalso
  exact c2u hd
 all_goals simp only [a40,toD,a0g]
theorem b6i {nid:Nat}:∀ {vs vs':List V} {ws:List (Nat × Bx)},b6h nid vs=some (vs',ws)→a0y nid (vs.map toD)=(vs'.map toD,B8 ws)
 | [],vs',ws,h=>by simp only [b6h] at h;injection h with h;injection h with h1 h2;subst h1 h2;rfl
 | v :: vs,vs',ws,h=>by
  simp only [b6h] at h
  split at h
  ·rename_i t n off len z
   cases hz:Nat.beq n z with
   | false=>rw [hz] at h;cases h
   | true =>
    rw [hz] at h
    injection h with h;injection h with h1 h2;subst h1 h2
    have:=Nat.eq_of_beq_eq_true hz
    subst this
    simp only [List.map_cons,toD,a0y,E4,Nat.beq_refl,cond_true,B8,z8,List.map_nil,map_toD (fun v=>b69 v)]
  ·rename_i hnf
   obtain ⟨p,hp,he⟩:=Option.map_eq_some_iff.1 h
   obtain ⟨p1,p2⟩:=p
   injection he with h1 h2;subst h1 h2
   have ih:=b6i hp
   have hnd:∀ l c z,toD v ≠ .slice l c (.fr z):=fun l c z hd=>by
    cases v <;> simp only [toD] at hd <;> first | (cases hd;done) | skip
    ·injection hd with _ _ hd;subst hd;exact hnf _ _ _ _ _ rfl
    ·exact c2u hd
   rw [List.map_cons,List.map_cons]
   unfold a0y
   split
   ·rename_i hd;exact absurd hd (hnd _ _ _)
   ·rw [ih]
theorem b94 {nid:Nat} {v v':V} {ws:List (Nat × Bx)} (h:d8b nid v=some (v',ws)):own nid (toD v)=(toD v',B8 ws):=by
 unfold d8b at h
 split at h
 ·obtain ⟨p,hp,he⟩:=Option.map_eq_some_iff.1 h
  obtain ⟨p1,p2⟩:=p
  injection he with h1 h2;subst h1 h2
  simp only [toD,own,A9,b6i hp]
 ·rename_i t n off len z
  cases hz:Nat.beq n z with
  | false=>rw [hz] at h;cases h
  | true =>
   rw [hz] at h
   injection h with h;injection h with h1 h2;subst h1 h2
   have:=Nat.eq_of_beq_eq_true hz
   subst this
   simp only [toD,own,E4,Nat.beq_refl,cond_true,B8,z8,List.map_cons,List.map_nil]
 ·rename_i h1 h2
  injection h with h;injection h with q1 q2;subst q1 q2
  unfold own
  split
  ·rename_i ds hd
   exfalso
   cases v <;> simp only [toD] at hd <;> first | (cases hd;done) | skip
   ·rename_i x;have:=K8 x 0;rw [hd] at this;cases this
   ·exact h1 _ rfl
  ·rename_i hd
   exfalso
   cases v <;> simp only [toD] at hd <;> first | (cases hd;done) | skip
   ·injection hd with _ _ hd;subst hd;exact h2 _ _ _ _ _ rfl
   ·exact c2u hd
  ·rfl
theorem b6f {s:w9} {nid:Nat} {v:V} {ws:List (Nat × Bx)} {rs:List Nat} {K:KV} (h:c1r s nid v ws rs K=some r) {K':D→List (Nat × p8)→List Nat→Prop} (hK:∀ v ws rs,K v ws rs=some r→K' (toD v) (B8 ws) rs) :
  a0x (l8 s) nid (toD v) (B8 ws) rs K':=by
 unfold c1r at h
 unfold a0x
 split at h
 ·rename_i v' ho
  rw [b94 ho]
  exact hK _ _ _ h
 ·rename_i v' x xs ho
  rw [b94 ho]
  simp only [B8,List.map_cons]
  cases hf:a05 (s.lay ws) nid with
  | false=>rw [hf] at h;cases h
  | true =>
   rw [hf] at h
   have e:C0 ((l8 s).lay (ws.map fun p=>(p.1,z8 p.2))) nid=true:=by
    have:=a6d hf
    rw [b4w] at this
    exact this
   rw [e]
   have:=hK _ _ _ h
   simp only [B8,List.map_append,List.map_cons] at this
   exact this
 ·cases h
theorem d2g {fn:FuncId→C5} {cr:R9} (htab:X.tab=[]) (hfn:∀ g,L4 X g (fn g)) (hcr:a28 cr) {s:w9} {nid:Nat} {g:FuncId} {vs:List V} {K:KV} {Kp:V→List Nat→Om} (h:e2g CR fn cr s nid g vs K Kp=some r)
  {K':D→List (Nat × p8)→List Nat→Prop} {Kp':D→List Nat→Prop} (hK:∀ v ws rs,K v ws rs=some r→K' (toD v) (B8 ws) rs) (hKp:∀ v rs,Kp v rs=some r→Kp' (toD v) rs):a0h X (l8 s) nid g (vs.map toD) K' Kp':=by
 obtain ⟨vs',ks,h,hf⟩:=b03 h
 unfold a0h
 rw [hf]
 simp only [] at h ⊢
 have eids:U3 ((vs'.map toD).flatMap a9i)=U3 (vs'.flatMap b6k):=by
  rw [List.flatMap_map];congr 2;funext v;exact (d8c v).symm
 rw [eids]
 generalize U3 (vs'.flatMap b6k)=ids at h ⊢
 have elay:(l8 s).lay (ks.map fun k=>(k,p8.dead))=l8 (s.lay (ks.map fun k=>(k,Bx.dead))):=by
  rw [b4w];congr 1;unfold B8;rw [List.map_map];rfl
 rw [elay]
 split at h
 ·rename_i bs hb
  obtain ⟨h1,h2,h3⟩:=a6w hb
  have h1':P7 (l8 (s.lay (ks.map fun k=>(k,Bx.dead)))).heap ids=some (bs.map E5):=h1
  rw [h1']
  simp only []
  have hall:(bs.map (a0z (pos · ids))).all N3=true:=by
   rw [List.all_map];rw [List.all_eq_true] at h2 ⊢;intro b hbm;simp only [Function.comp,c86];exact h2 b hbm
  have e1:(vs'.map toD).map (ren (pos · ids))=(vs'.map (a01 (pos · ids))).map toD:=(map_toD (fun v=>a8b v) vs').symm
  have e2:(bs.map E5).map (fun x=>x.map (renI (pos · ids)))=(bs.map (a0z (pos · ids))).map E5:=by
   rw [List.map_map,List.map_map];exact List.map_congr_left fun b _=>(b2u (pos · ids)).symm
  rw [e1,e2]
  unfold b2c
  rw [htab]
  simp only [a4t]
  have h:bind (fn g (vs'.map (a01 (pos · ids))) (bs.map (a0z (pos · ids)))) _ _=some r:=h
  unfold bind at h
  split at h
  ·rename_i v bs' hcall
   have hcm:=hfn g _ _ _ _ hcall hall
   rcases hcr _ _ _ _ _ _ h with ⟨v2,bs2,ev,eb,hk⟩ | ⟨v2,ev,eb,hk⟩
   ·simp only [] at hk
    cases hg:Nat.beq bs2.length ids.length && bs2.all N3 with
    | false=>rw [hg] at hk;cases hk
    | true =>
     rw [hg] at hk
     rw [Bool.and_eq_true] at hg
     have hl2:=Nat.eq_of_beq_eq_true hg.1
     have hok:=b84 eb hg.2
     have ebD:bs2.map E5=bs'.map E5:=by
      have hl:bs2.length=bs'.length:=by have:=congrArg List.length eb;simpa using this
      apply List.ext_getElem
      ·simpa using hl
      ·intro i hi1 hi2
       simp only [List.length_map] at hi1 hi2
       simp only [List.getElem_map]
       have q1:=List.all_eq_true.1 hg.2 _ (List.getElem_mem hi1)
       have q2:=List.all_eq_true.1 hok _ (List.getElem_mem hi2)
       have q3:(bs2.map z8)[i]?=(bs'.map z8)[i]?:=by rw [eb]
       rw [List.getElem?_map,List.getElem?_map,List.getElem?_eq_getElem hi1,List.getElem?_eq_getElem hi2] at q3
       simp only [Option.map_some] at q3
       injection q3 with q3
       rw [a2c q1,a2c q2] at q3
       injection q3
     refine .ret (toD v) (bs'.map E5) hcm (by rw [← ebD,List.length_map];exact hl2) ?_
     have:=b6f hk hK
     rw [a8b,ev] at this
     have e3:B8 ((ks.map fun k=>(k,Bx.dead)) ++ b2q ids bs2)=(ks.map fun k=>(k,p8.dead)) ++ a5m ids (bs'.map E5):=by
      rw [← ebD,← d1i hg.2];unfold B8;rw [List.map_append,List.map_map];rfl
     rw [e3] at this
     exact .inl this
   ·simp only [] at hk
    cases hg:bs.all c4n with
    | false=>rw [hg] at hk;cases hk
    | true =>
     rw [hg] at hk
     subst eb
     refine .ret (toD v) _ hcm (by simp [h3]) (.inr ⟨?_,?_⟩)
     ·rw [List.map_map,List.map_map]
      refine List.map_congr_left fun b hb=>?_
      have hp:=List.all_eq_true.1 hg b hb
      simp only [Function.comp]
      rw [b2u,b6l _ hp,b6l _ hp]
     ·have:=b6f hk hK
      rw [a8b,ev] at this
      have e3:B8 (ks.map fun k=>(k,Bx.dead))=ks.map fun k=>(k,p8.dead):=by unfold B8;rw [List.map_map];rfl
      rw [e3] at this
      exact this
  ·rename_i v bs' hcall
   have hcm:=hfn g _ _ _ _ hcall hall
   refine .pan (toD v) (bs.map E5) (CM.pan_any hcm) (by simp [h3]) ?_
   have:=hKp _ _ h
   rw [show CR.rn0 v=a01 W3 v from rfl,a8b] at this
   exact this
  ·cases h
 ·cases h

def e0m (C:Comb) (X:Pr) (fn:FuncId→C5) (cr:R9) (s:w9) (nid:Nat) (o:Op) (K:KV) (Kp:V→List Nat→Om):Om :=
 match o with
 | .call { callee:=.value f,args,.. }=>match s.eval f with
  | .func (.func g) fs cs=>e2g C fn cr s nid g (fs ++ args.toList.map s.eval ++ cs) K Kp
  | _=>none
 | .panic x=>match s.eval x with
  | .iface t d=>Kp (a01 W3 (.iface t d)) []
  | _=>none
 | .pick c a b=>match s.eval c with
  | .known t=>cond t (K (s.eval a) [] []) (K (s.eval b) [] [])
  | v=>vB C v fun t=>C.cnd t (K (s.eval a) [] []) (K (s.eval b) [] [])
 | o=>P3 C X s nid o K
theorem d53 {fn:FuncId→C5} {cr:R9} (htab:X.tab=[]) (hfn:∀ g,L4 X g (fn g)) (hcr:a28 cr) {s:w9} {nid:Nat} {o:Op} {K:KV} {Kp:V→List Nat→Om} (h:e0m CR X fn cr s nid o K Kp=some r)
  {K':D→List (Nat × p8)→List Nat→Prop} {Kp':D→List Nat→Prop} (hK:∀ v ws rs,K v ws rs=some r→K' (toD v) (B8 ws) rs) (hKp:∀ v rs,Kp v rs=some r→Kp' (toD v) rs):O1 X (l8 s) nid o K' Kp':=by
 have hrest:∀ o:Op,P3 CR X s nid o K=some r→(match m9 X (l8 s) nid o with | some out=>cond out.need (K' out.val out.ws out.rs) False | none=>False):=by
  intro o h
  obtain ⟨v,ws,rs,h,hd⟩:=e0o h
  rw [hd]
  exact hK _ _ _ h
 unfold e0m at h
 unfold O1
 split at h
 ·rename_i f args ts
  simp only []
  split at h
  ·rename_i g fs cs hf
   rw [l7,hf]
   simp only [toD]
   have:=d2g htab hfn hcr h hK hKp
   rw [List.map_append,List.map_append] at this
   rw [A9,A9,c4e]
   exact this
  ·cases h
 ·rename_i x
  simp only []
  split at h
  ·rename_i t d hx
   rw [l7,hx]
   have:=hKp _ _ h
   rw [a8b] at this
   simp only [toD] at this ⊢
   exact this
  ·cases h
 ·rename_i c a b
  simp only [l7]
  split at h
  ·rename_i t hc
   rw [hc]
   simp only [toD]
   cases t
   ·exact hK _ _ _ h
   ·exact hK _ _ _ h
  ·obtain ⟨t,hc,h⟩:=Z1 h
   rw [hc]
   simp only []
   have h:cnd t _ _=some r:=h
   rw [a7t] at h
   cases t
   ·exact hK _ _ _ h
   ·exact hK _ _ _ h
 ·rename_i h1 h2 h3
  split
  ·exact absurd rfl (h1 _ _ _)
  ·exact absurd rfl (h2 _)
  ·exact absurd rfl (h3 _ _ _)
  ·exact hrest o h

def c5s (C:Comb) (ops:Array Oper) (s:w9) (o:Oper) (Ky Kn:w9→Om):Om :=
 match o.guard with
 | none=>Ky s
 | some (j,want)=>match b08 ops j with
  | none=>Kn s
  | some t=>bif Nat.blt t s.tmps.length then
    match M7 s.tmps t with
    | .known b=>cond (cond want b (!b)) (Ky s) (Kn s)
    | .tuple _=>Kn s
    | v=>vB C v fun b=>match want with
     | true=>C.cnd b (Ky (s.put (some t) (.known true))) (Kn (s.put (some t) (.known false)))
     | false=>C.cnd b (Kn (s.put (some t) (.known true))) (Ky (s.put (some t) (.known false)))
   else Kn s
theorem c65 {ops:Array Oper} {s:w9} {o:Oper} {Ky Kn:w9→Om} (h:c5s CR ops s o Ky Kn=some r) {Ky' Kn':St→Prop} (hy:∀ s,Ky s=some r→Ky' (l8 s)) (hn:∀ s,Kn s=some r→Kn' (l8 s)):a5z ops (l8 s) o Ky' Kn':=by
 unfold c5s at h
 unfold a5z
 split at h
 ·rename_i hg;rw [hg];exact hy _ h
 ·rename_i j want hg
  rw [hg]
  simp only []
  split at h
  ·rename_i ht;rw [ht];exact hn _ h
  ·rename_i t ht
   rw [ht]
   simp only []
   cases hb:Nat.blt t s.tmps.length with
   | false =>
    rw [hb] at h
    have hl:s.tmps.length≤t:=by
     rcases Nat.lt_or_ge t s.tmps.length with h1 | h1
     ·have:Nat.blt t s.tmps.length=true:=by rw [Nat.blt_eq];exact h1
      rw [hb] at this;cases this
     ·exact h1
    have e:(l8 s).tmps[t]?=none:=by simp only [l8,List.getElem?_map,List.getElem?_eq_none hl,Option.map_none]
    rw [e]
    exact hn _ h
   | true =>
    rw [hb] at h
    have hl:t < s.tmps.length:=by rw [Nat.blt_eq] at hb;exact hb
    have e:(l8 s).tmps[t]?=some (toD (M7 s.tmps t)):=by
     rw [a2k,List.getD_eq_getElem?_getD,List.getElem?_eq_getElem hl]
     simp only [l8,List.getElem?_map,List.getElem?_eq_getElem hl,Option.map_some,Option.getD_some]
    rw [e]
    simp only [cond_true] at h
    have key:∀ b,toD (M7 s.tmps t)=.bool b→(l8 s).put (some t) (.bool b)=l8 s:=fun b hb=>b4m (by rw [e,hb])
    split at h
    ·rename_i b hv
     rw [hv]
     have k1:=key b (by rw [hv];simp only [toD])
     simp only [toD]
     cases want <;> cases b <;> simp only [cond_true,cond_false,Bool.not_true,Bool.not_false] at h ⊢ <;> rw [k1] <;> first | exact hy _ h | exact hn _ h
    ·rename_i hv
     rw [hv]
     simp only [toD]
     exact hn _ h
    ·obtain ⟨b,hv,h⟩:=Z1 h
     rw [hv]
     simp only []
     have p1:=a2p s (some t) (.known true)
     have p2:=a2p s (some t) (.known false)
     simp only [toD] at p1 p2
     cases want
     ·have h:cnd b _ _=some r:=h
      rw [a7t] at h
      cases b <;> simp only [cond_true,cond_false] at h ⊢
      ·rw [← p2];exact hy _ h
      ·rw [← p1];exact hn _ h
     ·have h:cnd b _ _=some r:=h
      rw [a7t] at h
      cases b <;> simp only [cond_true,cond_false] at h ⊢
      ·rw [← p2];exact hn _ h
      ·rw [← p1];exact hy _ h

def fLV (l:List V):(List V→Om)→Om:=List.rec (motive:=fun _=>(List V→Om)→Om) (fun K=>K []) (fun x _ ih K=>ih fun l=>K (x :: l)) l
def fLB (l:List Bx):(List Bx→Om)→Om:=List.rec (motive:=fun _=>(List Bx→Om)→Om) (fun K=>K []) (fun x _ ih K=>ih fun l=>K (x :: l)) l
def fSt (s:w9) (K:w9→Om):Om:=fLV s.tmps fun t=>fLB s.heap fun h=>K ⟨t,h⟩
theorem d3i:∀ (l:List V) (K:List V→Om),fLV l K=K l
 | [],_=>rfl
 | x :: l,K=>d3i l fun l=>K (x :: l)
theorem d3h:∀ (l:List Bx) (K:List Bx→Om),fLB l K=K l
 | [],_=>rfl
 | x :: l,K=>d3h l fun l=>K (x :: l)
theorem b01 (s:w9) (K:w9→Om):fSt s K=K s:=by unfold fSt;rw [d3i,d3h]
def b14 (C:Comb) (X:Pr) (fn:FuncId→C5) (cr:R9) (ops:Array Oper) (nid:Nat→Nat):List Nat→w9→List Tr→(w9→List Tr→Om)→(Nat→V→List Nat→List Tr→Om)→Om
 | [],s,tr,K,_=>K s tr
 | i :: l,s,tr,K,Kp=>match ops[i]? with
  | none=>b14 C X fn cr ops nid l s tr K Kp
  | some o=>c5s C ops s o
    (fun s=>e0m C X fn cr s (nid i) o.op (fun d ws rs=>fSt ((s.lay ws).put o.dst d) fun s=>b14 C X fn cr ops nid l s (⟨i,o.dst,.junk,ws.map fun p=>(p.1,.dead),rs⟩ :: tr) K Kp) (fun d rs=>Kp i d rs tr))
    (fun s=>fSt (s.put o.dst (.tuple [])) fun s=>b14 C X fn cr ops nid l s (⟨i,o.dst,.junk,[],[]⟩ :: tr) K Kp)
def Tr.face (t:Tr):Nat × Option Tmp × List Nat × List Nat:=(t.i,t.dst,t.ids,t.rs)
theorem d00 {ops:Array Oper} {x y x' y':Tr} (hx:x.face=x'.face) (hy:y.face=y'.face):N7 ops x y=N7 ops x' y':=by
 unfold Tr.face at hx hy
 injection hx with h1 hx;injection hx with h2 hx;injection hx with h3 h4
 injection hy with g1 hy;injection hy with g2 hy;injection hy with g3 g4
 unfold N7
 rw [h1,h2,h3,h4,g1,g2,g3,g4]
theorem a9l {ops:Array Oper}:∀ {a b:List Tr},a.map Tr.face=b.map Tr.face→Q8 ops a=Q8 ops b
 | [],[],_=>rfl
 | [],_ :: _,h=>by simp at h
 | _ :: _,[],h=>by simp at h
 | x :: a,y :: b,h=>by
  simp only [List.map_cons,List.cons.injEq] at h
  simp only [Q8]
  rw [a9l h.2]
  congr 1
  have:∀ {a b:List Tr},a.map Tr.face=b.map Tr.face→(a.all fun z=>!N7 ops z x || S6 ops z.i ops.size x.i)=b.all fun z=>!N7 ops z y || S6 ops z.i ops.size y.i:=by
   intro a
   induction a with
   | nil=>intro b hab;cases b with
    | nil=>rfl
    | cons=>simp at hab
   | cons z a ih=>intro b hab;cases b with
    | nil=>simp at hab
    | cons u b =>
     simp only [List.map_cons,List.cons.injEq] at hab
     simp only [List.all_cons]
     rw [ih hab.2,d00 hab.1 h.1]
     have e1:z.i=u.i:=congrArg Prod.fst hab.1
     have e2:x.i=y.i:=congrArg Prod.fst h.1
     rw [e1,e2]
  exact this h.2
theorem a1b {fn:FuncId→C5} {cr:R9} (htab:X.tab=[]) (hfn:∀ g,L4 X g (fn g)) (hcr:a28 cr) {ops:Array Oper} {nid:Nat→Nat}:∀ {l:List Nat} {s:w9} {tr:List Tr} {K:w9→List Tr→Om} {Kp:Nat→V→List Nat→List Tr→Om},b14 CR X fn cr ops nid l s tr K Kp=some r →
  ∀ {tr':List Tr} {K':St→List Tr→Prop} {Kp':Nat→D→List Nat→List Tr→Prop},tr.map Tr.face=tr'.map Tr.face→(∀ s t t',t.map Tr.face=t'.map Tr.face→K s t=some r→K' (l8 s) t')→(∀ i v rs t t',t.map Tr.face=t'.map Tr.face→Kp i v rs t=some r→Kp' i (toD v) rs t')→W8 X ops nid l (l8 s) tr' K' Kp'
 | [],s,tr,K,Kp,h,tr',K',Kp',htr,hK,hKp=>hK _ _ _ htr h
 | i :: l,s,tr,K,Kp,h,tr',K',Kp',htr,hK,hKp=>by
  simp only [b14] at h
  simp only [W8]
  split at h
  ·rename_i ho;rw [ho];exact a1b htab hfn hcr h htr hK hKp
  ·rename_i o ho
   rw [ho]
   refine c65 h (fun s h=>?_) (fun s h=>?_)
   ·refine d53 htab hfn hcr h (fun v ws rs h=>?_) (fun v rs h=>hKp _ _ _ _ _ htr h)
    rw [b01] at h
    rw [← b4w,← a2p]
    refine a1b htab hfn hcr h ?_ hK hKp
    simp only [List.map_cons,List.cons.injEq,htr,and_true]
    simp only [Tr.face,Tr.ids,B8,List.map_map]
    rfl
   ·rw [b01] at h
    have:=a2p s o.dst (.tuple [])
    simp only [toD,R7] at this
    rw [← this]
    refine a1b htab hfn hcr h ?_ hK hKp
    simp only [List.map_cons,List.cons.injEq,htr,and_true]
    rfl

def w9.more (s:w9) (n:Nat):w9:={ s with heap:=s.heap ++ List.replicate n .free }
theorem d5r (s:w9) (n:Nat):l8 (s.more n)=(l8 s).more n:=by simp only [l8,w9.more,St.more,List.map_append,List.map_replicate,z8]
def d69 (C:Comb) (m:E8) (c:Int):Bool:=C.bnot (C.band (C.bnot (C.iEq c m.k0)) (C.band (C.bnot (C.iEq c m.k1)) (C.bnot (C.iEq c m.k2))))
def e0p (C:Comb) (m:E8) (c:Int):Int:=C.isel (C.iEq c m.k0) m.v0 (C.isel (C.iEq c m.k1) m.v1 m.v2)
def d8l (m:E8) (s:w9) (c x:Int):w9:=(((s.put (some m.t0) .junk).put (some m.t1) .junk).put (some m.t2) (.int .u8 c)).put (some m.t3) (.int .i64 x)
theorem e23 (m:E8) (c:Int):d69 CR m c=m.has c:=by
 unfold d69 E8.has
 simp only [e6p,e6o,e0x,a2b,K6,Q3]
theorem e6g (m:E8) (c:Int):e0p CR m c=m.val c:=by
 unfold e0p E8.val
 simp only [e6q,e0x,b73,Q3]
theorem d5s (m:E8) (s:w9) (c:Int):l8 (d8l m s c (m.val c))=m.put (l8 s) c:=by
 unfold d8l E8.put
 simp only [a2p,toD]
def b8z (C:Comb) (X:Pr) (fn:FuncId→C5) (cr:R9) (ops:Array Oper) (draw:Bool) (s:w9) (K:w9→Om) (Kp:V→Om):Om :=
 match draw with
 | false=>match b1e ops.toList with
  | none=>fSt (s.more (a3q ops.toList)) fun s'=>b14 C X fn cr ops (fun i=>s.heap.length+a6j ops.toList i) (List.range ops.size) s' [] (fun s _=>K s) (fun _ d _ _=>Kp d)
  | some m=>cond (a4p X.P m.mt && m.ok s.tmps.length) (vI C .u8 (M7 s.tmps m.src) fun c=>C.chk (d69 C m c) (C.fI (e0p C m c) fun x=>fSt (d8l m (s.more (a3q ops.toList)) c x) fun s' =>
   b14 C X fn cr ops (fun i=>s.heap.length+a6j ops.toList i) (List.range' 7 (ops.size - 7)) s' [] (fun s _=>K s) (fun _ d _ _=>Kp d))) none
 | true=>cond (a4s ops)
   (fSt (s.more (a3q ops.toList)) fun s'=>b14 C X fn cr ops (fun i=>s.heap.length+a6j ops.toList i) (List.range ops.size) s' [] (fun s tr=>cond (Q8 ops tr) (K s) none)
    (fun i d rs tr=>cond (Q8 ops (⟨i,none,.junk,[],rs⟩ :: tr) && (List.range ops.size).all fun j=>Nat.ble j i || S6 ops i ops.size j) (Kp d) none)) none
theorem c5t {fn:FuncId→C5} {cr:R9} (htab:X.tab=[]) (hfn:∀ g,L4 X g (fn g)) (hcr:a28 cr) {ops:Array Oper} {draw:Bool} {s:w9} {K:w9→Om} {Kp:V→Om} (h:b8z CR X fn cr ops draw s K Kp=some r)
  {K':St→Prop} {Kp':D→Prop} (hK:∀ s,K s=some r→K' (l8 s)) (hKp:∀ v,Kp v=some r→Kp' (toD v)):a2q X ops draw (l8 s) K' Kp':=by
 have el:(l8 s).heap.length=s.heap.length:=by simp [l8]
 unfold b8z at h
 unfold a2q
 rw [el,← d5r]
 split at h
 ·simp only []
  split at h
  ·rename_i hm
   rw [hm]
   rw [b01] at h
   exact a1b htab hfn hcr h rfl (fun s t t' _ h=>hK s h) (fun i v rs t t' _ h=>hKp v h)
  ·rename_i m hm
   rw [hm]
   have et:(l8 s).tmps.length=s.tmps.length:=by simp [l8]
   simp only [et]
   generalize (a4p X.P m.mt && m.ok s.tmps.length)=b at h ⊢
   cases b with
   | false=>cases h
   | true =>
    simp only [cond_true] at h ⊢
    obtain ⟨c,hc,h⟩:=W1 h
    obtain ⟨h0,h⟩:=B3 h
    rw [e23] at h0
    rw [CfI,e6g,b01] at h
    have e1:(l8 s).tmps.getD m.src .junk=.int .u8 c:=by
     have:=l7 s (.tmp m.src)
     have e2:(l8 s).eval (.tmp m.src)=(l8 s).tmps.getD m.src .junk:=rfl
     rw [← e2,this];exact hc
    rw [e1]
    simp only [h0,cond_true]
    rw [← d5s]
    exact a1b htab hfn hcr h rfl (fun s t t' _ h=>hK s h) (fun i v rs t t' _ h=>hKp v h)
 ·simp only []
  cases he:a4s ops with
  | false=>rw [he] at h;cases h
  | true =>
   rw [he] at h
   simp only [cond_true] at h ⊢
   rw [b01] at h
   refine a1b htab hfn hcr h rfl (fun s t t' ht h=>?_) (fun i v rs t t' ht h=>?_)
   ·rw [← a9l ht]
    cases hr:Q8 ops t with
    | false=>rw [hr] at h;cases h
    | true=>rw [hr] at h;exact hK s h
   ·rw [← a9l (a:=⟨i,none,.junk,[],rs⟩ :: t) (by simp only [List.map_cons,ht])]
    generalize (Q8 ops (⟨i,none,.junk,[],rs⟩ :: t) && (List.range ops.size).all fun j=>Nat.ble j i || S6 ops i ops.size j)=b at h ⊢
    cases b with
    | false=>cases h
    | true=>exact hKp v h
end

inductive Sh where
 | int (k:IntKind)
 | bool
 | str
 | slice (n:Nat) (c:W9)
 | q
 | a (m:Nat)
 | agg (l:List Sh)
 | tuple (l:List Sh)
 | ptr (id off:Nat)
 | cref (m:Nat)
 | bslice (id:Nat)
 | nilp
 | nilIface
 | iface (t:TypeId) (s:Sh)
 | func (fn:Fn) (fs cs:List Sh)
 | any
inductive ShB where
 | cells (l:List Sh)
 | opa (m:Nat)
 | tok (size:Nat)
 | row
 | any

mutual
def c9g:V→Sh
 | .bool _ | .known _=>.bool
 | .int k _=>.int k
 | .str _ _=>.str
 | .slice _ n _ _ c=>.slice n c
 | .q _=>.q
 | .a _ m=>.a m
 | .agg cs=>.agg (a2o cs)
 | .tuple cs=>.tuple (a2o cs)
 | .ptr id off=>.ptr id off
 | .cref _ _ m=>.cref m
 | .bslice id _=>.bslice id
 | .nilp=>.nilp
 | .nilIface=>.nilIface
 | .iface t v=>.iface t (c9g v)
 | .func fn a b=>.func fn (a2o a) (a2o b)
 | .junk=>.any
def a2o:List V→List Sh
 | []=>[]
 | v :: vs=>c9g v :: a2o vs
end
def c48:Bx→ShB
 | .cells cs=>.cells (a2o cs)
 | .opa _ m=>.opa m
 | .tok _ z=>.tok z
 | .row _ _=>.row
 | _=>.any
def uI (k:IntKind) (v:V) (K:Int→Om):Om:=match v with
 | .int k' n=>cond (ikEq k k') (K n) none
 | .q x=>cI k x K
 | _=>none
def uB (v:V) (K:Bool→Om):Om:=match v with
 | .bool b=>K b
 | .known b=>K b
 | .q x=>cB x K
 | _=>none
def uS (v:V) (K:Nat→Nat→Om):Om:=match v with
 | .str l c=>K l c
 | .q x=>cS x K
 | _=>none
def uSl (n cN:Nat) (v:V) (K:i7 Q→Nat→Nat→Om):Om:=match v with
 | .slice t n' off len c=>cond (Nat.beq (X2 c) cN) (Nat.rec (motive:=fun _=>Om) (chk (nEq len 0) (K .nil 0 0)) (fun _ _=>cond (Nat.beq n n') (K t off len) (chk (nEq len 0) (K .nil 0 0))) n') none
 | .q x=>cond (Nat.beq cN 0) (cSl n x K) none
 | _=>none
def uQ (v:V) (K:Q→Om):Om:=match b8v v with
 | some x=>K x
 | none=>match v with
  | .slice t n off len .no=>K (.slice t n off len)
  | _=>none
def uA (m:Nat) (v:V) (K:Q→Om):Om:=match v with
 | .a x m'=>cond (Nat.beq m m') (K x) none
 | .agg cs=>cond (Nat.beq cs.length m) (match exQs cs with
  | some qs=>K (.agg qs 0)
  | none=>none) none
 | _=>none
where
 exQ (v:V):Option Q:=match b8v v with
  | some x=>some x
  | none=>match v with
   | .slice t n off len .no=>some (.slice t n off len)
   | _=>none
 exQs:List V→Option (List Q)
  | []=>some []
  | v :: vs=>match exQ v,exQs vs with
   | some q,some qs=>some (q :: qs)
   | _,_=>none
def uL (v:V) (K:List V→Om):Om:=match v with
 | .agg cs=>K cs
 | _=>none
def uTu (v:V) (K:List V→Om):Om:=match v with
 | .tuple cs=>K cs
 | _=>none
def uP (id off:Nat) (v:V) (K:Om):Om:=match v with
 | .ptr i o=>cond (Nat.beq id i) (cond (Nat.beq off o) K none) none
 | _=>none
def uCref (m:Nat) (v:V) (K:Q→Om):Om:=match v with
 | .cref x off m'=>cond (Nat.beq m m') (fQ (subQ x off) K) none
 | _=>none
def uBs (id:Nat) (v:V) (K:Nat→Om):Om:=match v with
 | .bslice i len=>cond (Nat.beq id i) (K len) none
 | _=>none
def uNilp (v:V) (K:Om):Om:=match v with
 | .nilp=>K
 | .q x=>c9z x K
 | _=>none
def uNilI (v:V) (K:Om):Om:=match v with
 | .nilIface=>K
 | _=>none
def uIf (t:TypeId) (v:V) (K:V→Om):Om:=match v with
 | .iface t' v=>cond (Nat.beq t t') (K v) none
 | _=>none
def uFn (f:Nat) (v:V) (K:List V→List V→Om):Om:=match v with
 | .func (.func f') fs cs=>cond (Nat.beq f f') (K fs cs) none
 | _=>none
def uCons (l:List V) (K:V→List V→Om):Om:=match l with
 | v :: l=>K v l
 | []=>none
def uNil (l:List V) (K:Om):Om:=match l with
 | []=>K
 | _=>none
def uConsB (l:List Bx) (K:Bx→List Bx→Om):Om:=match l with
 | v :: l=>K v l
 | []=>none
def uNilB (l:List Bx) (K:Om):Om:=match l with
 | []=>K
 | _=>none
def uBc (b:Bx) (K:List V→Om):Om:=match b with
 | .cells cs=>K cs
 | .opa x m=>K ((a92 0 m).map fun i=>.q (celQ x i))
 | _=>none
def uBo (m:Nat) (b:Bx) (K:Q→Om):Om:=match b with
 | .opa x m'=>cond (Nat.beq m m') (K x) none
 | .cells cs=>cond (Nat.beq cs.length m) (match uA.exQs cs with
  | some qs=>K (.agg qs 0)
  | none=>none) none
 | _=>none
def uBt (z:Nat) (b:Bx) (K:Nat→Om):Om:=match b with
 | .tok l z'=>cond (Nat.beq z z') (K l) none
 | _=>none
def uBr (b:Bx) (K:i7 Q→Nat→Om):Om:=match b with
 | .row t len=>K t len
 | _=>none
structure s7 extends Comb where
 uI:IntKind→V→(Int→Om)→Om
 uB:V→(Bool→Om)→Om
 uS:V→(Nat→Nat→Om)→Om
 uSl:Nat→Nat→V→(i7 Q→Nat→Nat→Om)→Om
 uQ:V→(Q→Om)→Om
 uA:Nat→V→(Q→Om)→Om
 uL:V→(List V→Om)→Om
 uTu:V→(List V→Om)→Om
 uP:Nat→Nat→V→Om→Om
 uCref:Nat→V→(Q→Om)→Om
 uBs:Nat→V→(Nat→Om)→Om
 uNilp:V→Om→Om
 uNilI:V→Om→Om
 uIf:Nat→V→(V→Om)→Om
 uFn:Nat→V→(List V→List V→Om)→Om
 uCons:List V→(V→List V→Om)→Om
 uNil:List V→Om→Om
 uConsB:List Bx→(Bx→List Bx→Om)→Om
 uNilB:List Bx→Om→Om
 uBc:Bx→(List V→Om)→Om
 uBo:Nat→Bx→(Q→Om)→Om
 uBt:Nat→Bx→(Nat→Om)→Om
 uBr:Bx→(i7 Q→Nat→Om)→Om
 lp:((List V→List Bx→Om)→List V→List Bx→Om)→List V→List Bx→Om
 jn:((List V→List Bx→Om)→Om)→(List V→List Bx→Om)→Om
 same:List Bx→List Bx→Om→Om
def x8:Nat:=100000
def lp (body:(List V→List Bx→Om)→List V→List Bx→Om):List V→List Bx→Om :=
 Nat.rec (motive:=fun _=>List V→List Bx→Om) (fun _ _=>none) (fun _ ih=>body ih) x8
def jn (f:(List V→List Bx→Om)→Om) (g:List V→List Bx→Om):Om:=f g
def CU:s7:={ CR with
 uI:=uI,uB:=uB,uS:=uS,uSl:=uSl,uQ:=uQ,uA:=uA,uL:=uL,uTu:=uTu,uP:=uP,uCref:=uCref,uBs:=uBs,uNilp:=uNilp,uNilI:=uNilI,uIf:=uIf,uFn:=uFn,uCons:=uCons,uNil:=uNil,
 uConsB:=uConsB,uNilB:=uNilB,uBc:=uBc,uBo:=uBo,uBt:=uBt,uBr:=uBr,lp:=lp,jn:=jn,same:=same }
mutual
def c93 (U:s7):Sh→V→(V→Om)→Om
 | .int k,v,K=>U.uI k v fun n=>K (.int k n)
 | .bool,v,K=>U.uB v fun b=>K (.bool b)
 | .str,v,K=>U.uS v fun l c=>K (.str l c)
 | .slice n c,v,K=>U.uSl n (X2 c) v fun t off len=>K (.slice t n off len c)
 | .q,v,K=>U.uQ v fun x=>K (.q x)
 | .a m,v,K=>U.uA m v fun x=>K (.a x m)
 | .agg l,v,K=>U.uL v fun cs=>a0k U l cs fun cs=>K (.agg cs)
 | .tuple l,v,K=>U.uTu v fun cs=>a0k U l cs fun cs=>K (.tuple cs)
 | .ptr id off,v,K=>U.uP id off v (K (.ptr id off))
 | .cref m,v,K=>U.uCref m v fun x=>K (.cref x 0 m)
 | .bslice id,v,K=>U.uBs id v fun len=>K (.bslice id len)
 | .nilp,v,K=>U.uNilp v (K .nilp)
 | .nilIface,v,K=>U.uNilI v (K .nilIface)
 | .iface t s,v,K=>U.uIf t v fun v=>c93 U s v fun v=>K (.iface t v)
 | .func (.func f) fs cs,v,K=>U.uFn f v fun a b=>a0k U fs a fun a=>a0k U cs b fun b=>K (.func (.func f) a b)
 | .func _ _ _,_,_=>none
 | .any,v,K=>K v
def a0k (U:s7):List Sh→List V→(List V→Om)→Om
 | [],l,K=>U.uNil l (K [])
 | s :: ss,l,K=>U.uCons l fun v l=>c93 U s v fun v=>a0k U ss l fun l=>K (v :: l)
end
def e00 (U:s7):ShB→Bx→(Bx→Om)→Om
 | .cells l,b,K=>U.uBc b fun cs=>a0k U l cs fun cs=>K (.cells cs)
 | .opa m,b,K=>U.uBo m b fun x=>K (.opa x m)
 | .tok z,b,K=>U.uBt z b fun l=>K (.tok l z)
 | .row,b,K=>U.uBr b fun t len=>K (.row t len)
 | .any,b,K=>K b
def Z5 (U:s7):List ShB→List Bx→(List Bx→Om)→Om
 | [],l,K=>U.uNilB l (K [])
 | s :: ss,l,K=>U.uConsB l fun b l=>e00 U s b fun b=>Z5 U ss l fun l=>K (b :: l)

section
variable {r:R}
theorem e6d {k:IntKind} {v:V} {K:Int→Om} (h:uI k v K=some r):∃ n,toD v=.int k n∧K n=some r:=W1 (k:=k) (v:=v) (by unfold vI;exact h)
theorem e6c {v:V} {K:Bool→Om} (h:uB v K=some r):∃ b,toD v=.bool b∧K b=some r:=Z1 (v:=v) (by unfold vB;exact h)
theorem e6f {v:V} {K:Nat→Nat→Om} (h:uS v K=some r):∃ l c,toD v=.str (k6 l c)∧K l c=some r:=Z2 (v:=v) (by unfold vS;exact h)
theorem e0k {n:Nat} {c:W9} {v:V} {K:i7 Q→Nat→Nat→Om} (h:uSl n (X2 c) v K=some r):∃ t off len,toD v=.slice len (rows (u2 t) n off len) c∧K t off len=some r:=by
 unfold uSl at h
 split at h
 ·rename_i t n' off len c'
  cases hc:Nat.beq (X2 c') (X2 c) with
  | false=>rw [hc] at h;cases h
  | true =>
   rw [hc] at h
   have:=c2c (Nat.eq_of_beq_eq_true hc)
   subst this
   simp only [cond_true] at h
   cases n' with
   | zero =>
    obtain ⟨h1,h⟩:=a8w (show chk (nEq len 0) (K .nil 0 0)=some r from h)
    have:=Nat.eq_of_beq_eq_true h1
    subst this
    exact ⟨.nil,0,0,by simp only [toD,rows],h⟩
   | succ n' =>
    have h:cond (Nat.beq n (n'+1)) (K t off len) (chk (nEq len 0) (K .nil 0 0))=some r:=h
    cases hn:Nat.beq n (n'+1) with
    | false =>
     rw [hn] at h
     obtain ⟨h1,h⟩:=a8w (show chk (nEq len 0) (K .nil 0 0)=some r from h)
     have:=Nat.eq_of_beq_eq_true h1
     subst this
     exact ⟨.nil,0,0,by simp only [toD,rows],h⟩
    | true=>rw [hn] at h;rw [Nat.eq_of_beq_eq_true hn];exact ⟨t,off,len,by simp only [toD],h⟩
 ·cases hc:Nat.beq (X2 c) 0 with
  | false=>rw [hc] at h;cases h
  | true =>
   rw [hc] at h
   have:c=.no:=c2c (Nat.eq_of_beq_eq_true hc)
   subst this
   obtain ⟨t,off,len,hx,h'⟩:=c2b h
   exact ⟨t,off,len,by simp only [toD,hx],h'⟩
 ·cases h
theorem d60 {v:V} {x:Q} (h:uA.exQ v=some x):toD v=den x 0:=by
 unfold uA.exQ at h
 split at h
 ·rename_i hx;injection h with h;subst h;exact a6r hx
 ·split at h
  ·injection h with h;subst h;simp only [toD,den];rfl
  ·cases h
theorem b00:∀ {vs:List V} {qs:List Q},uA.exQs vs=some qs→vs.map toD=qs.map (fun x=>den x 0)
 | [],qs,h=>by simp only [uA.exQs] at h;injection h with h;subst h;rfl
 | v :: vs,qs,h=>by
  simp only [uA.exQs] at h
  split at h
  ·rename_i q qs' hq hqs
   injection h with h;subst h
   simp only [List.map_cons,d60 hq,b00 hqs]
  ·cases h
theorem e6e {v:V} {K:Q→Om} (h:uQ v K=some r):∃ x,toD v=den x 0∧K x=some r:=by
 unfold uQ at h
 split at h
 ·rename_i x hx;exact ⟨x,a6r hx,h⟩
 ·split at h
  ·exact ⟨_,by simp only [toD,den];rfl,h⟩
  ·cases h
theorem e6b {m:Nat} {v:V} {K:Q→Om} (h:uA m v K=some r):∃ x,toD v=.agg (n7 (den x) 0 m)∧K x=some r:=by
 unfold uA at h
 split at h
 ·rename_i x m'
  cases hm:Nat.beq m m' with
  | false=>rw [hm] at h;cases h
  | true=>rw [hm] at h;rw [Nat.eq_of_beq_eq_true hm];exact ⟨x,by simp only [toD],h⟩
 ·rename_i cs
  cases hm:Nat.beq cs.length m with
  | false=>rw [hm] at h;cases h
  | true =>
   rw [hm] at h
   simp only [cond_true] at h
   split at h
   ·rename_i qs hqs
    have e:=b00 hqs
    have hl:qs.length=m:=by have:=congrArg List.length e;simp at this;rw [← this];exact Nat.eq_of_beq_eq_true hm
    exact ⟨_,by simp only [toD,A9,e];rw [← hl,b0u],h⟩
   ·cases h
 ·cases h
mutual
theorem b0r:∀ {s:Sh} {v:V} {K:V→Om},c93 CU s v K=some r→∃ v',toD v'=toD v∧K v'=some r
 | .int k,v,K,h=>by
  obtain ⟨n,hv,h⟩:=e6d (show uI k v _=some r from h);exact ⟨_,by rw [hv];simp only [toD],h⟩
 | .bool,v,K,h=>by
  obtain ⟨n,hv,h⟩:=e6c (show uB v _=some r from h);exact ⟨_,by rw [hv];simp only [toD],h⟩
 | .str,v,K,h=>by
  obtain ⟨l,c,hv,h⟩:=e6f (show uS v _=some r from h);exact ⟨_,by rw [hv];simp only [toD],h⟩
 | .slice n c,v,K,h=>by
  obtain ⟨t,off,len,hv,h⟩:=e0k (show uSl n (X2 c) v (fun t off len=>K (.slice t n off len c))=some r from h);exact ⟨_,by rw [hv];simp only [toD],h⟩
 | .q,v,K,h=>by
  obtain ⟨x,hv,h⟩:=e6e (show uQ v _=some r from h);exact ⟨_,by rw [hv];simp only [toD],h⟩
 | .a m,v,K,h=>by
  obtain ⟨x,hv,h⟩:=e6b (show uA m v _=some r from h);exact ⟨_,by rw [hv];simp only [toD],h⟩
 | .agg l,v,K,h=>by
  replace h:uL v _=some r:=h
  unfold uL at h
  split at h
  ·obtain ⟨cs',e,h⟩:=I9 h;exact ⟨_,by simp only [toD,A9,e],h⟩
  ·cases h
 | .tuple l,v,K,h=>by
  replace h:uTu v _=some r:=h
  unfold uTu at h
  split at h
  ·obtain ⟨cs',e,h⟩:=I9 h;exact ⟨_,by simp only [toD,A9,e],h⟩
  ·cases h
 | .ptr id off,v,K,h=>by
  replace h:uP id off v _=some r:=h
  unfold uP at h
  split at h
  ·rename_i i o
   cases h1:Nat.beq id i with
   | false=>rw [h1] at h;cases h
   | true =>
    rw [h1] at h
    cases h2:Nat.beq off o with
    | false=>rw [h2] at h;cases h
    | true=>rw [h2] at h;exact ⟨_,by rw [Nat.eq_of_beq_eq_true h1,Nat.eq_of_beq_eq_true h2],h⟩
  ·cases h
 | .cref m,v,K,h=>by
  replace h:uCref m v _=some r:=h
  unfold uCref at h
  split at h
  ·rename_i x off m'
   cases h1:Nat.beq m m' with
   | false=>rw [h1] at h;cases h
   | true =>
    rw [h1] at h
    simp only [cond_true,b5j] at h
    exact ⟨_,by rw [Nat.eq_of_beq_eq_true h1];simp only [toD,b7c,Nat.add_zero],h⟩
  ·cases h
 | .bslice id,v,K,h=>by
  replace h:uBs id v _=some r:=h
  unfold uBs at h
  split at h
  ·rename_i i len
   cases h1:Nat.beq id i with
   | false=>rw [h1] at h;cases h
   | true=>rw [h1] at h;exact ⟨_,by rw [Nat.eq_of_beq_eq_true h1],h⟩
  ·cases h
 | .nilp,v,K,h=>by
  replace h:uNilp v _=some r:=h
  unfold uNilp at h
  split at h
  ·exact ⟨_,rfl,h⟩
  ·obtain ⟨hx,h'⟩:=c90 h;subst hx;exact ⟨_,by simp only [toD,den];rfl,h'⟩
  ·cases h
 | .nilIface,v,K,h=>by
  replace h:uNilI v _=some r:=h
  unfold uNilI at h
  split at h
  ·exact ⟨_,rfl,h⟩
  ·cases h
 | .iface t s,v,K,h=>by
  replace h:uIf t v _=some r:=h
  unfold uIf at h
  split at h
  ·rename_i t' v0
   cases h1:Nat.beq t t' with
   | false=>rw [h1] at h;cases h
   | true =>
    rw [h1] at h
    obtain ⟨v',e,h⟩:=b0r h
    exact ⟨_,by rw [Nat.eq_of_beq_eq_true h1];simp only [toD,e],h⟩
  ·cases h
 | .func (.func f) fs cs,v,K,h=>by
  replace h:uFn f v _=some r:=h
  unfold uFn at h
  split at h
  ·rename_i f' a b
   cases h1:Nat.beq f f' with
   | false=>rw [h1] at h;cases h
   | true =>
    rw [h1] at h
    obtain ⟨a',ea,h⟩:=I9 h
    obtain ⟨b',eb,h⟩:=I9 h
    exact ⟨_,by rw [Nat.eq_of_beq_eq_true h1];simp only [toD,A9,ea,eb],h⟩
  ·cases h
 | .any,v,K,h=>⟨v,rfl,h⟩
theorem I9:∀ {ss:List Sh} {l:List V} {K:List V→Om},a0k CU ss l K=some r→∃ l',l'.map toD=l.map toD∧K l'=some r
 | [],l,K,h=>by
  replace h:uNil l _=some r:=h
  unfold uNil at h
  split at h
  ·exact ⟨[],rfl,h⟩
  ·cases h
 | s :: ss,l,K,h=>by
  replace h:uCons l _=some r:=h
  unfold uCons at h
  split at h
  ·obtain ⟨v',e1,h⟩:=b0r h
   obtain ⟨l',e2,h⟩:=I9 h
   exact ⟨_,by simp only [List.map_cons,e1,e2],h⟩
  ·cases h
end
theorem c94 {s:ShB} {b:Bx} {K:Bx→Om} (h:e00 CU s b K=some r):∃ b',z8 b'=z8 b∧K b'=some r:=by
 cases s with
 | cells l =>
  replace h:uBc b _=some r:=h
  unfold uBc at h
  split at h
  ·obtain ⟨cs',e,h⟩:=I9 h;exact ⟨_,by simp only [z8,e],h⟩
  ·rename_i x m
   obtain ⟨cs',e,h⟩:=I9 h
   refine ⟨_,?_,h⟩
   simp only [z8,e,J3,List.map_map]
   congr 1
   exact List.map_congr_left fun i _=>by simp only [Function.comp,toD];exact a2f x i
  ·cases h
 | opa m =>
  replace h:uBo m b _=some r:=h
  unfold uBo at h
  split at h
  ·rename_i x m'
   cases hm:Nat.beq m m' with
   | false=>rw [hm] at h;cases h
   | true=>rw [hm] at h;exact ⟨_,by rw [Nat.eq_of_beq_eq_true hm],h⟩
  ·rename_i cs
   cases hm:Nat.beq cs.length m with
   | false=>rw [hm] at h;cases h
   | true =>
    rw [hm] at h
    simp only [cond_true] at h
    split at h
    ·rename_i qs hqs
     have e:=b00 hqs
     have hl:qs.length=m:=by have:=congrArg List.length e;simp at this;rw [← this];exact Nat.eq_of_beq_eq_true hm
     exact ⟨_,by simp only [z8,e];rw [← hl,b0u],h⟩
    ·cases h
  ·cases h
 | tok z =>
  replace h:uBt z b _=some r:=h
  unfold uBt at h
  split at h
  ·rename_i l z'
   cases hm:Nat.beq z z' with
   | false=>rw [hm] at h;cases h
   | true=>rw [hm] at h;exact ⟨_,by rw [Nat.eq_of_beq_eq_true hm],h⟩
  ·cases h
 | row =>
  replace h:uBr b _=some r:=h
  unfold uBr at h
  split at h
  ·exact ⟨_,rfl,h⟩
  ·cases h
 | any=>exact ⟨b,rfl,h⟩
theorem V5:∀ {ss:List ShB} {l:List Bx} {K:List Bx→Om},Z5 CU ss l K=some r→∃ l',l'.map z8=l.map z8∧K l'=some r
 | [],l,K,h=>by
  replace h:uNilB l _=some r:=h
  unfold uNilB at h
  split at h
  ·exact ⟨[],rfl,h⟩
  ·cases h
 | s :: ss,l,K,h=>by
  replace h:uConsB l _=some r:=h
  unfold uConsB at h
  split at h
  ·obtain ⟨v',e1,h⟩:=c94 h
   obtain ⟨l',e2,h⟩:=V5 h
   exact ⟨_,by simp only [List.map_cons,e1,e2],h⟩
  ·cases h
end

structure Ann where
 ks:List (Nat × Nat)
 vs:List Sh
 bs:List ShB

def ev (U:s7) (X:Pr) (fn:FuncId→C5) (cr:R9) (n0:Nat) (AL AJ:Nat→Option Ann):Code→Nat→Nat→w9→(w9→Om)→(Nat→w9→Om)→(w9→Om)→(V→Om)→Om
 | .skip,_,_,s,K,_,_,_=>K s
 | .region _ ops draw,_,_,s,K,_,_,Kp=>b8z U.toComb X fn cr ops draw s K Kp
 | .seq a b,p,q,s,K,Kx,Kr,Kp=>match AJ q with
  | none=>ev U X fn cr n0 AL AJ a p (q+1) s (fun s'=>ev U X fn cr n0 AL AJ b (p+N1 a) (q+1+S4 a) s' K Kx Kr Kp) Kx Kr Kp
  | some A=>U.jn (fun j=>ev U X fn cr n0 AL AJ a p (q+1) s (fun s'=>cond (a38 n0 s.tmps.length A.ks s') (j (a5h n0 A.ks s').1 (a5h n0 A.ks s').2) none) Kx Kr Kp)
    (fun vs bs=>a0k U A.vs vs fun vs=>Z5 U A.bs bs fun bs=>ev U X fn cr n0 AL AJ b (p+N1 a) (q+1+S4 a) (b21 s.tmps.length A.ks vs bs) K Kx Kr Kp)
 | .cond c t e,p,q,s,K,Kx,Kr,Kp=>match s.eval c with
  | .known b=>cond b (ev U X fn cr n0 AL AJ t p q s K Kx Kr Kp) (ev U X fn cr n0 AL AJ e (p+N1 t) (q+S4 t) s K Kx Kr Kp)
  | v=>vB U.toComb v fun b=>U.cnd b (ev U X fn cr n0 AL AJ t p q (refV s c true) K Kx Kr Kp) (ev U X fn cr n0 AL AJ e (p+N1 t) (q+S4 t) (refV s c false) K Kx Kr Kp)
 | .block id c,p,q,s,K,Kx,Kr,Kp=>ev U X fn cr n0 AL AJ c p q s K (fun j s'=>cond (Nat.beq j id) (K s') (Kx j s')) Kr Kp
 | .loop c,p,q,s,_,Kx,Kr,Kp=>match AL p with
  | none=>none
  | some A=>cond (a38 n0 s.tmps.length A.ks s) (U.lp (fun self vs bs=>a0k U A.vs vs fun vs=>Z5 U A.bs bs fun bs =>
    ev U X fn cr n0 AL AJ c (p+1) q (b21 s.tmps.length A.ks vs bs) (fun s'=>cond (a38 n0 s.tmps.length A.ks s') (self (a5h n0 A.ks s').1 (a5h n0 A.ks s').2) none) Kx Kr Kp) (a5h n0 A.ks s).1 (a5h n0 A.ks s).2) none
 | .exit j,_,_,s,_,Kx,_,_=>Kx j s
 | .ret,_,_,s,_,_,Kr,_=>Kr s
 | _,_,_,_,_,_,_,_=>none
where refV (s:w9) (c:Operand) (b:Bool):w9:=match c with
 | .tmp t=>s.put (some t) (.known b)
 | _=>s

def b0p (A:Ann):Cut:={ π:=List D × List p8→Prop,ι:=fun p=>{ v // p v },ks:=A.ks,V:=fun _ ix=>ix.val }

section
variable {X:Pr} {r:R}
theorem c5m (s:w9) (c:Operand) (b:Bool):l8 (ev.refV s c b)=(l8 s).ref c b:=by
 cases c with
 | tmp t=>have:=a2p s (some t) (.known b);simp only [toD] at this;exact this
 | _=>rfl
theorem d36 {body:(List V→List Bx→Om)→List V→List Bx→Om} {vs:List V} {bs:List Bx} (h:CU.lp body vs bs=some r):∃ n,Nat.rec (motive:=fun _=>List V→List Bx→Om) (fun _ _=>none) (fun _ ih=>body ih) n vs bs=some r:=⟨x8,h⟩

theorem O6 {fn:FuncId→C5} {cr:R9} (htab:X.tab=[]) (hfn:∀ g,L4 X g (fn g)) (hcr:a28 cr) {n0:Nat} {AL AJ:Nat→Option Ann}:∀ (c:Code) {p q:Nat} {s:w9} {K:w9→Om} {Kx:Nat→w9→Om} {Kr:w9→Om} {Kp:V→Om},
  ev CU X fn cr n0 AL AJ c p q s K Kx Kr Kp=some r→∀ {K':St→Prop} {Kx':Nat→St→Prop} {Kr':St→Prop} {Kp':D→Prop},(∀ s,K s=some r→K' (l8 s))→(∀ j s,Kx j s=some r→Kx' j (l8 s))→(∀ s,Kr s=some r→Kr' (l8 s))→(∀ v,Kp v=some r→Kp' (toD v)) →
  vc X n0 (fun _ body s=>a1e n0 body s) (fun q=>(AJ q).map b0p) c p q (l8 s) K' Kx' Kr' Kp'
 | .skip,p,q,s,K,Kx,Kr,Kp,h,K',Kx',Kr',Kp',hK,hx,hr,hp=>hK s h
 | .region id ops draw,p,q,s,K,Kx,Kr,Kp,h,K',Kx',Kr',Kp',hK,hx,hr,hp=>c5t htab hfn hcr h hK hp
 | .seq a b,p,q,s,K,Kx,Kr,Kp,h,K',Kx',Kr',Kp',hK,hx,hr,hp=>by
  simp only [ev] at h
  simp only [vc]
  have el:(l8 s).tmps.length=s.tmps.length:=by simp [l8]
  split at h
  ·rename_i hj
   rw [hj]
   exact O6 htab hfn hcr a h (fun s' h=>O6 htab hfn hcr b h hK hx hr hp) hx hr hp
  ·rename_i A hj
   rw [hj]
   simp only [Option.map_some,b0p]
   have h:jn _ _=some r:=h
   unfold jn at h
   refine ⟨fun v=>vc X n0 (fun _ body s=>a1e n0 body s) (fun q=>(AJ q).map b0p) b (p+N1 a) (q+1+S4 a) (a7m (l8 s).tmps.length A.ks v) K' Kx' Kr' Kp',?_,fun ix=>ix.property⟩
   refine O6 htab hfn hcr a h (fun s' h=>?_) hx hr hp
   rw [el,← b4h]
   cases hok:a38 n0 s.tmps.length A.ks s' with
   | false=>rw [hok] at h;cases h
   | true =>
    rw [hok] at h
    simp only [cond_true] at h ⊢
    obtain ⟨vs',e1,h⟩:=I9 h
    obtain ⟨bs',e2,h⟩:=V5 h
    refine .mk ⟨gcV n0 A.ks (l8 s'),?_⟩ rfl
    rw [b7z,← e1,← e2,← c5f]
    exact O6 htab hfn hcr b h hK hx hr hp
 | .cond c t e,p,q,s,K,Kx,Kr,Kp,h,K',Kx',Kr',Kp',hK,hx,hr,hp=>by
  simp only [ev] at h
  simp only [vc]
  rw [l7]
  split at h
  ·rename_i b hc
   rw [hc]
   simp only [toD]
   have e0:(l8 s).eval c=.bool b:=by rw [l7,hc];simp only [toD]
   cases b
   ·simp only [cond_false] at h ⊢;rw [a9k e0];exact O6 htab hfn hcr e h hK hx hr hp
   ·simp only [cond_true] at h ⊢;rw [a9k e0];exact O6 htab hfn hcr t h hK hx hr hp
  ·obtain ⟨b,hv,h⟩:=Z1 h
   rw [hv]
   simp only []
   have h:cnd b _ _=some r:=h
   rw [a7t] at h
   cases b
   ·simp only [cond_false] at h ⊢;rw [← c5m];exact O6 htab hfn hcr e h hK hx hr hp
   ·simp only [cond_true] at h ⊢;rw [← c5m];exact O6 htab hfn hcr t h hK hx hr hp
 | .block id c,p,q,s,K,Kx,Kr,Kp,h,K',Kx',Kr',Kp',hK,hx,hr,hp=>by
  simp only [ev] at h
  simp only [vc]
  refine O6 htab hfn hcr c h hK (fun j s h=>?_) hr hp
  cases hj:Nat.beq j id with
  | true=>rw [hj] at h;exact hK s h
  | false=>rw [hj] at h;exact hx j s h
 | .loop c,p,q,s,K,Kx,Kr,Kp,h,K',Kx',Kr',Kp',hK,hx,hr,hp=>by
  simp only [ev] at h
  simp only [vc]
  have el:(l8 s).tmps.length=s.tmps.length:=by simp [l8]
  split at h
  ·cases h
  ·rename_i A hA
   cases hok:a38 n0 s.tmps.length A.ks s with
   | false=>rw [hok] at h;cases h
   | true =>
    rw [hok] at h
    simp only [cond_true] at h
    obtain ⟨n,h⟩:=d36 h
    generalize hbody:(fun (self:List V→List Bx→Om) (vs:List V) (bs:List Bx)=>a0k CU A.vs vs fun vs=>Z5 CU A.bs bs fun bs =>
     ev CU X fn cr n0 AL AJ c (p+1) q (b21 s.tmps.length A.ks vs bs) (fun s'=>cond (a38 n0 s.tmps.length A.ks s') (self (a5h n0 A.ks s').1 (a5h n0 A.ks s').2) none) Kx Kr Kp)=body at h
    refine a1e.mk { x:(List D × List p8) × Nat // ∃ vs bs,x.1=(vs.map toD,bs.map z8)∧Nat.rec (motive:=fun _=>List V→List Bx→Om) (fun _ _=>none) (fun _ ih=>body ih) x.2 vs bs=some r } (fun i=>i.val.1) (fun i=>i.val.2)
     ⟨(gcV n0 A.ks (l8 s),n),_,_,b7z n0 A.ks s,h⟩ A.ks (by rw [el,← b4h];exact hok) rfl ?_
    rintro ⟨⟨v,m⟩,vs,bs,hv,hrun⟩
    simp only at hv hrun ⊢
    cases m with
    | zero=>cases hrun
    | succ m =>
     have hrun:body (Nat.rec (motive:=fun _=>List V→List Bx→Om) (fun _ _=>none) (fun _ ih=>body ih) m) vs bs=some r:=hrun
     rw [← hbody] at hrun
     obtain ⟨vs',e1,hrun⟩:=I9 hrun
     obtain ⟨bs',e2,hrun⟩:=V5 hrun
     subst hv
     rw [el]
     have e3:l8 (b21 s.tmps.length A.ks vs' bs')=a7m s.tmps.length A.ks (vs.map toD,bs.map z8):=by rw [c5f,e1,e2]
     rw [← e3]
     refine O6 htab hfn hcr c hrun (fun s' h'=>?_) hx hr hp
     rw [← b4h]
     cases hok':a38 n0 s.tmps.length A.ks s' with
     | false=>rw [hok'] at h';cases h'
     | true =>
      rw [hok'] at h'
      simp only [cond_true] at h' ⊢
      rw [hbody] at h'
      exact .mk ⟨(gcV n0 A.ks (l8 s'),m),_,_,b7z n0 A.ks s',h'⟩ (Nat.lt_succ_self m) rfl
 | .exit j,p,q,s,K,Kx,Kr,Kp,h,K',Kx',Kr',Kp',hK,hx,hr,hp=>hx j s h
 | .ret,p,q,s,K,Kx,Kr,Kp,h,K',Kx',Kr',Kp',hK,hx,hr,hp=>hr s h
 | .rangeFunc ..,_,_,_,_,_,_,_,h,_,_,_,_,_,_,_,_=>by cases h
 | .scope _,_,_,_,_,_,_,_,h,_,_,_,_,_,_,_,_=>by cases h
 | .label _,_,_,_,_,_,_,_,h,_,_,_,_,_,_,_,_=>by cases h
 | .goto _,_,_,_,_,_,_,_,h,_,_,_,_,_,_,_,_=>by cases h
 | .refuse _,_,_,_,_,_,_,_,h,_,_,_,_,_,_,_,_=>by cases h
end

def a9n (C:Comb) (P:Program) (s:w9):List ResultVar→(List V→Om)→Om
 | [],K=>K []
 | .tmp t :: rs,K=>a9n C P s rs fun vs=>K (M7 s.tmps t :: vs)
 | .cell x t :: rs,K=>match M7 s.tmps x with
  | .ptr id off=>match N8 s.heap id with
   | .cells cs=>b6r C P t cs off fun v=>a9n C P s rs fun vs=>K (v :: vs)
   | .opa y m=>b2s C P t y off m fun v=>a9n C P s rs fun vs=>K (v :: vs)
   | _=>none
  | _=>none
def c4d:List V→V
 | [v]=>v
 | vs=>.tuple vs
def b22 (n:Nat) (v:V):V:=a40 (U8 (a0j n) v)
theorem b7a (n:Nat) (v:V):toD (b22 n v)=R1 n (toD v):=by unfold b22 R1;rw [b69,a00]
def c27 (C:Comb) (n:Nat) (h:List Bx) (g:Option Nat) (v:V) (K:V→Om):Om:=match g,v with
 | some z,.slice t m off len (.tok id)=>match N8 h id with
  | .tok l z'=>bif Nat.ble n id && (Nat.beq z' z && Nat.beq m z) then C.chk (C.nEq l len) (K (.slice t m off len (.fr z))) else none
  | _=>none
 | some z,.slice t m off len .exact=>bif Nat.beq m z then K (.slice t m off len (.fr z)) else bif Nat.beq m 0 then C.chk (C.nEq len 0) (K (.slice .nil z 0 0 (.fr z))) else none
 | _,v=>K (b22 n v)
def a7y (C:Comb) (n:Nat) (h:List Bx):List (Option Nat)→List V→(List V→Om)→Om
 | _,[],K=>K []
 | [],v :: vs,K=>a7y C n h [] vs fun r=>K (b22 n v :: r)
 | g :: gv,v :: vs,K=>c27 C n h g v fun v=>a7y C n h gv vs fun r=>K (v :: r)
def b7v (C:Comb) (P:Program) (rs:List ResultVar) (n:Nat) (gv:List (Option Nat)) (s:w9):Om :=
 a9n C P s rs fun vs=>match a7s s.heap (List.range n) with
  | some bs=>a7y C n s.heap gv vs fun vs=>some (.ret (c4d vs),bs.map (a0z (a0j n)))
  | none=>none
def b68 (ntmps:Nat) (vs:List V) (bs:List Bx):w9:={ tmps:=vs ++ List.replicate (ntmps - vs.length) (.tuple []),heap:=bs }
def d6y (U:s7) (X:Pr) (fn:FuncId→C5) (cr:R9) (AL AJ:Nat→Option Ann) (gv:List (Option Nat)) (f:Func):C5:=fun vs bs =>
 ev U X fn cr bs.length AL AJ (f.body.getD .skip) 0 0 (b68 f.ntmps vs bs) (b7v U.toComb X.P f.results.toList bs.length gv) (fun _ _=>none) (b7v U.toComb X.P f.results.toList bs.length gv) (fun v=>some (.pan v,bs))

section
variable {X:Pr} {r:R}
theorem a4b {P:Program} {s:w9}:∀ {rs:List ResultVar} {K:List V→Om},a9n CR P s rs K=some r→∃ vs,K vs=some r∧a3r P (l8 s) rs=some (vs.map toD)
 | [],K,h=>⟨[],h,rfl⟩
 | .tmp t :: rs,K,h=>by
  simp only [a9n] at h
  obtain ⟨vs,h,e⟩:=a4b h
  exact ⟨_,h,by simp only [a3r,e,Option.map_some,List.map_cons,a3f]⟩
 | .cell x t :: rs,K,h=>by
  simp only [a9n] at h
  split at h
  ·rename_i id off hx
   split at h
   ·rename_i cs hb
    obtain ⟨v,h,hr⟩:=a9j h
    obtain ⟨vs,h,e⟩:=a4b h
    have hh:=T3 hb (by simp)
    refine ⟨_,h,?_⟩
    simp only [a3r,a3f,hx,toD,hh,z8,hr,Option.bind_some,e,Option.map_some,List.map_cons]
   ·rename_i y m hb
    obtain ⟨v,h,hr⟩:=a4a h
    obtain ⟨vs,h,e⟩:=a4b h
    have hh:=T3 hb (by simp)
    have:=hr 0 (Nat.zero_le _)
    rw [Nat.sub_zero,Nat.sub_zero] at this
    refine ⟨_,h,?_⟩
    simp only [a3r,a3f,hx,toD,hh,z8,this,Option.bind_some,e,Option.map_some,List.map_cons]
   ·cases h
  ·cases h
theorem d4n (vs:List V):toD (c4d vs)=a9h (vs.map toD):=by
 unfold c4d
 split
 ·rfl
 ·rename_i h
  match vs,h with
  | [],_=>simp only [toD,R7,List.map_nil,a9h]
  | [v],h=>exact absurd rfl (h v)
  | v :: w :: vs,_=>simp only [toD,A9,List.map_cons,a9h]
theorem c58 {n:Nat} {s:w9} {g:Option Nat} {v:V} {K:V→Om} (h:c27 CR n s.heap g v K=some r):∃ v',K v'=some r∧a2w n (l8 s).heap g (toD v)=toD v':=by
 unfold c27 at h
 split at h
 ·rename_i z t m off len id
  split at h
  ·rename_i l z' hb
   have hh:=T3 hb (by simp)
   simp only [z8] at hh
   cases hg:Nat.ble n id && (Nat.beq z' z && Nat.beq m z) with
   | false=>rw [hg] at h;cases h
   | true =>
    rw [hg] at h
    simp only [cond_true] at h
    obtain ⟨h0,h⟩:=B3 h
    have h0:Nat.beq l len=true:=h0
    simp only [Bool.and_eq_true] at hg
    obtain ⟨g1,g2,g3⟩:=hg
    have:=Nat.eq_of_beq_eq_true g3
    subst this
    refine ⟨_,h,?_⟩
    simp only [toD,a2w,hh,g1,g2,h0,E4,Nat.beq_refl,Bool.and_self,cond_true]
  ·cases h
 ·rename_i z t m off len
  cases hm:Nat.beq m z with
  | true =>
   rw [hm] at h
   have:=Nat.eq_of_beq_eq_true hm
   subst this
   exact ⟨_,h,by simp only [toD,a2w,E4,Nat.beq_refl,cond_true]⟩
  | false =>
   rw [hm] at h
   simp only [cond_false] at h
   cases h0:Nat.beq m 0 with
   | false=>rw [h0] at h;cases h
   | true =>
    rw [h0] at h
    simp only [cond_true] at h
    obtain ⟨h1,h⟩:=B3 h
    have h1:Nat.beq len 0=true:=h1
    have:=Nat.eq_of_beq_eq_true h1
    subst this
    exact ⟨_,h,by simp only [toD,a2w,rows,List.length_nil,Nat.zero_mul,Nat.beq_refl,cond_true]⟩
 ·rename_i hn1 hn2
  refine ⟨_,h,?_⟩
  rw [b7a]
  unfold a2w
  split
  ·rename_i z len c id hd
   exfalso
   cases v <;> simp only [toD] at hd <;> first | (cases hd;done) | skip
   ·injection hd with _ _ hd;subst hd;exact hn1 _ _ _ _ _ _ rfl rfl
   ·cases Y1 _ _ _ _ _ hd
  ·rename_i z len c hd
   exfalso
   cases v <;> simp only [toD] at hd <;> first | (cases hd;done) | skip
   ·injection hd with _ _ hd;subst hd;exact hn2 _ _ _ _ _ rfl rfl
   ·cases Y1 _ _ _ _ _ hd
  ·rfl
theorem a7b {n:Nat} {s:w9}:∀ {gv:List (Option Nat)} {vs:List V} {K:List V→Om},a7y CR n s.heap gv vs K=some r→∃ vs',K vs'=some r∧W6 n (l8 s).heap gv (vs.map toD)=vs'.map toD
 | gv,[],K,h=>by cases gv <;> exact ⟨[],h,by simp [W6]⟩
 | [],v :: vs,K,h=>by
  simp only [a7y] at h
  obtain ⟨vs',h,e⟩:=a7b h
  exact ⟨_,h,by simp only [List.map_cons,W6,b7a,e]⟩
 | g :: gv,v :: vs,K,h=>by
  simp only [a7y] at h
  obtain ⟨v',h,e1⟩:=c58 h
  obtain ⟨vs',h,e⟩:=a7b h
  exact ⟨_,h,by simp only [List.map_cons,W6,e1,e]⟩
theorem a3d {P:Program} {rs:List ResultVar} {n:Nat} {gv:List (Option Nat)} {s:w9} {x:J7} {bs':List Bx} (h:b7v CR P rs n gv s=some (x,bs')):fin P rs n gv (b1j x) (bs'.map E5) (l8 s):=by
 obtain ⟨vs,h,e⟩:=a4b h
 split at h
 ·rename_i bs hb
  obtain ⟨vs',h,eg⟩:=a7b h
  injection h with h
  injection h with h1 h2
  subst h1 h2
  obtain ⟨q1,q2,q3⟩:=a6w hb
  have q1:P7 (l8 s).heap (List.range n)=some (bs.map E5):=q1
  unfold fin
  rw [e,q1]
  refine ⟨?_,?_⟩
  ·simp only [b1j,d4n,eg]
  ·rw [List.map_map,List.map_map];exact List.map_congr_left fun b _=>(b2u (a0j n)).symm
 ·cases h
theorem b7f (n:Nat) (vs:List V) {bs:List Bx} (h:bs.all N3=true):l8 (b68 n vs bs)=start n (vs.map toD) (bs.map E5):=by
 unfold b68 start l8
 simp only [List.map_append,List.map_replicate,List.length_map,List.map_map,toD,R7]
 congr 1
 exact List.map_congr_left fun b hb=>a2c (List.all_eq_true.1 h b hb)

theorem e2y {fn:FuncId→C5} {cr:R9} (htab:X.tab=[]) (hfn:∀ g,L4 X g (fn g)) (hcr:a28 cr) {AL AJ:Nat→Option Ann} {gv:List (Option Nat)} {f:FuncId} {F:Func} (hf:X.P.funcs[f]?=some F) (hb:F.body.isSome=true)
  (hcall:∀ args w,(callFunc f args).run X.P w=.ok (.enter f args) w):L4 X f (d6y CU X fn cr AL AJ gv F):=by
 intro vs bs x bs' h hok
 obtain ⟨c,hc⟩:=Option.isSome_iff_exists.1 hb
 unfold d6y at h
 rw [hc] at h
 have:=O6 (X:=X) htab hfn hcr c h (K':=fin X.P F.results.toList bs.length gv (b1j x) (bs'.map E5)) (Kx':=fun _ _=>False) (Kr':=fin X.P F.results.toList bs.length gv (b1j x) (bs'.map E5)) (Kp':=fun d=>b1j x=.pan d)
  (fun s h=>a3d h) (fun _ _ h=>by cases h) (fun s h=>a3d h) (fun v h=>by injection h with h;injection h with h1 h2;rw [← h1];rfl)
 rw [b7f _ _ hok] at this
 have e:(bs.map E5).length=bs.length:=by simp
 refine a0r (X:=X) (gv:=gv) (L:=fun _ body s=>a1e bs.length body s) (J:=fun q=>(AJ q).map b0p) hf hc hcall (fun _ _ _ h=>by rw [e];exact h) ?_
 rw [e]
 exact this

end
def d0f (U:s7) (X:Pr) (fn:FuncId→C5) (cr:R9) (AL AJ:Nat→Option Ann) (gv:List (Option Nat)) (f:Func):C5:=fun vs bs=>match f.body with
 | some (.seq A (.seq R C))=>match a7u R with
  | some (_,t)=>ev U X fn cr bs.length AL AJ A 0 0 (b68 f.ntmps vs bs) (fun s=>match M7 s.tmps t with
    | .ptr _ _=>ev U X fn cr bs.length AL AJ C (N1 A) (S4 A) s (b7v U.toComb X.P f.results.toList bs.length gv) (fun _ _=>none) (b7v U.toComb X.P f.results.toList bs.length gv) (fun _=>none)
    | _=>none) (fun _ _=>none) (b7v U.toComb X.P f.results.toList bs.length gv) (fun _=>none)
  | none=>none
 | _=>none
def d0b (f:Func):Option FuncId:=match f.body with
 | some (.seq _ (.seq R _))=>(a7u R).map (·.1)
 | _=>none
section
variable {X:Pr} {r:R}
theorem d6z {fn:FuncId→C5} {cr:R9} (htab:X.tab=[]) (hfn:∀ g,L4 X g (fn g)) (hcr:a28 cr) {AL AJ:Nat→Option Ann} {gv:List (Option Nat)} {f g:FuncId} {F:Func} (hf:X.P.funcs[f]?=some F) (hd:d0b F=some g)
  (hcall:∀ args w,(callFunc f args).run X.P w=.ok (.enter f args) w) (hg:∀ args w,(callFunc g args).run X.P w=.ok (.enter g args) w) (hidle:c9t X.P g):L4 X f (d0f CU X fn cr AL AJ gv F):=by
 intro vs bs x bs' h hok
 unfold d0f at h
 unfold d0b at hd
 split at h
 ·rename_i A R C hb
  rw [hb] at hd
  simp only [] at hd
  split at h
  ·rename_i g' t hR
   rw [hR] at hd
   injection hd with hd
   subst hd
   have e:(bs.map E5).length=bs.length:=by simp
   refine b7r (X:=X) (gv:=gv) (L:=fun _ body s=>a1e bs.length body s) (J:=fun q=>(AJ q).map b0p) hf hb hR hcall hg hidle (fun _ _ _ h=>by rw [e];exact h) ?_
   rw [e,← b7f _ _ hok]
   refine O6 (X:=X) htab hfn hcr A h (fun s h=>?_) (fun _ _ h=>by cases h) (fun s h=>a3d h) (fun v h=>by cases h)
   split at h
   ·rename_i id off hp
    refine ⟨⟨id,off,?_⟩,O6 (X:=X) htab hfn hcr C h (fun s h=>a3d h) (fun _ _ h=>by cases h) (fun s h=>a3d h) (fun v h=>by cases h)⟩
    have:=l7 s (.tmp t)
    have e2:(l8 s).eval (.tmp t)=(l8 s).tmps.getD t .junk:=rfl
    rw [← e2,this]
    show toD (M7 s.tmps t)=_
    rw [hp]
    simp only [toD]
   ·cases h
  ·cases h
 ·cases h
end
end
end Go.Abs
