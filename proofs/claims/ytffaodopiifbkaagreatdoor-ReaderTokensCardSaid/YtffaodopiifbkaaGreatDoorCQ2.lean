/- What the operations say, run: second part. -/
import Derived.Test.YtffaodopiifbkaaGreatDoorCQ1
set_option linter.all false
namespace Go.Abs
noncomputable section

theorem a9c:∀ (vs ds:List D) (off:Nat),off+vs.length≤ds.length→L5 ds off vs=ds.take off ++ vs ++ ds.drop (off+vs.length)
 | [],ds,off,h=>by simp [L5]
 | v :: vs,ds,off,h=>by
  simp only [List.length_cons] at h
  simp only [L5]
  rw [a9c vs _ _ (by simp;omega)]
  have e1:(ds.set off v).take (off+1)=ds.take off ++ [v]:=by
   apply List.ext_getElem?
   intro i
   rcases Nat.lt_or_ge i off with hi | hi
   ·rw [List.getElem?_take_of_lt (by omega),List.getElem?_set_ne (by omega),List.getElem?_append_left (by simp;omega),List.getElem?_take_of_lt hi]
   ·rcases Nat.eq_or_lt_of_le hi with hi | hi
    ·subst hi
     rw [List.getElem?_take_of_lt (by omega),List.getElem?_set_self (by omega),List.getElem?_append_right (by simp;omega)]
     simp [Nat.min_eq_left (show off≤ds.length by omega)]
    ·rw [List.getElem?_eq_none (by simp;omega),List.getElem?_eq_none (by simp;omega)]
  have e2:(ds.set off v).drop (off+1+vs.length)=ds.drop (off+1+vs.length):=by
   apply List.ext_getElem?
   intro i
   rw [List.getElem?_drop,List.getElem?_drop,List.getElem?_set_ne (by omega)]
  rw [e1,e2]
  simp only [List.append_assoc,List.cons_append,List.nil_append,List.length_cons]
  rw [show off+1+vs.length=off+(vs.length+1) by omega]

section
variable {X:Pr} {s:A9} {nid:Nat} {r:R}

theorem b87 {n:Nat}:∀ {ps:List (Nat × V)} {i:Nat} {ds:List D} {qs:List Q},a3g n i ps=some qs→ds.length=(i+ps.length) * n →
  ∃ out,a2h (fun i=>some (i * n,n)) ds (ps.map fun p=>(p.1,toD p.2))=some out∧out.map (renI V7)=(ds.take (i * n)).map (renI V7) ++ qs.flatMap fun q=>w6 (den q) 0 n
 | [],i,ds,qs,h,hl=>by
  simp only [a3g] at h
  injection h with h
  subst h
  refine ⟨ds,rfl,?_⟩
  simp only [List.flatMap_nil,List.append_nil]
  rw [List.take_of_length_le (by rw [hl];simp)]
 | (j,v) :: ps,i,ds,qs,h,hl=>by
  simp only [a3g] at h
  split at h
  ·rename_i q qs' hj hq hqs
   injection h with h
   subst h
   have:=Nat.eq_of_beq_eq_true hj
   subst this
   obtain ⟨h1,h2,h3⟩:=c7x hq
   simp only [List.length_cons] at hl
   have hle:i * n+n≤ds.length:=by
    rw [hl]
    have:(i+1) * n≤(i+(ps.length+1)) * n:=Nat.mul_le_mul_right n (by omega)
    rw [Nat.succ_mul] at this
    exact this
   have hw:L5 ds (i * n) (toD v).cells=ds.take (i * n) ++ (toD v).cells ++ ds.drop (i * n+n):=by
    rw [a9c _ _ _ (by rw [h2];exact hle),h2]
   have hlen:(L5 ds (i * n) (toD v).cells).length=(i+1+ps.length) * n:=by
    rw [hw]
    simp only [List.length_append,List.length_take,List.length_drop,h2]
    have:(i+1+ps.length) * n=ds.length:=by rw [hl];congr 1;omega
    omega
   obtain ⟨out,ho,hm⟩:=b87 hqs hlen
   refine ⟨out,?_,?_⟩
   ·simp only [List.map_cons,a2h,h1,h2]
    have e1:Nat.ble (i * n+n) ds.length=true:=by rw [Nat.ble_eq];exact hle
    rw [e1]
    simp only [beq_self_eq_true,Bool.and_self,cond_true]
    exact ho
   ·rw [hm,hw,Nat.succ_mul]
    have e2:(ds.take (i * n) ++ (toD v).cells ++ ds.drop (i * n+n)).take (i * n+n)=ds.take (i * n) ++ (toD v).cells :=
     List.take_left' (by simp only [List.length_append,List.length_take,h2];omega)
    rw [e2,List.map_append,h3,List.flatMap_cons,List.append_assoc]
  ·cases h
theorem a9o {n:Nat}:∀ {ps:List (Nat × V)} {i:Nat} {qs:List Q},a3g n i ps=some qs→qs.length=ps.length
 | [],i,qs,h=>by simp only [a3g] at h;injection h with h;subst h;rfl
 | (j,v) :: ps,i,qs,h=>by
  simp only [a3g] at h
  split at h
  ·rename_i q qs' hj hq hqs
   injection h with h
   subst h
   simp [a9o hqs]
  ·cases h
theorem d1w:∀ (qs:List Q) (i:Nat) (t:j8 Q),i+qs.length+2≤2 ^ L9→(∀ k,k < i→I7 (A3 (mkT qs i t)) k=I7 (A3 t) k)∧∀ k q,qs[k]?=some q→I7 (A3 (mkT qs i t)) (i+k)=den q
 | [],i,t,_=>⟨fun _ _=>rfl,fun k q h=>by simp at h⟩
 | q :: qs,i,t,hb=>by
  simp only [List.length_cons] at hb
  obtain ⟨h1,h2⟩:=d1w qs (i+1) (t.set .no q L9 i) (by omega)
  refine ⟨fun k hk=>?_,fun k x hx=>?_⟩
  ·simp only [mkT];rw [h1 k (by omega),a33 _ _ _ (by omega)]
  ·simp only [mkT]
   cases k with
   | zero =>
    simp at hx;subst hx
    show I7 (A3 (mkT qs (i+1) (j8.set Q.no q L9 t i))) i=den q
    rw [h1 i (by omega),b1t _ _ (by omega)]
   | succ k =>
    simp only [List.getElem?_cons_succ] at hx
    have:=h2 k x hx
    rw [show i+1+k=i+(k+1) by omega] at this
    exact this
theorem b9j {T:j8 Den} {n:Nat}:∀ (qs:List Q) (off:Nat),(∀ k q,qs[k]?=some q→I7 T (off+k)=den q)→rows T n off qs.length=qs.flatMap fun q=>w6 (den q) 0 n
 | [],off,h=>rfl
 | q :: qs,off,h=>by
  simp only [List.length_cons,rows,List.flatMap_cons]
  rw [b9j qs (off+1) (fun k x hx=>by have:=h (k+1) x (by simpa using hx);rw [show off+1+k=off+(k+1) by omega];exact this)]
  have:=h 0 q rfl
  rw [Nat.add_zero] at this
  rw [this]

theorem c2f (z:List D) (n:Nat):(a2l z n).length=n:=by simp [a2l]

theorem c26 {P:Program} {t:TypeId} {x y:V} {K:KV} (h:b64 CR P s nid t x y K=some r):∃ v ws rs,K v ws rs=some r∧a2c P (o8 s) nid t (toD x) (toD y)=some ⟨true,toD v,D6 ws,rs⟩:=by
 unfold b64 at h
 split at h
 ·rename_i e hu
  split at h
  ·rename_i n b z hn hb hz
   cases hg:Nat.beq z.length n && Nat.blt 0 n && a03 s nid with
   | false=>rw [hg] at h;cases h
   | true =>
    rw [hg] at h
    simp only [cond_true] at h
    simp only [Bool.and_eq_true] at hg
    obtain ⟨⟨g1,g2⟩,g3⟩:=hg
    obtain ⟨tr,off,len,c,hx,h⟩:=a0s h
    obtain ⟨t2,off2,m,_,hy,h⟩:=a0s h
    obtain ⟨h0,h⟩:=D2 h
    have h0:(band (Nat.ble ((len+m) * b) 140737488355328) (Nat.ble (len+m) 140737488355328))=true:=h0
    rw [CfN] at h
    rw [L1,Bool.and_eq_true,Nat.ble_eq,Nat.ble_eq] at h0
    obtain ⟨t',h,hold,hnew⟩:=c5o m (t:=tr) (i:=off+len) (j:=off2) h
    have hrows:rows (A3 t') n off (len+m)=rows (A3 tr) n off len ++ rows (A3 t2) n off2 m:=by
     rw [b2h]
     congr 1
     ·exact a9e len off off fun k hk=>hold _ (by omega)
     ·exact a9e m (off+len) off2 fun k hk=>hnew k hk
    have hz':=a1i hz
    have hzl:Nat.beq (z.map toD).length n=true:=by rw [List.length_map];exact g1
    have hneed:(decide ((len+m) * b≤H2∧len+m≤H2∧(rows (A3 tr) n off len).length=len * n∧(rows (A3 t2) n off2 m).length=m * n) && (rows (A3 t2) n off2 m).all D.one)=true:=by
     rw [c22,Bool.and_true,decide_eq_true_iff]
     exact ⟨h0.1,h0.2,F5 _ _,F5 _ _⟩
    split at h
    ·refine ⟨_,_,_,h,?_⟩
     simp only [A7,t8,s7,q8,r9,q7,w9,x9,x8,p8,p5,u3,p4,x7,y2,r7,r8,t7,s9,t6,s8,x6,x5,u1,r6,u5,u4,A6,nAdd,Nat.add_eq,a2c,hu,hx,hy,hn,hb,hz',hzl,g2,a6q g3,Bool.and_self,cond_true,hneed,toD,hrows,D6,List.map_cons,List.map_nil,C1]
    ·rename_i id
     split at h
     ·rename_i l k hbx
      obtain ⟨h1,h⟩:=D2 h
      have h1:(band (Nat.beq l len) (Nat.beq k n))=true:=h1
      rw [L1,Bool.and_eq_true] at h1
      refine ⟨_,_,_,h,?_⟩
      have hh:=S7 hbx (by simp)
      simp only [C1] at hh
      simp only [A7,t8,s7,q8,r9,q7,w9,x9,x8,p8,p5,u3,p4,x7,y2,r7,r8,t7,s9,t6,s8,x6,x5,u1,r6,u5,u4,A6,nAdd,Nat.add_eq,a2c,hu,hx,hy,hn,hb,hz',hzl,g2,a6q g3,Bool.and_self,cond_true,hneed,toD,hrows,D6,List.map_cons,List.map_nil,C1,hh,h1.1,h1.2]
     ·cases h
    ·cases h
  ·cases h
 ·cases h

theorem a6a {v:V} {x:Q} (h:b61 v=some x):toD v=den x 0:=by
 unfold b61 at h
 split at h <;> first
  | (injection h with h;subst h;simp only [toD,den];rfl)
  | (injection h with h;subst h;simp only [toD])
  | cases h
theorem c8r {b:Bx} {cs:List V} (h:c78 CR b=some cs):C1 b=.cells (cs.map toD)∧b ≠ .dead:=by
 unfold c78 at h
 split at h
 ·injection h with h;subst h;exact ⟨rfl,by simp⟩
 ·rename_i x m
  injection h with h
  subst h
  refine ⟨?_,by simp⟩
  simp only [C1,J6,List.map_map]
  congr 1
  exact List.map_congr_left fun i _=>by simp only [Function.comp,toD];exact (a2b x i).symm
 ·cases h
theorem d59 {tr:j8 Q} {y:Q} {off len:Nat} (h1:off < len) (h2:off+2≤2 ^ L9):rows (A3 (tr.set .no y L9 off)) 1 0 len=(rows (A3 tr) 1 0 len).set off (den y 0):=by
 have key:∀ (T:j8 Den) (m o i:Nat),i < m→(rows T 1 o m)[i]?=some (I7 T (o+i) 0):=by
  intro T m
  induction m with
  | zero=>intro o i hi;omega
  | succ m ih =>
   intro o i hi
   simp only [rows,w6,List.cons_append,List.nil_append]
   cases i with
   | zero=>rfl
   | succ i =>
    rw [List.getElem?_cons_succ,ih (o+1) i (by omega)]
    rw [show o+1+i=o+(i+1) by omega]
 apply List.ext_getElem?
 intro i
 rcases Nat.lt_or_ge i len with hi | hi
 ·rw [key _ _ _ _ hi,Nat.zero_add]
  by_cases he:off=i
  ·subst he
   rw [List.getElem?_set_self (by rw [F5,Nat.mul_one];exact hi),b1t _ _ h2]
  ·rw [List.getElem?_set_ne he,key _ _ _ _ hi,Nat.zero_add,a33 _ _ _ (fun e=>he e.symm)]
 ·rw [List.getElem?_eq_none (by rw [F5,Nat.mul_one];exact hi),List.getElem?_eq_none (by rw [List.length_set,F5,Nat.mul_one];exact hi)]
end
end
end Go.Abs
namespace Go.Abs
noncomputable section

section
variable {X:Pr} {s:A9} {nid:Nat} {r:R}

theorem c2n (l:List Operand):l.map (o8 s).eval=(l.map s.eval).map toD:=by
 rw [List.map_map];exact List.map_congr_left fun x _=>o7 s x

theorem d1t {t:TypeId} {parts:Array (Nat × Operand)} {K:KV} (h:O6 CR X s nid (.build t parts) K=some r):∃ v ws rs,K v ws rs=some r∧v8 X (o8 s) nid (.build t parts)=some ⟨true,toD v,D6 ws,rs⟩:=by
 simp only [O6] at h
 split at h
 ·rename_i fs z hu hz
  split at h
  ·rename_i cs hf
   cases ha:(fs.all fun f=>(D5 X.P f.type).isSome) with
   | false=>rw [ha] at h;cases h
   | true =>
    rw [ha] at h
    refine ⟨_,_,_,h,?_⟩
    have:=b4l hf
    simp only [List.map_map] at this
    have e:(parts.toList.map fun p=>(p.1,(o8 s).eval p.2))=parts.toList.map ((fun p:Nat × V=>(p.1,toD p.2)) ∘ fun p=>(p.1,s.eval p.2)) :=
     List.map_congr_left fun p _=>by simp only [Function.comp,o7]
    rw [← e] at this
    simp only [A7,t8,s7,q8,r9,q7,w9,x9,x8,p8,p5,u3,p4,x7,y2,r7,r8,t7,s9,t6,s8,x6,x5,u1,r6,u5,u4,A6,v8,hu,a1i hz,this,E6,ha,toD,C9]
    rfl
  ·cases h
 ·cases h
theorem b7m {t:TypeId} {len:Nat} {parts:Array (Nat × Operand)} {K:KV} (h:O6 CR X s nid (.buildSlice t len parts) K=some r):∃ v ws rs,K v ws rs=some r∧v8 X (o8 s) nid (.buildSlice t len parts)=some ⟨true,toD v,D6 ws,rs⟩:=by
 simp only [O6] at h
 split at h
 ·rename_i e hu
  split at h
  ·rename_i n z hn hz
   split at h
   ·rename_i qs hq
    cases hg:Nat.beq qs.length len && (Nat.ble (len * n) 16777216 && Nat.ble len 16777216) with
    | false=>rw [hg] at h;cases h
    | true =>
     rw [hg] at h
     simp only [Bool.and_eq_true] at hg
     obtain ⟨g1,g2,g3⟩:=hg
     have hql:=Nat.eq_of_beq_eq_true g1
     refine ⟨_,_,_,h,?_⟩
     have hpl:=a9o hq
     simp only [List.length_map] at hpl
     obtain ⟨out,ho,hm⟩:=b87 hq (ds:=a2l (z.map toD) (len * n)) (by rw [c2f,Nat.zero_add,List.length_map,← hpl,hql])
     simp only [List.map_map] at ho
     have e:(parts.toList.map fun p=>(p.1,(o8 s).eval p.2))=parts.toList.map ((fun p:Nat × V=>(p.1,toD p.2)) ∘ fun p=>(p.1,s.eval p.2)) :=
      List.map_congr_left fun p _=>by simp only [Function.comp,o7]
     rw [← e] at ho
     simp only [A7,t8,s7,q8,r9,q7,w9,x9,x8,p8,p5,u3,p4,x7,y2,r7,r8,t7,s9,t6,s8,x6,x5,u1,r6,u5,u4,A6,v8,hu,hn,a1i hz,ho,E6,g2,toD,hm,Nat.zero_mul,List.take_zero,List.map_nil,List.nil_append]
     have hb:0+qs.length+2≤2 ^ L9:=by
      rw [Nat.ble_eq] at g3
      show 0+qs.length+2≤2 ^ 48
      omega
     obtain ⟨_,h2⟩:=d1w qs 0 .nil hb
     rw [← hql,b9j qs 0 h2]
     rfl
   ·cases h
  ·cases h
 ·cases h
theorem d5d {t:TypeId} {a:Operand} {K:KV} (h:O6 CR X s nid (.load t a) K=some r):∃ v ws rs,K v ws rs=some r∧v8 X (o8 s) nid (.load t a)=some ⟨true,toD v,D6 ws,rs⟩:=by
 simp only [O6] at h
 split at h
 ·rename_i id off ha
  split at h
  ·rename_i cs hb
   obtain ⟨v,h,hr⟩:=a80 h
   have hh:=S7 hb (by simp)
   refine ⟨_,_,_,h,?_⟩
   simp only [A7,t8,s7,q8,r9,q7,w9,x9,x8,p8,p5,u3,p4,x7,y2,r7,r8,t7,s9,t6,s8,x6,x5,u1,r6,u5,u4,A6,v8,o7,ha,toD,hh,C1,hr,Option.map_some]
   rfl
  ·rename_i x m hb
   obtain ⟨v,h,hr⟩:=a4e h
   have hh:=S7 hb (by simp)
   have:=hr 0 (Nat.zero_le _)
   rw [Nat.sub_zero,Nat.sub_zero] at this
   refine ⟨_,_,_,h,?_⟩
   simp only [A7,t8,s7,q8,r9,q7,w9,x9,x8,p8,p5,u3,p4,x7,y2,r7,r8,t7,s9,t6,s8,x6,x5,u1,r6,u5,u4,A6,v8,o7,ha,toD,hh,C1,this,Option.map_some]
   rfl
  ·rename_i tr len hb
   split at h
   ·rename_i hag
    obtain ⟨h0,h⟩:=D2 h
    have h0:(Nat.ble (off+1) len)=true:=h0
    rw [CfQ] at h
    rw [Nat.ble_eq] at h0
    have hh:=S7 hb (by simp)
    refine ⟨_,_,_,h,?_⟩
    have key:(rows (A3 tr) 1 0 len)[off]?=some (den (tQ tr off) 0):=by
     have h1:=b9b (T:=A3 tr) (n:=1) (off:=0) (show off < len by omega)
     rw [Nat.mul_one,Nat.zero_add] at h1
     have h2:=congrArg (·[0]?) h1
     simp only [List.getElem?_take_of_lt (show 0 < 1 by omega),List.getElem?_drop,Nat.add_zero] at h2
     rw [h2,b5x]
     rfl
    simp only [A7,t8,s7,q8,r9,q7,w9,x9,x8,p8,p5,u3,p4,x7,y2,r7,r8,t7,s9,t6,s8,x6,x5,u1,r6,u5,u4,A6,v8,o7,ha,toD,hh,C1,P9,hag,key,Option.map_some]
    rfl
   ·cases h
  ·cases h
 ·rename_i x off m ha
  obtain ⟨v,h,hr⟩:=a4e h
  have:=hr off (Nat.le_refl _)
  rw [Nat.add_sub_cancel_left,Nat.sub_self] at this
  refine ⟨_,_,_,h,?_⟩
  simp only [A7,t8,s7,q8,r9,q7,w9,x9,x8,p8,p5,u3,p4,x7,y2,r7,r8,t7,s9,t6,s8,x6,x5,u1,r6,u5,u4,A6,v8,o7,ha,toD,this,Option.map_some]
  rfl
 ·cases h
theorem d0e {t:TypeId} {a x:Operand} {K:KV} (h:O6 CR X s nid (.store t a x) K=some r):∃ v ws rs,K v ws rs=some r∧v8 X (o8 s) nid (.store t a x)=some ⟨true,toD v,D6 ws,rs⟩:=by
 simp only [O6] at h
 split at h
 ·rename_i id off ha
  split at h
  ·rename_i tr len hb hn
   split at h
   ·rename_i y hy
    obtain ⟨h0,h⟩:=D2 h
    have h0:(band (Nat.ble (off+1) len) (Nat.ble (off+2) 281474976710656))=true:=h0
    rw [L1,Bool.and_eq_true,Nat.ble_eq,Nat.ble_eq] at h0
    rw [show CR.sT=fun t i x K=>a1j x L9 t i K from rfl] at h
    simp only [V6] at h
    have hh:=S7 hb (by simp)
    have hv:=a6a hy
    have ho:=L3 y 0
    refine ⟨_,_,_,h,?_⟩
    have hc:(den y 0).cells=[den y 0]:=by cases hd:den y 0 <;> rw [hd] at ho <;> first | rfl | cases ho
    have hok:(den y 0).ok=true:=by simp [D.ok,ho]
    have e1:Nat.ble (off+1) (rows (A3 tr) 1 0 len).length=true:=by rw [F5,Nat.mul_one,Nat.ble_eq];exact h0.1
    simp only [A7,t8,s7,q8,r9,q7,w9,x9,x8,p8,p5,u3,p4,x7,y2,r7,r8,t7,s9,t6,s8,x6,x5,u1,r6,u5,u4,A6,v8,o7,ha,toD,hh,C1,hn,hv,hok,hc,List.all_cons,List.all_nil,ho,e1,Bool.and_self,List.length_cons,List.length_nil,Nat.zero_add,L5,D6,List.map_cons,List.map_nil,S8]
    rw [d59 (by omega) (by show off+2≤2 ^ 48;exact h0.2)]
    rfl
   ·cases h
  ·rename_i n hn hnr
   split at h
   ·rename_i cs hcs
    obtain ⟨hB,hd⟩:=c8r hcs
    have hh:=S7 (s:=s) (i:=id) rfl hd
    rw [hB] at hh
    split at h
    ·rename_i y m hx
     have hal:(w6 (den y) 0 m).all D.one=true:=a8q (L3 y) m 0
     cases hg:Nat.beq m n && (Nat.beq off 0 && Nat.beq m cs.length) with
     | true =>
      rw [hg] at h
      simp only [Bool.and_eq_true] at hg
      obtain ⟨g1,g2,g3⟩:=hg
      have e1:=Nat.eq_of_beq_eq_true g1
      have e2:=Nat.eq_of_beq_eq_true g2
      have e3:=Nat.eq_of_beq_eq_true g3
      subst e1 e2
      refine ⟨_,_,_,h,?_⟩
      have e4:Nat.ble (0+m) (cs.map toD).length=true:=by rw [List.length_map,Nat.ble_eq];omega
      have e5:L5 (cs.map toD) 0 (w6 (den y) 0 m)=w6 (den y) 0 m:=by
       rw [a9c _ _ _ (by rw [E0,List.length_map];omega),E0,List.take_zero,List.nil_append,List.drop_of_length_le (by rw [List.length_map];omega),List.append_nil]
      simp only [A7,t8,s7,q8,r9,q7,w9,x9,x8,p8,p5,u3,p4,x7,y2,r7,r8,t7,s9,t6,s8,x6,x5,u1,r6,u5,u4,A6,v8,o7,ha,hx,toD,hh,hn,D.ok,D.isAgg,D.cells,E0,g1,hal,e4,Bool.or_true,Bool.and_self,cond_true,e5,D6,List.map_cons,List.map_nil,C1,S8]
     | false =>
      rw [hg] at h
      simp only [cond_false] at h
      cases hg2:Nat.beq m n && Nat.ble (off+n) cs.length with
      | false=>rw [hg2] at h;cases h
      | true =>
       rw [hg2] at h
       simp only [Bool.and_eq_true] at hg2
       obtain ⟨g1,g2⟩:=hg2
       have e1:=Nat.eq_of_beq_eq_true g1
       subst e1
       refine ⟨_,_,_,h,?_⟩
       have e4:Nat.ble (off+m) (cs.map toD).length=true:=by rw [List.length_map];exact g2
       have e6:((a8j 0 m).map fun i=>V.q (celQ y i)).map toD=w6 (den y) 0 m:=by
        rw [J6,List.map_map]
        exact List.map_congr_left fun i _=>by simp only [Function.comp,toD];exact a2b y i
       simp only [A7,t8,s7,q8,r9,q7,w9,x9,x8,p8,p5,u3,p4,x7,y2,r7,r8,t7,s9,t6,s8,x6,x5,u1,r6,u5,u4,A6,v8,o7,ha,hx,toD,hh,hn,D.ok,D.isAgg,D.cells,E0,g1,hal,e4,Bool.or_true,Bool.and_self,cond_true,D6,List.map_cons,List.map_nil,C1,S8,a6b]
       rw [e6]
    ·rename_i hna
     split at h
     ·rename_i vs hvs
      obtain ⟨hok,hcl⟩:=a2s hvs
      cases hg:Nat.beq vs.length n && (vs.all b6t && Nat.ble (off+n) cs.length) with
      | false=>rw [hg] at h;cases h
      | true =>
       rw [hg] at h
       simp only [Bool.and_eq_true] at hg
       obtain ⟨g1,g2,g3⟩:=hg
       refine ⟨_,_,_,h,?_⟩
       have e1:Nat.beq (vs.map toD).length n=true:=by rw [List.length_map];exact g1
       have e4:Nat.ble (off+n) (cs.map toD).length=true:=by rw [List.length_map];exact g3
       simp only [A7,t8,s7,q8,r9,q7,w9,x9,x8,p8,p5,u3,p4,x7,y2,r7,r8,t7,s9,t6,s8,x6,x5,u1,r6,u5,u4,A6,v8,o7,ha,toD,hh,hn,hok,hcl,e1,d8h g2,e4,Bool.and_self,cond_true,D6,List.map_cons,List.map_nil,C1,S8,a6b]
     ·cases h
   ·cases h
  ·cases h
 ·cases h
theorem d1l {t:TypeId} {x:Operand} {f:Nat} {K:KV} (h:O6 CR X s nid (.field t x f) K=some r):∃ v ws rs,K v ws rs=some r∧v8 X (o8 s) nid (.field t x f)=some ⟨true,toD v,D6 ws,rs⟩:=by
 simp only [O6] at h
 split at h
 ·rename_i fs hu
  split at h
  ·rename_i fd cs hf hx
   obtain ⟨v,h,hr⟩:=a80 h
   refine ⟨_,_,_,h,?_⟩
   simp only [A7,t8,s7,q8,r9,q7,w9,x9,x8,p8,p5,u3,p4,x7,y2,r7,r8,t7,s9,t6,s8,x6,x5,u1,r6,u5,u4,A6,v8,hu,hf,o7,hx,toD,C9,hr,Option.bind_some,y5]
   rfl
  ·rename_i fd y m hf hx
   obtain ⟨v,h,hr⟩:=a4e h
   have:=hr 0 (Nat.zero_le _)
   rw [Nat.sub_zero,Nat.sub_zero] at this
   refine ⟨_,_,_,h,?_⟩
   simp only [A7,t8,s7,q8,r9,q7,w9,x9,x8,p8,p5,u3,p4,x7,y2,r7,r8,t7,s9,t6,s8,x6,x5,u1,r6,u5,u4,A6,v8,hu,hf,o7,hx,toD,this,Option.bind_some,y5]
   rfl
  ·cases h
 ·cases h
theorem b91 {t:TypeId} {x:Operand} {f:Nat} {K:KV} (h:O6 CR X s nid (.fieldAddr t x f) K=some r):∃ v ws rs,K v ws rs=some r∧v8 X (o8 s) nid (.fieldAddr t x f)=some ⟨true,toD v,D6 ws,rs⟩:=by
 simp only [O6] at h
 split at h
 ·rename_i fs hu
  split at h
  ·rename_i fd hf
   split at h
   ·rename_i k hs
    split at h
    ·rename_i id off hx
     exact ⟨_,_,_,h,by simp only [A7,t8,s7,q8,r9,q7,w9,x9,x8,p8,p5,u3,p4,x7,y2,r7,r8,t7,s9,t6,s8,x6,x5,u1,r6,u5,u4,A6,v8,hu,hf,hs,o7,hx,toD,y5];rfl⟩
    ·rename_i y off m hx
     exact ⟨_,_,_,h,by simp only [A7,t8,s7,q8,r9,q7,w9,x9,x8,p8,p5,u3,p4,x7,y2,r7,r8,t7,s9,t6,s8,x6,x5,u1,r6,u5,u4,A6,v8,hu,hf,hs,o7,hx,toD,y5,a62];rfl⟩
    ·cases h
   ·cases h
  ·cases h
 ·cases h
theorem b9s {t:TypeId} {x i:Operand} {K:KV} (h:O6 CR X s nid (.indexAddr t x i) K=some r):∃ v ws rs,K v ws rs=some r∧v8 X (o8 s) nid (.indexAddr t x i)=some ⟨true,toD v,D6 ws,rs⟩:=by
 simp only [O6] at h
 split at h
 ·rename_i e hu
  split at h
  ·rename_i n hn
   split at h
   ·rename_i id len hx
    obtain ⟨_,k,hi,h⟩:=M8 h
    obtain ⟨h0,h⟩:=D2 h
    have h0:(band (iLe 0 k) (iLt k (len:Int)))=true:=h0
    rw [CfN] at h
    have g:0≤k∧k < (len:Int):=by simpa [L1,U5,a0h] using h0
    refine ⟨_,_,_,h,?_⟩
    simp only [A7,t8,s7,q8,r9,q7,w9,x9,x8,p8,p5,u3,p4,x7,y2,r7,r8,t7,s9,t6,s8,x6,x5,u1,r6,u5,u4,A6,v8,hu,o7,hx,hi,toD,hn,Option.bind_some,E6,decide_eq_true g,nMul,E7]
    rfl
   ·obtain ⟨tr,off,len,c,hx,h⟩:=a0s h
    obtain ⟨_,k,hi,h⟩:=M8 h
    obtain ⟨h0,h⟩:=D2 h
    have h0:(band (iLe 0 k) (iLt k (len:Int)))=true:=h0
    rw [CfQ] at h
    have g:0≤k∧k < (len:Int):=by simpa [L1,U5,a0h] using h0
    refine ⟨_,_,_,h,?_⟩
    have g2:0≤k∧k < (len:Int)∧len * (n+1)≤(rows (A3 tr) (n+1) off len).length∧0 < n+1:=⟨g.1,g.2,by rw [F5];exact Nat.le_refl _,by omega⟩
    simp only [A7,t8,s7,q8,r9,q7,w9,x9,x8,p8,p5,u3,p4,x7,y2,r7,r8,t7,s9,t6,s8,x6,x5,u1,r6,u5,u4,A6,v8,hu,o7,hx,hi,toD,hn,Option.bind_some,E6,decide_eq_true g2,E7]
    rw [b9b (show k.toNat < len by omega),b5x]
    rfl
  ·cases h
 ·cases h
theorem c33 {b:Builtin} {args:Array Operand} {ts:Array TypeId} {K:KV} (h:O6 CR X s nid (.call { callee:=.builtin b,args,argTypes:=ts }) K=some r) :
  ∃ v ws rs,K v ws rs=some r∧v8 X (o8 s) nid (.call { callee:=.builtin b,args,argTypes:=ts })=some ⟨true,toD v,D6 ws,rs⟩:=by
 simp only [O6] at h
 split at h
 ·rename_i x t ha ht
  split at h
  ·rename_i hu
   obtain ⟨l,c,hx,h⟩:=Y8 h
   rw [CfI] at h
   exact ⟨_,_,_,h,by simp only [A7,t8,s7,q8,r9,q7,w9,x9,x8,p8,p5,u3,p4,x7,y2,r7,r8,t7,s9,t6,s8,x6,x5,u1,r6,u5,u4,A6,v8,ha,ht,hu,o7,hx,y5,toD,Q3];rfl⟩
  ·rename_i e hu
   split at h
   ·rename_i id n hx
    rw [CfI] at h
    exact ⟨_,_,_,h,by simp only [A7,t8,s7,q8,r9,q7,w9,x9,x8,p8,p5,u3,p4,x7,y2,r7,r8,t7,s9,t6,s8,x6,x5,u1,r6,u5,u4,A6,v8,ha,ht,hu,o7,hx,y5,toD];rfl⟩
   ·split at h
    ·obtain ⟨tr,off,len,c,hx,h⟩:=a0s h
     rw [CfI] at h
     exact ⟨_,_,_,h,by simp only [A7,t8,s7,q8,r9,q7,w9,x9,x8,p8,p5,u3,p4,x7,y2,r7,r8,t7,s9,t6,s8,x6,x5,u1,r6,u5,u4,A6,v8,ha,ht,hu,o7,hx,y5,toD];rfl⟩
    ·cases h
  ·cases h
 ·rename_i x y t ts' ha ht
  split at h
  ·rename_i k hu
   obtain ⟨a,hx,h⟩:=V1 h
   obtain ⟨b,hy,h⟩:=V1 h
   rw [CfI] at h
   refine ⟨_,_,_,h,?_⟩
   simp only [A7,t8,s7,q8,r9,q7,w9,x9,x8,p8,p5,u3,p4,x7,y2,r7,r8,t7,s9,t6,s8,x6,x5,u1,r6,u5,u4,A6,v8,ha,o7,hx,hy,y5,toD,b7j,a0h]
   by_cases hab:a < b
   ·simp [hab,D6]
   ·simp [hab,D6]
  ·cases h
 ·rename_i x y t ts' ha ht
  split at h
  ·rename_i k hu
   obtain ⟨a,hx,h⟩:=V1 h
   obtain ⟨b,hy,h⟩:=V1 h
   rw [CfI] at h
   refine ⟨_,_,_,h,?_⟩
   simp only [A7,t8,s7,q8,r9,q7,w9,x9,x8,p8,p5,u3,p4,x7,y2,r7,r8,t7,s9,t6,s8,x6,x5,u1,r6,u5,u4,A6,v8,ha,o7,hx,hy,y5,toD,b7j,a0h]
   by_cases hab:b < a
   ·simp [hab,D6]
   ·simp [hab,D6]
  ·cases h
 ·rename_i x y t u ha ht
  cases hb:Nat.beq t u with
  | false=>rw [hb] at h;cases h
  | true =>
   rw [hb] at h
   obtain ⟨v,ws,rs,h,hd⟩:=c26 h
   exact ⟨v,ws,rs,h,by simp only [A7,t8,s7,q8,r9,q7,w9,x9,x8,p8,p5,u3,p4,x7,y2,r7,r8,t7,s9,t6,s8,x6,x5,u1,r6,u5,u4,A6,v8,ha,ht,hb,cond_true,o7,hd]⟩
 ·cases h

theorem c7e {P:Program} {t:TypeId} {same:Bool} {l c:V} {K:KV} (h:c7d CR P s nid t same l c K=some r):∃ v ws rs,K v ws rs=some r∧b1p P (o8 s) nid t same (toD l) (toD c)=some ⟨true,toD v,D6 ws,rs⟩:=by
 unfold c7d at h
 split at h
 ·rename_i e hu
  split at h
  ·rename_i n b z hn hb hz
   cases hg:Nat.beq z.length n && Nat.blt 0 n with
   | false=>rw [hg] at h;cases h
   | true =>
    rw [hg] at h
    simp only [cond_true] at h
    have hz':=a1i hz
    have hg':(Nat.beq (z.map toD).length n && Nat.blt 0 n)=true:=by rw [List.length_map];exact hg
    split at h
    ·obtain ⟨_,a,hl,h⟩:=M8 h
     obtain ⟨_,m,hc,h⟩:=M8 h
     obtain ⟨h0,h⟩:=D2 h
     have h0:band (iEq a 0) (band (iLe 0 m) (band (Nat.ble (iNat m * b) 140737488355328) (Nat.ble (iNat m) 140737488355328)))=true:=h0
     obtain ⟨hf,h⟩:=a0g h
     refine ⟨_,_,_,h,?_⟩
     have hq:a=0∧0≤m∧m.toNat * b≤H2∧m.toNat≤H2:=by
      simp only [L1,Q5,U5,E7,Bool.and_eq_true,beq_iff_eq,decide_eq_true_eq,Nat.ble_eq] at h0
      exact h0
     simp only [b1p,hu,hl,hc,hn,hb,hz',hg',cond_true,decide_eq_true hq,a43 hf,toD,rows,D6,List.map_cons,List.map_nil,C1]
    ·split at h
     ·rename_i z0
      split at h
      ·rename_i x hx
       obtain ⟨_,a,hl,h⟩:=M8 h
       obtain ⟨_,m,hc,h⟩:=M8 h
       obtain ⟨h0,h⟩:=D2 h
       have h0:band (iLe 0 a) (band (iEq a m) (band (Nat.ble (iNat a * b) 140737488355328) (Nat.ble (iNat a) 140737488355328)))=true:=h0
       rw [CfN] at h
       obtain ⟨tr,h,_,hnew⟩:=c5h (CR.iNat a) (t:=.nil) (i:=0) h
       obtain ⟨hf,h⟩:=a0g h
       refine ⟨_,_,_,h,?_⟩
       have hq:0≤a∧a=m∧a.toNat * b≤H2∧a.toNat≤H2:=by
        simp only [L1,Q5,U5,E7,Bool.and_eq_true,beq_iff_eq,decide_eq_true_eq,Nat.ble_eq] at h0
        exact h0
       have hn1:n=1:=by
        simp only [Bool.and_eq_true,List.length_cons,List.length_nil] at hg
        exact (Nat.eq_of_beq_eq_true hg.1).symm
       subst hn1
       have hia:CR.iNat a=a.toNat:=E7 a
       rw [hia] at hnew ⊢
       have hrows:rows (A3 tr) 1 0 a.toNat=a2l [toD z0] (a.toNat * 1):=by
        rw [a6a hx]
        have key:∀ (m off:Nat),(∀ k,k < m→I7 (A3 tr) (off+k)=den x)→rows (A3 tr) 1 off m=List.replicate m (den x 0):=by
         intro m
         induction m with
         | zero=>intro _ _;rfl
         | succ m ih =>
          intro off hk
          simp only [rows,w6,List.replicate_succ,List.cons_append,List.nil_append]
          have e0:=hk 0 (by omega)
          rw [Nat.add_zero] at e0
          rw [e0,ih (off+1) (fun k hk'=>by have:=hk (k+1) (by omega);rw [show off+1+k=off+(k+1) by omega];exact this)]
        rw [key _ 0 hnew,Nat.mul_one]
        unfold a2l
        apply List.ext_getElem?
        intro i
        rcases Nat.lt_or_ge i a.toNat with hi | hi
        ·rw [List.getElem?_replicate,if_pos hi,List.getElem?_map,List.getElem?_range hi]
         simp [Nat.mod_one]
        ·rw [List.getElem?_eq_none (by simpa using hi),List.getElem?_eq_none (by simpa using hi)]
       simp only [b1p,hu,hl,hc,hn,hb,hz',hg',cond_true,decide_eq_true hq,a43 hf,toD,D6,List.map_cons,List.map_nil,C1,hrows]
       rfl
      ·cases h
     ·cases h
  ·cases h
 ·cases h
theorem d5s {o:Op} {K:KV} (h:O6 CR X s nid o K=some r):∃ v ws rs,K v ws rs=some r∧v8 X (o8 s) nid o=some ⟨true,toD v,D6 ws,rs⟩:=by
 cases o
 case move x=>exact ⟨_,_,_,h,by simp only [A7,t8,s7,q8,r9,q7,w9,x9,x8,p8,p5,u3,p4,x7,y2,r7,r8,t7,s9,t6,s8,x6,x5,u1,r6,u5,u4,A6,v8,o7,y5];rfl⟩
 case assign x=>exact ⟨_,_,_,h,by simp only [A7,t8,s7,q8,r9,q7,w9,x9,x8,p8,p5,u3,p4,x7,y2,r7,r8,t7,s9,t6,s8,x6,x5,u1,r6,u5,u4,A6,v8,o7,y5];rfl⟩
 case alloc t =>
  simp only [O6] at h
  split at h
  ·rename_i z hz
   obtain ⟨hf,h⟩:=a0g h
   exact ⟨_,_,_,h,by simp only [A7,t8,s7,q8,r9,q7,w9,x9,x8,p8,p5,u3,p4,x7,y2,r7,r8,t7,s9,t6,s8,x6,x5,u1,r6,u5,u4,A6,v8,a1i hz,a43 hf,toD,D6,List.map_cons,List.map_nil,C1]⟩
  ·cases h
 case box t x =>
  simp only [O6] at h
  split at h
  ·rename_i y m hx
   obtain ⟨hf,h⟩:=a0g h
   exact ⟨_,_,_,h,by simp only [A7,t8,s7,q8,r9,q7,w9,x9,x8,p8,p5,u3,p4,x7,y2,r7,r8,t7,s9,t6,s8,x6,x5,u1,r6,u5,u4,A6,v8,o7,hx,toD,D.ok,D.isAgg,Bool.or_true,cond_true,a43 hf,D.cells,D6,List.map_cons,List.map_nil,C1]⟩
  ·split at h
   ·rename_i cs hcs
    obtain ⟨hf,h⟩:=a0g h
    obtain ⟨h1,h2⟩:=a2s hcs
    exact ⟨_,_,_,h,by simp only [A7,t8,s7,q8,r9,q7,w9,x9,x8,p8,p5,u3,p4,x7,y2,r7,r8,t7,s9,t6,s8,x6,x5,u1,r6,u5,u4,A6,v8,o7,h1,cond_true,a43 hf,h2,toD,D6,List.map_cons,List.map_nil,C1]⟩
   ·cases h
 case build t parts=>exact d1t h
 case buildSlice t len parts=>exact b7m h
 case load t a=>exact d5d h
 case store t a x=>exact d0e h
 case nilCheck x =>
  simp only [O6] at h
  split at h
  ·rename_i hx;exact ⟨_,_,_,h,by simp only [A7,t8,s7,q8,r9,q7,w9,x9,x8,p8,p5,u3,p4,x7,y2,r7,r8,t7,s9,t6,s8,x6,x5,u1,r6,u5,u4,A6,v8,o7,hx,toD,y5];rfl⟩
  ·rename_i hx;exact ⟨_,_,_,h,by simp only [A7,t8,s7,q8,r9,q7,w9,x9,x8,p8,p5,u3,p4,x7,y2,r7,r8,t7,s9,t6,s8,x6,x5,u1,r6,u5,u4,A6,v8,o7,hx,toD,y5];rfl⟩
  ·rename_i hx;exact ⟨_,_,_,h,by simp only [A7,t8,s7,q8,r9,q7,w9,x9,x8,p8,p5,u3,p4,x7,y2,r7,r8,t7,s9,t6,s8,x6,x5,u1,r6,u5,u4,A6,v8,o7,hx,toD,y5];rfl⟩
  ·cases h
 case binOp op t x y u =>
  simp only [O6] at h
  obtain ⟨v,h,hd⟩:=d06 h
  exact ⟨_,_,_,h,by simp only [A7,t8,s7,q8,r9,q7,w9,x9,x8,p8,p5,u3,p4,x7,y2,r7,r8,t7,s9,t6,s8,x6,x5,u1,r6,u5,u4,A6,v8,o7,hd];rfl⟩
 case unOp op t x =>
  simp only [O6] at h
  split at h
  ·obtain ⟨b,hx,h⟩:=Y7 h
   rw [CfB] at h
   exact ⟨_,_,_,h,by simp only [A7,t8,s7,q8,r9,q7,w9,x9,x8,p8,p5,u3,p4,x7,y2,r7,r8,t7,s9,t6,s8,x6,x5,u1,r6,u5,u4,A6,v8,o7,hx,y5,toD,a2d];rfl⟩
  ·rename_i k hu
   obtain ⟨n,hx,h⟩:=V1 h
   rw [CfI] at h
   exact ⟨_,_,_,h,by simp only [A7,t8,s7,q8,r9,q7,w9,x9,x8,p8,p5,u3,p4,x7,y2,r7,r8,t7,s9,t6,s8,x6,x5,u1,r6,u5,u4,A6,v8,o7,hx,y5,toD,a1e,b1u];rfl⟩
  ·cases h
 case convert src dst x =>
  simp only [O6] at h
  obtain ⟨v,h,hd⟩:=c8h h
  exact ⟨_,_,_,h,by simp only [A7,t8,s7,q8,r9,q7,w9,x9,x8,p8,p5,u3,p4,x7,y2,r7,r8,t7,s9,t6,s8,x6,x5,u1,r6,u5,u4,A6,v8,o7,hd];rfl⟩
 case makeInterface t x =>
  simp only [O6] at h
  split at h
  ·cases h
  ·rename_i u h1 hu
   refine ⟨_,_,_,h,?_⟩
   simp only [v8,o7,hu,y5,toD]
   cases u <;> first | rfl | exact (h1 _ rfl).elim
  ·cases h
 case makeFunc fn first captured =>
  simp only [O6] at h
  exact ⟨_,_,_,h,by simp only [A7,t8,s7,q8,r9,q7,w9,x9,x8,p8,p5,u3,p4,x7,y2,r7,r8,t7,s9,t6,s8,x6,x5,u1,r6,u5,u4,A6,v8,c2n,y5,toD,C9];rfl⟩
 case makeSlice t l c =>
  simp only [O6] at h
  obtain ⟨v,ws,rs,h,hd⟩:=c7e h
  exact ⟨v,ws,rs,h,by simp only [v8,o7,hd]⟩
 case slice t x lo hi mx =>
  simp only [O6] at h
  obtain ⟨v,h,hd⟩:=c4w h
  exact ⟨_,_,_,h,by simp only [A7,t8,s7,q8,r9,q7,w9,x9,x8,p8,p5,u3,p4,x7,y2,r7,r8,t7,s9,t6,s8,x6,x5,u1,r6,u5,u4,A6,v8,o7,hd];rfl⟩
 case fieldAddr t x f=>exact b91 h
 case field t x f=>exact d1l h
 case indexAddr t x i=>exact b9s h
 case index t x i =>
  simp only [O6] at h
  split at h
  ·rename_i hu
   obtain ⟨l,c,hx,h⟩:=Y8 h
   obtain ⟨_,k,hi,h⟩:=M8 h
   obtain ⟨h0,h⟩:=D2 h
   have h0:(band (iLe 0 k) (iLt k (l:Int)))=true:=h0
   rw [CfI] at h
   have g:0≤k∧k < (l:Int):=by simpa [L1,U5,a0h] using h0
   have g2:0≤k∧k < ((u7 l c).length:Int):=by rw [Q3];exact g
   refine ⟨_,_,_,h,?_⟩
   simp only [A7,t8,s7,q8,r9,q7,w9,x9,x8,p8,p5,u3,p4,x7,y2,r7,r8,t7,s9,t6,s8,x6,x5,u1,r6,u5,u4,A6,v8,hu,o7,hx,hi,E6,decide_eq_true g2,toD,E7]
   rw [c6b (show k.toNat < l by omega)]
   rfl
  ·cases h
 case extract x i =>
  simp only [O6] at h
  split at h
  ·rename_i vs hx
   cases hb:Nat.blt i vs.length with
   | false=>rw [hb] at h;cases h
   | true =>
    rw [hb] at h
    have hl:i < vs.length:=by simpa [Nat.blt_eq] using hb
    refine ⟨_,_,_,h,?_⟩
    rw [a13,List.getD_eq_getElem?_getD,List.getElem?_eq_getElem hl]
    simp only [A7,t8,s7,q8,r9,q7,w9,x9,x8,p8,p5,u3,p4,x7,y2,r7,r8,t7,s9,t6,s8,x6,x5,u1,r6,u5,u4,A6,v8,o7,hx,toD,C9,List.getElem?_map,List.getElem?_eq_getElem hl,Option.map_some,y5,Option.getD_some]
    rfl
  ·cases h
 case call c =>
  obtain ⟨callee,args,ts⟩:=c
  cases callee with
  | builtin b=>exact c33 h
  | value f=>cases h
  | invoke x m=>cases h
 all_goals cases h
end
end
end Go.Abs
namespace Go.Abs
noncomputable section

section
variable {f:Nat→Option Nat}
theorem map_toD {g:V→V} {h:D→D} (e:∀ v,toD (g v)=h (toD v)) (l:List V):(l.map g).map toD=(l.map toD).map h:=by
 rw [List.map_map,List.map_map];exact List.map_congr_left fun v _=>e v
theorem c3y (v:V):toD (U1 f v)=O8 f (toD v):=by
 cases v
 case slice t n off len c=>cases c <;> simp only [U1,toD,O8]
 case q x=>simp only [U1,toD];exact (V0 f x 0).symm
 case ptr id off=>simp only [U1,toD,O8];cases f id <;> simp only [toD]
 all_goals simp only [U1,toD,O8]
theorem b34 (x:Q) (i:Nat):a7b f (den x i)=den x i:=by
 have h1:=L3 x i
 have h2:=V0 f x i
 cases hd:den x i <;> rw [hd] at h1 h2 <;> first | exact h2 | (cases h1;done) | (exfalso;simp [O8] at h2;done)
theorem c04 (v:V):toD (Y9 f v)=a7b f (toD v):=by
 cases v
 case func fn fs cs=>simp only [Y9,toD,a7b,C9,map_toD (fun v=>c3y (f:=f) v)]
 case q x=>simp only [Y9,U1,toD];exact (b34 x 0).symm
 all_goals (simp only [Y9];rw [c3y];simp only [toD,a7b])
theorem a9k (v:V):toD (T6 f v)=a5g f (toD v):=by
 cases v
 case agg cs=>simp only [T6,toD,a5g,C9,map_toD (fun v=>c04 (f:=f) v)]
 case a x m =>
  simp only [T6,toD,a5g]
  congr 1
  rw [J6,List.map_map]
  exact List.map_congr_left fun i _=>(b34 x i).symm
 case q x =>
  simp only [T6,Y9,U1,toD]
  have h1:=L3 x 0
  have h2:=b34 (f:=f) x 0
  cases hd:den x 0 <;> rw [hd] at h1 h2 <;> first | exact h2.symm | cases h1
 all_goals (simp only [T6];rw [c04];simp only [toD,a5g])
theorem a0u (v:V):toD (U0 f v)=renI f (toD v):=by
 cases v
 case iface t v=>simp only [U0,toD,renI,a9k]
 case q x=>simp only [U0,T6,Y9,U1,toD];exact (a2f f x 0).symm
 all_goals (simp only [U0];rw [a9k];simp only [toD,renI])
theorem a7l (v:V):toD (a0x f v)=ren f (toD v):=by
 cases v
 case tuple vs=>simp only [a0x,toD,ren,C9,map_toD (fun v=>a0u (f:=f) v)]
 case q x =>
  simp only [a0x,U0,T6,Y9,U1,toD]
  have h1:=L3 x 0
  have h2:=a2f f x 0
  cases hd:den x 0 <;> rw [hd] at h1 h2 <;> first | exact h2.symm | cases h1
 all_goals (simp only [a0x];rw [a0u];simp only [toD,ren])
end

def N9:Bx→Bool
 | .cells _ | .opa _ _ | .row _ _=>true
 | _=>false
def G2:Bx→List D
 | .cells cs=>cs.map toD
 | .opa x m=>w6 (den x) 0 m
 | .row t len=>rows (A3 t) 1 0 len
 | _=>[]
theorem a19 {b:Bx} (h:N9 b=true):C1 b=.cells (G2 b):=by cases b <;> first | rfl | cases h
def a0z (f:Nat→Option Nat):Bx→Bx
 | .cells cs=>.cells (cs.map (U0 f))
 | b=>b
theorem b36 (f:Nat→Option Nat) (t:j8 Q):∀ (n m off:Nat),(rows (A3 t) n off m).map (renI f)=rows (A3 t) n off m
 | _,0,_=>rfl
 | n,m+1,off=>by
  simp only [rows,List.map_append,b36 f t n m]
  congr 1
  rw [U7]
  exact Y2 f _ n 0
theorem b13 (f:Nat→Option Nat) {b:Bx}:G2 (a0z f b)=(G2 b).map (renI f):=by
 cases b <;> simp only [a0z,G2]
 ·exact map_toD (fun v=>a0u v) _
 ·exact (Y2 f _ _ 0).symm
 ·rfl
 ·exact (b36 f _ 1 _ 0).symm
 ·rfl
 ·rfl
theorem c5j (f:Nat→Option Nat) {b:Bx}:N9 (a0z f b)=N9 b:=by cases b <;> rfl

/- What is kept of a state. -/
def U2 (f:Nat→Option Nat):V→V
 | .slice t n off len (.tok id)=>match f id with
  | some j=>.slice t n off len (.tok j)
  | none=>.slice t n off len .no
 | .slice t n off len .exact=>.slice t n off len .exact
 | .bslice id l=>match f id with
  | some j=>.bslice j l
  | none=>.junk
 | .agg cs=>T6 f (.agg cs)
 | .a x m=>.a x m
 | .tuple ds=>.tuple (ds.map (U0 f))
 | d=>U0 f d
theorem b3j (f:Nat→Option Nat) (v:V):toD (U2 f v)=O7 f (toD v):=by
 cases v
 case slice t n off len c =>
  cases c with
  | no=>simp only [U2,U0,T6,Y9,U1,toD,O7,renI,a5g,a7b,O8]
  | exact=>simp only [U2,toD,O7]
  | tok id=>simp only [U2,toD,O7];cases f id <;> simp only [toD]
  | fr z=>simp only [U2,U0,T6,Y9,U1,toD,O7,renI,a5g,a7b,O8]
 case bslice id l=>simp only [U2,toD,O7];cases f id <;> simp only [toD]
 case agg cs=>simp only [U2];rw [a9k];simp only [toD,O7]
 case a x m =>
  have:=a9k (f:=f) (.a x m)
  simp only [T6,toD] at this
  simp only [U2,toD,O7]
  exact this
 case tuple ds=>simp only [U2,toD,O7,C9,map_toD (fun v=>a0u (f:=f) v)]
 case q x =>
  simp only [U2,U0,T6,Y9,U1,toD]
  have h1:=L3 x 0
  have h2:=a2f f x 0
  have h3:=V0 f x 0
  cases hd:den x 0 <;> rw [hd] at h1 h2 h3 <;> first | exact h2.symm | cases h1 | skip
  all_goals (rename_i c;cases c <;> first | rfl | (simp only [O8] at h3;cases h3))
 all_goals (simp only [U2];rw [a0u];simp only [toD,O7])
def b4c (f:Nat→Option Nat):Bx→Bx
 | .cells cs=>.cells (cs.map (U2 f))
 | b=>b
theorem c2z (f:Nat→Option Nat) (x:Q) (i:Nat):O7 f (den x i)=den x i:=by
 have h1:=L3 x i
 have h2:=a2f f x i
 have h3:=V0 f x i
 cases hd:den x i <;> rw [hd] at h1 h2 h3 <;> first | exact h2 | cases h1 | skip
 all_goals (rename_i c;cases c <;> first | rfl | (simp only [O8] at h3;cases h3))
theorem c38 (f:Nat→Option Nat) (b:Bx):C1 (b4c f b)=a4n f (C1 b):=by
 cases b <;> simp only [b4c,C1,a4n]
 ·rw [map_toD (fun v=>b3j f v)]
 ·congr 1;rw [J6,List.map_map];exact List.map_congr_left fun i _=>(c2z f _ i).symm
 ·congr 1
  rename_i t len
  have:∀ (m off:Nat),(rows (A3 t) 1 off m).map (O7 f)=rows (A3 t) 1 off m:=by
   intro m
   induction m with
   | zero=>intro _;rfl
   | succ m ih =>
    intro off
    simp only [rows,List.map_append,ih]
    congr 1
    rw [U7,J6,List.map_map]
    exact List.map_congr_left fun i _=>c2z f _ i
  exact (this len 0).symm
def b4f:V→Option Nat
 | .ptr id _=>some id
 | _=>none
theorem a7y (x:Q) (i:Nat):pid (den x i)=none∧a8v (den x i)=[]∧a6j (den x i)=[]:=by
 have h1:=L3 x i
 have h3:=V0 V7 x i
 cases hd:den x i <;> rw [hd] at h1 h3 <;> first | exact ⟨rfl,rfl,rfl⟩ | cases h1 | (simp only [O8,V7] at h3;cases h3) | skip
 all_goals (rename_i c;cases c <;> first | exact ⟨rfl,rfl,rfl⟩ | (simp only [O8] at h3;cases h3))
theorem e0z (v:V):b4f v=pid (toD v):=by
 cases v <;> simp only [b4f,toD,pid]
 exact (a7y _ 0).1.symm
theorem a6f (l:List V):l.filterMap b4f=(l.map toD).filterMap pid:=by
 rw [List.filterMap_map];congr 1;funext v;exact e0z v
def b53:V→List Nat
 | .ptr id _=>[id]
 | .func _ fs cs=>fs.filterMap b4f ++ cs.filterMap b4f
 | _=>[]
theorem d5p (v:V):b53 v=a8v (toD v):=by
 cases v <;> simp only [b53,toD,a8v]
 ·exact (a7y _ 0).2.1.symm
 ·rw [C9,C9,a6f,a6f]
def b1g:V→List Nat
 | .ptr id _=>[id]
 | .slice _ _ _ _ (.tok id)=>[id]
 | .bslice id _=>[id]
 | .func _ fs cs=>fs.filterMap b4f ++ cs.filterMap b4f
 | _=>[]
theorem c1w (v:V):b1g v=a6j (toD v):=by
 cases v <;> simp only [b1g,toD,a6j]
 ·rename_i c;cases c <;> rfl
 ·exact (a7y _ 0).2.2.symm
 ·rw [C9,C9,a6f,a6f]
def a8t (n0:Nat) (ks:List Nat) (s:A9):List Nat :=
 let a:=b0i (List.range n0) (ks.flatMap fun i=>b1g (M9 s.tmps i))
 b0i a (a.flatMap fun id=>match N7 s.heap id with
  | .cells ds=>ds.flatMap b1g
  | _=>[])
theorem a16 {α β:Type} {f:α→List β}:∀ (l:List α),(∀ x ∈ l,f x=[])→l.flatMap f=[]
 | [],_=>rfl
 | x :: l,h=>by rw [List.flatMap_cons,h x List.mem_cons_self,a16 l fun y hy=>h y (List.mem_cons_of_mem _ hy)];rfl
theorem a3d (s:A9) (i:Nat):(o8 s).tmps.getD i .junk=toD (M9 s.tmps i):=o7 s (.tmp i)
theorem b77 (s:A9) (i:Nat):(o8 s).heap.getD i .dead=C1 (N7 s.heap i):=by
 rw [a2g,List.getD_eq_getElem?_getD,List.getD_eq_getElem?_getD,b9o]
 cases s.heap[i]? <;> rfl
theorem b2t (n0:Nat) (ks:List Nat) (s:A9):a8t n0 ks s=a73 n0 ks (o8 s):=by
 unfold a8t a73
 have e1:(ks.flatMap fun i=>b1g (M9 s.tmps i))=ks.flatMap fun i=>a6j ((o8 s).tmps.getD i .junk):=by
  congr 1;funext i;rw [a3d,c1w]
 have e2:(fun id=>match N7 s.heap id with | .cells ds=>ds.flatMap b1g | _=>[])=fun id=>match (o8 s).heap.getD id .dead with | .cells ds=>ds.flatMap a6j | _=>[]:=by
  funext id
  rw [b77]
  cases N7 s.heap id <;> simp only [C1]
  ·rw [List.flatMap_map];congr 1;funext v;exact c1w v
  ·rw [J6,List.flatMap_map];exact (a16 _ fun i _=>(a7y _ i).2.2).symm
  ·rename_i t len
   have:∀ (m off:Nat),(rows (A3 t) 1 off m).flatMap a6j=[]:=by
    intro m
    induction m with
    | zero=>intro _;rfl
    | succ m ih=>intro off;simp only [rows,List.flatMap_append,ih,List.append_nil];rw [U7,J6,List.flatMap_map];exact a16 _ fun i _=>(a7y _ i).2.2
   exact (this len 0).symm
 simp only [e1,e2]
 rfl
def a9h:V→V
 | .slice t n off len _=>.slice t n off len .no
 | v=>v
theorem b2x (v:V):toD (a9h v)=a05 (toD v):=by
 cases v <;> simp only [a9h,toD,a05]
 rename_i x
 cases hd:den x 0 <;> first | rfl | skip
 rename_i l c k
 cases Y6 x 0 l c k hd
 rfl
def U3 (ids:List Nat):List (Nat × Nat)→A9→Nat→List V × List Bx
 | [],_,_=>([],[])
 | (i,z) :: ks,s,n=>bif Nat.beq z W7 then (a9h (U2 (pos · ids) (M9 s.tmps i)) :: (U3 ids ks s n).1,(U3 ids ks s n).2) else match M9 s.tmps i,z with
  | .slice t m off l .exact,z+1=>(.slice t m off l (.tok n) :: (U3 ids ks s (n+1)).1,.tok l (z+1) :: (U3 ids ks s (n+1)).2)
  | d,_=>(U2 (pos · ids) d :: (U3 ids ks s n).1,(U3 ids ks s n).2)
theorem a6d {ids:List Nat}:∀ (ks:List (Nat × Nat)) (s:A9) (n:Nat),(U3 ids ks s n).1.map toD=(K4 ids ks (o8 s) n).1∧(U3 ids ks s n).2.map C1=(K4 ids ks (o8 s) n).2
 | [],_,_=>⟨rfl,rfl⟩
 | (i,z) :: ks,s,n=>by
  obtain ⟨h1,h2⟩:=a6d (ids:=ids) ks s n
  obtain ⟨h3,h4⟩:=a6d (ids:=ids) ks s (n+1)
  simp only [U3,K4,a3d]
  cases hf:Nat.beq z W7 with
  | true=>simp only [cond_true,List.map_cons,b2x,b3j,h1,h2,and_self]
  | false =>
  simp only [cond_false]
  generalize M9 s.tmps i=v
  have hplain:(U2 (pos · ids) v :: (U3 ids ks s n).1).map toD=O7 (pos · ids) (toD v) :: (K4 ids ks (o8 s) n).1:=by simp only [List.map_cons,b3j,h1]
  cases v
  case slice t m off l c =>
   cases c <;> cases z <;> first
    | exact ⟨hplain,h2⟩
    | (simp only [toD,List.map_cons,h3,h4,C1,and_self])
  case q x =>
   have hn:∀ l c,den x 0 ≠ .slice l c .exact:=fun l c hd=>by cases Y6 x 0 l c _ hd
   simp only [toD] at hplain ⊢
   generalize den x 0=d at hplain hn
   cases d with
   | slice l c k=>cases k <;> cases z <;> first | exact ⟨hplain,h2⟩ | exact (hn _ _ rfl).elim
   | _=>exact ⟨hplain,h2⟩
  all_goals exact ⟨hplain,h2⟩
def a8s (j c z:Nat) (h:List Bx):List Bx:=match N7 h j with
 | .cells cs=>bif Nat.blt c cs.length then bif Nat.beq z W7 then h.set j (.cells (cs.set c (a9h (M9 cs c)))) else match M9 cs c with
  | .slice t n off len .exact=>(h.set j (.cells (cs.set c (.slice t n off len (.tok h.length))))) ++ [.tok len z]
  | _=>h
  else h
 | _=>h
def b5e:List (Nat × Nat)→List Bx→List Bx
 | [],h=>h
 | (i,z) :: ks,h=>bif Nat.ble 1000000 i then b5e ks (a8s ((i - 1000000) / 1000) ((i - 1000000) % 1000) z h) else b5e ks h
theorem b05 {t:j8 Q}:∀ (m off i l:Nat) (c:List D) (k:X1),(rows (A3 t) 1 off m)[i]?=some (.slice l c k)→k=.no
 | 0,off,i,l,c,k,h=>by simp [rows] at h
 | m+1,off,0,l,c,k,h=>by
  simp only [rows,w6,List.cons_append,List.nil_append,List.getElem?_cons_zero] at h
  injection h with h
  exact b1n t off 0 l c k h
 | m+1,off,i+1,l,c,k,h=>by
  simp only [rows,w6,List.cons_append,List.nil_append,List.getElem?_cons_succ] at h
  exact b05 m (off+1) i l c k h
theorem b9y {x:Q} {m i l:Nat} {c:List D} {k:X1} (h:(w6 (den x) 0 m)[i]?=some (.slice l c k)):k=.no:=by
 rcases Nat.lt_or_ge i m with hi | hi
 ·rw [a4c _ _ _ hi] at h
  injection h with h
  exact Y6 x _ l c k h
 ·rw [List.getElem?_eq_none (by rw [E0];exact hi)] at h;cases h
theorem d3c {h:List Bx} {j:Nat}:(h.map C1)[j]?=if j < h.length then some (C1 (N7 h j)) else none:=by
 rw [a2g,List.getD_eq_getElem?_getD,List.getElem?_map]
 split
 ·rename_i hj;rw [List.getElem?_eq_getElem hj];rfl
 ·rename_i hj;rw [List.getElem?_eq_none (by omega)];rfl
theorem b9h {α:Type} {l:List α} {i:Nat} {x:α} (h:l[i]?=some x):l.set i x=l:=by
 apply List.ext_getElem?
 intro k
 by_cases hk:i=k
 ·subst hk;rw [List.getElem?_set_self (List.getElem?_eq_some_iff.1 h).1,h]
 ·rw [List.getElem?_set_ne hk]
theorem a9u {j c z:Nat} {h:List x4} {ds:List D} (hj:h[j]?=some (.cells ds)) (hd:∀ (i l:Nat) (x:List D) (k:X1),ds[i]?=some (D.slice l x k)→k=X1.no):tokCell j c z h=h:=by
 unfold tokCell
 rw [hj]
 simp only []
 split
 ·rename_i d hc
  have e:a05 d=d:=by
   cases d with
   | slice l x k=>cases hd c l x k hc;rfl
   | _=>rfl
  cases Nat.beq z W7 with
  | true =>
   simp only [cond_true]
   rw [e,b9h hc,b9h hj]
  | false =>
   simp only [cond_false]
   split
   ·cases hd c _ _ _ hc
   ·rfl
 ·rfl
theorem c4r (j c z:Nat) (h:List Bx):(a8s j c z h).map C1=tokCell j c z (h.map C1):=by
 rcases Nat.lt_or_ge j h.length with hj | hj
 ·have hg:(h.map C1)[j]?=some (C1 (N7 h j)):=by rw [d3c,if_pos hj]
  unfold a8s
  generalize hb:N7 h j=b at hg
  cases b with
  | cells cs =>
   unfold tokCell
   rw [hg]
   simp only [C1]
   cases hc:Nat.blt c cs.length with
   | true =>
    have hc':c < cs.length:=by rw [Nat.blt_eq] at hc;exact hc
    have e1:(cs.map toD)[c]?=some (toD (M9 cs c)):=by
     rw [a13,List.getD_eq_getElem?_getD,List.getElem?_map,List.getElem?_eq_getElem hc'];rfl
    rw [e1]
    simp only [cond_true]
    cases hz:Nat.beq z W7 with
    | true=>simp only [cond_true,List.map_set,C1,b2x]
    | false =>
     simp only [cond_false]
     generalize M9 cs c=v
     cases v
     case slice t n off len k =>
      cases k <;> simp only [toD,List.map_append,List.map_set,C1,List.map_cons,List.map_nil,List.length_map]
     case q x =>
      simp only [toD]
      cases hd:den x 0 <;> first | rfl | skip
      rename_i l d k
      cases Y6 x 0 l d k hd
      rfl
     all_goals simp only [toD]
   | false =>
    have hc':cs.length≤c:=by
     rcases Nat.lt_or_ge c cs.length with h1 | h1
     ·have:Nat.blt c cs.length=true:=by rw [Nat.blt_eq];exact h1
      rw [hc] at this;cases this
     ·exact h1
    have e1:(cs.map toD)[c]?=none:=List.getElem?_eq_none (by simpa using hc')
    rw [e1]
    rfl
  | opa x m=>exact (a9u hg (fun i l d k hd=>b9y hd)).symm
  | row t len=>exact (a9u hg (fun i l d k hd=>b05 _ _ _ _ _ _ hd)).symm
  | _=>unfold tokCell;rw [hg];rfl
 ·have e2:N7 h j=.dead:=by rw [a2g,List.getD_eq_getElem?_getD,List.getElem?_eq_none hj];rfl
  have hg:(h.map C1)[j]?=none:=List.getElem?_eq_none (by simpa using hj)
  unfold a8s tokCell
  rw [e2,hg]
theorem b3b:∀ (ks:List (Nat × Nat)) (h:List Bx),(b5e ks h).map C1=tokB ks (h.map C1)
 | [],h=>rfl
 | (i,z) :: ks,h=>by
  simp only [b5e,tokB]
  cases Nat.ble 1000000 i with
  | true=>simp only [cond_true];rw [b3b,c4r]
  | false=>simp only [cond_false];rw [b3b]
def a5z (n0:Nat) (ks:List (Nat × Nat)) (s:A9):List V × List Bx :=
 let ids:=a8t n0 (a90 ks) s
 ((U3 ids ks s ids.length).1,b5e ks ((ids.map fun id=>b4c (pos · ids) (N7 s.heap id)) ++ (U3 ids ks s ids.length).2))
theorem b68 (n0:Nat) (ks:List (Nat × Nat)) (s:A9):gcV n0 ks (o8 s)=((a5z n0 ks s).1.map toD,(a5z n0 ks s).2.map C1):=by
 unfold gcV a5z
 simp only [b2t,b3b,List.map_append,(a6d _ _ _).1,(a6d _ _ _).2,List.map_map]
 congr 3
 exact List.map_congr_left fun id _=>by simp only [Function.comp,c38,b77]
def a30 (n0 n:Nat) (ks:List (Nat × Nat)) (s:A9):Bool:=b52 n0 (a8t n0 (a90 ks) s) && Nat.beq s.tmps.length n && decide (ks.map (·.1)).Nodup
theorem b25 (n0 n:Nat) (ks:List (Nat × Nat)) (s:A9):a30 n0 n ks s=a8w n0 n ks (o8 s):=by
 unfold a30 a8w;rw [b2t];simp only [o8,List.length_map]
def c5a (n:Nat) (ks:List Nat) (vs:List V):List V:=(List.range n).map fun i=>match pos i ks with
 | some j=>M9 vs j
 | none=>.junk
def b1r (n:Nat) (ks:List (Nat × Nat)) (vs:List V) (bs:List Bx):A9:={ tmps:=c5a n (ks.map (·.1)) vs,heap:=bs }
theorem c21 (n:Nat) (ks:List (Nat × Nat)) (vs:List V) (bs:List Bx):o8 (b1r n ks vs bs)=a64 n ks (vs.map toD,bs.map C1):=by
 unfold b1r a64 o8 c5a c3r
 simp only [List.map_map]
 congr 1
 refine List.map_congr_left fun i _=>?_
 simp only [Function.comp]
 cases pos i (ks.map (·.1)) with
 | none=>simp only [toD]
 | some j =>
  simp only []
  rw [a13,List.getD_eq_getElem?_getD,List.getD_eq_getElem?_getD,List.getElem?_map]
  cases vs[j]? <;> simp [toD]
end
end Go.Abs
namespace Go.Abs
noncomputable section

abbrev E1:=List V→List Bx→Om
def a7k:G3→T0
 | .ret v=>.ret (toD v)
 | .pan v=>.pan (toD v)
def L7 (X:Pr) (g:FuncId) (F:E1):Prop:=∀ (vs:List V) (bs:List Bx) (x:G3) (bs':List Bx),F vs bs=some (x,bs')→bs.all N9=true →
 CM X.P X.G g (vs.map toD) (bs.map G2) (a7k x) (bs'.map G2)
theorem CM.pan_any {P:Program} {G:b7e} {f:FuncId} {ds:List D} {hs hs' hs2:List (List D)} {d:D} (h:CM P G f ds hs (.pan d) hs'):CM P G f ds hs (.pan d) hs2:=h
def c6f:x4→Bool
 | .cells _=>true
 | _=>false
theorem d3v (b:Bx):N9 b=c6f (C1 b):=by cases b <;> rfl
theorem b8h {a b:List Bx} (h:a.map C1=b.map C1) (ha:a.all N9=true):b.all N9=true:=by
 have e:∀ l:List Bx,l.all N9=(l.map C1).all c6f:=fun l=>by rw [List.all_map];congr 1;funext b;exact d3v b
 rw [e,← h,← e];exact ha
mutual
def eqQ:Q→Q→Bool
 | .bool a,.bool b=>bsel a b (bnot b)
 | .int k a,.int k' b=>cond (ikEq k k') (iEq a b) false
 | .str l c,.str l' c'=>cond (Nat.beq l l') (Nat.beq c c') false
 | .slice t n o l,.slice t' n' o' l'=>cond (Nat.beq n n') (cond (Nat.beq o o') (cond (Nat.beq l l') (eqT t t') false) false) false
 | .nilp,.nilp=>true
 | .nilIface,.nilIface=>true
 | .agg cs o,.agg cs' o'=>cond (Nat.beq o o') (c3z cs cs') false
 | .aggt t o,.aggt t' o'=>cond (Nat.beq o o') (eqT t t') false
 | .no,.no=>true
 | _,_=>false
def eqT:j8 Q→j8 Q→Bool
 | .nil,.nil=>true
 | .node v l r,.node v' l' r'=>cond (eqQ v v') (cond (eqT l l') (eqT r r') false) false
 | _,_=>false
def c3z:List Q→List Q→Bool
 | [],[]=>true
 | x :: xs,y :: ys=>cond (eqQ x y) (c3z xs ys) false
 | _,_=>false
end
theorem y6 {a b:Bool} (h:cond a b false=true):a=true∧b=true:=by cases a <;> simp_all
theorem b81 {a b:Bool} (h:bsel a b (bnot b)=true):a=b:=by cases a <;> cases b <;> first | rfl | cases h
theorem c3e {a b:Int} (h:iEq a b=true):a=b:=by rw [Q5] at h;simpa using h
mutual
theorem b4j:∀ {a b:Q},eqQ a b=true→a=b
 | .bool a,b,h=>by cases b <;> simp only [eqQ] at h <;> first | (rw [b81 h]) | cases h
 | .int k a,b,h=>by
  cases b <;> simp only [eqQ] at h <;> first | cases h | skip
  obtain ⟨h1,h2⟩:=y6 h
  rw [a77 h1,c3e h2]
 | .str l c,b,h=>by
  cases b <;> simp only [eqQ] at h <;> first | cases h | skip
  obtain ⟨h1,h2⟩:=y6 h
  rw [Nat.eq_of_beq_eq_true h1,Nat.eq_of_beq_eq_true h2]
 | .slice t n o l,b,h=>by
  cases b <;> simp only [eqQ] at h <;> first | cases h | skip
  obtain ⟨h1,h⟩:=y6 h
  obtain ⟨h2,h⟩:=y6 h
  obtain ⟨h3,h⟩:=y6 h
  rw [Nat.eq_of_beq_eq_true h1,Nat.eq_of_beq_eq_true h2,Nat.eq_of_beq_eq_true h3,b03 h]
 | .nilp,b,h=>by cases b <;> simp only [eqQ] at h <;> first | rfl | cases h
 | .nilIface,b,h=>by cases b <;> simp only [eqQ] at h <;> first | rfl | cases h
 | .agg cs o,b,h=>by
  cases b <;> simp only [eqQ] at h <;> first | cases h | skip
  obtain ⟨h1,h⟩:=y6 h
  rw [Nat.eq_of_beq_eq_true h1,c6a h]
 | .aggt t o,b,h=>by
  cases b <;> simp only [eqQ] at h <;> first | cases h | skip
  obtain ⟨h1,h⟩:=y6 h
  rw [Nat.eq_of_beq_eq_true h1,b03 h]
 | .no,b,h=>by cases b <;> simp only [eqQ] at h <;> first | rfl | cases h
theorem b03:∀ {a b:j8 Q},eqT a b=true→a=b
 | .nil,b,h=>by cases b <;> simp only [eqT] at h <;> first | rfl | cases h
 | .node v l r,b,h=>by
  cases b <;> simp only [eqT] at h <;> first | cases h | skip
  obtain ⟨h1,h⟩:=y6 h
  obtain ⟨h2,h⟩:=y6 h
  rw [b4j h1,b03 h2,b03 h]
theorem c6a:∀ {a b:List Q},c3z a b=true→a=b
 | [],b,h=>by cases b <;> simp only [c3z] at h <;> first | rfl | cases h
 | x :: xs,b,h=>by
  cases b <;> simp only [c3z] at h <;> first | cases h | skip
  obtain ⟨h1,h⟩:=y6 h
  rw [b4j h1,c6a h]
end
def c0a:X1→Bool
 | .no=>true
 | _=>false
def d1p:V→Bool
 | .bool _ | .known _ | .int _ _ | .str _ _ | .q _ | .nilp | .nilIface=>true
 | .slice _ _ _ _ c=>c0a c
 | _=>false
def c84:V→V→Bool
 | .bool a,.bool b=>bsel a b (bnot b)
 | .int k a,.int k' b=>cond (ikEq k k') (iEq a b) false
 | .str l c,.str l' c'=>cond (Nat.beq l l') (Nat.beq c c') false
 | .slice t n o l c,.slice t' n' o' l' c'=>cond (c0a c) (cond (c0a c') (cond (Nat.beq n n') (cond (Nat.beq o o') (cond (Nat.beq l l') (eqT t t') false) false) false) false) false
 | .q x,.q y=>eqQ x y
 | .nilp,.nilp=>true
 | .nilIface,.nilIface=>true
 | _,_=>false
theorem c28 {c:X1} (h:c0a c=true):c=.no:=by cases c <;> first | rfl | cases h
theorem d4c {a b:V} (h:c84 a b=true):a=b:=by
 unfold c84 at h
 split at h <;> first | rfl | cases h | skip
 ·rw [b81 h]
 ·obtain ⟨h1,h2⟩:=y6 h;rw [a77 h1,c3e h2]
 ·obtain ⟨h1,h2⟩:=y6 h;rw [Nat.eq_of_beq_eq_true h1,Nat.eq_of_beq_eq_true h2]
 ·obtain ⟨g1,h⟩:=y6 h
  obtain ⟨g2,h⟩:=y6 h
  obtain ⟨h1,h⟩:=y6 h
  obtain ⟨h2,h⟩:=y6 h
  obtain ⟨h3,h⟩:=y6 h
  rw [c28 g1,c28 g2,Nat.eq_of_beq_eq_true h1,Nat.eq_of_beq_eq_true h2,Nat.eq_of_beq_eq_true h3,b03 h]
 ·rw [b4j h]
def b00:List V→List V→Bool
 | [],[]=>true
 | x :: xs,y :: ys=>cond (c84 x y) (b00 xs ys) false
 | _,_=>false
theorem b8b:∀ {a b:List V},b00 a b=true→a=b
 | [],b,h=>by cases b <;> simp only [b00] at h <;> first | rfl | cases h
 | x :: xs,b,h=>by
  cases b <;> simp only [b00] at h <;> first | cases h | skip
  obtain ⟨h1,h⟩:=y6 h
  rw [d4c h1,b8b h]
def eqB:Bx→Bx→Bool
 | .cells a,.cells b=>b00 a b
 | .opa x m,.opa y n=>cond (Nat.beq m n) (eqQ x y) false
 | _,_=>false
theorem e21 {a b:Bx} (h:eqB a b=true):a=b:=by
 unfold eqB at h
 split at h <;> first | cases h | skip
 ·rw [b8b h]
 ·obtain ⟨h1,h⟩:=y6 h;rw [Nat.eq_of_beq_eq_true h1,b4j h]
def b26:List Bx→List Bx→Bool
 | [],[]=>true
 | x :: xs,y :: ys=>cond (eqB x y) (b26 xs ys) false
 | _,_=>false
theorem c51:∀ {a b:List Bx},b26 a b=true→a=b
 | [],b,h=>by cases b <;> simp only [b26] at h <;> first | rfl | cases h
 | x :: xs,b,h=>by
  cases b <;> simp only [b26] at h <;> first | cases h | skip
  obtain ⟨h1,h⟩:=y6 h
  rw [e21 h1,c51 h]
def same (a b:List Bx) (x:Om):Om:=cond (b26 a b) x none
def c1v:Bx→Bool
 | .cells cs=>cs.all d1p
 | .opa _ _=>true
 | _=>false
theorem c7l (f:Nat→Option Nat) {v:V} (h:d1p v=true):renI f (toD v)=toD v:=by
 rw [← a0u]
 cases v <;> first | rfl | cases h | skip
 rename_i c
 cases c <;> first | rfl | cases h
theorem b5m (f:Nat→Option Nat) {b:Bx} (h:c1v b=true):(G2 b).map (renI f)=G2 b:=by
 cases b <;> first | cases h | skip
 ·rename_i cs
  simp only [G2,List.map_map]
  refine List.map_congr_left fun v hv=>c7l f (List.all_eq_true.1 h v hv)
 ·exact Y2 f _ _ 0
abbrev R2:=FuncId→List Bx→V→List Bx→(V→Option (List Bx)→Om)→Om
def a26 (cr:R2):Prop:=∀ (g:FuncId) (bs0:List Bx) (v:V) (bs:List Bx) (K:V→Option (List Bx)→Om) (r:R),cr g bs0 v bs K=some r →
 (∃ v' bs',toD v'=toD v∧bs'.map C1=bs.map C1∧K v' (some bs')=some r)∨(∃ v',toD v'=toD v∧bs=bs0∧K v' none=some r)
def A9.lay (s:A9) (ws:List (Nat × Bx)):A9:={ s with heap:=ws.foldl (fun h x=>h.set x.1 x.2) s.heap }
def A9.put (s:A9) (dst:Option Tmp) (v:V):A9:=match dst with
 | some t=>{ s with tmps:=s.tmps.set t v }
 | none=>s
theorem a17 (s:A9) (dst:Option Tmp) (v:V):o8 (s.put dst v)=(o8 s).put dst (toD v):=by
 cases dst with
 | none=>rfl
 | some t=>simp only [A9.put,o8,St.put,List.map_set]
theorem b3z (s:A9) (ws:List (Nat × Bx)):o8 (s.lay ws)=(o8 s).lay (D6 ws):=by
 unfold A9.lay St.lay D6 o8
 simp only []
 congr 1
 rw [List.foldl_map]
 generalize s.heap=h
 induction ws generalizing h with
 | nil=>rfl
 | cons x ws ih=>simp only [List.foldl_cons];rw [ih,List.map_set]

def b71 (C:Comb):A9→List V→(List V→List Nat→Om)→Om
 | _,[],K=>K [] []
 | s,.bslice id len :: vs,K=>match N7 s.heap id with
  | .row t len'=>C.chk (C.nEq len len') (b71 C { s with heap:=s.heap.set id .dead } vs fun vs' ks=>K (.slice t 1 0 len .no :: vs') (id :: ks))
  | _=>none
 | s,v :: vs,K=>b71 C s vs fun vs' ks=>K (v :: vs') ks
def a7p (h:List Bx):List Nat→Option (List Bx)
 | []=>some []
 | id :: ids=>bif N9 (N7 h id) then (a7p h ids).map (N7 h id :: ·) else none
def b1m (ids:List Nat) (bs:List Bx):List (Nat × Bx):=(ids.zip bs).map fun p=>(p.1,a0z (ids[·]?) p.2)
def a4m:V→V
 | .slice t n off len (.fr _)=>.slice t n off len .no
 | v=>v
def b4n (nid:Nat):List V→Option (List V × List (Nat × Bx))
 | []=>some ([],[])
 | v :: vs=>match v with
  | .slice t n off len (.fr z)=>bif Nat.beq n z then some (.slice t n off len (.tok nid) :: vs.map a4m,[(nid,.tok len z)]) else none
  | v=>(b4n nid vs).map fun p=>(v :: p.1,p.2)
def d4t (nid:Nat):V→Option (V × List (Nat × Bx))
 | .tuple vs=>(b4n nid vs).map fun p=>(.tuple p.1,p.2)
 | .slice t n off len (.fr z)=>bif Nat.beq n z then some (.slice t n off len (.tok nid),[(nid,.tok len z)]) else none
 | v=>some (v,[])
def c0e (s:A9) (nid:Nat) (v:V) (ws:List (Nat × Bx)) (rs:List Nat) (K:KV):Om :=
 match d4t nid v with
 | some (v',[])=>K v' ws rs
 | some (v',x :: xs)=>cond (a03 (s.lay ws) nid) (K v' (ws ++ x :: xs) (nid :: rs)) none
 | none=>none
def d72 (C:Comb) (fn:FuncId→E1) (cr:R2) (s:A9) (nid:Nat) (g:FuncId) (vs:List V) (K:KV) (Kp:V→List Nat→Om):Om :=
 b71 C s vs fun vs' ks =>
  let ids:=T8 (vs'.flatMap b53)
  match a7p (s.lay (ks.map fun k=>(k,.dead))).heap ids with
  | some bs=>C.bind (fn g (vs'.map (a0x (pos · ids))) (bs.map (a0z (pos · ids))))
    (fun v bs'=>cr g (bs.map (a0z (pos · ids))) v bs' fun v o=>match o with
     | some bs'=>bif Nat.beq bs'.length ids.length && bs'.all N9 then c0e s nid (a0x (ids[·]?) v) ((ks.map fun k=>(k,Bx.dead)) ++ b1m ids bs') (ids ++ ks) K else none
     | none=>bif bs.all c1v then c0e s nid (a0x (ids[·]?) v) (ks.map fun k=>(k,Bx.dead)) (ids ++ ks) K else none) (fun v=>Kp (C.rn0 v) (ids ++ ks))
  | none=>none

section
variable {X:Pr} {r:R}
theorem a7f {h:List Bx}:∀ {ids:List Nat} {bs:List Bx},a7p h ids=some bs→P5 (h.map C1) ids=some (bs.map G2)∧bs.all N9=true∧bs.length=ids.length
 | [],bs,hb=>by simp only [a7p] at hb;injection hb with hb;subst hb;exact ⟨rfl,rfl,rfl⟩
 | id :: ids,bs,hb=>by
  simp only [a7p] at hb
  cases ho:N9 (N7 h id) with
  | false=>rw [ho] at hb;cases hb
  | true =>
   rw [ho] at hb
   obtain ⟨bs',h1,rfl⟩:=Option.map_eq_some_iff.1 hb
   obtain ⟨h2,h3,h4⟩:=a7f h1
   have e:(h.map C1)[id]?=some (.cells (G2 (N7 h id))):=by
    rw [← a19 ho,List.getElem?_map,a2g,List.getD_eq_getElem?_getD]
    cases hi:h[id]? with
    | none=>rw [a2g,List.getD_eq_getElem?_getD,hi] at ho;cases ho
    | some x=>rfl
   refine ⟨?_,by simp only [List.all_cons,ho,h3,Bool.and_self],by simp [h4]⟩
   simp only [P5,e,h2,Option.map_some,List.map_cons]
theorem a91:∀ {vs:List V} {s:A9} {K:List V→List Nat→Om},b71 CR s vs K=some r→∃ vs' ks,K vs' ks=some r∧frz (o8 s) (vs.map toD)=some (vs'.map toD,ks)
 | [],s,K,h=>⟨[],[],h,rfl⟩
 | v :: vs,s,K,h=>by
  by_cases hb:∃ id len,v=.bslice id len
  ·obtain ⟨id,len,rfl⟩:=hb
   simp only [b71] at h
   split at h
   ·rename_i t len' hbx
    obtain ⟨h0,h'⟩:=D2 h
    have h0:(Nat.beq len len')=true:=h0
    have he:=Nat.eq_of_beq_eq_true h0
    subst he
    obtain ⟨vs',ks,h,hf⟩:=a91 h'
    have hh:=S7 hbx (by simp)
    refine ⟨_,_,h,?_⟩
    have e:o8 { s with heap:=s.heap.set id .dead }={ o8 s with heap:=(o8 s).heap.set id .dead }:=by simp only [o8,List.map_set,C1]
    rw [e] at hf
    simp only [List.map_cons,toD,frz,hh,C1,hf,Option.map_some,b36]
   ·cases h
  ·have h':b71 CR s vs (fun vs' ks=>K (v :: vs') ks)=some r:=by
    rw [← h]
    cases v <;> first | rfl | exact absurd ⟨_,_,rfl⟩ hb
   obtain ⟨vs',ks,h',hf⟩:=a91 h'
   refine ⟨_,_,h',?_⟩
   have hd:¬∃ id len,toD v=.bslice id len:=by
    rintro ⟨id,len,hd⟩
    cases v <;> simp only [toD] at hd <;> first | (cases hd;done) | skip
    ·have h3:=congrArg (O8 V7) hd;rw [V0,hd] at h3;simp only [O8] at h3;cases h3
    ·exact hb ⟨_,_,rfl⟩
   simp only [List.map_cons]
   have e:frz (o8 s) (toD v :: vs.map toD)=(frz (o8 s) (vs.map toD)).map fun p=>(toD v :: p.1,p.2):=by
    cases hv:toD v <;> first | rfl | exact absurd ⟨_,_,hv⟩ hd
   rw [e,hf]
   rfl
theorem c8d {ids:List Nat} {bs:List Bx} (h:bs.all N9=true):D6 (b1m ids bs)=a42 ids (bs.map G2):=by
 unfold b1m a42 D6
 rw [List.map_map,List.zip_map_right,List.map_map]
 refine List.map_congr_left fun p hp=>?_
 have hm:p.2 ∈ bs:=(List.of_mem_zip hp).2
 have ho:=List.all_eq_true.1 h _ hm
 simp only [Function.comp,Prod.map,id]
 rw [a19 (by rw [c5j];exact ho),b13]
theorem b6f (v:V):toD (a4m v)=Z9 (toD v):=by
 cases v
 case slice t n off len c=>cases c <;> simp only [a4m,toD,Z9]
 case q x =>
  simp only [a4m,toD]
  have h:=V0 V7 x 0
  have h1:=L3 x 0
  cases hd:den x 0 <;> first | rfl | skip
  rename_i l c k
  cases k <;> first | rfl | skip
  exfalso
  exact c2w hd
 all_goals simp only [a4m,toD,Z9]
theorem b4v {nid:Nat}:∀ {vs vs':List V} {ws:List (Nat × Bx)},b4n nid vs=some (vs',ws)→a0y nid (vs.map toD)=(vs'.map toD,D6 ws)
 | [],vs',ws,h=>by simp only [b4n] at h;injection h with h;injection h with h1 h2;subst h1 h2;rfl
 | v :: vs,vs',ws,h=>by
  simp only [b4n] at h
  split at h
  ·rename_i t n off len z
   cases hz:Nat.beq n z with
   | false=>rw [hz] at h;cases h
   | true =>
    rw [hz] at h
    injection h with h;injection h with h1 h2;subst h1 h2
    have:=Nat.eq_of_beq_eq_true hz
    subst this
    simp only [List.map_cons,toD,a0y,F5,Nat.beq_refl,cond_true,D6,C1,List.map_nil,map_toD (fun v=>b6f v)]
  ·rename_i hnf
   obtain ⟨p,hp,he⟩:=Option.map_eq_some_iff.1 h
   obtain ⟨p1,p2⟩:=p
   injection he with h1 h2;subst h1 h2
   have ih:=b4v hp
   have hnd:∀ l c z,toD v ≠ .slice l c (.fr z):=fun l c z hd=>by
    cases v <;> simp only [toD] at hd <;> first | (cases hd;done) | skip
    ·injection hd with _ _ hd;subst hd;exact hnf _ _ _ _ _ rfl
    ·exact c2w hd
   rw [List.map_cons,List.map_cons]
   unfold a0y
   split
   ·rename_i hd;exact absurd hd (hnd _ _ _)
   ·rw [ih]
theorem b8y {nid:Nat} {v v':V} {ws:List (Nat × Bx)} (h:d4t nid v=some (v',ws)):own nid (toD v)=(toD v',D6 ws):=by
 unfold d4t at h
 split at h
 ·obtain ⟨p,hp,he⟩:=Option.map_eq_some_iff.1 h
  obtain ⟨p1,p2⟩:=p
  injection he with h1 h2;subst h1 h2
  simp only [toD,own,C9,b4v hp]
 ·rename_i t n off len z
  cases hz:Nat.beq n z with
  | false=>rw [hz] at h;cases h
  | true =>
   rw [hz] at h
   injection h with h;injection h with h1 h2;subst h1 h2
   have:=Nat.eq_of_beq_eq_true hz
   subst this
   simp only [toD,own,F5,Nat.beq_refl,cond_true,D6,C1,List.map_cons,List.map_nil]
 ·rename_i h1 h2
  injection h with h;injection h with q1 q2;subst q1 q2
  unfold own
  split
  ·rename_i ds hd
   exfalso
   cases v <;> simp only [toD] at hd <;> first | (cases hd;done) | skip
   ·rename_i x;have:=L3 x 0;rw [hd] at this;cases this
   ·exact h1 _ rfl
  ·rename_i hd
   exfalso
   cases v <;> simp only [toD] at hd <;> first | (cases hd;done) | skip
   ·injection hd with _ _ hd;subst hd;exact h2 _ _ _ _ _ rfl
   ·exact c2w hd
  ·rfl
theorem b54 {s:A9} {nid:Nat} {v:V} {ws:List (Nat × Bx)} {rs:List Nat} {K:KV} (h:c0e s nid v ws rs K=some r) {K':D→List (Nat × x4)→List Nat→Prop} (hK:∀ v ws rs,K v ws rs=some r→K' (toD v) (D6 ws) rs) :
  a0o (o8 s) nid (toD v) (D6 ws) rs K':=by
 unfold c0e at h
 unfold a0o
 split at h
 ·rename_i v' ho
  rw [b8y ho]
  exact hK _ _ _ h
 ·rename_i v' x xs ho
  rw [b8y ho]
  simp only [D6,List.map_cons]
  cases hf:a03 (s.lay ws) nid with
  | false=>rw [hf] at h;cases h
  | true =>
   rw [hf] at h
   have e:D7 ((o8 s).lay (ws.map fun p=>(p.1,C1 p.2))) nid=true:=by
    have:=a6q hf
    rw [b3z] at this
    exact this
   rw [e]
   have:=hK _ _ _ h
   simp only [D6,List.map_append,List.map_cons] at this
   exact this
 ·cases h
theorem c7g {fn:FuncId→E1} {cr:R2} (htab:X.tab=[]) (hfn:∀ g,L7 X g (fn g)) (hcr:a26 cr) {s:A9} {nid:Nat} {g:FuncId} {vs:List V} {K:KV} {Kp:V→List Nat→Om} (h:d72 CR fn cr s nid g vs K Kp=some r)
  {K':D→List (Nat × x4)→List Nat→Prop} {Kp':D→List Nat→Prop} (hK:∀ v ws rs,K v ws rs=some r→K' (toD v) (D6 ws) rs) (hKp:∀ v rs,Kp v rs=some r→Kp' (toD v) rs):a0c X (o8 s) nid g (vs.map toD) K' Kp':=by
 obtain ⟨vs',ks,h,hf⟩:=a91 h
 unfold a0c
 rw [hf]
 simp only [] at h ⊢
 have eids:T8 ((vs'.map toD).flatMap a8v)=T8 (vs'.flatMap b53):=by
  rw [List.flatMap_map];congr 2;funext v;exact (d5p v).symm
 rw [eids]
 generalize T8 (vs'.flatMap b53)=ids at h ⊢
 have elay:(o8 s).lay (ks.map fun k=>(k,x4.dead))=o8 (s.lay (ks.map fun k=>(k,Bx.dead))):=by
  rw [b3z];congr 1;unfold D6;rw [List.map_map];rfl
 rw [elay]
 split at h
 ·rename_i bs hb
  obtain ⟨h1,h2,h3⟩:=a7f hb
  have h1':P5 (o8 (s.lay (ks.map fun k=>(k,Bx.dead)))).heap ids=some (bs.map G2):=h1
  rw [h1']
  simp only []
  have hall:(bs.map (a0z (pos · ids))).all N9=true:=by
   rw [List.all_map];rw [List.all_eq_true] at h2 ⊢;intro b hbm;simp only [Function.comp,c5j];exact h2 b hbm
  have e1:(vs'.map toD).map (ren (pos · ids))=(vs'.map (a0x (pos · ids))).map toD:=(map_toD (fun v=>a7l v) vs').symm
  have e2:(bs.map G2).map (fun x=>x.map (renI (pos · ids)))=(bs.map (a0z (pos · ids))).map G2:=by
   rw [List.map_map,List.map_map];exact List.map_congr_left fun b _=>(b13 (pos · ids)).symm
  rw [e1,e2]
  unfold b16
  rw [htab]
  simp only [a4w]
  have h:bind (fn g (vs'.map (a0x (pos · ids))) (bs.map (a0z (pos · ids)))) _ _=some r:=h
  unfold bind at h
  split at h
  ·rename_i v bs' hcall
   have hcm:=hfn g _ _ _ _ hcall hall
   rcases hcr _ _ _ _ _ _ h with ⟨v2,bs2,ev,eb,hk⟩ | ⟨v2,ev,eb,hk⟩
   ·simp only [] at hk
    cases hg:Nat.beq bs2.length ids.length && bs2.all N9 with
    | false=>rw [hg] at hk;cases hk
    | true =>
     rw [hg] at hk
     rw [Bool.and_eq_true] at hg
     have hl2:=Nat.eq_of_beq_eq_true hg.1
     have hok:=b8h eb hg.2
     have ebD:bs2.map G2=bs'.map G2:=by
      have hl:bs2.length=bs'.length:=by have:=congrArg List.length eb;simpa using this
      apply List.ext_getElem
      ·simpa using hl
      ·intro i hi1 hi2
       simp only [List.length_map] at hi1 hi2
       simp only [List.getElem_map]
       have q1:=List.all_eq_true.1 hg.2 _ (List.getElem_mem hi1)
       have q2:=List.all_eq_true.1 hok _ (List.getElem_mem hi2)
       have q3:(bs2.map C1)[i]?=(bs'.map C1)[i]?:=by rw [eb]
       rw [List.getElem?_map,List.getElem?_map,List.getElem?_eq_getElem hi1,List.getElem?_eq_getElem hi2] at q3
       simp only [Option.map_some] at q3
       injection q3 with q3
       rw [a19 q1,a19 q2] at q3
       injection q3
     refine .ret (toD v) (bs'.map G2) hcm (by rw [← ebD,List.length_map];exact hl2) ?_
     have:=b54 hk hK
     rw [a7l,ev] at this
     have e3:D6 ((ks.map fun k=>(k,Bx.dead)) ++ b1m ids bs2)=(ks.map fun k=>(k,x4.dead)) ++ a42 ids (bs'.map G2):=by
      rw [← ebD,← c8d hg.2];unfold D6;rw [List.map_append,List.map_map];rfl
     rw [e3] at this
     exact .inl this
   ·simp only [] at hk
    cases hg:bs.all c1v with
    | false=>rw [hg] at hk;cases hk
    | true =>
     rw [hg] at hk
     subst eb
     refine .ret (toD v) _ hcm (by simp [h3]) (.inr ⟨?_,?_⟩)
     ·rw [List.map_map,List.map_map]
      refine List.map_congr_left fun b hb=>?_
      have hp:=List.all_eq_true.1 hg b hb
      simp only [Function.comp]
      rw [b13,b5m _ hp,b5m _ hp]
     ·have:=b54 hk hK
      rw [a7l,ev] at this
      have e3:D6 (ks.map fun k=>(k,Bx.dead))=ks.map fun k=>(k,x4.dead):=by unfold D6;rw [List.map_map];rfl
      rw [e3] at this
      exact this
  ·rename_i v bs' hcall
   have hcm:=hfn g _ _ _ _ hcall hall
   refine .pan (toD v) (bs.map G2) (CM.pan_any hcm) (by simp [h3]) ?_
   have:=hKp _ _ h
   rw [show CR.rn0 v=a0x V7 v from rfl,a7l] at this
   exact this
  ·cases h
 ·cases h

def d33 (C:Comb) (X:Pr) (fn:FuncId→E1) (cr:R2) (s:A9) (nid:Nat) (o:Op) (K:KV) (Kp:V→List Nat→Om):Om :=
 match o with
 | .call { callee:=.value f,args,.. }=>match s.eval f with
  | .func (.func g) fs cs=>d72 C fn cr s nid g (fs ++ args.toList.map s.eval ++ cs) K Kp
  | _=>none
 | .panic x=>match s.eval x with
  | .iface t d=>Kp (a0x V7 (.iface t d)) []
  | _=>none
 | .pick c a b=>match s.eval c with
  | .known t=>cond t (K (s.eval a) [] []) (K (s.eval b) [] [])
  | v=>vB C v fun t=>C.cnd t (K (s.eval a) [] []) (K (s.eval b) [] [])
 | o=>O6 C X s nid o K
theorem d0s {fn:FuncId→E1} {cr:R2} (htab:X.tab=[]) (hfn:∀ g,L7 X g (fn g)) (hcr:a26 cr) {s:A9} {nid:Nat} {o:Op} {K:KV} {Kp:V→List Nat→Om} (h:d33 CR X fn cr s nid o K Kp=some r)
  {K':D→List (Nat × x4)→List Nat→Prop} {Kp':D→List Nat→Prop} (hK:∀ v ws rs,K v ws rs=some r→K' (toD v) (D6 ws) rs) (hKp:∀ v rs,Kp v rs=some r→Kp' (toD v) rs):N4 X (o8 s) nid o K' Kp':=by
 have hrest:∀ o:Op,O6 CR X s nid o K=some r→(match v8 X (o8 s) nid o with | some out=>cond out.need (K' out.val out.ws out.rs) False | none=>False):=by
  intro o h
  obtain ⟨v,ws,rs,h,hd⟩:=d5s h
  rw [hd]
  exact hK _ _ _ h
 unfold d33 at h
 unfold N4
 split at h
 ·rename_i f args ts
  simp only []
  split at h
  ·rename_i g fs cs hf
   rw [o7,hf]
   simp only [toD]
   have:=c7g htab hfn hcr h hK hKp
   rw [List.map_append,List.map_append] at this
   rw [C9,C9,c2n]
   exact this
  ·cases h
 ·rename_i x
  simp only []
  split at h
  ·rename_i t d hx
   rw [o7,hx]
   have:=hKp _ _ h
   rw [a7l] at this
   simp only [toD] at this ⊢
   exact this
  ·cases h
 ·rename_i c a b
  simp only [o7]
  split at h
  ·rename_i t hc
   rw [hc]
   simp only [toD]
   cases t
   ·exact hK _ _ _ h
   ·exact hK _ _ _ h
  ·obtain ⟨t,hc,h⟩:=Y7 h
   rw [hc]
   simp only []
   have h:cnd t _ _=some r:=h
   rw [a7t] at h
   cases t
   ·exact hK _ _ _ h
   ·exact hK _ _ _ h
 ·rename_i h1 h2 h3
  split
  ·exact absurd rfl (h1 _ _ _)
  ·exact absurd rfl (h2 _)
  ·exact absurd rfl (h3 _ _ _)
  ·exact hrest o h

def c1d (C:Comb) (ops:Array Oper) (s:A9) (o:Oper) (Ky Kn:A9→Om):Om :=
 match o.guard with
 | none=>Ky s
 | some (j,want)=>match b1d ops j with
  | none=>Kn s
  | some t=>bif Nat.blt t s.tmps.length then
    match M9 s.tmps t with
    | .known b=>cond (cond want b (!b)) (Ky s) (Kn s)
    | .tuple _=>Kn s
    | v=>vB C v fun b=>match want with
     | true=>C.cnd b (Ky (s.put (some t) (.known true))) (Kn (s.put (some t) (.known false)))
     | false=>C.cnd b (Kn (s.put (some t) (.known true))) (Ky (s.put (some t) (.known false)))
   else Kn s
theorem c4s {ops:Array Oper} {s:A9} {o:Oper} {Ky Kn:A9→Om} (h:c1d CR ops s o Ky Kn=some r) {Ky' Kn':St→Prop} (hy:∀ s,Ky s=some r→Ky' (o8 s)) (hn:∀ s,Kn s=some r→Kn' (o8 s)):a5t ops (o8 s) o Ky' Kn':=by
 unfold c1d at h
 unfold a5t
 split at h
 ·rename_i hg;rw [hg];exact hy _ h
 ·rename_i j want hg
  rw [hg]
  simp only []
  split at h
  ·rename_i ht;rw [ht];exact hn _ h
  ·rename_i t ht
   rw [ht]
   simp only []
   cases hb:Nat.blt t s.tmps.length with
   | false =>
    rw [hb] at h
    have hl:s.tmps.length≤t:=by
     rcases Nat.lt_or_ge t s.tmps.length with h1 | h1
     ·have:Nat.blt t s.tmps.length=true:=by rw [Nat.blt_eq];exact h1
      rw [hb] at this;cases this
     ·exact h1
    have e:(o8 s).tmps[t]?=none:=by simp only [o8,List.getElem?_map,List.getElem?_eq_none hl,Option.map_none]
    rw [e]
    exact hn _ h
   | true =>
    rw [hb] at h
    have hl:t < s.tmps.length:=by rw [Nat.blt_eq] at hb;exact hb
    have e:(o8 s).tmps[t]?=some (toD (M9 s.tmps t)):=by
     rw [a13,List.getD_eq_getElem?_getD,List.getElem?_eq_getElem hl]
     simp only [o8,List.getElem?_map,List.getElem?_eq_getElem hl,Option.map_some,Option.getD_some]
    rw [e]
    simp only [cond_true] at h
    have key:∀ b,toD (M9 s.tmps t)=.bool b→(o8 s).put (some t) (.bool b)=o8 s:=fun b hb=>b27 (by rw [e,hb])
    split at h
    ·rename_i b hv
     rw [hv]
     have k1:=key b (by rw [hv];simp only [toD])
     simp only [toD]
     cases want <;> cases b <;> simp only [cond_true,cond_false,Bool.not_true,Bool.not_false] at h ⊢ <;> rw [k1] <;> first | exact hy _ h | exact hn _ h
    ·rename_i hv
     rw [hv]
     simp only [toD]
     exact hn _ h
    ·obtain ⟨b,hv,h⟩:=Y7 h
     rw [hv]
     simp only []
     have p1:=a17 s (some t) (.known true)
     have p2:=a17 s (some t) (.known false)
     simp only [toD] at p1 p2
     cases want
     ·have h:cnd b _ _=some r:=h
      rw [a7t] at h
      cases b <;> simp only [cond_true,cond_false] at h ⊢
      ·rw [← p2];exact hy _ h
      ·rw [← p1];exact hn _ h
     ·have h:cnd b _ _=some r:=h
      rw [a7t] at h
      cases b <;> simp only [cond_true,cond_false] at h ⊢
      ·rw [← p2];exact hn _ h
      ·rw [← p1];exact hy _ h

def fLV (l:List V):(List V→Om)→Om:=List.rec (motive:=fun _=>(List V→Om)→Om) (fun K=>K []) (fun x _ ih K=>ih fun l=>K (x :: l)) l
def fLB (l:List Bx):(List Bx→Om)→Om:=List.rec (motive:=fun _=>(List Bx→Om)→Om) (fun K=>K []) (fun x _ ih K=>ih fun l=>K (x :: l)) l
def fSt (s:A9) (K:A9→Om):Om:=fLV s.tmps fun t=>fLB s.heap fun h=>K ⟨t,h⟩
theorem d0g:∀ (l:List V) (K:List V→Om),fLV l K=K l
 | [],_=>rfl
 | x :: l,K=>d0g l fun l=>K (x :: l)
theorem c9e:∀ (l:List Bx) (K:List Bx→Om),fLB l K=K l
 | [],_=>rfl
 | x :: l,K=>c9e l fun l=>K (x :: l)
theorem a96 (s:A9) (K:A9→Om):fSt s K=K s:=by unfold fSt;rw [d0g,c9e]
def a95 (C:Comb) (X:Pr) (fn:FuncId→E1) (cr:R2) (ops:Array Oper) (nid:Nat→Nat):List Nat→A9→List Tr→(A9→List Tr→Om)→(Nat→V→List Nat→List Tr→Om)→Om
 | [],s,tr,K,_=>K s tr
 | i :: l,s,tr,K,Kp=>match ops[i]? with
  | none=>a95 C X fn cr ops nid l s tr K Kp
  | some o=>c1d C ops s o
    (fun s=>d33 C X fn cr s (nid i) o.op (fun d ws rs=>fSt ((s.lay ws).put o.dst d) fun s=>a95 C X fn cr ops nid l s (⟨i,o.dst,.junk,ws.map fun p=>(p.1,.dead),rs⟩ :: tr) K Kp) (fun d rs=>Kp i d rs tr))
    (fun s=>fSt (s.put o.dst (.tuple [])) fun s=>a95 C X fn cr ops nid l s (⟨i,o.dst,.junk,[],[]⟩ :: tr) K Kp)
def Tr.face (t:Tr):Nat × Option Tmp × List Nat × List Nat:=(t.i,t.dst,t.ids,t.rs)
theorem c83 {ops:Array Oper} {x y x' y':Tr} (hx:x.face=x'.face) (hy:y.face=y'.face):P2 ops x y=P2 ops x' y':=by
 unfold Tr.face at hx hy
 injection hx with h1 hx;injection hx with h2 hx;injection hx with h3 h4
 injection hy with g1 hy;injection hy with g2 hy;injection hy with g3 g4
 unfold P2
 rw [h1,h2,h3,h4,g1,g2,g3,g4]
theorem a8k {ops:Array Oper}:∀ {a b:List Tr},a.map Tr.face=b.map Tr.face→Q4 ops a=Q4 ops b
 | [],[],_=>rfl
 | [],_ :: _,h=>by simp at h
 | _ :: _,[],h=>by simp at h
 | x :: a,y :: b,h=>by
  simp only [List.map_cons,List.cons.injEq] at h
  simp only [Q4]
  rw [a8k h.2]
  congr 1
  have:∀ {a b:List Tr},a.map Tr.face=b.map Tr.face→(a.all fun z=>!P2 ops z x || Q9 ops z.i ops.size x.i)=b.all fun z=>!P2 ops z y || Q9 ops z.i ops.size y.i:=by
   intro a
   induction a with
   | nil=>intro b hab;cases b with
    | nil=>rfl
    | cons=>simp at hab
   | cons z a ih=>intro b hab;cases b with
    | nil=>simp at hab
    | cons u b =>
     simp only [List.map_cons,List.cons.injEq] at hab
     simp only [List.all_cons]
     rw [ih hab.2,c83 hab.1 h.1]
     have e1:z.i=u.i:=congrArg Prod.fst hab.1
     have e2:x.i=y.i:=congrArg Prod.fst h.1
     rw [e1,e2]
  exact this h.2
theorem a06 {fn:FuncId→E1} {cr:R2} (htab:X.tab=[]) (hfn:∀ g,L7 X g (fn g)) (hcr:a26 cr) {ops:Array Oper} {nid:Nat→Nat}:∀ {l:List Nat} {s:A9} {tr:List Tr} {K:A9→List Tr→Om} {Kp:Nat→V→List Nat→List Tr→Om},a95 CR X fn cr ops nid l s tr K Kp=some r →
  ∀ {tr':List Tr} {K':St→List Tr→Prop} {Kp':Nat→D→List Nat→List Tr→Prop},tr.map Tr.face=tr'.map Tr.face→(∀ s t t',t.map Tr.face=t'.map Tr.face→K s t=some r→K' (o8 s) t')→(∀ i v rs t t',t.map Tr.face=t'.map Tr.face→Kp i v rs t=some r→Kp' i (toD v) rs t')→W0 X ops nid l (o8 s) tr' K' Kp'
 | [],s,tr,K,Kp,h,tr',K',Kp',htr,hK,hKp=>hK _ _ _ htr h
 | i :: l,s,tr,K,Kp,h,tr',K',Kp',htr,hK,hKp=>by
  simp only [a95] at h
  simp only [W0]
  split at h
  ·rename_i ho;rw [ho];exact a06 htab hfn hcr h htr hK hKp
  ·rename_i o ho
   rw [ho]
   refine c4s h (fun s h=>?_) (fun s h=>?_)
   ·refine d0s htab hfn hcr h (fun v ws rs h=>?_) (fun v rs h=>hKp _ _ _ _ _ htr h)
    rw [a96] at h
    rw [← b3z,← a17]
    refine a06 htab hfn hcr h ?_ hK hKp
    simp only [List.map_cons,List.cons.injEq,htr,and_true]
    simp only [Tr.face,Tr.ids,D6,List.map_map]
    rfl
   ·rw [a96] at h
    have:=a17 s o.dst (.tuple [])
    simp only [toD,S8] at this
    rw [← this]
    refine a06 htab hfn hcr h ?_ hK hKp
    simp only [List.map_cons,List.cons.injEq,htr,and_true]
    rfl

def A9.more (s:A9) (n:Nat):A9:={ s with heap:=s.heap ++ List.replicate n .free }
theorem d1y (s:A9) (n:Nat):o8 (s.more n)=(o8 s).more n:=by simp only [o8,A9.more,St.more,List.map_append,List.map_replicate,C1]
def d4p (C:Comb) (m:G0) (c:Int):Bool:=C.bnot (C.band (C.bnot (C.iEq c m.k0)) (C.band (C.bnot (C.iEq c m.k1)) (C.bnot (C.iEq c m.k2))))
def d5j (C:Comb) (m:G0) (c:Int):Int:=C.isel (C.iEq c m.k0) m.v0 (C.isel (C.iEq c m.k1) m.v1 m.v2)
def d2u (m:G0) (s:A9) (c x:Int):A9:=(((s.put (some m.t0) .junk).put (some m.t1) .junk).put (some m.t2) (.int .u8 c)).put (some m.t3) (.int .i64 x)
theorem e1k (m:G0) (c:Int):d4p CR m c=m.has c:=by
 unfold d4p G0.has
 simp only [p8,p5,w9,a2d,L1,Q5]
theorem d98 (m:G0) (c:Int):d5j CR m c=m.val c:=by
 unfold d5j G0.val
 simp only [p4,w9,b7j,Q5]
theorem d10 (m:G0) (s:A9) (c:Int):o8 (d2u m s c (m.val c))=m.put (o8 s) c:=by
 unfold d2u G0.put
 simp only [a17,toD]
def b6l (C:Comb) (X:Pr) (fn:FuncId→E1) (cr:R2) (ops:Array Oper) (draw:Bool) (s:A9) (K:A9→Om) (Kp:V→Om):Om :=
 match draw with
 | false=>match b07 ops.toList with
  | none=>fSt (s.more (a3n ops.toList)) fun s'=>a95 C X fn cr ops (fun i=>s.heap.length+a6o ops.toList i) (List.range ops.size) s' [] (fun s _=>K s) (fun _ d _ _=>Kp d)
  | some m=>cond (a4q X.P m.mt && m.ok s.tmps.length) (vI C .u8 (M9 s.tmps m.src) fun c=>C.chk (d4p C m c) (C.fI (d5j C m c) fun x=>fSt (d2u m (s.more (a3n ops.toList)) c x) fun s' =>
   a95 C X fn cr ops (fun i=>s.heap.length+a6o ops.toList i) (List.range' 7 (ops.size - 7)) s' [] (fun s _=>K s) (fun _ d _ _=>Kp d))) none
 | true=>cond (a4y ops)
   (fSt (s.more (a3n ops.toList)) fun s'=>a95 C X fn cr ops (fun i=>s.heap.length+a6o ops.toList i) (List.range ops.size) s' [] (fun s tr=>cond (Q4 ops tr) (K s) none)
    (fun i d rs tr=>cond (Q4 ops (⟨i,none,.junk,[],rs⟩ :: tr) && (List.range ops.size).all fun j=>Nat.ble j i || Q9 ops i ops.size j) (Kp d) none)) none
theorem c3c {fn:FuncId→E1} {cr:R2} (htab:X.tab=[]) (hfn:∀ g,L7 X g (fn g)) (hcr:a26 cr) {ops:Array Oper} {draw:Bool} {s:A9} {K:A9→Om} {Kp:V→Om} (h:b6l CR X fn cr ops draw s K Kp=some r)
  {K':St→Prop} {Kp':D→Prop} (hK:∀ s,K s=some r→K' (o8 s)) (hKp:∀ v,Kp v=some r→Kp' (toD v)):a15 X ops draw (o8 s) K' Kp':=by
 have el:(o8 s).heap.length=s.heap.length:=by simp [o8]
 unfold b6l at h
 unfold a15
 rw [el,← d1y]
 split at h
 ·simp only []
  split at h
  ·rename_i hm
   rw [hm]
   rw [a96] at h
   exact a06 htab hfn hcr h rfl (fun s t t' _ h=>hK s h) (fun i v rs t t' _ h=>hKp v h)
  ·rename_i m hm
   rw [hm]
   have et:(o8 s).tmps.length=s.tmps.length:=by simp [o8]
   simp only [et]
   generalize (a4q X.P m.mt && m.ok s.tmps.length)=b at h ⊢
   cases b with
   | false=>cases h
   | true =>
    simp only [cond_true] at h ⊢
    obtain ⟨c,hc,h⟩:=V1 h
    obtain ⟨h0,h⟩:=D2 h
    rw [e1k] at h0
    rw [CfI,d98,a96] at h
    have e1:(o8 s).tmps.getD m.src .junk=.int .u8 c:=by
     have:=o7 s (.tmp m.src)
     have e2:(o8 s).eval (.tmp m.src)=(o8 s).tmps.getD m.src .junk:=rfl
     rw [← e2,this];exact hc
    rw [e1]
    simp only [h0,cond_true]
    rw [← d10]
    exact a06 htab hfn hcr h rfl (fun s t t' _ h=>hK s h) (fun i v rs t t' _ h=>hKp v h)
 ·simp only []
  cases he:a4y ops with
  | false=>rw [he] at h;cases h
  | true =>
   rw [he] at h
   simp only [cond_true] at h ⊢
   rw [a96] at h
   refine a06 htab hfn hcr h rfl (fun s t t' ht h=>?_) (fun i v rs t t' ht h=>?_)
   ·rw [← a8k ht]
    cases hr:Q4 ops t with
    | false=>rw [hr] at h;cases h
    | true=>rw [hr] at h;exact hK s h
   ·rw [← a8k (a:=⟨i,none,.junk,[],rs⟩ :: t) (by simp only [List.map_cons,ht])]
    generalize (Q4 ops (⟨i,none,.junk,[],rs⟩ :: t) && (List.range ops.size).all fun j=>Nat.ble j i || Q9 ops i ops.size j)=b at h ⊢
    cases b with
    | false=>cases h
    | true=>exact hKp v h
end
end
end Go.Abs
namespace Go.Abs
noncomputable section

inductive Sh where
 | int (k:IntKind)
 | bool
 | str
 | slice (n:Nat) (c:X1)
 | q
 | a (m:Nat)
 | agg (l:List Sh)
 | tuple (l:List Sh)
 | ptr (id off:Nat)
 | cref (m:Nat)
 | bslice (id:Nat)
 | nilp
 | nilIface
 | iface (t:TypeId) (s:Sh)
 | func (fn:Fn) (fs cs:List Sh)
 | any
inductive ShB where
 | cells (l:List Sh)
 | opa (m:Nat)
 | tok (size:Nat)
 | row
 | any

mutual
def c50:V→Sh
 | .bool _ | .known _=>.bool
 | .int k _=>.int k
 | .str _ _=>.str
 | .slice _ n _ _ c=>.slice n c
 | .q _=>.q
 | .a _ m=>.a m
 | .agg cs=>.agg (a18 cs)
 | .tuple cs=>.tuple (a18 cs)
 | .ptr id off=>.ptr id off
 | .cref _ _ m=>.cref m
 | .bslice id _=>.bslice id
 | .nilp=>.nilp
 | .nilIface=>.nilIface
 | .iface t v=>.iface t (c50 v)
 | .func fn a b=>.func fn (a18 a) (a18 b)
 | .junk=>.any
def a18:List V→List Sh
 | []=>[]
 | v :: vs=>c50 v :: a18 vs
end
def c3s:Bx→ShB
 | .cells cs=>.cells (a18 cs)
 | .opa _ m=>.opa m
 | .tok _ z=>.tok z
 | .row _ _=>.row
 | _=>.any
def uI (k:IntKind) (v:V) (K:Int→Om):Om:=match v with
 | .int k' n=>cond (ikEq k k') (K n) none
 | .q x=>cI k x K
 | _=>none
def uB (v:V) (K:Bool→Om):Om:=match v with
 | .bool b=>K b
 | .known b=>K b
 | .q x=>cB x K
 | _=>none
def uS (v:V) (K:Nat→Nat→Om):Om:=match v with
 | .str l c=>K l c
 | .q x=>cS x K
 | _=>none
def uSl (n cN:Nat) (v:V) (K:j8 Q→Nat→Nat→Om):Om:=match v with
 | .slice t n' off len c=>cond (Nat.beq (X8 c) cN) (Nat.rec (motive:=fun _=>Om) (chk (nEq len 0) (K .nil 0 0)) (fun _ _=>cond (Nat.beq n n') (K t off len) (chk (nEq len 0) (K .nil 0 0))) n') none
 | .q x=>cond (Nat.beq cN 0) (cSl n x K) none
 | _=>none
def uQ (v:V) (K:Q→Om):Om:=match b61 v with
 | some x=>K x
 | none=>match v with
  | .slice t n off len .no=>K (.slice t n off len)
  | _=>none
def uA (m:Nat) (v:V) (K:Q→Om):Om:=match v with
 | .a x m'=>cond (Nat.beq m m') (K x) none
 | .agg cs=>cond (Nat.beq cs.length m) (match exQs cs with
  | some qs=>K (.agg qs 0)
  | none=>none) none
 | _=>none
where
 exQ (v:V):Option Q:=match b61 v with
  | some x=>some x
  | none=>match v with
   | .slice t n off len .no=>some (.slice t n off len)
   | _=>none
 exQs:List V→Option (List Q)
  | []=>some []
  | v :: vs=>match exQ v,exQs vs with
   | some q,some qs=>some (q :: qs)
   | _,_=>none
def uL (v:V) (K:List V→Om):Om:=match v with
 | .agg cs=>K cs
 | _=>none
def uTu (v:V) (K:List V→Om):Om:=match v with
 | .tuple cs=>K cs
 | _=>none
def uP (id off:Nat) (v:V) (K:Om):Om:=match v with
 | .ptr i o=>cond (Nat.beq id i) (cond (Nat.beq off o) K none) none
 | _=>none
def uCref (m:Nat) (v:V) (K:Q→Om):Om:=match v with
 | .cref x off m'=>cond (Nat.beq m m') (fQ (subQ x off) K) none
 | _=>none
def uBs (id:Nat) (v:V) (K:Nat→Om):Om:=match v with
 | .bslice i len=>cond (Nat.beq id i) (K len) none
 | _=>none
def uNilp (v:V) (K:Om):Om:=match v with
 | .nilp=>K
 | .q x=>c71 x K
 | _=>none
def uNilI (v:V) (K:Om):Om:=match v with
 | .nilIface=>K
 | _=>none
def uIf (t:TypeId) (v:V) (K:V→Om):Om:=match v with
 | .iface t' v=>cond (Nat.beq t t') (K v) none
 | _=>none
def uFn (f:Nat) (v:V) (K:List V→List V→Om):Om:=match v with
 | .func (.func f') fs cs=>cond (Nat.beq f f') (K fs cs) none
 | _=>none
def uCons (l:List V) (K:V→List V→Om):Om:=match l with
 | v :: l=>K v l
 | []=>none
def uNil (l:List V) (K:Om):Om:=match l with
 | []=>K
 | _=>none
def uConsB (l:List Bx) (K:Bx→List Bx→Om):Om:=match l with
 | v :: l=>K v l
 | []=>none
def uNilB (l:List Bx) (K:Om):Om:=match l with
 | []=>K
 | _=>none
def uBc (b:Bx) (K:List V→Om):Om:=match b with
 | .cells cs=>K cs
 | .opa x m=>K ((a8j 0 m).map fun i=>.q (celQ x i))
 | _=>none
def uBo (m:Nat) (b:Bx) (K:Q→Om):Om:=match b with
 | .opa x m'=>cond (Nat.beq m m') (K x) none
 | .cells cs=>cond (Nat.beq cs.length m) (match uA.exQs cs with
  | some qs=>K (.agg qs 0)
  | none=>none) none
 | _=>none
def uBt (z:Nat) (b:Bx) (K:Nat→Om):Om:=match b with
 | .tok l z'=>cond (Nat.beq z z') (K l) none
 | _=>none
def uBr (b:Bx) (K:j8 Q→Nat→Om):Om:=match b with
 | .row t len=>K t len
 | _=>none
structure w7 extends Comb where
 uI:IntKind→V→(Int→Om)→Om
 uB:V→(Bool→Om)→Om
 uS:V→(Nat→Nat→Om)→Om
 uSl:Nat→Nat→V→(j8 Q→Nat→Nat→Om)→Om
 uQ:V→(Q→Om)→Om
 uA:Nat→V→(Q→Om)→Om
 uL:V→(List V→Om)→Om
 uTu:V→(List V→Om)→Om
 uP:Nat→Nat→V→Om→Om
 uCref:Nat→V→(Q→Om)→Om
 uBs:Nat→V→(Nat→Om)→Om
 uNilp:V→Om→Om
 uNilI:V→Om→Om
 uIf:Nat→V→(V→Om)→Om
 uFn:Nat→V→(List V→List V→Om)→Om
 uCons:List V→(V→List V→Om)→Om
 uNil:List V→Om→Om
 uConsB:List Bx→(Bx→List Bx→Om)→Om
 uNilB:List Bx→Om→Om
 uBc:Bx→(List V→Om)→Om
 uBo:Nat→Bx→(Q→Om)→Om
 uBt:Nat→Bx→(Nat→Om)→Om
 uBr:Bx→(j8 Q→Nat→Om)→Om
 lp:((List V→List Bx→Om)→List V→List Bx→Om)→List V→List Bx→Om
 jn:((List V→List Bx→Om)→Om)→(List V→List Bx→Om)→Om
 same:List Bx→List Bx→Om→Om
def B8:Nat:=100000
def lp (body:(List V→List Bx→Om)→List V→List Bx→Om):List V→List Bx→Om :=
 Nat.rec (motive:=fun _=>List V→List Bx→Om) (fun _ _=>none) (fun _ ih=>body ih) B8
def jn (f:(List V→List Bx→Om)→Om) (g:List V→List Bx→Om):Om:=f g
def CU:w7:={ CR with
 uI:=uI,uB:=uB,uS:=uS,uSl:=uSl,uQ:=uQ,uA:=uA,uL:=uL,uTu:=uTu,uP:=uP,uCref:=uCref,uBs:=uBs,uNilp:=uNilp,uNilI:=uNilI,uIf:=uIf,uFn:=uFn,uCons:=uCons,uNil:=uNil,
 uConsB:=uConsB,uNilB:=uNilB,uBc:=uBc,uBo:=uBo,uBt:=uBt,uBr:=uBr,lp:=lp,jn:=jn,same:=same }
mutual
def c8s (U:w7):Sh→V→(V→Om)→Om
 | .int k,v,K=>U.uI k v fun n=>K (.int k n)
 | .bool,v,K=>U.uB v fun b=>K (.bool b)
 | .str,v,K=>U.uS v fun l c=>K (.str l c)
 | .slice n c,v,K=>U.uSl n (X8 c) v fun t off len=>K (.slice t n off len c)
 | .q,v,K=>U.uQ v fun x=>K (.q x)
 | .a m,v,K=>U.uA m v fun x=>K (.a x m)
 | .agg l,v,K=>U.uL v fun cs=>a0l U l cs fun cs=>K (.agg cs)
 | .tuple l,v,K=>U.uTu v fun cs=>a0l U l cs fun cs=>K (.tuple cs)
 | .ptr id off,v,K=>U.uP id off v (K (.ptr id off))
 | .cref m,v,K=>U.uCref m v fun x=>K (.cref x 0 m)
 | .bslice id,v,K=>U.uBs id v fun len=>K (.bslice id len)
 | .nilp,v,K=>U.uNilp v (K .nilp)
 | .nilIface,v,K=>U.uNilI v (K .nilIface)
 | .iface t s,v,K=>U.uIf t v fun v=>c8s U s v fun v=>K (.iface t v)
 | .func (.func f) fs cs,v,K=>U.uFn f v fun a b=>a0l U fs a fun a=>a0l U cs b fun b=>K (.func (.func f) a b)
 | .func _ _ _,_,_=>none
 | .any,v,K=>K v
def a0l (U:w7):List Sh→List V→(List V→Om)→Om
 | [],l,K=>U.uNil l (K [])
 | s :: ss,l,K=>U.uCons l fun v l=>c8s U s v fun v=>a0l U ss l fun l=>K (v :: l)
end
def d7b (U:w7):ShB→Bx→(Bx→Om)→Om
 | .cells l,b,K=>U.uBc b fun cs=>a0l U l cs fun cs=>K (.cells cs)
 | .opa m,b,K=>U.uBo m b fun x=>K (.opa x m)
 | .tok z,b,K=>U.uBt z b fun l=>K (.tok l z)
 | .row,b,K=>U.uBr b fun t len=>K (.row t len)
 | .any,b,K=>K b
def a0d (U:w7):List ShB→List Bx→(List Bx→Om)→Om
 | [],l,K=>U.uNilB l (K [])
 | s :: ss,l,K=>U.uConsB l fun b l=>d7b U s b fun b=>a0d U ss l fun l=>K (b :: l)

section
variable {r:R}
theorem e0f {k:IntKind} {v:V} {K:Int→Om} (h:uI k v K=some r):∃ n,toD v=.int k n∧K n=some r:=V1 (k:=k) (v:=v) (by unfold vI;exact h)
theorem d9f {v:V} {K:Bool→Om} (h:uB v K=some r):∃ b,toD v=.bool b∧K b=some r:=Y7 (v:=v) (by unfold vB;exact h)
theorem d9u {v:V} {K:Nat→Nat→Om} (h:uS v K=some r):∃ l c,toD v=.str (u7 l c)∧K l c=some r:=Y8 (v:=v) (by unfold vS;exact h)
theorem d6b {n:Nat} {c:X1} {v:V} {K:j8 Q→Nat→Nat→Om} (h:uSl n (X8 c) v K=some r):∃ t off len,toD v=.slice len (rows (A3 t) n off len) c∧K t off len=some r:=by
 unfold uSl at h
 split at h
 ·rename_i t n' off len c'
  cases hc:Nat.beq (X8 c') (X8 c) with
  | false=>rw [hc] at h;cases h
  | true =>
   rw [hc] at h
   have:=c2l (Nat.eq_of_beq_eq_true hc)
   subst this
   simp only [cond_true] at h
   cases n' with
   | zero =>
    obtain ⟨h1,h⟩:=a8x (show chk (nEq len 0) (K .nil 0 0)=some r from h)
    have:=Nat.eq_of_beq_eq_true h1
    subst this
    exact ⟨.nil,0,0,by simp only [toD,rows],h⟩
   | succ n' =>
    have h:cond (Nat.beq n (n'+1)) (K t off len) (chk (nEq len 0) (K .nil 0 0))=some r:=h
    cases hn:Nat.beq n (n'+1) with
    | false =>
     rw [hn] at h
     obtain ⟨h1,h⟩:=a8x (show chk (nEq len 0) (K .nil 0 0)=some r from h)
     have:=Nat.eq_of_beq_eq_true h1
     subst this
     exact ⟨.nil,0,0,by simp only [toD,rows],h⟩
    | true=>rw [hn] at h;rw [Nat.eq_of_beq_eq_true hn];exact ⟨t,off,len,by simp only [toD],h⟩
 ·cases hc:Nat.beq (X8 c) 0 with
  | false=>rw [hc] at h;cases h
  | true =>
   rw [hc] at h
   have:c=.no:=c2l (Nat.eq_of_beq_eq_true hc)
   subst this
   obtain ⟨t,off,len,hx,h'⟩:=c3f h
   exact ⟨t,off,len,by simp only [toD,hx],h'⟩
 ·cases h
theorem d3o {v:V} {x:Q} (h:uA.exQ v=some x):toD v=den x 0:=by
 unfold uA.exQ at h
 split at h
 ·rename_i hx;injection h with h;subst h;exact a6a hx
 ·split at h
  ·injection h with h;subst h;simp only [toD,den];rfl
  ·cases h
theorem b0h:∀ {vs:List V} {qs:List Q},uA.exQs vs=some qs→vs.map toD=qs.map (fun x=>den x 0)
 | [],qs,h=>by simp only [uA.exQs] at h;injection h with h;subst h;rfl
 | v :: vs,qs,h=>by
  simp only [uA.exQs] at h
  split at h
  ·rename_i q qs' hq hqs
   injection h with h;subst h
   simp only [List.map_cons,d3o hq,b0h hqs]
  ·cases h
theorem d80 {v:V} {K:Q→Om} (h:uQ v K=some r):∃ x,toD v=den x 0∧K x=some r:=by
 unfold uQ at h
 split at h
 ·rename_i x hx;exact ⟨x,a6a hx,h⟩
 ·split at h
  ·exact ⟨_,by simp only [toD,den];rfl,h⟩
  ·cases h
theorem d8q {m:Nat} {v:V} {K:Q→Om} (h:uA m v K=some r):∃ x,toD v=.agg (w6 (den x) 0 m)∧K x=some r:=by
 unfold uA at h
 split at h
 ·rename_i x m'
  cases hm:Nat.beq m m' with
  | false=>rw [hm] at h;cases h
  | true=>rw [hm] at h;rw [Nat.eq_of_beq_eq_true hm];exact ⟨x,by simp only [toD],h⟩
 ·rename_i cs
  cases hm:Nat.beq cs.length m with
  | false=>rw [hm] at h;cases h
  | true =>
   rw [hm] at h
   simp only [cond_true] at h
   split at h
   ·rename_i qs hqs
    have e:=b0h hqs
    have hl:qs.length=m:=by have:=congrArg List.length e;simp at this;rw [← this];exact Nat.eq_of_beq_eq_true hm
    exact ⟨_,by simp only [toD,C9,e];rw [← hl,a99],h⟩
   ·cases h
 ·cases h
mutual
theorem b0s:∀ {s:Sh} {v:V} {K:V→Om},c8s CU s v K=some r→∃ v',toD v'=toD v∧K v'=some r
 | .int k,v,K,h=>by
  obtain ⟨n,hv,h⟩:=e0f (show uI k v _=some r from h);exact ⟨_,by rw [hv];simp only [toD],h⟩
 | .bool,v,K,h=>by
  obtain ⟨n,hv,h⟩:=d9f (show uB v _=some r from h);exact ⟨_,by rw [hv];simp only [toD],h⟩
 | .str,v,K,h=>by
  obtain ⟨l,c,hv,h⟩:=d9u (show uS v _=some r from h);exact ⟨_,by rw [hv];simp only [toD],h⟩
 | .slice n c,v,K,h=>by
  obtain ⟨t,off,len,hv,h⟩:=d6b (show uSl n (X8 c) v (fun t off len=>K (.slice t n off len c))=some r from h);exact ⟨_,by rw [hv];simp only [toD],h⟩
 | .q,v,K,h=>by
  obtain ⟨x,hv,h⟩:=d80 (show uQ v _=some r from h);exact ⟨_,by rw [hv];simp only [toD],h⟩
 | .a m,v,K,h=>by
  obtain ⟨x,hv,h⟩:=d8q (show uA m v _=some r from h);exact ⟨_,by rw [hv];simp only [toD],h⟩
 | .agg l,v,K,h=>by
  replace h:uL v _=some r:=h
  unfold uL at h
  split at h
  ·obtain ⟨cs',e,h⟩:=J5 h;exact ⟨_,by simp only [toD,C9,e],h⟩
  ·cases h
 | .tuple l,v,K,h=>by
  replace h:uTu v _=some r:=h
  unfold uTu at h
  split at h
  ·obtain ⟨cs',e,h⟩:=J5 h;exact ⟨_,by simp only [toD,C9,e],h⟩
  ·cases h
 | .ptr id off,v,K,h=>by
  replace h:uP id off v _=some r:=h
  unfold uP at h
  split at h
  ·rename_i i o
   cases h1:Nat.beq id i with
   | false=>rw [h1] at h;cases h
   | true =>
    rw [h1] at h
    cases h2:Nat.beq off o with
    | false=>rw [h2] at h;cases h
    | true=>rw [h2] at h;exact ⟨_,by rw [Nat.eq_of_beq_eq_true h1,Nat.eq_of_beq_eq_true h2],h⟩
  ·cases h
 | .cref m,v,K,h=>by
  replace h:uCref m v _=some r:=h
  unfold uCref at h
  split at h
  ·rename_i x off m'
   cases h1:Nat.beq m m' with
   | false=>rw [h1] at h;cases h
   | true =>
    rw [h1] at h
    simp only [cond_true,b4y] at h
    exact ⟨_,by rw [Nat.eq_of_beq_eq_true h1];simp only [toD,b5j,Nat.add_zero],h⟩
  ·cases h
 | .bslice id,v,K,h=>by
  replace h:uBs id v _=some r:=h
  unfold uBs at h
  split at h
  ·rename_i i len
   cases h1:Nat.beq id i with
   | false=>rw [h1] at h;cases h
   | true=>rw [h1] at h;exact ⟨_,by rw [Nat.eq_of_beq_eq_true h1],h⟩
  ·cases h
 | .nilp,v,K,h=>by
  replace h:uNilp v _=some r:=h
  unfold uNilp at h
  split at h
  ·exact ⟨_,rfl,h⟩
  ·obtain ⟨hx,h'⟩:=c76 h;subst hx;exact ⟨_,by simp only [toD,den];rfl,h'⟩
  ·cases h
 | .nilIface,v,K,h=>by
  replace h:uNilI v _=some r:=h
  unfold uNilI at h
  split at h
  ·exact ⟨_,rfl,h⟩
  ·cases h
 | .iface t s,v,K,h=>by
  replace h:uIf t v _=some r:=h
  unfold uIf at h
  split at h
  ·rename_i t' v0
   cases h1:Nat.beq t t' with
   | false=>rw [h1] at h;cases h
   | true =>
    rw [h1] at h
    obtain ⟨v',e,h⟩:=b0s h
    exact ⟨_,by rw [Nat.eq_of_beq_eq_true h1];simp only [toD,e],h⟩
  ·cases h
 | .func (.func f) fs cs,v,K,h=>by
  replace h:uFn f v _=some r:=h
  unfold uFn at h
  split at h
  ·rename_i f' a b
   cases h1:Nat.beq f f' with
   | false=>rw [h1] at h;cases h
   | true =>
    rw [h1] at h
    obtain ⟨a',ea,h⟩:=J5 h
    obtain ⟨b',eb,h⟩:=J5 h
    exact ⟨_,by rw [Nat.eq_of_beq_eq_true h1];simp only [toD,C9,ea,eb],h⟩
  ·cases h
 | .any,v,K,h=>⟨v,rfl,h⟩
theorem J5:∀ {ss:List Sh} {l:List V} {K:List V→Om},a0l CU ss l K=some r→∃ l',l'.map toD=l.map toD∧K l'=some r
 | [],l,K,h=>by
  replace h:uNil l _=some r:=h
  unfold uNil at h
  split at h
  ·exact ⟨[],rfl,h⟩
  ·cases h
 | s :: ss,l,K,h=>by
  replace h:uCons l _=some r:=h
  unfold uCons at h
  split at h
  ·obtain ⟨v',e1,h⟩:=b0s h
   obtain ⟨l',e2,h⟩:=J5 h
   exact ⟨_,by simp only [List.map_cons,e1,e2],h⟩
  ·cases h
end
theorem c64 {s:ShB} {b:Bx} {K:Bx→Om} (h:d7b CU s b K=some r):∃ b',C1 b'=C1 b∧K b'=some r:=by
 cases s with
 | cells l =>
  replace h:uBc b _=some r:=h
  unfold uBc at h
  split at h
  ·obtain ⟨cs',e,h⟩:=J5 h;exact ⟨_,by simp only [C1,e],h⟩
  ·rename_i x m
   obtain ⟨cs',e,h⟩:=J5 h
   refine ⟨_,?_,h⟩
   simp only [C1,e,J6,List.map_map]
   congr 1
   exact List.map_congr_left fun i _=>by simp only [Function.comp,toD];exact a2b x i
  ·cases h
 | opa m =>
  replace h:uBo m b _=some r:=h
  unfold uBo at h
  split at h
  ·rename_i x m'
   cases hm:Nat.beq m m' with
   | false=>rw [hm] at h;cases h
   | true=>rw [hm] at h;exact ⟨_,by rw [Nat.eq_of_beq_eq_true hm],h⟩
  ·rename_i cs
   cases hm:Nat.beq cs.length m with
   | false=>rw [hm] at h;cases h
   | true =>
    rw [hm] at h
    simp only [cond_true] at h
    split at h
    ·rename_i qs hqs
     have e:=b0h hqs
     have hl:qs.length=m:=by have:=congrArg List.length e;simp at this;rw [← this];exact Nat.eq_of_beq_eq_true hm
     exact ⟨_,by simp only [C1,e];rw [← hl,a99],h⟩
    ·cases h
  ·cases h
 | tok z =>
  replace h:uBt z b _=some r:=h
  unfold uBt at h
  split at h
  ·rename_i l z'
   cases hm:Nat.beq z z' with
   | false=>rw [hm] at h;cases h
   | true=>rw [hm] at h;exact ⟨_,by rw [Nat.eq_of_beq_eq_true hm],h⟩
  ·cases h
 | row =>
  replace h:uBr b _=some r:=h
  unfold uBr at h
  split at h
  ·exact ⟨_,rfl,h⟩
  ·cases h
 | any=>exact ⟨b,rfl,h⟩
theorem V4:∀ {ss:List ShB} {l:List Bx} {K:List Bx→Om},a0d CU ss l K=some r→∃ l',l'.map C1=l.map C1∧K l'=some r
 | [],l,K,h=>by
  replace h:uNilB l _=some r:=h
  unfold uNilB at h
  split at h
  ·exact ⟨[],rfl,h⟩
  ·cases h
 | s :: ss,l,K,h=>by
  replace h:uConsB l _=some r:=h
  unfold uConsB at h
  split at h
  ·obtain ⟨v',e1,h⟩:=c64 h
   obtain ⟨l',e2,h⟩:=V4 h
   exact ⟨_,by simp only [List.map_cons,e1,e2],h⟩
  ·cases h
end

structure Ann where
 ks:List (Nat × Nat)
 vs:List Sh
 bs:List ShB

def ev (U:w7) (X:Pr) (fn:FuncId→E1) (cr:R2) (n0:Nat) (AL AJ:Nat→Option Ann):Code→Nat→Nat→A9→(A9→Om)→(Nat→A9→Om)→(A9→Om)→(V→Om)→Om
 | .skip,_,_,s,K,_,_,_=>K s
 | .region _ ops draw,_,_,s,K,_,_,Kp=>b6l U.toComb X fn cr ops draw s K Kp
 | .seq a b,p,q,s,K,Kx,Kr,Kp=>match AJ q with
  | none=>ev U X fn cr n0 AL AJ a p (q+1) s (fun s'=>ev U X fn cr n0 AL AJ b (p+N2 a) (q+1+R0 a) s' K Kx Kr Kp) Kx Kr Kp
  | some A=>U.jn (fun j=>ev U X fn cr n0 AL AJ a p (q+1) s (fun s'=>cond (a30 n0 s.tmps.length A.ks s') (j (a5z n0 A.ks s').1 (a5z n0 A.ks s').2) none) Kx Kr Kp)
    (fun vs bs=>a0l U A.vs vs fun vs=>a0d U A.bs bs fun bs=>ev U X fn cr n0 AL AJ b (p+N2 a) (q+1+R0 a) (b1r s.tmps.length A.ks vs bs) K Kx Kr Kp)
 | .cond c t e,p,q,s,K,Kx,Kr,Kp=>match s.eval c with
  | .known b=>cond b (ev U X fn cr n0 AL AJ t p q s K Kx Kr Kp) (ev U X fn cr n0 AL AJ e (p+N2 t) (q+R0 t) s K Kx Kr Kp)
  | v=>vB U.toComb v fun b=>U.cnd b (ev U X fn cr n0 AL AJ t p q (refV s c true) K Kx Kr Kp) (ev U X fn cr n0 AL AJ e (p+N2 t) (q+R0 t) (refV s c false) K Kx Kr Kp)
 | .block id c,p,q,s,K,Kx,Kr,Kp=>ev U X fn cr n0 AL AJ c p q s K (fun j s'=>cond (Nat.beq j id) (K s') (Kx j s')) Kr Kp
 | .loop c,p,q,s,_,Kx,Kr,Kp=>match AL p with
  | none=>none
  | some A=>cond (a30 n0 s.tmps.length A.ks s) (U.lp (fun self vs bs=>a0l U A.vs vs fun vs=>a0d U A.bs bs fun bs =>
    ev U X fn cr n0 AL AJ c (p+1) q (b1r s.tmps.length A.ks vs bs) (fun s'=>cond (a30 n0 s.tmps.length A.ks s') (self (a5z n0 A.ks s').1 (a5z n0 A.ks s').2) none) Kx Kr Kp) (a5z n0 A.ks s).1 (a5z n0 A.ks s).2) none
 | .exit j,_,_,s,_,Kx,_,_=>Kx j s
 | .ret,_,_,s,_,_,Kr,_=>Kr s
 | _,_,_,_,_,_,_,_=>none
where refV (s:A9) (c:Operand) (b:Bool):A9:=match c with
 | .tmp t=>s.put (some t) (.known b)
 | _=>s

def b0r (A:Ann):Cut:={ π:=List D × List x4→Prop,ι:=fun p=>{ v // p v },ks:=A.ks,V:=fun _ ix=>ix.val }

section
variable {X:Pr} {r:R}
theorem c2x (s:A9) (c:Operand) (b:Bool):o8 (ev.refV s c b)=(o8 s).ref c b:=by
 cases c with
 | tmp t=>have:=a17 s (some t) (.known b);simp only [toD] at this;exact this
 | _=>rfl
theorem d0n {body:(List V→List Bx→Om)→List V→List Bx→Om} {vs:List V} {bs:List Bx} (h:CU.lp body vs bs=some r):∃ n,Nat.rec (motive:=fun _=>List V→List Bx→Om) (fun _ _=>none) (fun _ ih=>body ih) n vs bs=some r:=⟨B8,h⟩

theorem O4 {fn:FuncId→E1} {cr:R2} (htab:X.tab=[]) (hfn:∀ g,L7 X g (fn g)) (hcr:a26 cr) {n0:Nat} {AL AJ:Nat→Option Ann}:∀ (c:Code) {p q:Nat} {s:A9} {K:A9→Om} {Kx:Nat→A9→Om} {Kr:A9→Om} {Kp:V→Om},
  ev CU X fn cr n0 AL AJ c p q s K Kx Kr Kp=some r→∀ {K':St→Prop} {Kx':Nat→St→Prop} {Kr':St→Prop} {Kp':D→Prop},(∀ s,K s=some r→K' (o8 s))→(∀ j s,Kx j s=some r→Kx' j (o8 s))→(∀ s,Kr s=some r→Kr' (o8 s))→(∀ v,Kp v=some r→Kp' (toD v)) →
  vc X n0 (fun _ body s=>a1s n0 body s) (fun q=>(AJ q).map b0r) c p q (o8 s) K' Kx' Kr' Kp'
 | .skip,p,q,s,K,Kx,Kr,Kp,h,K',Kx',Kr',Kp',hK,hx,hr,hp=>hK s h
 | .region id ops draw,p,q,s,K,Kx,Kr,Kp,h,K',Kx',Kr',Kp',hK,hx,hr,hp=>c3c htab hfn hcr h hK hp
 | .seq a b,p,q,s,K,Kx,Kr,Kp,h,K',Kx',Kr',Kp',hK,hx,hr,hp=>by
  simp only [ev] at h
  simp only [vc]
  have el:(o8 s).tmps.length=s.tmps.length:=by simp [o8]
  split at h
  ·rename_i hj
   rw [hj]
   exact O4 htab hfn hcr a h (fun s' h=>O4 htab hfn hcr b h hK hx hr hp) hx hr hp
  ·rename_i A hj
   rw [hj]
   simp only [Option.map_some,b0r]
   have h:jn _ _=some r:=h
   unfold jn at h
   refine ⟨fun v=>vc X n0 (fun _ body s=>a1s n0 body s) (fun q=>(AJ q).map b0r) b (p+N2 a) (q+1+R0 a) (a64 (o8 s).tmps.length A.ks v) K' Kx' Kr' Kp',?_,fun ix=>ix.property⟩
   refine O4 htab hfn hcr a h (fun s' h=>?_) hx hr hp
   rw [el,← b25]
   cases hok:a30 n0 s.tmps.length A.ks s' with
   | false=>rw [hok] at h;cases h
   | true =>
    rw [hok] at h
    simp only [cond_true] at h ⊢
    obtain ⟨vs',e1,h⟩:=J5 h
    obtain ⟨bs',e2,h⟩:=V4 h
    refine .mk ⟨gcV n0 A.ks (o8 s'),?_⟩ rfl
    rw [b68,← e1,← e2,← c21]
    exact O4 htab hfn hcr b h hK hx hr hp
 | .cond c t e,p,q,s,K,Kx,Kr,Kp,h,K',Kx',Kr',Kp',hK,hx,hr,hp=>by
  simp only [ev] at h
  simp only [vc]
  rw [o7]
  split at h
  ·rename_i b hc
   rw [hc]
   simp only [toD]
   have e0:(o8 s).eval c=.bool b:=by rw [o7,hc];simp only [toD]
   cases b
   ·simp only [cond_false] at h ⊢;rw [a8r e0];exact O4 htab hfn hcr e h hK hx hr hp
   ·simp only [cond_true] at h ⊢;rw [a8r e0];exact O4 htab hfn hcr t h hK hx hr hp
  ·obtain ⟨b,hv,h⟩:=Y7 h
   rw [hv]
   simp only []
   have h:cnd b _ _=some r:=h
   rw [a7t] at h
   cases b
   ·simp only [cond_false] at h ⊢;rw [← c2x];exact O4 htab hfn hcr e h hK hx hr hp
   ·simp only [cond_true] at h ⊢;rw [← c2x];exact O4 htab hfn hcr t h hK hx hr hp
 | .block id c,p,q,s,K,Kx,Kr,Kp,h,K',Kx',Kr',Kp',hK,hx,hr,hp=>by
  simp only [ev] at h
  simp only [vc]
  refine O4 htab hfn hcr c h hK (fun j s h=>?_) hr hp
  cases hj:Nat.beq j id with
  | true=>rw [hj] at h;exact hK s h
  | false=>rw [hj] at h;exact hx j s h
 | .loop c,p,q,s,K,Kx,Kr,Kp,h,K',Kx',Kr',Kp',hK,hx,hr,hp=>by
  simp only [ev] at h
  simp only [vc]
  have el:(o8 s).tmps.length=s.tmps.length:=by simp [o8]
  split at h
  ·cases h
  ·rename_i A hA
   cases hok:a30 n0 s.tmps.length A.ks s with
   | false=>rw [hok] at h;cases h
   | true =>
    rw [hok] at h
    simp only [cond_true] at h
    obtain ⟨n,h⟩:=d0n h
    generalize hbody:(fun (self:List V→List Bx→Om) (vs:List V) (bs:List Bx)=>a0l CU A.vs vs fun vs=>a0d CU A.bs bs fun bs =>
     ev CU X fn cr n0 AL AJ c (p+1) q (b1r s.tmps.length A.ks vs bs) (fun s'=>cond (a30 n0 s.tmps.length A.ks s') (self (a5z n0 A.ks s').1 (a5z n0 A.ks s').2) none) Kx Kr Kp)=body at h
    refine a1s.mk { x:(List D × List x4) × Nat // ∃ vs bs,x.1=(vs.map toD,bs.map C1)∧Nat.rec (motive:=fun _=>List V→List Bx→Om) (fun _ _=>none) (fun _ ih=>body ih) x.2 vs bs=some r } (fun i=>i.val.1) (fun i=>i.val.2)
     ⟨(gcV n0 A.ks (o8 s),n),_,_,b68 n0 A.ks s,h⟩ A.ks (by rw [el,← b25];exact hok) rfl ?_
    rintro ⟨⟨v,m⟩,vs,bs,hv,hrun⟩
    simp only at hv hrun ⊢
    cases m with
    | zero=>cases hrun
    | succ m =>
     have hrun:body (Nat.rec (motive:=fun _=>List V→List Bx→Om) (fun _ _=>none) (fun _ ih=>body ih) m) vs bs=some r:=hrun
     rw [← hbody] at hrun
     obtain ⟨vs',e1,hrun⟩:=J5 hrun
     obtain ⟨bs',e2,hrun⟩:=V4 hrun
     subst hv
     rw [el]
     have e3:o8 (b1r s.tmps.length A.ks vs' bs')=a64 s.tmps.length A.ks (vs.map toD,bs.map C1):=by rw [c21,e1,e2]
     rw [← e3]
     refine O4 htab hfn hcr c hrun (fun s' h'=>?_) hx hr hp
     rw [← b25]
     cases hok':a30 n0 s.tmps.length A.ks s' with
     | false=>rw [hok'] at h';cases h'
     | true =>
      rw [hok'] at h'
      simp only [cond_true] at h' ⊢
      rw [hbody] at h'
      exact .mk ⟨(gcV n0 A.ks (o8 s'),m),_,_,b68 n0 A.ks s',h'⟩ (Nat.lt_succ_self m) rfl
 | .exit j,p,q,s,K,Kx,Kr,Kp,h,K',Kx',Kr',Kp',hK,hx,hr,hp=>hx j s h
 | .ret,p,q,s,K,Kx,Kr,Kp,h,K',Kx',Kr',Kp',hK,hx,hr,hp=>hr s h
 | .rangeFunc ..,_,_,_,_,_,_,_,h,_,_,_,_,_,_,_,_=>by cases h
 | .scope _,_,_,_,_,_,_,_,h,_,_,_,_,_,_,_,_=>by cases h
 | .label _,_,_,_,_,_,_,_,h,_,_,_,_,_,_,_,_=>by cases h
 | .goto _,_,_,_,_,_,_,_,h,_,_,_,_,_,_,_,_=>by cases h
 | .refuse _,_,_,_,_,_,_,_,h,_,_,_,_,_,_,_,_=>by cases h
end
end
end Go.Abs
namespace Go.Abs
noncomputable section

def a84 (C:Comb) (P:Program) (s:A9):List ResultVar→(List V→Om)→Om
 | [],K=>K []
 | .tmp t :: rs,K=>a84 C P s rs fun vs=>K (M9 s.tmps t :: vs)
 | .cell x t :: rs,K=>match M9 s.tmps x with
  | .ptr id off=>match N7 s.heap id with
   | .cells cs=>b4h C P t cs off fun v=>a84 C P s rs fun vs=>K (v :: vs)
   | .opa y m=>b15 C P t y off m fun v=>a84 C P s rs fun vs=>K (v :: vs)
   | _=>none
  | _=>none
def c15:List V→V
 | [v]=>v
 | vs=>.tuple vs
def b1x (n:Nat) (v:V):V:=a4m (U0 (a0n n) v)
theorem b4w (n:Nat) (v:V):toD (b1x n v)=Q6 n (toD v):=by unfold b1x Q6;rw [b6f,a0u]
def c1o (C:Comb) (n:Nat) (h:List Bx) (g:Option Nat) (v:V) (K:V→Om):Om:=match g,v with
 | some z,.slice t m off len (.tok id)=>match N7 h id with
  | .tok l z'=>bif Nat.ble n id && (Nat.beq z' z && Nat.beq m z) then C.chk (C.nEq l len) (K (.slice t m off len (.fr z))) else none
  | _=>none
 | some z,.slice t m off len .exact=>bif Nat.beq m z then K (.slice t m off len (.fr z)) else bif Nat.beq m 0 then C.chk (C.nEq len 0) (K (.slice .nil z 0 0 (.fr z))) else none
 | _,v=>K (b1x n v)
def a7r (C:Comb) (n:Nat) (h:List Bx):List (Option Nat)→List V→(List V→Om)→Om
 | _,[],K=>K []
 | [],v :: vs,K=>a7r C n h [] vs fun r=>K (b1x n v :: r)
 | g :: gv,v :: vs,K=>c1o C n h g v fun v=>a7r C n h gv vs fun r=>K (v :: r)
def b6y (C:Comb) (P:Program) (rs:List ResultVar) (n:Nat) (gv:List (Option Nat)) (s:A9):Om :=
 a84 C P s rs fun vs=>match a7p s.heap (List.range n) with
  | some bs=>a7r C n s.heap gv vs fun vs=>some (.ret (c15 vs),bs.map (a0z (a0n n)))
  | none=>none
def b5a (ntmps:Nat) (vs:List V) (bs:List Bx):A9:={ tmps:=vs ++ List.replicate (ntmps - vs.length) (.tuple []),heap:=bs }
def d2p (U:w7) (X:Pr) (fn:FuncId→E1) (cr:R2) (AL AJ:Nat→Option Ann) (gv:List (Option Nat)) (f:Func):E1:=fun vs bs =>
 ev U X fn cr bs.length AL AJ (f.body.getD .skip) 0 0 (b5a f.ntmps vs bs) (b6y U.toComb X.P f.results.toList bs.length gv) (fun _ _=>none) (b6y U.toComb X.P f.results.toList bs.length gv) (fun v=>some (.pan v,bs))

section
variable {X:Pr} {r:R}
theorem a4g {P:Program} {s:A9}:∀ {rs:List ResultVar} {K:List V→Om},a84 CR P s rs K=some r→∃ vs,K vs=some r∧a3j P (o8 s) rs=some (vs.map toD)
 | [],K,h=>⟨[],h,rfl⟩
 | .tmp t :: rs,K,h=>by
  simp only [a84] at h
  obtain ⟨vs,h,e⟩:=a4g h
  exact ⟨_,h,by simp only [a3j,e,Option.map_some,List.map_cons,a3d]⟩
 | .cell x t :: rs,K,h=>by
  simp only [a84] at h
  split at h
  ·rename_i id off hx
   split at h
   ·rename_i cs hb
    obtain ⟨v,h,hr⟩:=a80 h
    obtain ⟨vs,h,e⟩:=a4g h
    have hh:=S7 hb (by simp)
    refine ⟨_,h,?_⟩
    simp only [a3j,a3d,hx,toD,hh,C1,hr,Option.bind_some,e,Option.map_some,List.map_cons]
   ·rename_i y m hb
    obtain ⟨v,h,hr⟩:=a4e h
    obtain ⟨vs,h,e⟩:=a4g h
    have hh:=S7 hb (by simp)
    have:=hr 0 (Nat.zero_le _)
    rw [Nat.sub_zero,Nat.sub_zero] at this
    refine ⟨_,h,?_⟩
    simp only [a3j,a3d,hx,toD,hh,C1,this,Option.bind_some,e,Option.map_some,List.map_cons]
   ·cases h
  ·cases h
theorem c9o (vs:List V):toD (c15 vs)=a87 (vs.map toD):=by
 unfold c15
 split
 ·rfl
 ·rename_i h
  match vs,h with
  | [],_=>simp only [toD,S8,List.map_nil,a87]
  | [v],h=>exact absurd rfl (h v)
  | v :: w :: vs,_=>simp only [toD,C9,List.map_cons,a87]
theorem c47 {n:Nat} {s:A9} {g:Option Nat} {v:V} {K:V→Om} (h:c1o CR n s.heap g v K=some r):∃ v',K v'=some r∧a2j n (o8 s).heap g (toD v)=toD v':=by
 unfold c1o at h
 split at h
 ·rename_i z t m off len id
  split at h
  ·rename_i l z' hb
   have hh:=S7 hb (by simp)
   simp only [C1] at hh
   cases hg:Nat.ble n id && (Nat.beq z' z && Nat.beq m z) with
   | false=>rw [hg] at h;cases h
   | true =>
    rw [hg] at h
    simp only [cond_true] at h
    obtain ⟨h0,h⟩:=D2 h
    have h0:Nat.beq l len=true:=h0
    simp only [Bool.and_eq_true] at hg
    obtain ⟨g1,g2,g3⟩:=hg
    have:=Nat.eq_of_beq_eq_true g3
    subst this
    refine ⟨_,h,?_⟩
    simp only [toD,a2j,hh,g1,g2,h0,F5,Nat.beq_refl,Bool.and_self,cond_true]
  ·cases h
 ·rename_i z t m off len
  cases hm:Nat.beq m z with
  | true =>
   rw [hm] at h
   have:=Nat.eq_of_beq_eq_true hm
   subst this
   exact ⟨_,h,by simp only [toD,a2j,F5,Nat.beq_refl,cond_true]⟩
  | false =>
   rw [hm] at h
   simp only [cond_false] at h
   cases h0:Nat.beq m 0 with
   | false=>rw [h0] at h;cases h
   | true =>
    rw [h0] at h
    simp only [cond_true] at h
    obtain ⟨h1,h⟩:=D2 h
    have h1:Nat.beq len 0=true:=h1
    have:=Nat.eq_of_beq_eq_true h1
    subst this
    exact ⟨_,h,by simp only [toD,a2j,rows,List.length_nil,Nat.zero_mul,Nat.beq_refl,cond_true]⟩
 ·rename_i hn1 hn2
  refine ⟨_,h,?_⟩
  rw [b4w]
  unfold a2j
  split
  ·rename_i z len c id hd
   exfalso
   cases v <;> simp only [toD] at hd <;> first | (cases hd;done) | skip
   ·injection hd with _ _ hd;subst hd;exact hn1 _ _ _ _ _ _ rfl rfl
   ·cases Y6 _ _ _ _ _ hd
  ·rename_i z len c hd
   exfalso
   cases v <;> simp only [toD] at hd <;> first | (cases hd;done) | skip
   ·injection hd with _ _ hd;subst hd;exact hn2 _ _ _ _ _ rfl rfl
   ·cases Y6 _ _ _ _ _ hd
  ·rfl
theorem a6x {n:Nat} {s:A9}:∀ {gv:List (Option Nat)} {vs:List V} {K:List V→Om},a7r CR n s.heap gv vs K=some r→∃ vs',K vs'=some r∧V9 n (o8 s).heap gv (vs.map toD)=vs'.map toD
 | gv,[],K,h=>by cases gv <;> exact ⟨[],h,by simp [V9]⟩
 | [],v :: vs,K,h=>by
  simp only [a7r] at h
  obtain ⟨vs',h,e⟩:=a6x h
  exact ⟨_,h,by simp only [List.map_cons,V9,b4w,e]⟩
 | g :: gv,v :: vs,K,h=>by
  simp only [a7r] at h
  obtain ⟨v',h,e1⟩:=c47 h
  obtain ⟨vs',h,e⟩:=a6x h
  exact ⟨_,h,by simp only [List.map_cons,V9,e1,e]⟩
theorem a3f {P:Program} {rs:List ResultVar} {n:Nat} {gv:List (Option Nat)} {s:A9} {x:G3} {bs':List Bx} (h:b6y CR P rs n gv s=some (x,bs')):fin P rs n gv (a7k x) (bs'.map G2) (o8 s):=by
 obtain ⟨vs,h,e⟩:=a4g h
 split at h
 ·rename_i bs hb
  obtain ⟨vs',h,eg⟩:=a6x h
  injection h with h
  injection h with h1 h2
  subst h1 h2
  obtain ⟨q1,q2,q3⟩:=a7f hb
  have q1:P5 (o8 s).heap (List.range n)=some (bs.map G2):=q1
  unfold fin
  rw [e,q1]
  refine ⟨?_,?_⟩
  ·simp only [a7k,c9o,eg]
  ·rw [List.map_map,List.map_map];exact List.map_congr_left fun b _=>(b13 (a0n n)).symm
 ·cases h
theorem b5o (n:Nat) (vs:List V) {bs:List Bx} (h:bs.all N9=true):o8 (b5a n vs bs)=start n (vs.map toD) (bs.map G2):=by
 unfold b5a start o8
 simp only [List.map_append,List.map_replicate,List.length_map,List.map_map,toD,S8]
 congr 1
 exact List.map_congr_left fun b hb=>a19 (List.all_eq_true.1 h b hb)

theorem e1u {fn:FuncId→E1} {cr:R2} (htab:X.tab=[]) (hfn:∀ g,L7 X g (fn g)) (hcr:a26 cr) {AL AJ:Nat→Option Ann} {gv:List (Option Nat)} {f:FuncId} {F:Func} (hf:X.P.funcs[f]?=some F) (hb:F.body.isSome=true)
  (hcall:∀ args w,(callFunc f args).run X.P w=.ok (.enter f args) w):L7 X f (d2p CU X fn cr AL AJ gv F):=by
 intro vs bs x bs' h hok
 obtain ⟨c,hc⟩:=Option.isSome_iff_exists.1 hb
 unfold d2p at h
 rw [hc] at h
 have:=O4 (X:=X) htab hfn hcr c h (K':=fin X.P F.results.toList bs.length gv (a7k x) (bs'.map G2)) (Kx':=fun _ _=>False) (Kr':=fin X.P F.results.toList bs.length gv (a7k x) (bs'.map G2)) (Kp':=fun d=>a7k x=.pan d)
  (fun s h=>a3f h) (fun _ _ h=>by cases h) (fun s h=>a3f h) (fun v h=>by injection h with h;injection h with h1 h2;rw [← h1];rfl)
 rw [b5o _ _ hok] at this
 have e:(bs.map G2).length=bs.length:=by simp
 refine a8p (X:=X) (gv:=gv) (L:=fun _ body s=>a1s bs.length body s) (J:=fun q=>(AJ q).map b0r) hf hc hcall (fun _ _ _ h=>by rw [e];exact h) ?_
 rw [e]
 exact this

end
def c7y (U:w7) (X:Pr) (fn:FuncId→E1) (cr:R2) (AL AJ:Nat→Option Ann) (gv:List (Option Nat)) (f:Func):E1:=fun vs bs=>match f.body with
 | some (.seq A (.seq R C))=>match a7q R with
  | some (_,t)=>ev U X fn cr bs.length AL AJ A 0 0 (b5a f.ntmps vs bs) (fun s=>match M9 s.tmps t with
    | .ptr _ _=>ev U X fn cr bs.length AL AJ C (N2 A) (R0 A) s (b6y U.toComb X.P f.results.toList bs.length gv) (fun _ _=>none) (b6y U.toComb X.P f.results.toList bs.length gv) (fun _=>none)
    | _=>none) (fun _ _=>none) (b6y U.toComb X.P f.results.toList bs.length gv) (fun _=>none)
  | none=>none
 | _=>none
def c8n (f:Func):Option FuncId:=match f.body with
 | some (.seq _ (.seq R _))=>(a7q R).map (·.1)
 | _=>none
section
variable {X:Pr} {r:R}
theorem d6c {fn:FuncId→E1} {cr:R2} (htab:X.tab=[]) (hfn:∀ g,L7 X g (fn g)) (hcr:a26 cr) {AL AJ:Nat→Option Ann} {gv:List (Option Nat)} {f g:FuncId} {F:Func} (hf:X.P.funcs[f]?=some F) (hd:c8n F=some g)
  (hcall:∀ args w,(callFunc f args).run X.P w=.ok (.enter f args) w) (hg:∀ args w,(callFunc g args).run X.P w=.ok (.enter g args) w) (hidle:c6y X.P g):L7 X f (c7y CU X fn cr AL AJ gv F):=by
 intro vs bs x bs' h hok
 unfold c7y at h
 unfold c8n at hd
 split at h
 ·rename_i A R C hb
  rw [hb] at hd
  simp only [] at hd
  split at h
  ·rename_i g' t hR
   rw [hR] at hd
   injection hd with hd
   subst hd
   have e:(bs.map G2).length=bs.length:=by simp
   refine b7n (X:=X) (gv:=gv) (L:=fun _ body s=>a1s bs.length body s) (J:=fun q=>(AJ q).map b0r) hf hb hR hcall hg hidle (fun _ _ _ h=>by rw [e];exact h) ?_
   rw [e,← b5o _ _ hok]
   refine O4 (X:=X) htab hfn hcr A h (fun s h=>?_) (fun _ _ h=>by cases h) (fun s h=>a3f h) (fun v h=>by cases h)
   split at h
   ·rename_i id off hp
    refine ⟨⟨id,off,?_⟩,O4 (X:=X) htab hfn hcr C h (fun s h=>a3f h) (fun _ _ h=>by cases h) (fun s h=>a3f h) (fun v h=>by cases h)⟩
    have:=o7 s (.tmp t)
    have e2:(o8 s).eval (.tmp t)=(o8 s).tmps.getD t .junk:=rfl
    rw [← e2,this]
    show toD (M9 s.tmps t)=_
    rw [hp]
    simp only [toD]
   ·cases h
  ·cases h
 ·cases h
end
end
end Go.Abs
