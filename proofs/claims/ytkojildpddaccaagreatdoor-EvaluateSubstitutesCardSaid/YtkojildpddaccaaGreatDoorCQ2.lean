/- What the operations say, run: second part. -/
import Derived.Test.YtkojildpddaccaaGreatDoorCQ1
set_option linter.all false
namespace Go.Abs
noncomputable section

theorem b1t:∀ (vs ds:List D) (off:Nat),off+vs.length≤ds.length→O6 ds off vs=ds.take off ++ vs ++ ds.drop (off+vs.length)
 | [],ds,off,h=>by simp [O6]
 | v :: vs,ds,off,h=>by
  simp only [List.length_cons] at h;simp only [O6];rw [b1t vs _ _ (by simp;omega)];have e1:(ds.set off v).take (off+1)=ds.take off ++ [v]:=by
   apply List.ext_getElem?;intro i;rcases Nat.lt_or_ge i off with hi | hi
   ·rw [List.getElem?_take_of_lt oM,List.getElem?_set_ne oM,List.getElem?_append_left (by simp;omega),List.getElem?_take_of_lt hi]
   ·rcases Nat.eq_or_lt_of_le hi with hi | hi
    ·subst hi;rw [List.getElem?_take_of_lt oM,List.getElem?_set_self oM,List.getElem?_append_right (by simp;omega)];simp [Nat.min_eq_left (show off≤ds.length by omega)]
    ·rw [List.getElem?_eq_none (by simp;omega),List.getElem?_eq_none (by simp;omega)]
  have e2:(ds.set off v).drop (off+1+vs.length)=ds.drop (off+1+vs.length):=by
   apply List.ext_getElem?;intro i;rw [List.getElem?_drop,List.getElem?_drop,List.getElem?_set_ne oM]
  rw [e1,e2];simp only [List.append_assoc,List.cons_append,List.nil_append,List.length_cons];rw [show off+1+vs.length=off+(vs.length+1) by omega]

section
variable {X:Pr} {s:E0} {nid:Nat} {r:R}

theorem c2n {n:Nat}:∀ {ps:List (Nat × V)} {i:Nat} {ds:List D} {qs:List Q},a4i n i ps=some qs→ds.length=(i+ps.length) * n →
  ∃ out,a3s (fun i=>some (i * n,n)) ds (ps.map fun p=>(p.1,toD p.2))=some out∧out.map (renI M5)=(ds.take (i * n)).map (renI M5) ++ qs.flatMap fun q=>C1 (den q) 0 n
 | [],i,ds,qs,h,hl=>by
  simp only [a4i] at h;injection h with h;subst h;refine ⟨ds,rfl,?_⟩;simp only [List.flatMap_nil,List.append_nil];rw [List.take_of_length_le (by rw [hl];simp)]
 | (j,v) :: ps,i,ds,qs,h,hl=>by
  simp only [a4i] at h;split at h
  ·rename_i q qs' hj hq hqs;injection h with h;subst h;have:=Nat.eq_of_beq_eq_true hj;subst this;obtain ⟨h1,h2,h3⟩:=d3m hq;simp only [List.length_cons] at hl;have hle:i * n+n≤ds.length:=by
    rw [hl];have:(i+1) * n≤(i+(ps.length+1)) * n:=Nat.mul_le_mul_right n oM;rw [Nat.succ_mul] at this;exact this
   have hw:O6 ds (i * n) (toD v).cells=ds.take (i * n) ++ (toD v).cells ++ ds.drop (i * n+n):=by
    rw [b1t _ _ _ (by rw [h2];exact hle),h2]
   have hlen:(O6 ds (i * n) (toD v).cells).length=(i+1+ps.length) * n:=by
    rw [hw];simp only [List.length_append,List.length_take,List.length_drop,h2];have:(i+1+ps.length) * n=ds.length:=by rw [hl];congr 1;omega
    omega
   obtain ⟨out,ho,hm⟩:=c2n hqs hlen;refine ⟨out,?_,?_⟩
   ·simp only [List.map_cons,a3s,h1,h2];have e1:Nat.ble (i * n+n) ds.length=true:=by rw [Nat.ble_eq];exact hle
    rw [e1];simp only [beq_self_eq_true,Bool.and_self,cond_true];exact ho
   ·rw [hm,hw,Nat.succ_mul];have e2:(ds.take (i * n) ++ (toD v).cells ++ ds.drop (i * n+n)).take (i * n+n)=ds.take (i * n) ++ (toD v).cells :=
     List.take_left' (by simp only [List.length_append,List.length_take,h2];omega)
    rw [e2,List.map_append,h3,List.flatMap_cons,List.append_assoc]
  ·cases h
theorem b1y {n:Nat}:∀ {ps:List (Nat × V)} {i:Nat} {qs:List Q},a4i n i ps=some qs→qs.length=ps.length
 | [],i,qs,h=>by simp only [a4i] at h;injection h with h;subst h;rfl
 | (j,v) :: ps,i,qs,h=>by
  simp only [a4i] at h;split at h
  ·rename_i q qs' hj hq hqs;injection h with h;subst h;simp [b1y hqs]
  ·cases h
theorem d7j:∀ (qs:List Q) (i:Nat) (t:u1 Q),i+qs.length+2≤2 ^ E8→(∀ k,k < i→L4 (D2 (mkT qs i t)) k=L4 (D2 t) k)∧∀ k q,qs[k]?=some q→L4 (D2 (mkT qs i t)) (i+k)=den q
 | [],i,t,_=>⟨fun _ _=>rfl,fun k q h=>by simp at h⟩
 | q :: qs,i,t,hb=>by
  simp only [List.length_cons] at hb;obtain ⟨h1,h2⟩:=d7j qs (i+1) (t.set .no q E8 i) oM;refine ⟨fun k hk=>?_,fun k x hx=>?_⟩
  ·simp only [mkT];rw [h1 k oM,a5d _ _ _ oM]
  ·simp only [mkT];cases k with
   | zero =>
    simp at hx;subst hx;show L4 (D2 (mkT qs (i+1) (u1.set Q.no q E8 t i))) i=den q;rw [h1 i oM,b36 _ _ oM]
   | succ k =>
    simp only [List.getElem?_cons_succ] at hx;have:=h2 k x hx;rw [show i+1+k=i+(k+1) by omega] at this;exact this
theorem c3f {T:u1 Den} {n:Nat}:∀ (qs:List Q) (off:Nat),(∀ k q,qs[k]?=some q→L4 T (off+k)=den q)→rows T n off qs.length=qs.flatMap fun q=>C1 (den q) 0 n
 | [],off,h=>rfl
 | q :: qs,off,h=>by
  simp only [List.length_cons,rows,List.flatMap_cons];rw [c3f qs (off+1) (fun k x hx=>by have:=h (k+1) x (by simpa using hx);rw [show off+1+k=off+(k+1) by omega];exact this)];have:=h 0 q rfl;rw [Nat.add_zero] at this;rw [this]

theorem c9f (z:List D) (n:Nat):(a35 z n).length=n:=by simp [a35]

theorem c8z {P:Program} {t:TypeId} {x y:V} {K:KV} (h:c1y CR P s nid t x y K=some r):∃ v ws rs,K v ws rs=some r∧a3d P (B4 s) nid t (toD x) (toD y)=some ⟨true,toD v,F7 ws,rs⟩:=by
 unfold c1y at h;split at h
 ·rename_i e hu;split at h
  ·rename_i n b z hn hb hz;cases hg:Nat.beq z.length n && Nat.blt 0 n && a18 s nid with
   | false=>rw [hg] at h;cases h
   | true =>
    rw [hg] at h;simp only [cond_true] at h;simp only [Bool.and_eq_true] at hg;obtain ⟨⟨g1,g2⟩,g3⟩:=hg;obtain ⟨tr,off,len,c,hx,h⟩:=a13 h;obtain ⟨t2,off2,m,_,hy,h⟩:=a13 h;obtain ⟨h0,h⟩:=F8 h;have h0:(band (Nat.ble ((len+m) * b) 140737488355328) (Nat.ble (len+m) 140737488355328))=true:=h0;rw [CfN] at h;rw [O2,Bool.and_eq_true,Nat.ble_eq,Nat.ble_eq] at h0;obtain ⟨t',h,hold,hnew⟩:=d0f m (t:=tr) (i:=off+len) (j:=off2) h;have hrows:rows (D2 t') n off (len+m)=rows (D2 tr) n off len ++ rows (D2 t2) n off2 m:=by
     rw [b5z];congr 1
     ·exact b1e len off off fun k hk=>hold _ oM
     ·exact b1e m (off+len) off2 fun k hk=>hnew k hk
    have hz':=a2z hz;have hzl:Nat.beq (z.map toD).length n=true:=by rw [List.length_map];exact g1
    have hneed:(decide ((len+m) * b≤J6∧len+m≤J6∧(rows (D2 tr) n off len).length=len * n∧(rows (D2 t2) n off2 m).length=m * n) && (rows (D2 t2) n off2 m).all D.one)=true:=by
     rw [b7f,Bool.and_true,decide_eq_true_iff];exact ⟨h0.1,h0.2,I8 _ _,I8 _ _⟩
    split at h
    ·refine ⟨_,_,_,h,?_⟩;simp only [C6,nAdd,Nat.add_eq,a3d,hu,hx,hy,hn,hb,hz',hzl,g2,a7p g3,Bool.and_self,cond_true,hneed,toD,hrows,F7,List.map_cons,List.map_nil,D4]
    ·rename_i id;split at h
     ·rename_i l k hbx;obtain ⟨h1,h⟩:=F8 h;have h1:(band (Nat.beq l len) (Nat.beq k n))=true:=h1;rw [O2,Bool.and_eq_true] at h1;refine ⟨_,_,_,h,?_⟩;have hh:=R9 hbx (by simp);simp only [D4] at hh;simp only [C6,nAdd,Nat.add_eq,a3d,hu,hx,hy,hn,hb,hz',hzl,g2,a7p g3,Bool.and_self,cond_true,hneed,toD,hrows,F7,List.map_cons,List.map_nil,D4,hh,h1.1,h1.2]
     ·cases h
    ·cases h
  ·cases h
 ·cases h

theorem a79 {v:V} {x:Q} (h:c1x v=some x):toD v=den x 0:=by
 unfold c1x at h;split at h <;> first
  | (injection h with h;subst h;simp only [toD,den];rfl)
  | (injection h with h;subst h;simp only [toD])
  | cases h
theorem d4k {b:Bx} {cs:List V} (h:d4j CR b=some cs):D4 b=.cells (cs.map toD)∧b ≠ .dead:=by
 unfold d4j at h;split at h
 ·injection h with h;subst h;exact ⟨rfl,by simp⟩
 ·rename_i x m;injection h with h;subst h;refine ⟨?_,by simp⟩;simp only [D4,J7,List.map_map];congr 1;exact List.map_congr_left fun i _=>by simp only [Function.comp,toD];exact (a1t x i).symm
 ·cases h
theorem e3w {tr:u1 Q} {y:Q} {off len:Nat} (h1:off < len) (h2:off+2≤2 ^ E8):rows (D2 (tr.set .no y E8 off)) 1 0 len=(rows (D2 tr) 1 0 len).set off (den y 0):=by
 have key:∀ (T:u1 Den) (m o i:Nat),i < m→(rows T 1 o m)[i]?=some (L4 T (o+i) 0):=by
  intro T m
  induction m with
  | zero=>intro o i hi;omega
  | succ m ih =>
   intro o i hi;simp only [rows,C1,List.cons_append,List.nil_append];cases i with
   | zero=>rfl
   | succ i =>
    rw [List.getElem?_cons_succ,ih (o+1) i oM];rw [show o+1+i=o+(i+1) by omega]
 apply List.ext_getElem?;intro i;rcases Nat.lt_or_ge i len with hi | hi
 ·rw [key _ _ _ _ hi,Nat.zero_add];by_cases he:off=i
  ·subst he;rw [List.getElem?_set_self (by rw [I8,Nat.mul_one];exact hi),b36 _ _ h2]
  ·rw [List.getElem?_set_ne he,key _ _ _ _ hi,Nat.zero_add,a5d _ _ _ (fun e=>he e.symm)]
 ·rw [List.getElem?_eq_none (by rw [I8,Nat.mul_one];exact hi),List.getElem?_eq_none (by rw [List.length_set,I8,Nat.mul_one];exact hi)]
end

section
variable {X:Pr} {s:E0} {nid:Nat} {r:R}

theorem c7r (l:List Operand):l.map (B4 s).eval=(l.map s.eval).map toD:=by
 rw [List.map_map];exact List.map_congr_left fun x _=>A6 s x

theorem d97 {t:TypeId} {parts:Array (Nat × Operand)} {K:KV} (h:Q1 CR X s nid (.build t parts) K=some r):∃ v ws rs,K v ws rs=some r∧B5 X (B4 s) nid (.build t parts)=some ⟨true,toD v,F7 ws,rs⟩:=by
 simp only [Q1] at h;split at h
 ·rename_i fs z hu hz;split at h
  ·rename_i cs hf;cases ha:(fs.all fun f=>(szOf X.P f.type).isSome) with
   | false=>rw [ha] at h;cases h
   | true =>
    rw [ha] at h;refine ⟨_,_,_,h,?_⟩;have:=b8m hf;simp only [List.map_map] at this;have e:(parts.toList.map fun p=>(p.1,(B4 s).eval p.2))=parts.toList.map ((fun p:Nat × V=>(p.1,toD p.2)) ∘ fun p=>(p.1,s.eval p.2)) :=
     List.map_congr_left fun p _=>by simp only [Function.comp,A6]
    rw [← e] at this;simp only [C6,B5,hu,a2z hz,this,H5,ha,toD,F5];rfl
  ·cases h
 ·cases h
theorem c10 {t:TypeId} {len:Nat} {parts:Array (Nat × Operand)} {K:KV} (h:Q1 CR X s nid (.buildSlice t len parts) K=some r):∃ v ws rs,K v ws rs=some r∧B5 X (B4 s) nid (.buildSlice t len parts)=some ⟨true,toD v,F7 ws,rs⟩:=by
 simp only [Q1] at h;split at h
 ·rename_i e hu;split at h
  ·rename_i n z hn hz;split at h
   ·rename_i qs hq;cases hg:Nat.beq qs.length len && (Nat.ble (len * n) 16777216 && Nat.ble len 16777216) with
    | false=>rw [hg] at h;cases h
    | true =>
     rw [hg] at h;simp only [Bool.and_eq_true] at hg;obtain ⟨g1,g2,g3⟩:=hg;have hql:=Nat.eq_of_beq_eq_true g1;refine ⟨_,_,_,h,?_⟩;have hpl:=b1y hq;simp only [List.length_map] at hpl;obtain ⟨out,ho,hm⟩:=c2n hq (ds:=a35 (z.map toD) (len * n)) (by rw [c9f,Nat.zero_add,List.length_map,← hpl,hql]);simp only [List.map_map] at ho;have e:(parts.toList.map fun p=>(p.1,(B4 s).eval p.2))=parts.toList.map ((fun p:Nat × V=>(p.1,toD p.2)) ∘ fun p=>(p.1,s.eval p.2)) :=
      List.map_congr_left fun p _=>by simp only [Function.comp,A6]
     rw [← e] at ho;simp only [C6,B5,hu,hn,a2z hz,ho,H5,g2,toD,hm,Nat.zero_mul,List.take_zero,List.map_nil,List.nil_append];have hb:0+qs.length+2≤2 ^ E8:=by
      rw [Nat.ble_eq] at g3;show 0+qs.length+2≤2 ^ 48;omega
     obtain ⟨_,h2⟩:=d7j qs 0 .nil hb;rw [← hql,c3f qs 0 h2];rfl
   ·cases h
  ·cases h
 ·cases h
theorem e4j {t:TypeId} {a:Operand} {K:KV} (h:Q1 CR X s nid (.load t a) K=some r):∃ v ws rs,K v ws rs=some r∧B5 X (B4 s) nid (.load t a)=some ⟨true,toD v,F7 ws,rs⟩:=by
 simp only [Q1] at h;split at h
 ·rename_i id off ha;split at h
  ·rename_i cs hb;obtain ⟨v,h,hr⟩:=b08 h;have hh:=R9 hb (by simp);refine ⟨_,_,_,h,?_⟩;simp only [C6,B5,A6,ha,toD,hh,D4,hr,Option.map_some];rfl
  ·rename_i x m hb;obtain ⟨v,h,hr⟩:=a5q h;have hh:=R9 hb (by simp);have:=hr 0 (Nat.zero_le _);rw [Nat.sub_zero,Nat.sub_zero] at this;refine ⟨_,_,_,h,?_⟩;simp only [C6,B5,A6,ha,toD,hh,D4,this,Option.map_some];rfl
  ·rename_i tr len hb;split at h
   ·rename_i hag;obtain ⟨h0,h⟩:=F8 h;have h0:(Nat.ble (off+1) len)=true:=h0;rw [CfQ] at h;rw [Nat.ble_eq] at h0;have hh:=R9 hb (by simp);refine ⟨_,_,_,h,?_⟩;have key:(rows (D2 tr) 1 0 len)[off]?=some (den (tQ tr off) 0):=by
     have h1:=c3e (T:=D2 tr) (n:=1) (off:=0) (show off < len by omega);rw [Nat.mul_one,Nat.zero_add] at h1;have h2:=congrArg (·[0]?) h1;simp only [List.getElem?_take_of_lt (show 0 < 1 by omega),List.getElem?_drop,Nat.add_zero] at h2;rw [h2,b91];rfl
    simp only [C6,B5,A6,ha,toD,hh,D4,U4,hag,key,Option.map_some];rfl
   ·cases h
  ·cases h
 ·rename_i x off m ha;obtain ⟨v,h,hr⟩:=a5q h;have:=hr off (Nat.le_refl _);rw [Nat.add_sub_cancel_left,Nat.sub_self] at this;refine ⟨_,_,_,h,?_⟩;simp only [C6,B5,A6,ha,toD,this,Option.map_some];rfl
 ·cases h
theorem d99 {t:TypeId} {a x:Operand} {K:KV} (h:Q1 CR X s nid (.store t a x) K=some r):∃ v ws rs,K v ws rs=some r∧B5 X (B4 s) nid (.store t a x)=some ⟨true,toD v,F7 ws,rs⟩:=by
 simp only [Q1] at h;split at h
 ·rename_i id off ha;split at h
  ·rename_i tr len hb hn;split at h
   ·rename_i y hy;obtain ⟨h0,h⟩:=F8 h;have h0:(band (Nat.ble (off+1) len) (Nat.ble (off+2) 281474976710656))=true:=h0;rw [O2,Bool.and_eq_true,Nat.ble_eq,Nat.ble_eq] at h0;rw [show CR.sT=fun t i x K=>a2t x E8 t i K from rfl] at h;simp only [Z8] at h;have hh:=R9 hb (by simp);have hv:=a79 hy;have ho:=K6 y 0;refine ⟨_,_,_,h,?_⟩;have hc:(den y 0).cells=[den y 0]:=by cases hd:den y 0 <;> rw [hd] at ho <;> first | rfl | cases ho
    have hok:(den y 0).ok=true:=by simp [D.ok,ho]
    have e1:Nat.ble (off+1) (rows (D2 tr) 1 0 len).length=true:=by rw [I8,Nat.mul_one,Nat.ble_eq];exact h0.1
    simp only [C6,B5,A6,ha,toD,hh,D4,hn,hv,hok,hc,List.all_cons,List.all_nil,ho,e1,Bool.and_self,List.length_cons,List.length_nil,Nat.zero_add,O6,F7,List.map_cons,List.map_nil,Q5];rw [e3w oM (by show off+2≤2 ^ 48;exact h0.2)];rfl
   ·cases h
  ·rename_i n hn hnr;split at h
   ·rename_i cs hcs;obtain ⟨hB,hd⟩:=d4k hcs;have hh:=R9 (s:=s) (i:=id) rfl hd;rw [hB] at hh;split at h
    ·rename_i y m hx;have hal:(C1 (den y) 0 m).all D.one=true:=b0k (K6 y) m 0;cases hg:Nat.beq m n && (Nat.beq off 0 && Nat.beq m cs.length) with
     | true =>
      rw [hg] at h;simp only [Bool.and_eq_true] at hg;obtain ⟨g1,g2,g3⟩:=hg;have e1:=Nat.eq_of_beq_eq_true g1;have e2:=Nat.eq_of_beq_eq_true g2;have e3:=Nat.eq_of_beq_eq_true g3;subst e1 e2;refine ⟨_,_,_,h,?_⟩;have e4:Nat.ble (0+m) (cs.map toD).length=true:=by rw [List.length_map,Nat.ble_eq];omega
      have e5:O6 (cs.map toD) 0 (C1 (den y) 0 m)=C1 (den y) 0 m:=by
       rw [b1t _ _ _ (by rw [G6,List.length_map];omega),G6,List.take_zero,List.nil_append,List.drop_of_length_le (by rw [List.length_map];omega),List.append_nil]
      simp only [C6,B5,A6,ha,hx,toD,hh,hn,D.ok,D.isAgg,D.cells,G6,g1,hal,e4,Bool.or_true,Bool.and_self,cond_true,e5,F7,List.map_cons,List.map_nil,D4,Q5]
     | false =>
      rw [hg] at h;simp only [cond_false] at h;cases hg2:Nat.beq m n && Nat.ble (off+n) cs.length with
      | false=>rw [hg2] at h;cases h
      | true =>
       rw [hg2] at h;simp only [Bool.and_eq_true] at hg2;obtain ⟨g1,g2⟩:=hg2;have e1:=Nat.eq_of_beq_eq_true g1;subst e1;refine ⟨_,_,_,h,?_⟩;have e4:Nat.ble (off+m) (cs.map toD).length=true:=by rw [List.length_map];exact g2
       have e6:((b1q 0 m).map fun i=>V.q (celQ y i)).map toD=C1 (den y) 0 m:=by
        rw [J7,List.map_map];exact List.map_congr_left fun i _=>by simp only [Function.comp,toD];exact a1t y i
       simp only [C6,B5,A6,ha,hx,toD,hh,hn,D.ok,D.isAgg,D.cells,G6,g1,hal,e4,Bool.or_true,Bool.and_self,cond_true,F7,List.map_cons,List.map_nil,D4,Q5,a8b];rw [e6]
    ·rename_i hna;split at h
     ·rename_i vs hvs;obtain ⟨hok,hcl⟩:=a3r hvs;cases hg:Nat.beq vs.length n && (vs.all c1b && Nat.ble (off+n) cs.length) with
      | false=>rw [hg] at h;cases h
      | true =>
       rw [hg] at h;simp only [Bool.and_eq_true] at hg;obtain ⟨g1,g2,g3⟩:=hg;refine ⟨_,_,_,h,?_⟩;have e1:Nat.beq (vs.map toD).length n=true:=by rw [List.length_map];exact g1
       have e4:Nat.ble (off+n) (cs.map toD).length=true:=by rw [List.length_map];exact g3
       simp only [C6,B5,A6,ha,toD,hh,hn,hok,hcl,e1,e6t g2,e4,Bool.and_self,cond_true,F7,List.map_cons,List.map_nil,D4,Q5,a8b]
     ·cases h
   ·cases h
  ·cases h
 ·cases h
theorem d98 {t:TypeId} {x:Operand} {f:Nat} {K:KV} (h:Q1 CR X s nid (.field t x f) K=some r):∃ v ws rs,K v ws rs=some r∧B5 X (B4 s) nid (.field t x f)=some ⟨true,toD v,F7 ws,rs⟩:=by
 simp only [Q1] at h;split at h
 ·rename_i fs hu;split at h
  ·rename_i fd cs hf hx;obtain ⟨v,h,hr⟩:=b08 h;refine ⟨_,_,_,h,?_⟩;simp only [C6,B5,hu,hf,A6,hx,toD,F5,hr,Option.bind_some,C9];rfl
  ·rename_i fd y m hf hx;obtain ⟨v,h,hr⟩:=a5q h;have:=hr 0 (Nat.zero_le _);rw [Nat.sub_zero,Nat.sub_zero] at this;refine ⟨_,_,_,h,?_⟩;simp only [C6,B5,hu,hf,A6,hx,toD,this,Option.bind_some,C9];rfl
  ·cases h
 ·cases h
theorem c36 {t:TypeId} {x:Operand} {f:Nat} {K:KV} (h:Q1 CR X s nid (.fieldAddr t x f) K=some r):∃ v ws rs,K v ws rs=some r∧B5 X (B4 s) nid (.fieldAddr t x f)=some ⟨true,toD v,F7 ws,rs⟩:=by
 simp only [Q1] at h;split at h
 ·rename_i fs hu;split at h
  ·rename_i fd hf;split at h
   ·rename_i k hs;split at h
    ·rename_i id off hx;exact ⟨_,_,_,h,by simp only [C6,B5,hu,hf,hs,A6,hx,toD,C9];rfl⟩
    ·rename_i y off m hx;exact ⟨_,_,_,h,by simp only [C6,B5,hu,hf,hs,A6,hx,toD,C9,a8i];rfl⟩
    ·cases h
   ·cases h
  ·cases h
 ·cases h
theorem c38 {t:TypeId} {x i:Operand} {K:KV} (h:Q1 CR X s nid (.indexAddr t x i) K=some r):∃ v ws rs,K v ws rs=some r∧B5 X (B4 s) nid (.indexAddr t x i)=some ⟨true,toD v,F7 ws,rs⟩:=by
 simp only [Q1] at h;split at h
 ·rename_i e hu;split at h
  ·rename_i n hn;split at h
   ·rename_i id len hx;obtain ⟨_,k,hi,h⟩:=Q6 h;obtain ⟨h0,h⟩:=F8 h;have h0:(band (iLe 0 k) (iLt k (len:Int)))=true:=h0;rw [CfN] at h;have g:0≤k∧k < (len:Int):=by simpa [O2,Z2,a1c] using h0
    refine ⟨_,_,_,h,?_⟩;simp only [C6,B5,hu,A6,hx,hi,toD,hn,Option.bind_some,H5,decide_eq_true g,nMul,I6];rfl
   ·obtain ⟨tr,off,len,c,hx,h⟩:=a13 h;obtain ⟨_,k,hi,h⟩:=Q6 h;obtain ⟨h0,h⟩:=F8 h;have h0:(band (iLe 0 k) (iLt k (len:Int)))=true:=h0;rw [CfQ] at h;have g:0≤k∧k < (len:Int):=by simpa [O2,Z2,a1c] using h0
    refine ⟨_,_,_,h,?_⟩;have g2:0≤k∧k < (len:Int)∧len * (n+1)≤(rows (D2 tr) (n+1) off len).length∧0 < n+1:=⟨g.1,g.2,by rw [I8];exact Nat.le_refl _,oM⟩;simp only [C6,B5,hu,A6,hx,hi,toD,hn,Option.bind_some,H5,decide_eq_true g2,I6];rw [c3e (show k.toNat < len by omega),b91];rfl
  ·cases h
 ·cases h
theorem d0c {b:Builtin} {args:Array Operand} {ts:Array TypeId} {K:KV} (h:Q1 CR X s nid (.call { callee:=.builtin b,args,argTypes:=ts }) K=some r) :
  ∃ v ws rs,K v ws rs=some r∧B5 X (B4 s) nid (.call { callee:=.builtin b,args,argTypes:=ts })=some ⟨true,toD v,F7 ws,rs⟩:=by
 simp only [Q1] at h;split at h
 ·rename_i x t ha ht;split at h
  ·rename_i hu;obtain ⟨l,c,hx,h⟩:=a03 h;rw [CfI] at h;exact ⟨_,_,_,h,by simp only [C6,B5,ha,ht,hu,A6,hx,C9,toD,U0];rfl⟩
  ·rename_i e hu;split at h
   ·rename_i id n hx;rw [CfI] at h;exact ⟨_,_,_,h,by simp only [C6,B5,ha,ht,hu,A6,hx,C9,toD];rfl⟩
   ·split at h
    ·obtain ⟨tr,off,len,c,hx,h⟩:=a13 h;rw [CfI] at h;exact ⟨_,_,_,h,by simp only [C6,B5,ha,ht,hu,A6,hx,C9,toD];rfl⟩
    ·cases h
  ·cases h
 ·rename_i x y t ts' ha ht;split at h
  ·rename_i k hu;obtain ⟨a,hx,h⟩:=a0a h;obtain ⟨b,hy,h⟩:=a0a h;rw [CfI] at h;refine ⟨_,_,_,h,?_⟩;simp only [C6,B5,ha,A6,hx,hy,C9,toD,c01,a1c];by_cases hab:a < b
   ·simp [hab,F7]
   ·simp [hab,F7]
  ·cases h
 ·rename_i x y t ts' ha ht;split at h
  ·rename_i k hu;obtain ⟨a,hx,h⟩:=a0a h;obtain ⟨b,hy,h⟩:=a0a h;rw [CfI] at h;refine ⟨_,_,_,h,?_⟩;simp only [C6,B5,ha,A6,hx,hy,C9,toD,c01,a1c];by_cases hab:b < a
   ·simp [hab,F7]
   ·simp [hab,F7]
  ·cases h
 ·rename_i x y t u ha ht;cases hb:Nat.beq t u with
  | false=>rw [hb] at h;cases h
  | true =>
   rw [hb] at h;obtain ⟨v,ws,rs,h,hd⟩:=c8z h;exact ⟨v,ws,rs,h,by simp only [C6,B5,ha,ht,hb,cond_true,A6,hd]⟩
 ·cases h

theorem d5a {P:Program} {t:TypeId} {same:Bool} {l c:V} {K:KV} (h:d49 CR P s nid t same l c K=some r):∃ v ws rs,K v ws rs=some r∧b4b P (B4 s) nid t same (toD l) (toD c)=some ⟨true,toD v,F7 ws,rs⟩:=by
 unfold d49 at h;split at h
 ·rename_i e hu;split at h
  ·rename_i n b z hn hb hz;cases hg:Nat.beq z.length n && Nat.blt 0 n with
   | false=>rw [hg] at h;cases h
   | true =>
    rw [hg] at h;simp only [cond_true] at h;have hz':=a2z hz;have hg':(Nat.beq (z.map toD).length n && Nat.blt 0 n)=true:=by rw [List.length_map];exact hg
    split at h
    ·obtain ⟨_,a,hl,h⟩:=Q6 h;obtain ⟨_,m,hc,h⟩:=Q6 h;obtain ⟨h0,h⟩:=F8 h;have h0:band (iEq a 0) (band (iLe 0 m) (band (Nat.ble (iNat m * b) 140737488355328) (Nat.ble (iNat m) 140737488355328)))=true:=h0;obtain ⟨hf,h⟩:=Z7 h;refine ⟨_,_,_,h,?_⟩;have hq:a=0∧0≤m∧m.toNat * b≤J6∧m.toNat≤J6:=by
      simp only [O2,U1,Z2,I6,Bool.and_eq_true,beq_iff_eq,decide_eq_true_eq,Nat.ble_eq] at h0;exact h0
     simp only [b4b,hu,hl,hc,hn,hb,hz',hg',cond_true,decide_eq_true hq,a3f hf,toD,rows,F7,List.map_cons,List.map_nil,D4]
    ·split at h
     ·rename_i z0;split at h
      ·rename_i x hx;obtain ⟨_,a,hl,h⟩:=Q6 h;obtain ⟨_,m,hc,h⟩:=Q6 h;obtain ⟨h0,h⟩:=F8 h;have h0:band (iLe 0 a) (band (iEq a m) (band (Nat.ble (iNat a * b) 140737488355328) (Nat.ble (iNat a) 140737488355328)))=true:=h0;rw [CfN] at h;obtain ⟨tr,h,_,hnew⟩:=d2q (CR.iNat a) (t:=.nil) (i:=0) h;obtain ⟨hf,h⟩:=Z7 h;refine ⟨_,_,_,h,?_⟩;have hq:0≤a∧a=m∧a.toNat * b≤J6∧a.toNat≤J6:=by
        simp only [O2,U1,Z2,I6,Bool.and_eq_true,beq_iff_eq,decide_eq_true_eq,Nat.ble_eq] at h0;exact h0
       have hn1:n=1:=by
        simp only [Bool.and_eq_true,List.length_cons,List.length_nil] at hg;exact (Nat.eq_of_beq_eq_true hg.1).symm
       subst hn1;have hia:CR.iNat a=a.toNat:=I6 a;rw [hia] at hnew ⊢;have hrows:rows (D2 tr) 1 0 a.toNat=a35 [toD z0] (a.toNat * 1):=by
        rw [a79 hx];have key:∀ (m off:Nat),(∀ k,k < m→L4 (D2 tr) (off+k)=den x)→rows (D2 tr) 1 off m=List.replicate m (den x 0):=by
         intro m
         induction m with
         | zero=>intro _ _;rfl
         | succ m ih =>
          intro off hk;simp only [rows,C1,List.replicate_succ,List.cons_append,List.nil_append];have e0:=hk 0 oM;rw [Nat.add_zero] at e0;rw [e0,ih (off+1) (fun k hk'=>by have:=hk (k+1) oM;rw [show off+1+k=off+(k+1) by omega];exact this)]
        rw [key _ 0 hnew,Nat.mul_one];unfold a35;apply List.ext_getElem?;intro i;rcases Nat.lt_or_ge i a.toNat with hi | hi
        ·rw [List.getElem?_replicate,if_pos hi,List.getElem?_map,List.getElem?_range hi];simp [Nat.mod_one]
        ·rw [List.getElem?_eq_none (by simpa using hi),List.getElem?_eq_none (by simpa using hi)]
       simp only [b4b,hu,hl,hc,hn,hb,hz',hg',cond_true,decide_eq_true hq,a3f hf,toD,F7,List.map_cons,List.map_nil,D4,hrows];rfl
      ·cases h
     ·cases h
  ·cases h
 ·cases h
theorem e3a {v:V} {x:Q} (h:qOf v=some x):toD v=den x 0:=by
 unfold qOf at h;split at h <;> first | cases h;done | skip
 all_goals (injection h with h;subst h;simp only [toD,den];try rfl)
theorem c28:∀ {vs:List V} {qs:List Q},b3g vs=some qs→vs.map toD=qs.map (fun x=>den x 0)
 | [],qs,h=>by simp only [b3g] at h;injection h with h;subst h;rfl
 | v :: vs,qs,h=>by
  simp only [b3g] at h;split at h
  ·rename_i q qs' hq hqs;injection h with h;subst h;simp only [List.map_cons,e3a hq,c28 hqs]
  ·cases h
theorem d1a {m:Nat} {v:V} {K:Q→Om} (h:mA m v K=some r):∃ x,toD v=.agg (C1 (den x) 0 m)∧K x=some r:=by
 unfold mA at h;split at h
 ·rename_i x m';cases hm:Nat.beq m m' with
  | false=>rw [hm] at h;cases h
  | true=>rw [hm] at h;rw [Nat.eq_of_beq_eq_true hm];exact ⟨x,by simp only [toD],h⟩
 ·rename_i cs;cases hm:Nat.beq cs.length m with
  | false=>rw [hm] at h;cases h
  | true =>
   rw [hm] at h;simp only [cond_true] at h;split at h
   ·rename_i qs hqs;have e:=c28 hqs;have hl:qs.length=m:=by have:=congrArg List.length e;simp at this;rw [← this];exact Nat.eq_of_beq_eq_true hm
    exact ⟨_,by simp only [toD,F5,e];rw [← hl,a7g],h⟩
   ·cases h
 ·cases h
section
variable {f:Nat→Option Nat}
theorem map_toD {g:V→V} {h:D→D} (e:∀ v,toD (g v)=h (toD v)) (l:List V):(l.map g).map toD=(l.map toD).map h:=by
 rw [List.map_map,List.map_map];exact List.map_congr_left fun v _=>e v
theorem c8b (v:V):toD (U6 f v)=Q4 f (toD v):=by
 cases v
 case slice t n off len c=>cases c <;> simp only [U6,toD,Q4]
 case q x=>simp only [U6,toD];exact (W6 f x 0).symm
 case ptr id off=>simp only [U6,toD,Q4];cases f id <;> simp only [toD]
 case mapp id=>simp only [U6,toD,Q4];cases f id <;> simp only [toD]
 all_goals simp only [U6,toD,Q4]
theorem b7b (x:Q) (i:Nat):a82 f (den x i)=den x i:=by
 have h1:=K6 x i;have h2:=W6 f x i;cases hd:den x i <;> rw [hd] at h1 h2 <;> first | exact h2 | (cases h1;done) | (exfalso;simp [Q4] at h2;done)
theorem c8c (v:V):toD (a0z f v)=a82 f (toD v):=by
 cases v
 case func fn fs cs=>simp only [a0z,toD,a82,F5,map_toD (fun v=>c8b (f:=f) v)]
 case q x=>simp only [a0z,U6,toD];exact (b7b x 0).symm
 all_goals (simp only [a0z];rw [c8b];simp only [toD,a82])
theorem b1b (v:V):toD (Y6 f v)=a6z f (toD v):=by
 cases v
 case agg cs=>simp only [Y6,toD,a6z,F5,map_toD (fun v=>c8c (f:=f) v)]
 case a x m =>
  simp only [Y6,toD,a6z];congr 1;rw [J7,List.map_map];exact List.map_congr_left fun i _=>(b7b x i).symm
 case q x =>
  simp only [Y6,a0z,U6,toD];have h1:=K6 x 0;have h2:=b7b (f:=f) x 0;cases hd:den x 0 <;> rw [hd] at h1 h2 <;> first | exact h2.symm | cases h1
 all_goals (simp only [Y6];rw [c8c];simp only [toD,a6z])
theorem V3 (v:V):toD (Q0 f v)=renI f (toD v):=by
 cases v
 case iface t v=>simp only [Q0,toD,renI,b1b]
 case q x=>simp only [Q0,Y6,a0z,U6,toD];exact (a3l f x 0).symm
 all_goals (simp only [Q0];rw [b1b];simp only [toD,renI])
theorem a9u (v:V):toD (a4y f v)=ren f (toD v):=by
 cases v
 case tuple vs=>simp only [a4y,toD,ren,F5,map_toD (fun v=>V3 (f:=f) v)]
 case q x =>
  simp only [a4y,Q0,Y6,a0z,U6,toD];have h1:=K6 x 0;have h2:=a3l f x 0;cases hd:den x 0 <;> rw [hd] at h1 h2 <;> first | exact h2.symm | cases h1
 all_goals (simp only [a4y];rw [V3];simp only [toD,ren])
end
theorem b8n {ks:List K3} {key:List D}:∀ {kvs:List D} {p:Nat × D},O0 ks key kvs=some (some p)→kvs[2 * p.1+1]?=some p.2
 | [],p,h=>by simp [O0] at h
 | [x],p,h=>by cases x <;> simp [O0] at h
 | x :: v :: kvs,p,h=>by
  cases x <;> simp only [O0] at h <;> first | cases h;done | skip
  split at h
  ·cases h
  ·injection h with h;injection h with h;subst h;rfl
  ·obtain ⟨o,h1,h2⟩:=Option.map_eq_some_iff.1 h;obtain ⟨q,h3,rfl⟩:=Option.map_eq_some_iff.1 h2;subst h3;have:=b8n h1;show (_ :: v :: kvs)[2 * (q.1+1)+1]?=_;rw [show 2 * (q.1+1)+1=(2 * q.1+1)+1+1 by omega];exact this
theorem d0e {P:Program} {t:TypeId} {z:V} (h:c9e P t=some z):c0b P t=some (toD z):=by
 unfold c9e at h;unfold c0b;cases hi:P.info? t with
 | none=>rw [hi] at h;cases h
 | some i =>
  rw [hi] at h;obtain ⟨v,h1,rfl⟩:=Option.map_eq_some_iff.1 h;simp only [Option.bind_some,h1,Option.map_some,V3,d1i]
theorem c3l (v:V):∀ (n:Nat) (l:List V),(b9p v n l).map toD=b46 (toD v) n (l.map toD)
 | 0,[]=>rfl
 | 0,[_]=>rfl
 | 0,_ :: _ :: _=>rfl
 | _+1,[]=>rfl
 | _+1,[_]=>rfl
 | n+1,a :: b :: l=>by simp only [b9p,b46,List.map_cons,c3l v n l]
theorem e4k {o:Op} {K:KV} (h:Q1 CR X s nid o K=some r):∃ v ws rs,K v ws rs=some r∧B5 X (B4 s) nid o=some ⟨true,toD v,F7 ws,rs⟩:=by
 cases o
 case move x=>exact ⟨_,_,_,h,by simp only [C6,B5,A6,C9];rfl⟩
 case assign x=>exact ⟨_,_,_,h,by simp only [C6,B5,A6,C9];rfl⟩
 case alloc t =>
  simp only [Q1] at h;split at h
  ·rename_i z hz;obtain ⟨hf,h⟩:=Z7 h;exact ⟨_,_,_,h,by simp only [C6,B5,a2z hz,a3f hf,toD,F7,List.map_cons,List.map_nil,D4]⟩
  ·cases h
 case makeMap t rv =>
  cases rv with
  | some rv=>cases h
  | none =>
  simp only [Q1] at h;split at h
  ·rename_i k e hu;obtain ⟨hf,h⟩:=Z7 h;exact ⟨_,_,_,h,by simp only [C6,B5,hu,a3f hf,toD,F7,List.map_cons,List.map_nil,D4]⟩
  ·cases h
 case lookup t x k ok =>
  simp only [Q1] at h;split at h
  ·rename_i id hx;split at h
   ·rename_i kt e hu;split at h
    ·rename_i ks kvs z m hfind hb hz _ _;have hh:=R9 hb (by simp);replace h:mL ks kvs (s.eval k) z m (fun x b=>K (bif ok then .tuple [.a x m,.bool b] else .a x m) [] [id])=some r:=h;unfold mL at h;split at h
     ·rename_i kc hk;cases hks:(u9 ks kc kc).isSome with
      | false=>rw [hks] at h;cases h
      | true =>
      rw [hks] at h;simp only [cond_true] at h;split at h
      ·rename_i p hf;have hv:(kvs.map toD)[2 * p.1+1]?=some p.2:=b8n hf;have hv':toD (kvs.getD (2 * p.1+1) .junk)=p.2:=by
        rw [List.getElem?_map] at hv;obtain ⟨v,h1,h2⟩:=Option.map_eq_some_iff.1 hv;rw [List.getD_eq_getElem?_getD,h1];exact h2
       obtain ⟨x,hx2,h⟩:=d1a h;rw [hv'] at hx2;refine ⟨_,_,_,h,?_⟩;simp only [B5,a9e,A6,hx,toD,hk,hu,hfind,hh,D4,hks,cond_true,hf];cases ok
       ·simp only [cond_false,toD,hx2];rfl
       ·simp only [cond_true,toD,Q5,hx2];rfl
      ·rename_i hf;obtain ⟨x,hx2,h⟩:=d1a h;refine ⟨_,_,_,h,?_⟩;have hz':=d0e hz;simp only [B5,a9e,A6,hx,toD,hk,hu,hfind,hh,D4,hks,cond_true,hf,hz'];cases ok
       ·simp only [cond_false,toD,hx2];rfl
       ·simp only [cond_true,toD,Q5,hx2];rfl
      ·cases h
     ·cases h
    ·cases h
   ·cases h
  ·cases h
 case mapUpdate t x k y =>
  simp only [Q1] at h;split at h
  ·rename_i id hx;split at h
   ·rename_i kt e hu;split at h
    ·rename_i ks kvs hfind hb;have hh:=R9 hb (by simp);replace h:mU ks kvs (s.eval k) (s.eval y) (fun kvs=>K (.tuple []) [(id,.map kvs)] [id])=some r:=h;unfold mU at h;split at h
     ·rename_i kc hk;cases hks:(u9 ks kc kc).isSome with
      | false=>rw [hks] at h;cases h
      | true =>
      rw [hks] at h;simp only [cond_true] at h;split at h
      ·rename_i p hf;refine ⟨_,_,_,h,?_⟩;simp only [B5,a9f,A6,hx,toD,Q5,hk,hu,hfind,hh,D4,hks,cond_true,hf,F7,List.map_cons,List.map_nil,c3l,V3]
      ·rename_i hf;refine ⟨_,_,_,h,?_⟩;simp only [B5,a9f,A6,hx,toD,Q5,hk,hu,hfind,hh,D4,hks,cond_true,hf,F7,List.map_cons,List.map_nil,List.map_append,V3]
      ·cases h
     ·cases h
    ·cases h
   ·cases h
  ·cases h
 case box t x =>
  simp only [Q1] at h;split at h
  ·rename_i y m hx;obtain ⟨hf,h⟩:=Z7 h;exact ⟨_,_,_,h,by simp only [C6,B5,A6,hx,toD,D.ok,D.isAgg,Bool.or_true,cond_true,a3f hf,D.cells,F7,List.map_cons,List.map_nil,D4]⟩
  ·split at h
   ·rename_i cs hcs;obtain ⟨hf,h⟩:=Z7 h;obtain ⟨h1,h2⟩:=a3r hcs;exact ⟨_,_,_,h,by simp only [C6,B5,A6,h1,cond_true,a3f hf,h2,toD,F7,List.map_cons,List.map_nil,D4]⟩
   ·cases h
 case build t parts=>exact d97 h
 case buildSlice t len parts=>exact c10 h
 case load t a=>exact e4j h
 case store t a x=>exact d99 h
 case nilCheck x =>
  simp only [Q1] at h;split at h
  ·rename_i hx;exact ⟨_,_,_,h,by simp only [C6,B5,A6,hx,toD,C9];rfl⟩
  ·rename_i hx;exact ⟨_,_,_,h,by simp only [C6,B5,A6,hx,toD,C9];rfl⟩
  ·rename_i hx;exact ⟨_,_,_,h,by simp only [C6,B5,A6,hx,toD,C9];rfl⟩
  ·cases h
 case binOp op t x y u =>
  simp only [Q1] at h;obtain ⟨v,h,hd⟩:=d95 h;exact ⟨_,_,_,h,by simp only [C6,B5,A6,hd];rfl⟩
 case unOp op t x =>
  simp only [Q1] at h;split at h
  ·obtain ⟨b,hx,h⟩:=a02 h;rw [CfB] at h;exact ⟨_,_,_,h,by simp only [C6,B5,A6,hx,C9,toD,a3a];rfl⟩
  ·rename_i k hu;obtain ⟨n,hx,h⟩:=a0a h;rw [CfI] at h;exact ⟨_,_,_,h,by simp only [C6,B5,A6,hx,C9,toD,a2y,b4k];rfl⟩
  ·cases h
 case convert src dst x =>
  simp only [Q1] at h;obtain ⟨v,h,hd⟩:=d48 h;exact ⟨_,_,_,h,by simp only [C6,B5,A6,hd];rfl⟩
 case makeInterface t x =>
  simp only [Q1] at h;split at h
  ·cases h
  ·rename_i u h1 hu;refine ⟨_,_,_,h,?_⟩;simp only [B5,A6,hu,C9,toD];cases u <;> first | rfl | exact (h1 _ rfl).elim
  ·cases h
 case makeFunc fn first captured =>
  simp only [Q1] at h;exact ⟨_,_,_,h,by simp only [C6,B5,c7r,C9,toD,F5];rfl⟩
 case makeSlice t l c =>
  simp only [Q1] at h;obtain ⟨v,ws,rs,h,hd⟩:=d5a h;exact ⟨v,ws,rs,h,by simp only [B5,A6,hd]⟩
 case slice t x lo hi mx =>
  simp only [Q1] at h;obtain ⟨v,h,hd⟩:=d0d h;exact ⟨_,_,_,h,by simp only [C6,B5,A6,hd];rfl⟩
 case fieldAddr t x f=>exact c36 h
 case field t x f=>exact d98 h
 case indexAddr t x i=>exact c38 h
 case index t x i =>
  simp only [Q1] at h;split at h
  ·rename_i hu;obtain ⟨l,c,hx,h⟩:=a03 h;obtain ⟨_,k,hi,h⟩:=Q6 h;obtain ⟨h0,h⟩:=F8 h;have h0:(band (iLe 0 k) (iLt k (l:Int)))=true:=h0;rw [CfI] at h;have g:0≤k∧k < (l:Int):=by simpa [O2,Z2,a1c] using h0
   have g2:0≤k∧k < ((s5 l c).length:Int):=by rw [U0];exact g
   refine ⟨_,_,_,h,?_⟩;simp only [C6,B5,hu,A6,hx,hi,H5,decide_eq_true g2,toD,I6];rw [d2e (show k.toNat < l by omega)];rfl
  ·cases h
 case extract x i =>
  simp only [Q1] at h;split at h
  ·rename_i vs hx;cases hb:Nat.blt i vs.length with
   | false=>rw [hb] at h;cases h
   | true =>
    rw [hb] at h;have hl:i < vs.length:=by simpa [Nat.blt_eq] using hb
    refine ⟨_,_,_,h,?_⟩;rw [a3g,List.getD_eq_getElem?_getD,List.getElem?_eq_getElem hl];simp only [C6,B5,A6,hx,toD,F5,List.getElem?_map,List.getElem?_eq_getElem hl,Option.map_some,C9,Option.getD_some];rfl
  ·cases h
 case call c =>
  obtain ⟨callee,args,ts⟩:=c;cases callee with
  | builtin b=>exact d0c h
  | value f=>cases h
  | invoke x m=>cases h
 all_goals cases h
end


def d4c:List V→Bool
 | [.tuple _]=>false
 | _=>true
def L2:Bx→Bool
 | .cells cs=>d4c cs
 | .opa _ _ | .row _ _ | .map _=>true
 | _=>false
def K1:Bx→List D
 | .cells cs=>cs.map toD
 | .opa x m=>C1 (den x) 0 m
 | .row t len=>rows (D2 t) 1 0 len
 | .map kvs=>[.tuple (kvs.map toD)]
 | _=>[]
theorem f1y {v:V} {ds:List D} (h:toD v=.tuple ds):∃ vs,v=.tuple vs:=by
 cases v <;> simp only [toD] at h <;> first | exact ⟨_,rfl⟩ | cases h | skip
 rename_i x;have:=K6 x 0;rw [h] at this;cases this
def c4r (ds:List D):Prop:=∀ kvs,ds ≠ [.tuple kvs]
theorem b60 {ds:List D} (h:c4r ds):H8 ds=.cells ds∧a7a (.cells ds)=some ds∧∀ f,J2 f ds=ds.map (renI f):=by
 rcases a2j ds with ⟨kvs,e,_⟩ | ⟨h1,h2⟩
 ·exact absurd e (h kvs)
 ·refine ⟨h1,?_,fun f=>(h2 f).1⟩;unfold a7a;simp only [];split
  ·exact absurd rfl (h _)
  ·rfl
theorem e8c {cs:List V} (h:d4c cs=true):c4r (cs.map toD):=by
 intro kvs e;cases cs with
 | nil=>cases e
 | cons v vs =>
  cases vs with
  | cons _ _=>simp at e
  | nil =>
   simp only [List.map_cons,List.map_nil,List.cons.injEq,and_true] at e;obtain ⟨vs,rfl⟩:=f1y e;cases h
theorem d7n {ds:List D} (h:∀ d ∈ ds,d.one=true):c4r ds:=by
 intro kvs e;subst e;have:=h (.tuple kvs) List.mem_cons_self;cases this
theorem c2c (x:Q):∀ (m i:Nat),∀ d ∈ C1 (den x) i m,d.one=true
 | 0,_,d,h=>by cases h
 | m+1,i,d,h=>by
  rcases List.mem_cons.1 h with rfl | h
  ·exact K6 x i
  ·exact c2c x m (i+1) d h
theorem b6d {b:Bx} (h:L2 b=true):(∃ kvs,b=.map kvs)∨(c4r (K1 b)∧D4 b=.cells (K1 b)):=by
 cases b <;> first | cases h;done | skip
 ·exact .inr ⟨e8c h,rfl⟩
 ·exact .inr ⟨d7n (c2c _ _ _),rfl⟩
 ·exact .inr ⟨d7n (fun d hd=>List.all_eq_true.1 (b7f _ _ _) d hd),rfl⟩
 ·exact .inl ⟨_,rfl⟩
theorem d0l {b:Bx} (h:L2 b=true):D4 b=H8 (K1 b):=by
 rcases b6d h with ⟨kvs,rfl⟩ | ⟨h1,h2⟩
 ·rfl
 ·rw [h2,(b60 h1).1]
theorem a3o {b:Bx} (h:L2 b=true):a7a (D4 b)=some (K1 b):=by
 rcases b6d h with ⟨kvs,rfl⟩ | ⟨h1,h2⟩
 ·rfl
 ·rw [h2,(b60 h1).2.1]
def a05 (f:Nat→Option Nat):Bx→Bx
 | .cells cs=>.cells (cs.map (Q0 f))
 | b=>b
theorem b7g (f:Nat→Option Nat) (t:u1 Q):∀ (n m off:Nat),(rows (D2 t) n off m).map (renI f)=rows (D2 t) n off m
 | _,0,_=>rfl
 | n,m+1,off=>by
  simp only [rows,List.map_append,b7g f t n m];congr 1;rw [W4];exact a0y f _ n 0
theorem b42 (f:Nat→Option Nat) {b:Bx} (hb:L2 b=true):K1 (a05 f b)=J2 f (K1 b):=by
 rcases b6d hb with ⟨kvs,rfl⟩ | ⟨h1,h2⟩
 ·rfl
 ·rw [(b60 h1).2.2 f];cases b <;> simp only [a05,K1]
  ·exact map_toD (fun v=>V3 v) _
  ·exact (a0y f _ _ 0).symm
  ·rfl
  ·exact (b7g f _ 1 _ 0).symm
  ·cases h2
  ·rfl
  ·rfl
theorem d8s (f:Nat→Option Nat) (v:V):∀ vs,Q0 f v ≠ .tuple vs:=by
 intro vs h;cases v <;> simp only [Q0,Y6,a0z,U6] at h <;> first | cases h;done | skip
 ·rename_i c;cases c <;> cases h
 ·split at h <;> cases h
 ·split at h <;> cases h
theorem d17 (f:Nat→Option Nat) {b:Bx} (hb:L2 b=true):L2 (a05 f b)=true:=by
 cases b <;> first | exact hb | skip
 rename_i cs;simp only [a05,L2];unfold d4c;split
 ·rename_i vs e;cases cs with
  | nil=>cases e
  | cons v cs =>
   simp only [List.map_cons,List.cons.injEq] at e;exact absurd e.1 (d8s f v vs)
 ·rfl

/- What is kept of a state. -/
def Y7 (f:Nat→Option Nat):V→V
 | .slice t n off len (.tok id)=>match f id with
  | some j=>.slice t n off len (.tok j)
  | none=>.slice t n off len .no
 | .slice t n off len .exact=>.slice t n off len .exact
 | .bslice id l=>match f id with
  | some j=>.bslice j l
  | none=>.junk
 | .agg cs=>Y6 f (.agg cs)
 | .a x m=>.a x m
 | .tuple ds=>.tuple (ds.map (Q0 f))
 | d=>Q0 f d
theorem b7c (f:Nat→Option Nat) (v:V):toD (Y7 f v)=S6 f (toD v):=by
 cases v
 case slice t n off len c =>
  cases c with
  | no=>simp only [Y7,Q0,Y6,a0z,U6,toD,S6,renI,a6z,a82,Q4]
  | exact=>simp only [Y7,toD,S6]
  | tok id=>simp only [Y7,toD,S6];cases f id <;> simp only [toD]
  | fr z=>simp only [Y7,Q0,Y6,a0z,U6,toD,S6,renI,a6z,a82,Q4]
 case bslice id l=>simp only [Y7,toD,S6];cases f id <;> simp only [toD]
 case agg cs=>simp only [Y7];rw [b1b];simp only [toD,S6]
 case a x m =>
  have:=b1b (f:=f) (.a x m);simp only [Y6,toD] at this;simp only [Y7,toD,S6];exact this
 case tuple ds=>simp only [Y7,toD,S6,F5,map_toD (fun v=>V3 (f:=f) v)]
 case q x =>
  simp only [Y7,Q0,Y6,a0z,U6,toD];have h1:=K6 x 0;have h2:=a3l f x 0;have h3:=W6 f x 0;cases hd:den x 0 <;> rw [hd] at h1 h2 h3 <;> first | exact h2.symm | cases h1 | skip
  all_goals (rename_i c;cases c <;> first | rfl | (simp only [Q4] at h3;cases h3))
 all_goals (simp only [Y7];rw [V3];simp only [toD,S6])
def b6v (f:Nat→Option Nat):Bx→Bx
 | .cells cs=>.cells (cs.map (Y7 f))
 | b=>b
theorem c8d (f:Nat→Option Nat) (x:Q) (i:Nat):S6 f (den x i)=den x i:=by
 have h1:=K6 x i;have h2:=a3l f x i;have h3:=W6 f x i;cases hd:den x i <;> rw [hd] at h1 h2 h3 <;> first | exact h2 | cases h1 | skip
 all_goals (rename_i c;cases c <;> first | rfl | (simp only [Q4] at h3;cases h3))
theorem c9p (f:Nat→Option Nat) (b:Bx):D4 (b6v f b)=a57 f (D4 b):=by
 cases b <;> simp only [b6v,D4,a57]
 ·rw [map_toD (fun v=>b7c f v)]
 ·congr 1;rw [J7,List.map_map];exact List.map_congr_left fun i _=>(c8d f _ i).symm
 ·congr 1;rename_i t len;have:∀ (m off:Nat),(rows (D2 t) 1 off m).map (S6 f)=rows (D2 t) 1 off m:=by
   intro m
   induction m with
   | zero=>intro _;rfl
   | succ m ih =>
    intro off;simp only [rows,List.map_append,ih];congr 1;rw [W4,J7,List.map_map];exact List.map_congr_left fun i _=>c8d f _ i
  exact (this len 0).symm
def b68:V→Option Nat
 | .ptr id _=>some id
 | _=>none
theorem a9r (x:Q) (i:Nat):pid (den x i)=none∧a8y (den x i)=[]∧a71 (den x i)=[]:=by
 have h1:=K6 x i;have h3:=W6 M5 x i;cases hd:den x i <;> rw [hd] at h1 h3 <;> first | exact ⟨rfl,rfl,rfl⟩ | cases h1 | (simp only [Q4,M5] at h3;cases h3) | skip
 all_goals (rename_i c;cases c <;> first | exact ⟨rfl,rfl,rfl⟩ | (simp only [Q4] at h3;cases h3))
theorem b6y (x:Q) (i:Nat):c7f (den x i)=[]:=by
 have h1:=K6 x i;have h3:=W6 M5 x i;cases hd:den x i <;> rw [hd] at h1 h3 <;> first | rfl | (simp only [Q4,M5] at h3;cases h3)
theorem e8l (v:V):b68 v=pid (toD v):=by
 cases v <;> simp only [b68,toD,pid];exact (a9r _ 0).1.symm
theorem a7x (l:List V):l.filterMap b68=(l.map toD).filterMap pid:=by
 rw [List.filterMap_map];congr 1;funext v;exact e8l v
def b4x:V→List Nat
 | .ptr id _=>[id]
 | .mapp id=>[id]
 | .func _ fs cs=>fs.filterMap b68 ++ cs.filterMap b68
 | _=>[]
theorem e21 (v:V):b4x v=a8y (toD v):=by
 cases v <;> simp only [b4x,toD,a8y]
 ·exact (a9r _ 0).2.1.symm
 ·rw [F5,F5,a7x,a7x]
def d38:V→List Nat
 | .mapp id=>[id]
 | _=>[]
theorem e2n (v:V):d38 v=c7f (toD v):=by
 cases v <;> simp only [d38,toD,c7f];exact (b6y _ 0).symm
def b8u (h:List Bx) (id:Nat):List Nat:=match O3 h id with
 | .cells cs=>cs.flatMap d38
 | _=>[]
def b25 (h:List Bx) (l:List Nat):List Nat:=a2m (l ++ l.flatMap (b8u h))
def b41:V→List Nat
 | .ptr id _=>[id]
 | .mapp id=>[id]
 | .slice _ _ _ _ (.tok id)=>[id]
 | .bslice id _=>[id]
 | .func _ fs cs=>fs.filterMap b68 ++ cs.filterMap b68
 | _=>[]
theorem c79 (v:V):b41 v=a71 (toD v):=by
 cases v <;> simp only [b41,toD,a71]
 ·rename_i c;cases c <;> rfl
 ·exact (a9r _ 0).2.2.symm
 ·rw [F5,F5,a7x,a7x]
def b1d (n0:Nat) (ks:List Nat) (s:E0):List Nat :=
 let a:=b2g (List.range n0) (ks.flatMap fun i=>b41 (Q3 s.tmps i))
 b2g a (a.flatMap fun id=>match O3 s.heap id with
  | .cells ds=>ds.flatMap b41
  | _=>[])
theorem W8 {α β:Type} {f:α→List β}:∀ (l:List α),(∀ x ∈ l,f x=[])→l.flatMap f=[]
 | [],_=>rfl
 | x :: l,h=>by rw [List.flatMap_cons,h x List.mem_cons_self,W8 l fun y hy=>h y (List.mem_cons_of_mem _ hy)];rfl
theorem a4l (s:E0) (i:Nat):(B4 s).tmps.getD i .junk=toD (Q3 s.tmps i):=A6 s (.tmp i)
theorem c2q (s:E0) (i:Nat):(B4 s).heap.getD i .dead=D4 (O3 s.heap i):=by
 rw [a2a,List.getD_eq_getElem?_getD,List.getD_eq_getElem?_getD,c3q];cases s.heap[i]? <;> rfl
theorem b5y (n0:Nat) (ks:List Nat) (s:E0):b1d n0 ks s=a9v n0 ks (B4 s):=by
 unfold b1d a9v;have e1:(ks.flatMap fun i=>b41 (Q3 s.tmps i))=ks.flatMap fun i=>a71 ((B4 s).tmps.getD i .junk):=by
  congr 1;funext i;rw [a4l,c79]
 have e2:(fun id=>match O3 s.heap id with | .cells ds=>ds.flatMap b41 | _=>[])=fun id=>match (B4 s).heap.getD id .dead with | .cells ds=>ds.flatMap a71 | _=>[]:=by
  funext id;rw [c2q];cases O3 s.heap id <;> simp only [D4]
  ·rw [List.flatMap_map];congr 1;funext v;exact c79 v
  ·rw [J7,List.flatMap_map];exact (W8 _ fun i _=>(a9r _ i).2.2).symm
  ·rename_i t len;have:∀ (m off:Nat),(rows (D2 t) 1 off m).flatMap a71=[]:=by
    intro m
    induction m with
    | zero=>intro _;rfl
    | succ m ih=>intro off;simp only [rows,List.flatMap_append,ih,List.append_nil];rw [W4,J7,List.flatMap_map];exact W8 _ fun i _=>(a9r _ i).2.2
   exact (this len 0).symm
 simp only [e1,e2];rfl
theorem d62 (h:List Bx) (id:Nat):b8u h id=a5h (h.map D4) id:=by
 unfold b8u a5h;rw [List.getElem?_map,a2a,List.getD_eq_getElem?_getD];cases h[id]? with
 | none=>rfl
 | some b =>
  cases b <;> simp only [Option.getD_some,Option.map_some,D4]
  ·rw [List.flatMap_map];congr 1;funext v;exact e2n v
  ·rw [J7,List.flatMap_map];exact (W8 _ fun i _=>b6y _ i).symm
  ·rename_i t len;have:∀ (m off:Nat),(rows (D2 t) 1 off m).flatMap c7f=[]:=by
    intro m
    induction m with
    | zero=>intro _;rfl
    | succ m ih=>intro off;simp only [rows,List.flatMap_append,ih,List.append_nil];rw [W4,J7,List.flatMap_map];exact W8 _ fun i _=>b6y _ i
   exact (this len 0).symm
theorem d6z (h:List Bx) (l:List Nat):b25 h l=a0x (h.map D4) l:=by
 have:b8u h=a5h (h.map D4):=by funext id;exact d62 h id
 unfold b25 a0x;rw [this]
def b0r:V→V
 | .slice t n off len _=>.slice t n off len .no
 | v=>v
theorem b5l (v:V):toD (b0r v)=a16 (toD v):=by
 cases v <;> simp only [b0r,toD,a16];rename_i x;cases hd:den x 0 <;> first | rfl | skip
 rename_i l c k;cases a0w x 0 l c k hd;rfl
def Z3 (ids:List Nat):List (Nat × Nat)→E0→Nat→List V × List Bx
 | [],_,_=>([],[])
 | (i,z) :: ks,s,n=>bif Nat.beq z a0i then (b0r (Y7 (pos · ids) (Q3 s.tmps i)) :: (Z3 ids ks s n).1,(Z3 ids ks s n).2) else match Q3 s.tmps i,z with
  | .slice t m off l .exact,z+1=>(.slice t m off l (.tok n) :: (Z3 ids ks s (n+1)).1,.tok l (z+1) :: (Z3 ids ks s (n+1)).2)
  | d,_=>(Y7 (pos · ids) d :: (Z3 ids ks s n).1,(Z3 ids ks s n).2)
theorem a7q {ids:List Nat}:∀ (ks:List (Nat × Nat)) (s:E0) (n:Nat),(Z3 ids ks s n).1.map toD=(N3 ids ks (B4 s) n).1∧(Z3 ids ks s n).2.map D4=(N3 ids ks (B4 s) n).2
 | [],_,_=>⟨rfl,rfl⟩
 | (i,z) :: ks,s,n=>by
  obtain ⟨h1,h2⟩:=a7q (ids:=ids) ks s n;obtain ⟨h3,h4⟩:=a7q (ids:=ids) ks s (n+1);simp only [Z3,N3,a4l];cases hf:Nat.beq z a0i with
  | true=>simp only [cond_true,List.map_cons,b5l,b7c,h1,h2,and_self]
  | false =>
  simp only [cond_false];generalize Q3 s.tmps i=v;have hplain:(Y7 (pos · ids) v :: (Z3 ids ks s n).1).map toD=S6 (pos · ids) (toD v) :: (N3 ids ks (B4 s) n).1:=by simp only [List.map_cons,b7c,h1]
  cases v
  case slice t m off l c =>
   cases c <;> cases z <;> first
    | exact ⟨hplain,h2⟩
    | (simp only [toD,List.map_cons,h3,h4,D4,and_self])
  case q x =>
   have hn:∀ l c,den x 0 ≠ .slice l c .exact:=fun l c hd=>by cases a0w x 0 l c _ hd
   simp only [toD] at hplain ⊢;generalize den x 0=d at hplain hn;cases d with
   | slice l c k=>cases k <;> cases z <;> first | exact ⟨hplain,h2⟩ | exact (hn _ _ rfl).elim
   | _=>exact ⟨hplain,h2⟩
  all_goals exact ⟨hplain,h2⟩
def b1p (j c z:Nat) (h:List Bx):List Bx:=match O3 h j with
 | .cells cs=>bif Nat.blt c cs.length then bif Nat.beq z a0i then h.set j (.cells (cs.set c (b0r (Q3 cs c)))) else match Q3 cs c with
  | .slice t n off len .exact=>(h.set j (.cells (cs.set c (.slice t n off len (.tok h.length))))) ++ [.tok len z]
  | _=>h
  else h
 | _=>h
def b94:List (Nat × Nat)→List Bx→List Bx
 | [],h=>h
 | (i,z) :: ks,h=>bif Nat.ble 1000000 i then b94 ks (b1p ((i - 1000000) / 1000) ((i - 1000000) % 1000) z h) else b94 ks h
theorem b3l {t:u1 Q}:∀ (m off i l:Nat) (c:List D) (k:Cap),(rows (D2 t) 1 off m)[i]?=some (.slice l c k)→k=.no
 | 0,off,i,l,c,k,h=>by simp [rows] at h
 | m+1,off,0,l,c,k,h=>by
  simp only [rows,C1,List.cons_append,List.nil_append,List.getElem?_cons_zero] at h;injection h with h;exact b4f t off 0 l c k h
 | m+1,off,i+1,l,c,k,h=>by
  simp only [rows,C1,List.cons_append,List.nil_append,List.getElem?_cons_succ] at h;exact b3l m (off+1) i l c k h
theorem c3w {x:Q} {m i l:Nat} {c:List D} {k:Cap} (h:(C1 (den x) 0 m)[i]?=some (.slice l c k)):k=.no:=by
 rcases Nat.lt_or_ge i m with hi | hi
 ·rw [a5e _ _ _ hi] at h;injection h with h;exact a0w x _ l c k h
 ·rw [List.getElem?_eq_none (by rw [G6];exact hi)] at h;cases h
theorem e2m {h:List Bx} {j:Nat}:(h.map D4)[j]?=if j < h.length then some (D4 (O3 h j)) else none:=by
 rw [a2a,List.getD_eq_getElem?_getD,List.getElem?_map];split
 ·rename_i hj;rw [List.getElem?_eq_getElem hj];rfl
 ·rename_i hj;rw [List.getElem?_eq_none oM];rfl
theorem c3m {α:Type} {l:List α} {i:Nat} {x:α} (h:l[i]?=some x):l.set i x=l:=by
 apply List.ext_getElem?;intro k;by_cases hk:i=k
 ·subst hk;rw [List.getElem?_set_self (List.getElem?_eq_some_iff.1 h).1,h]
 ·rw [List.getElem?_set_ne hk]
theorem b16 {j c z:Nat} {h:List C5} {ds:List D} (hj:h[j]?=some (.cells ds)) (hd:∀ (i l:Nat) (x:List D) (k:Cap),ds[i]?=some (D.slice l x k)→k=Cap.no):tokCell j c z h=h:=by
 unfold tokCell;rw [hj];simp only [];split
 ·rename_i d hc;have e:a16 d=d:=by
   cases d with
   | slice l x k=>cases hd c l x k hc;rfl
   | _=>rfl
  cases Nat.beq z a0i with
  | true =>
   simp only [cond_true];rw [e,c3m hc,c3m hj]
  | false =>
   simp only [cond_false];split
   ·cases hd c _ _ _ hc
   ·rfl
 ·rfl
theorem d0a (j c z:Nat) (h:List Bx):(b1p j c z h).map D4=tokCell j c z (h.map D4):=by
 rcases Nat.lt_or_ge j h.length with hj | hj
 ·have hg:(h.map D4)[j]?=some (D4 (O3 h j)):=by rw [e2m,if_pos hj]
  unfold b1p;generalize hb:O3 h j=b at hg;cases b with
  | cells cs =>
   unfold tokCell;rw [hg];simp only [D4];cases hc:Nat.blt c cs.length with
   | true =>
    have hc':c < cs.length:=by rw [Nat.blt_eq] at hc;exact hc
    have e1:(cs.map toD)[c]?=some (toD (Q3 cs c)):=by
     rw [a3g,List.getD_eq_getElem?_getD,List.getElem?_map,List.getElem?_eq_getElem hc'];rfl
    rw [e1];simp only [cond_true];cases hz:Nat.beq z a0i with
    | true=>simp only [cond_true,List.map_set,D4,b5l]
    | false =>
     simp only [cond_false];generalize Q3 cs c=v;cases v
     case slice t n off len k =>
      cases k <;> simp only [toD,List.map_append,List.map_set,D4,List.map_cons,List.map_nil,List.length_map]
     case q x =>
      simp only [toD];cases hd:den x 0 <;> first | rfl | skip
      rename_i l d k;cases a0w x 0 l d k hd;rfl
     all_goals simp only [toD]
   | false =>
    have hc':cs.length≤c:=by
     rcases Nat.lt_or_ge c cs.length with h1 | h1
     ·have:Nat.blt c cs.length=true:=by rw [Nat.blt_eq];exact h1
      rw [hc] at this;cases this
     ·exact h1
    have e1:(cs.map toD)[c]?=none:=List.getElem?_eq_none (by simpa using hc');rw [e1];rfl
  | opa x m=>exact (b16 hg (fun i l d k hd=>c3w hd)).symm
  | row t len=>exact (b16 hg (fun i l d k hd=>b3l _ _ _ _ _ _ hd)).symm
  | _=>unfold tokCell;rw [hg];rfl
 ·have e2:O3 h j=.dead:=by rw [a2a,List.getD_eq_getElem?_getD,List.getElem?_eq_none hj];rfl
  have hg:(h.map D4)[j]?=none:=List.getElem?_eq_none (by simpa using hj);unfold b1p tokCell;rw [e2,hg]
theorem b7o:∀ (ks:List (Nat × Nat)) (h:List Bx),(b94 ks h).map D4=tokB ks (h.map D4)
 | [],h=>rfl
 | (i,z) :: ks,h=>by
  simp only [b94,tokB];cases Nat.ble 1000000 i with
  | true=>simp only [cond_true];rw [b7o,d0a]
  | false=>simp only [cond_false];rw [b7o]
def a6r (n0:Nat) (ks:List (Nat × Nat)) (s:E0):List V × List Bx :=
 let ids:=b1d n0 (b3k ks) s
 ((Z3 ids ks s ids.length).1,b94 ks ((ids.map fun id=>b6v (pos · ids) (O3 s.heap id)) ++ (Z3 ids ks s ids.length).2))
theorem c0w (n0:Nat) (ks:List (Nat × Nat)) (s:E0):gcV n0 ks (B4 s)=((a6r n0 ks s).1.map toD,(a6r n0 ks s).2.map D4):=by
 unfold gcV a6r;simp only [b5y,b7o,List.map_append,(a7q _ _ _).1,(a7q _ _ _).2,List.map_map];congr 3;exact List.map_congr_left fun id _=>by simp only [Function.comp,c9p,c2q]
def a5n (n0 n:Nat) (ks:List (Nat × Nat)) (s:E0):Bool:=b84 n0 (b1d n0 (b3k ks) s) && Nat.beq s.tmps.length n && decide (ks.map (·.1)).Nodup
theorem b65 (n0 n:Nat) (ks:List (Nat × Nat)) (s:E0):a5n n0 n ks s=b04 n0 n ks (B4 s):=by
 unfold a5n b04;rw [b5y];simp only [B4,List.length_map]
def d0x (n:Nat) (ks:List Nat) (vs:List V):List V:=(List.range n).map fun i=>match pos i ks with
 | some j=>Q3 vs j
 | none=>.junk
def b5a (n:Nat) (ks:List (Nat × Nat)) (vs:List V) (bs:List Bx):E0:={ tmps:=d0x n (ks.map (·.1)) vs,heap:=bs }
theorem c8t (n:Nat) (ks:List (Nat × Nat)) (vs:List V) (bs:List Bx):B4 (b5a n ks vs bs)=a86 n ks (vs.map toD,bs.map D4):=by
 unfold b5a a86 B4 d0x c6q;simp only [List.map_map];congr 1;refine List.map_congr_left fun i _=>?_;simp only [Function.comp];cases pos i (ks.map (·.1)) with
 | none=>simp only [toD]
 | some j =>
  simp only [];rw [a3g,List.getD_eq_getElem?_getD,List.getD_eq_getElem?_getD,List.getElem?_map];cases vs[j]? <;> simp [toD]

abbrev F3:=List V→List Bx→Om
def b3h:K0→Res
 | .ret v=>.ret (toD v)
 | .pan v=>.pan (toD v)
def G8 (X:Pr) (g:FuncId) (F:F3):Prop:=∀ (vs:List V) (bs:List Bx) (x:K0) (bs':List Bx),F vs bs=some (x,bs')→bs.all L2=true →
 CM X.P X.G g (vs.map toD) (bs.map K1) (b3h x) (bs'.map K1)
theorem CM.pan_any {P:Program} {G:c0e} {f:FuncId} {ds:List D} {hs hs' hs2:List (List D)} {d:D} (h:CM P G f ds hs (.pan d) hs'):CM P G f ds hs (.pan d) hs2:=h
def b4m (x:C5):Bool:=(a7a x).isSome
theorem e08 (b:Bx):L2 b=b4m (D4 b):=by
 cases h:L2 b with
 | true=>unfold b4m;rw [a3o h];rfl
 | false =>
  cases b <;> first | cases h;done | rfl | skip
  rename_i cs;simp only [L2] at h;unfold d4c at h;split at h
  ·simp only [b4m,D4,List.map_cons,List.map_nil,toD];rfl
  ·cases h
theorem c15 {a b:List Bx} (h:a.map D4=b.map D4) (ha:a.all L2=true):b.all L2=true:=by
 have e:∀ l:List Bx,l.all L2=(l.map D4).all b4m:=fun l=>by rw [List.all_map];congr 1;funext b;exact e08 b
 rw [e,← h,← e];exact ha
mutual
def eqQ:Q→Q→Bool
 | .bool a,.bool b=>bsel a b (bnot b)
 | .int k a,.int k' b=>cond (ikEq k k') (iEq a b) false
 | .str l c,.str l' c'=>cond (Nat.beq l l') (Nat.beq c c') false
 | .slice t n o l,.slice t' n' o' l'=>cond (Nat.beq n n') (cond (Nat.beq o o') (cond (Nat.beq l l') (eqT t t') false) false) false
 | .nilp,.nilp=>true
 | .nilIface,.nilIface=>true
 | .agg cs o,.agg cs' o'=>cond (Nat.beq o o') (c6k cs cs') false
 | .aggt t o,.aggt t' o'=>cond (Nat.beq o o') (eqT t t') false
 | .no,.no=>true
 | _,_=>false
def eqT:u1 Q→u1 Q→Bool
 | .nil,.nil=>true
 | .node v l r,.node v' l' r'=>cond (eqQ v v') (cond (eqT l l') (eqT r r') false) false
 | _,_=>false
def c6k:List Q→List Q→Bool
 | [],[]=>true
 | x :: xs,y :: ys=>cond (eqQ x y) (c6k xs ys) false
 | _,_=>false
end
theorem D1 {a b:Bool} (h:cond a b false=true):a=true∧b=true:=by cases a <;> simp_all
theorem c2a {a b:Bool} (h:bsel a b (bnot b)=true):a=b:=by cases a <;> cases b <;> first | rfl | cases h
theorem c6x {a b:Int} (h:iEq a b=true):a=b:=by rw [U1] at h;simpa using h
mutual
theorem b8i:∀ {a b:Q},eqQ a b=true→a=b
 | .bool a,b,h=>by cases b <;> simp only [eqQ] at h <;> first | (rw [c2a h]) | cases h
 | .int k a,b,h=>by
  cases b <;> simp only [eqQ] at h <;> first | cases h | skip
  obtain ⟨h1,h2⟩:=D1 h;rw [a9m h1,c6x h2]
 | .str l c,b,h=>by
  cases b <;> simp only [eqQ] at h <;> first | cases h | skip
  obtain ⟨h1,h2⟩:=D1 h;rw [Nat.eq_of_beq_eq_true h1,Nat.eq_of_beq_eq_true h2]
 | .slice t n o l,b,h=>by
  cases b <;> simp only [eqQ] at h <;> first | cases h | skip
  obtain ⟨h1,h⟩:=D1 h;obtain ⟨h2,h⟩:=D1 h;obtain ⟨h3,h⟩:=D1 h;rw [Nat.eq_of_beq_eq_true h1,Nat.eq_of_beq_eq_true h2,Nat.eq_of_beq_eq_true h3,b2t h]
 | .nilp,b,h=>by cases b <;> simp only [eqQ] at h <;> first | rfl | cases h
 | .nilIface,b,h=>by cases b <;> simp only [eqQ] at h <;> first | rfl | cases h
 | .agg cs o,b,h=>by
  cases b <;> simp only [eqQ] at h <;> first | cases h | skip
  obtain ⟨h1,h⟩:=D1 h;rw [Nat.eq_of_beq_eq_true h1,d0v h]
 | .aggt t o,b,h=>by
  cases b <;> simp only [eqQ] at h <;> first | cases h | skip
  obtain ⟨h1,h⟩:=D1 h;rw [Nat.eq_of_beq_eq_true h1,b2t h]
 | .no,b,h=>by cases b <;> simp only [eqQ] at h <;> first | rfl | cases h
theorem b2t:∀ {a b:u1 Q},eqT a b=true→a=b
 | .nil,b,h=>by cases b <;> simp only [eqT] at h <;> first | rfl | cases h
 | .node v l r,b,h=>by
  cases b <;> simp only [eqT] at h <;> first | cases h | skip
  obtain ⟨h1,h⟩:=D1 h;obtain ⟨h2,h⟩:=D1 h;rw [b8i h1,b2t h2,b2t h]
theorem d0v:∀ {a b:List Q},c6k a b=true→a=b
 | [],b,h=>by cases b <;> simp only [c6k] at h <;> first | rfl | cases h
 | x :: xs,b,h=>by
  cases b <;> simp only [c6k] at h <;> first | cases h | skip
  obtain ⟨h1,h⟩:=D1 h;rw [b8i h1,d0v h]
end
def c4b:Cap→Bool
 | .no=>true
 | _=>false
def d7z:V→Bool
 | .bool _ | .known _ | .int _ _ | .str _ _ | .q _ | .nilp | .nilIface=>true
 | .slice _ _ _ _ c=>c4b c
 | _=>false
def d4u:V→V→Bool
 | .bool a,.bool b=>bsel a b (bnot b)
 | .int k a,.int k' b=>cond (ikEq k k') (iEq a b) false
 | .str l c,.str l' c'=>cond (Nat.beq l l') (Nat.beq c c') false
 | .slice t n o l c,.slice t' n' o' l' c'=>cond (c4b c) (cond (c4b c') (cond (Nat.beq n n') (cond (Nat.beq o o') (cond (Nat.beq l l') (eqT t t') false) false) false) false) false
 | .q x,.q y=>eqQ x y
 | .nilp,.nilp=>true
 | .nilIface,.nilIface=>true
 | _,_=>false
theorem c5e {c:Cap} (h:c4b c=true):c=.no:=by cases c <;> first | rfl | cases h
theorem e30 {a b:V} (h:d4u a b=true):a=b:=by
 unfold d4u at h;split at h <;> first | rfl | cases h | skip
 ·rw [c2a h]
 ·obtain ⟨h1,h2⟩:=D1 h;rw [a9m h1,c6x h2]
 ·obtain ⟨h1,h2⟩:=D1 h;rw [Nat.eq_of_beq_eq_true h1,Nat.eq_of_beq_eq_true h2]
 ·obtain ⟨g1,h⟩:=D1 h;obtain ⟨g2,h⟩:=D1 h;obtain ⟨h1,h⟩:=D1 h;obtain ⟨h2,h⟩:=D1 h;obtain ⟨h3,h⟩:=D1 h;rw [c5e g1,c5e g2,Nat.eq_of_beq_eq_true h1,Nat.eq_of_beq_eq_true h2,Nat.eq_of_beq_eq_true h3,b2t h]
 ·rw [b8i h]
def a9z:List V→List V→Bool
 | [],[]=>true
 | x :: xs,y :: ys=>cond (d4u x y) (a9z xs ys) false
 | _,_=>false
theorem b3n:∀ {a b:List V},a9z a b=true→a=b
 | [],b,h=>by cases b <;> simp only [a9z] at h <;> first | rfl | cases h
 | x :: xs,b,h=>by
  cases b <;> simp only [a9z] at h <;> first | cases h | skip
  obtain ⟨h1,h⟩:=D1 h;rw [e30 h1,b3n h]
def eqB:Bx→Bx→Bool
 | .cells a,.cells b=>a9z a b
 | .opa x m,.opa y n=>cond (Nat.beq m n) (eqQ x y) false
 | .map a,.map b=>a9z a b
 | _,_=>false
theorem f3w {a b:Bx} (h:eqB a b=true):a=b:=by
 unfold eqB at h;split at h <;> first | cases h | skip
 ·rw [b3n h]
 ·obtain ⟨h1,h⟩:=D1 h;rw [Nat.eq_of_beq_eq_true h1,b8i h]
 ·rw [b3n h]
def b6m:List Bx→List Bx→Bool
 | [],[]=>true
 | x :: xs,y :: ys=>cond (eqB x y) (b6m xs ys) false
 | _,_=>false
theorem d0u:∀ {a b:List Bx},b6m a b=true→a=b
 | [],b,h=>by cases b <;> simp only [b6m] at h <;> first | rfl | cases h
 | x :: xs,b,h=>by
  cases b <;> simp only [b6m] at h <;> first | cases h | skip
  obtain ⟨h1,h⟩:=D1 h;rw [f3w h1,d0u h]
def same (a b:List Bx) (x:Om):Om:=cond (b6m a b) x none
def c71:Bx→Bool
 | .cells cs=>cs.all d7z
 | .opa _ _=>true
 | .map _=>true
 | _=>false
theorem d4n (f:Nat→Option Nat) {v:V} (h:d7z v=true):renI f (toD v)=toD v:=by
 rw [← V3];cases v <;> first | rfl | cases h | skip
 rename_i c;cases c <;> first | rfl | cases h
theorem b9b (f:Nat→Option Nat) {b:Bx} (h:c71 b=true):J2 f (K1 b)=K1 b:=by
 have key:∀ ds:List D,ds.map (renI f)=ds→J2 f ds=ds:=fun ds e=>by
  unfold J2;split
  ·rfl
  ·exact e
 cases b <;> first | cases h;done | skip
 ·rename_i cs;refine key _ ?_;simp only [K1,List.map_map];refine List.map_congr_left fun v hv=>d4n f (List.all_eq_true.1 h v hv)
 ·exact key _ (a0y f _ _ 0)
 ·rfl
abbrev V9:=FuncId→List Bx→V→List Bx→(V→Option (List Bx)→Om)→Om
def a4a (cr:V9):Prop:=∀ (g:FuncId) (bs0:List Bx) (v:V) (bs:List Bx) (K:V→Option (List Bx)→Om) (r:R),cr g bs0 v bs K=some r →
 (∃ v' bs',toD v'=toD v∧bs'.map D4=bs.map D4∧K v' (some bs')=some r)∨(∃ v',toD v'=toD v∧bs=bs0∧K v' none=some r)
def E0.lay (s:E0) (ws:List (Nat × Bx)):E0:={ s with heap:=ws.foldl (fun h x=>h.set x.1 x.2) s.heap }
def E0.put (s:E0) (dst:Option Tmp) (v:V):E0:=match dst with
 | some t=>{ s with tmps:=s.tmps.set t v }
 | none=>s
theorem a3n (s:E0) (dst:Option Tmp) (v:V):B4 (s.put dst v)=(B4 s).put dst (toD v):=by
 cases dst with
 | none=>rfl
 | some t=>simp only [E0.put,B4,St.put,List.map_set]
theorem b7n (s:E0) (ws:List (Nat × Bx)):B4 (s.lay ws)=(B4 s).lay (F7 ws):=by
 unfold E0.lay St.lay F7 B4;simp only [];congr 1;rw [List.foldl_map];generalize s.heap=h
 induction ws generalizing h with
 | nil=>rfl
 | cons x ws ih=>simp only [List.foldl_cons];rw [ih,List.map_set]

def c0v (C:Comb):E0→List V→(List V→List Nat→Om)→Om
 | _,[],K=>K [] []
 | s,.bslice id len :: vs,K=>match O3 s.heap id with
  | .row t len'=>C.chk (C.nEq len len') (c0v C { s with heap:=s.heap.set id .dead } vs fun vs' ks=>K (.slice t 1 0 len .no :: vs') (id :: ks))
  | _=>none
 | s,v :: vs,K=>c0v C s vs fun vs' ks=>K (v :: vs') ks
def a9c (h:List Bx):List Nat→Option (List Bx)
 | []=>some []
 | id :: ids=>bif L2 (O3 h id) then (a9c h ids).map (O3 h id :: ·) else none
def b4y (ids:List Nat) (bs:List Bx):List (Nat × Bx):=(ids.zip bs).map fun p=>(p.1,a05 (ids[·]?) p.2)
def a6b:V→V
 | .slice t n off len (.fr _)=>.slice t n off len .no
 | v=>v
def b88 (nid:Nat):List V→Option (List V × List (Nat × Bx))
 | []=>some ([],[])
 | v :: vs=>match v with
  | .slice t n off len (.fr z)=>bif Nat.beq n z then some (.slice t n off len (.tok nid) :: vs.map a6b,[(nid,.tok len z)]) else none
  | v=>(b88 nid vs).map fun p=>(v :: p.1,p.2)
def e2z (nid:Nat):V→Option (V × List (Nat × Bx))
 | .tuple vs=>(b88 nid vs).map fun p=>(.tuple p.1,p.2)
 | .slice t n off len (.fr z)=>bif Nat.beq n z then some (.slice t n off len (.tok nid),[(nid,.tok len z)]) else none
 | v=>some (v,[])
def c4t (s:E0) (nid:Nat) (v:V) (ws:List (Nat × Bx)) (rs:List Nat) (K:KV):Om :=
 match e2z nid v with
 | some (v',[])=>K v' ws rs
 | some (v',x :: xs)=>cond (a18 (s.lay ws) nid) (K v' (ws ++ x :: xs) (nid :: rs)) none
 | none=>none
def e6i (C:Comb) (fn:FuncId→F3) (cr:V9) (s:E0) (nid:Nat) (g:FuncId) (vs:List V) (K:KV) (Kp:V→List Nat→Om):Om :=
 c0v C s vs fun vs' ks =>
  let ids:=b25 (s.lay (ks.map fun k=>(k,.dead))).heap (vs'.flatMap b4x)
  match a9c (s.lay (ks.map fun k=>(k,.dead))).heap ids with
  | some bs=>C.bind (fn g (vs'.map (a4y (pos · ids))) (bs.map (a05 (pos · ids))))
    (fun v bs'=>cr g (bs.map (a05 (pos · ids))) v bs' fun v o=>match o with
     | some bs'=>bif Nat.beq bs'.length ids.length && bs'.all L2 then c4t s nid (a4y (ids[·]?) v) ((ks.map fun k=>(k,Bx.dead)) ++ b4y ids bs') (ids ++ ks) K else none
     | none=>bif bs.all c71 then c4t s nid (a4y (ids[·]?) v) (ks.map fun k=>(k,Bx.dead)) (ids ++ ks) K else none) (fun v=>Kp (C.rn0 v) (ids ++ ks))
  | none=>none

section
variable {X:Pr} {r:R}
theorem a8h {h:List Bx}:∀ {ids:List Nat} {bs:List Bx},a9c h ids=some bs→T0 (h.map D4) ids=some (bs.map K1)∧bs.all L2=true∧bs.length=ids.length
 | [],bs,hb=>by simp only [a9c] at hb;injection hb with hb;subst hb;exact ⟨rfl,rfl,rfl⟩
 | id :: ids,bs,hb=>by
  simp only [a9c] at hb;cases ho:L2 (O3 h id) with
  | false=>rw [ho] at hb;cases hb
  | true =>
   rw [ho] at hb;obtain ⟨bs',h1,rfl⟩:=Option.map_eq_some_iff.1 hb;obtain ⟨h2,h3,h4⟩:=a8h h1;have e:(h.map D4)[id]?=some (D4 (O3 h id)):=by
    rw [List.getElem?_map,a2a,List.getD_eq_getElem?_getD];cases hi:h[id]? with
    | none=>rw [a2a,List.getD_eq_getElem?_getD,hi] at ho;cases ho
    | some x=>rfl
   refine ⟨?_,by simp only [List.all_cons,ho,h3,Bool.and_self],by simp [h4]⟩;simp only [T0,e,a3o ho,h2,Option.map_some,List.map_cons]
theorem b2z:∀ {vs:List V} {s:E0} {K:List V→List Nat→Om},c0v CR s vs K=some r→∃ vs' ks,K vs' ks=some r∧frz (B4 s) (vs.map toD)=some (vs'.map toD,ks)
 | [],s,K,h=>⟨[],[],h,rfl⟩
 | v :: vs,s,K,h=>by
  by_cases hb:∃ id len,v=.bslice id len
  ·obtain ⟨id,len,rfl⟩:=hb;simp only [c0v] at h;split at h
   ·rename_i t len' hbx;obtain ⟨h0,h'⟩:=F8 h;have h0:(Nat.beq len len')=true:=h0;have he:=Nat.eq_of_beq_eq_true h0;subst he;obtain ⟨vs',ks,h,hf⟩:=b2z h';have hh:=R9 hbx (by simp);refine ⟨_,_,h,?_⟩;have e:B4 { s with heap:=s.heap.set id .dead }={ B4 s with heap:=(B4 s).heap.set id .dead }:=by simp only [B4,List.map_set,D4]
    rw [e] at hf;simp only [List.map_cons,toD,frz,hh,D4,hf,Option.map_some,b7g]
   ·cases h
  ·have h':c0v CR s vs (fun vs' ks=>K (v :: vs') ks)=some r:=by
    rw [← h];cases v <;> first | rfl | exact absurd ⟨_,_,rfl⟩ hb
   obtain ⟨vs',ks,h',hf⟩:=b2z h';refine ⟨_,_,h',?_⟩;have hd:¬∃ id len,toD v=.bslice id len:=by
    rintro ⟨id,len,hd⟩;cases v <;> simp only [toD] at hd <;> first | (cases hd;done) | skip
    ·have h3:=congrArg (Q4 M5) hd;rw [W6,hd] at h3;simp only [Q4] at h3;cases h3
    ·exact hb ⟨_,_,rfl⟩
   simp only [List.map_cons];have e:frz (B4 s) (toD v :: vs.map toD)=(frz (B4 s) (vs.map toD)).map fun p=>(toD v :: p.1,p.2):=by
    cases hv:toD v <;> first | rfl | exact absurd ⟨_,_,hv⟩ hd
   rw [e,hf];rfl
theorem d4o {ids:List Nat} {bs:List Bx} (h:bs.all L2=true):F7 (b4y ids bs)=a6w ids (bs.map K1):=by
 unfold b4y a6w F7;rw [List.map_map,List.zip_map_right,List.map_map];refine List.map_congr_left fun p hp=>?_;have hm:p.2 ∈ bs:=(List.of_mem_zip hp).2;have ho:=List.all_eq_true.1 h _ hm;simp only [Function.comp,Prod.map,id];rw [d0l (d17 _ ho),b42 _ ho]
theorem b9x (v:V):toD (a6b v)=a1i (toD v):=by
 cases v
 case slice t n off len c=>cases c <;> simp only [a6b,toD,a1i]
 case q x =>
  simp only [a6b,toD];have h:=W6 M5 x 0;have h1:=K6 x 0;cases hd:den x 0 <;> first | rfl | skip
  rename_i l c k;cases k <;> first | rfl | skip
  exfalso;exact c6d hd
 all_goals simp only [a6b,toD,a1i]
theorem b89 {nid:Nat}:∀ {vs vs':List V} {ws:List (Nat × Bx)},b88 nid vs=some (vs',ws)→a11 nid (vs.map toD)=(vs'.map toD,F7 ws)
 | [],vs',ws,h=>by simp only [b88] at h;injection h with h;injection h with h1 h2;subst h1 h2;rfl
 | v :: vs,vs',ws,h=>by
  simp only [b88] at h;split at h
  ·rename_i t n off len z;cases hz:Nat.beq n z with
   | false=>rw [hz] at h;cases h
   | true =>
    rw [hz] at h;injection h with h;injection h with h1 h2;subst h1 h2;have:=Nat.eq_of_beq_eq_true hz;subst this;simp only [List.map_cons,toD,a11,I8,Nat.beq_refl,cond_true,F7,D4,List.map_nil,map_toD (fun v=>b9x v)]
  ·rename_i hnf;obtain ⟨p,hp,he⟩:=Option.map_eq_some_iff.1 h;obtain ⟨p1,p2⟩:=p;injection he with h1 h2;subst h1 h2;have ih:=b89 hp;have hnd:∀ l c z,toD v ≠ .slice l c (.fr z):=fun l c z hd=>by
    cases v <;> simp only [toD] at hd <;> first | (cases hd;done) | skip
    ·injection hd with _ _ hd;subst hd;exact hnf _ _ _ _ _ rfl
    ·exact c6d hd
   rw [List.map_cons,List.map_cons];unfold a11;split
   ·rename_i hd;exact absurd hd (hnd _ _ _)
   ·rw [ih]
theorem c24 {nid:Nat} {v v':V} {ws:List (Nat × Bx)} (h:e2z nid v=some (v',ws)):own nid (toD v)=(toD v',F7 ws):=by
 unfold e2z at h;split at h
 ·obtain ⟨p,hp,he⟩:=Option.map_eq_some_iff.1 h;obtain ⟨p1,p2⟩:=p;injection he with h1 h2;subst h1 h2;simp only [toD,own,F5,b89 hp]
 ·rename_i t n off len z;cases hz:Nat.beq n z with
  | false=>rw [hz] at h;cases h
  | true =>
   rw [hz] at h;injection h with h;injection h with h1 h2;subst h1 h2;have:=Nat.eq_of_beq_eq_true hz;subst this;simp only [toD,own,I8,Nat.beq_refl,cond_true,F7,D4,List.map_cons,List.map_nil]
 ·rename_i h1 h2;injection h with h;injection h with q1 q2;subst q1 q2;unfold own;split
  ·rename_i ds hd;exfalso;cases v <;> simp only [toD] at hd <;> first | (cases hd;done) | skip
   ·rename_i x;have:=K6 x 0;rw [hd] at this;cases this
   ·exact h1 _ rfl
  ·rename_i hd;exfalso;cases v <;> simp only [toD] at hd <;> first | (cases hd;done) | skip
   ·injection hd with _ _ hd;subst hd;exact h2 _ _ _ _ _ rfl
   ·exact c6d hd
  ·rfl
theorem b86 {s:E0} {nid:Nat} {v:V} {ws:List (Nat × Bx)} {rs:List Nat} {K:KV} (h:c4t s nid v ws rs K=some r) {K':D→List (Nat × C5)→List Nat→Prop} (hK:∀ v ws rs,K v ws rs=some r→K' (toD v) (F7 ws) rs) :
  a10 (B4 s) nid (toD v) (F7 ws) rs K':=by
 unfold c4t at h;unfold a10;split at h
 ·rename_i v' ho;rw [c24 ho];exact hK _ _ _ h
 ·rename_i v' x xs ho;rw [c24 ho];simp only [F7,List.map_cons];cases hf:a18 (s.lay ws) nid with
  | false=>rw [hf] at h;cases h
  | true =>
   rw [hf] at h;have e:G4 ((B4 s).lay (ws.map fun p=>(p.1,D4 p.2))) nid=true:=by
    have:=a7p hf;rw [b7n] at this;exact this
   rw [e];have:=hK _ _ _ h;simp only [F7,List.map_append,List.map_cons] at this;exact this
 ·cases h
theorem d46 {fn:FuncId→F3} {cr:V9} (htab:X.tab=[]) (hfn:∀ g,G8 X g (fn g)) (hcr:a4a cr) {s:E0} {nid:Nat} {g:FuncId} {vs:List V} {K:KV} {Kp:V→List Nat→Om} (h:e6i CR fn cr s nid g vs K Kp=some r)
  {K':D→List (Nat × C5)→List Nat→Prop} {Kp':D→List Nat→Prop} (hK:∀ v ws rs,K v ws rs=some r→K' (toD v) (F7 ws) rs) (hKp:∀ v rs,Kp v rs=some r→Kp' (toD v) rs):a1o X (B4 s) nid g (vs.map toD) K' Kp':=by
 obtain ⟨vs',ks,h,hf⟩:=b2z h;unfold a1o;rw [hf];simp only [] at h ⊢;have elay:(B4 s).lay (ks.map fun k=>(k,C5.dead))=B4 (s.lay (ks.map fun k=>(k,Bx.dead))):=by
  rw [b7n];congr 1;unfold F7;rw [List.map_map];rfl
 rw [elay];have eids:a0x (B4 (s.lay (ks.map fun k=>(k,Bx.dead)))).heap ((vs'.map toD).flatMap a8y)=b25 (s.lay (ks.map fun k=>(k,Bx.dead))).heap (vs'.flatMap b4x):=by
  rw [d6z,List.flatMap_map];have:(fun v=>a8y (toD v))=b4x:=by funext v;exact (e21 v).symm
  rw [this];rfl
 rw [eids];generalize b25 (s.lay (ks.map fun k=>(k,Bx.dead))).heap (vs'.flatMap b4x)=ids at h ⊢;split at h
 ·rename_i bs hb;obtain ⟨h1,h2,h3⟩:=a8h hb;have h1':T0 (B4 (s.lay (ks.map fun k=>(k,Bx.dead)))).heap ids=some (bs.map K1):=h1;rw [h1'];simp only [];have hall:(bs.map (a05 (pos · ids))).all L2=true:=by
   rw [List.all_map];rw [List.all_eq_true] at h2 ⊢;intro b hbm;simp only [Function.comp];exact d17 _ (h2 b hbm)
  have e1:(vs'.map toD).map (ren (pos · ids))=(vs'.map (a4y (pos · ids))).map toD:=(map_toD (fun v=>a9u v) vs').symm;have e2:(bs.map K1).map (J2 (pos · ids))=(bs.map (a05 (pos · ids))).map K1:=by
   rw [List.map_map,List.map_map];exact List.map_congr_left fun b hb=>(b42 (pos · ids) (List.all_eq_true.1 h2 b hb)).symm
  rw [e1,e2];unfold b38;rw [htab];simp only [a54];have h:bind (fn g (vs'.map (a4y (pos · ids))) (bs.map (a05 (pos · ids)))) _ _=some r:=h;unfold bind at h;split at h
  ·rename_i v bs' hcall;have hcm:=hfn g _ _ _ _ hcall hall;rcases hcr _ _ _ _ _ _ h with ⟨v2,bs2,ev,eb,hk⟩ | ⟨v2,ev,eb,hk⟩
   ·simp only [] at hk;cases hg:Nat.beq bs2.length ids.length && bs2.all L2 with
    | false=>rw [hg] at hk;cases hk
    | true =>
     rw [hg] at hk;rw [Bool.and_eq_true] at hg;have hl2:=Nat.eq_of_beq_eq_true hg.1;have hok:=c15 eb hg.2;have ebD:bs2.map K1=bs'.map K1:=by
      have hl:bs2.length=bs'.length:=by have:=congrArg List.length eb;simpa using this
      apply List.ext_getElem
      ·simpa using hl
      ·intro i hi1 hi2;simp only [List.length_map] at hi1 hi2;simp only [List.getElem_map];have q1:=List.all_eq_true.1 hg.2 _ (List.getElem_mem hi1);have q2:=List.all_eq_true.1 hok _ (List.getElem_mem hi2);have q3:(bs2.map D4)[i]?=(bs'.map D4)[i]?:=by rw [eb]
       rw [List.getElem?_map,List.getElem?_map,List.getElem?_eq_getElem hi1,List.getElem?_eq_getElem hi2] at q3;simp only [Option.map_some] at q3;injection q3 with q3;have q4:a7a (D4 bs2[i])=a7a (D4 bs'[i]):=by rw [q3]
       rw [a3o q1,a3o q2] at q4;injection q4
     refine .ret (toD v) (bs'.map K1) hcm (by rw [← ebD,List.length_map];exact hl2) ?_;have:=b86 hk hK;rw [a9u,ev] at this;have e3:F7 ((ks.map fun k=>(k,Bx.dead)) ++ b4y ids bs2)=(ks.map fun k=>(k,C5.dead)) ++ a6w ids (bs'.map K1):=by
      rw [← ebD,← d4o hg.2];unfold F7;rw [List.map_append,List.map_map];rfl
     rw [e3] at this;exact .inl this
   ·simp only [] at hk;cases hg:bs.all c71 with
    | false=>rw [hg] at hk;cases hk
    | true =>
     rw [hg] at hk;subst eb;refine .ret (toD v) _ hcm (by simp [h3]) (.inr ⟨?_,?_⟩)
     ·rw [List.map_map,List.map_map];refine List.map_congr_left fun b hb=>?_;have hp:=List.all_eq_true.1 hg b hb;simp only [Function.comp];rw [b42 _ (List.all_eq_true.1 h2 b hb),b9b _ hp,b9b _ hp]
     ·have:=b86 hk hK;rw [a9u,ev] at this;have e3:F7 (ks.map fun k=>(k,Bx.dead))=ks.map fun k=>(k,C5.dead):=by unfold F7;rw [List.map_map];rfl
      rw [e3] at this;exact this
  ·rename_i v bs' hcall;have hcm:=hfn g _ _ _ _ hcall hall;refine .pan (toD v) (bs.map K1) (CM.pan_any hcm) (by simp [h3]) ?_;have:=hKp _ _ h;rw [show CR.rn0 v=a4y M5 v from rfl,a9u] at this;exact this
  ·cases h
 ·cases h

def e4i (C:Comb) (X:Pr) (fn:FuncId→F3) (cr:V9) (s:E0) (nid:Nat) (o:Op) (K:KV) (Kp:V→List Nat→Om):Om :=
 match o with
 | .call { callee:=.value f,args,.. }=>match s.eval f with
  | .func (.func g) fs cs=>e6i C fn cr s nid g (fs ++ args.toList.map s.eval ++ cs) K Kp
  | _=>none
 | .panic x=>match s.eval x with
  | .iface t d=>Kp (a4y M5 (.iface t d)) []
  | _=>none
 | .pick c a b=>match s.eval c with
  | .known t=>cond t (K (s.eval a) [] []) (K (s.eval b) [] [])
  | v=>vB C v fun t=>C.cnd t (K (s.eval a) [] []) (K (s.eval b) [] [])
 | o=>Q1 C X s nid o K
theorem d96 {fn:FuncId→F3} {cr:V9} (htab:X.tab=[]) (hfn:∀ g,G8 X g (fn g)) (hcr:a4a cr) {s:E0} {nid:Nat} {o:Op} {K:KV} {Kp:V→List Nat→Om} (h:e4i CR X fn cr s nid o K Kp=some r)
  {K':D→List (Nat × C5)→List Nat→Prop} {Kp':D→List Nat→Prop} (hK:∀ v ws rs,K v ws rs=some r→K' (toD v) (F7 ws) rs) (hKp:∀ v rs,Kp v rs=some r→Kp' (toD v) rs):R2 X (B4 s) nid o K' Kp':=by
 have hrest:∀ o:Op,Q1 CR X s nid o K=some r→(match B5 X (B4 s) nid o with | some out=>cond out.need (K' out.val out.ws out.rs) False | none=>False):=by
  intro o h;obtain ⟨v,ws,rs,h,hd⟩:=e4k h;rw [hd];exact hK _ _ _ h
 unfold e4i at h;unfold R2;split at h
 ·rename_i f args ts;simp only [];split at h
  ·rename_i g fs cs hf;rw [A6,hf];simp only [toD];have:=d46 htab hfn hcr h hK hKp;rw [List.map_append,List.map_append] at this;rw [F5,F5,c7r];exact this
  ·cases h
 ·rename_i x;simp only [];split at h
  ·rename_i t d hx;rw [A6,hx];have:=hKp _ _ h;rw [a9u] at this;simp only [toD] at this ⊢;exact this
  ·cases h
 ·rename_i c a b;simp only [A6];split at h
  ·rename_i t hc;rw [hc];simp only [toD];cases t
   ·exact hK _ _ _ h
   ·exact hK _ _ _ h
  ·obtain ⟨t,hc,h⟩:=a02 h;rw [hc];simp only [];have h:cnd t _ _=some r:=h;rw [a9d] at h;cases t
   ·exact hK _ _ _ h
   ·exact hK _ _ _ h
 ·rename_i h1 h2 h3;split
  ·exact absurd rfl (h1 _ _ _)
  ·exact absurd rfl (h2 _)
  ·exact absurd rfl (h3 _ _ _)
  ·exact hrest o h

def c81 (C:Comb) (ops:Array Oper) (s:E0) (o:Oper) (Ky Kn:E0→Om):Om :=
 match o.guard with
 | none=>Ky s
 | some (j,want)=>match b24 ops j with
  | none=>Kn s
  | some t=>bif Nat.blt t s.tmps.length then
    match Q3 s.tmps t with
    | .known b=>cond (cond want b (!b)) (Ky s) (Kn s)
    | .tuple _=>Kn s
    | v=>vB C v fun b=>match want with
     | true=>C.cnd b (Ky (s.put (some t) (.known true))) (Kn (s.put (some t) (.known false)))
     | false=>C.cnd b (Kn (s.put (some t) (.known true))) (Ky (s.put (some t) (.known false)))
   else Kn s
theorem d0b {ops:Array Oper} {s:E0} {o:Oper} {Ky Kn:E0→Om} (h:c81 CR ops s o Ky Kn=some r) {Ky' Kn':St→Prop} (hy:∀ s,Ky s=some r→Ky' (B4 s)) (hn:∀ s,Kn s=some r→Kn' (B4 s)):a7c ops (B4 s) o Ky' Kn':=by
 unfold c81 at h;unfold a7c;split at h
 ·rename_i hg;rw [hg];exact hy _ h
 ·rename_i j want hg;rw [hg];simp only [];split at h
  ·rename_i ht;rw [ht];exact hn _ h
  ·rename_i t ht;rw [ht];simp only [];cases hb:Nat.blt t s.tmps.length with
   | false =>
    rw [hb] at h;have hl:s.tmps.length≤t:=by
     rcases Nat.lt_or_ge t s.tmps.length with h1 | h1
     ·have:Nat.blt t s.tmps.length=true:=by rw [Nat.blt_eq];exact h1
      rw [hb] at this;cases this
     ·exact h1
    have e:(B4 s).tmps[t]?=none:=by simp only [B4,List.getElem?_map,List.getElem?_eq_none hl,Option.map_none]
    rw [e];exact hn _ h
   | true =>
    rw [hb] at h;have hl:t < s.tmps.length:=by rw [Nat.blt_eq] at hb;exact hb
    have e:(B4 s).tmps[t]?=some (toD (Q3 s.tmps t)):=by
     rw [a3g,List.getD_eq_getElem?_getD,List.getElem?_eq_getElem hl];simp only [B4,List.getElem?_map,List.getElem?_eq_getElem hl,Option.map_some,Option.getD_some]
    rw [e];simp only [cond_true] at h;have key:∀ b,toD (Q3 s.tmps t)=.bool b→(B4 s).put (some t) (.bool b)=B4 s:=fun b hb=>b69 (by rw [e,hb]);split at h
    ·rename_i b hv;rw [hv];have k1:=key b (by rw [hv];simp only [toD]);simp only [toD];cases want <;> cases b <;> simp only [cond_true,cond_false,Bool.not_true,Bool.not_false] at h ⊢ <;> rw [k1] <;> first | exact hy _ h | exact hn _ h
    ·rename_i hv;rw [hv];simp only [toD];exact hn _ h
    ·obtain ⟨b,hv,h⟩:=a02 h;rw [hv];simp only [];have p1:=a3n s (some t) (.known true);have p2:=a3n s (some t) (.known false);simp only [toD] at p1 p2;cases want
     ·have h:cnd b _ _=some r:=h;rw [a9d] at h;cases b <;> simp only [cond_true,cond_false] at h ⊢
      ·rw [← p2];exact hy _ h
      ·rw [← p1];exact hn _ h
     ·have h:cnd b _ _=some r:=h;rw [a9d] at h;cases b <;> simp only [cond_true,cond_false] at h ⊢
      ·rw [← p2];exact hn _ h
      ·rw [← p1];exact hy _ h

def fLV (l:List V):(List V→Om)→Om:=List.rec (motive:=fun _=>(List V→Om)→Om) (fun K=>K []) (fun x _ ih K=>ih fun l=>K (x :: l)) l
def fLB (l:List Bx):(List Bx→Om)→Om:=List.rec (motive:=fun _=>(List Bx→Om)→Om) (fun K=>K []) (fun x _ ih K=>ih fun l=>K (x :: l)) l
def fSt (s:E0) (K:E0→Om):Om:=fLV s.tmps fun t=>fLB s.heap fun h=>K ⟨t,h⟩
theorem d6s:∀ (l:List V) (K:List V→Om),fLV l K=K l
 | [],_=>rfl
 | x :: l,K=>d6s l fun l=>K (x :: l)
theorem d6r:∀ (l:List Bx) (K:List Bx→Om),fLB l K=K l
 | [],_=>rfl
 | x :: l,K=>d6r l fun l=>K (x :: l)
theorem b2w (s:E0) (K:E0→Om):fSt s K=K s:=by unfold fSt;rw [d6s,d6r]
def b32 (C:Comb) (X:Pr) (fn:FuncId→F3) (cr:V9) (ops:Array Oper) (nid:Nat→Nat):List Nat→E0→List Tr→(E0→List Tr→Om)→(Nat→V→List Nat→List Tr→Om)→Om
 | [],s,tr,K,_=>K s tr
 | i :: l,s,tr,K,Kp=>match ops[i]? with
  | none=>b32 C X fn cr ops nid l s tr K Kp
  | some o=>c81 C ops s o
    (fun s=>e4i C X fn cr s (nid i) o.op (fun d ws rs=>fSt ((s.lay ws).put o.dst d) fun s=>b32 C X fn cr ops nid l s (⟨i,o.dst,.junk,ws.map fun p=>(p.1,.dead),rs⟩ :: tr) K Kp) (fun d rs=>Kp i d rs tr))
    (fun s=>fSt (s.put o.dst (.tuple [])) fun s=>b32 C X fn cr ops nid l s (⟨i,o.dst,.junk,[],[]⟩ :: tr) K Kp)
def Tr.face (t:Tr):Nat × Option Tmp × List Nat × List Nat:=(t.i,t.dst,t.ids,t.rs)
theorem d37 {ops:Array Oper} {x y x' y':Tr} (hx:x.face=x'.face) (hy:y.face=y'.face):T1 ops x y=T1 ops x' y':=by
 unfold Tr.face at hx hy;injection hx with h1 hx;injection hx with h2 hx;injection hx with h3 h4;injection hy with g1 hy;injection hy with g2 hy;injection hy with g3 g4;unfold T1;rw [h1,h2,h3,h4,g1,g2,g3,g4]
theorem b1a {ops:Array Oper}:∀ {a b:List Tr},a.map Tr.face=b.map Tr.face→U5 ops a=U5 ops b
 | [],[],_=>rfl
 | [],_ :: _,h=>by simp at h
 | _ :: _,[],h=>by simp at h
 | x :: a,y :: b,h=>by
  simp only [List.map_cons,List.cons.injEq] at h;simp only [U5];rw [b1a h.2];congr 1;have:∀ {a b:List Tr},a.map Tr.face=b.map Tr.face→(a.all fun z=>!T1 ops z x || W1 ops z.i ops.size x.i)=b.all fun z=>!T1 ops z y || W1 ops z.i ops.size y.i:=by
   intro a
   induction a with
   | nil=>intro b hab;cases b with
    | nil=>rfl
    | cons=>simp at hab
   | cons z a ih=>intro b hab;cases b with
    | nil=>simp at hab
    | cons u b =>
     simp only [List.map_cons,List.cons.injEq] at hab;simp only [List.all_cons];rw [ih hab.2,d37 hab.1 h.1];have e1:z.i=u.i:=congrArg Prod.fst hab.1;have e2:x.i=y.i:=congrArg Prod.fst h.1;rw [e1,e2]
  exact this h.2
theorem a2c {fn:FuncId→F3} {cr:V9} (htab:X.tab=[]) (hfn:∀ g,G8 X g (fn g)) (hcr:a4a cr) {ops:Array Oper} {nid:Nat→Nat}:∀ {l:List Nat} {s:E0} {tr:List Tr} {K:E0→List Tr→Om} {Kp:Nat→V→List Nat→List Tr→Om},b32 CR X fn cr ops nid l s tr K Kp=some r →
  ∀ {tr':List Tr} {K':St→List Tr→Prop} {Kp':Nat→D→List Nat→List Tr→Prop},tr.map Tr.face=tr'.map Tr.face→(∀ s t t',t.map Tr.face=t'.map Tr.face→K s t=some r→K' (B4 s) t')→(∀ i v rs t t',t.map Tr.face=t'.map Tr.face→Kp i v rs t=some r→Kp' i (toD v) rs t')→a0g X ops nid l (B4 s) tr' K' Kp'
 | [],s,tr,K,Kp,h,tr',K',Kp',htr,hK,hKp=>hK _ _ _ htr h
 | i :: l,s,tr,K,Kp,h,tr',K',Kp',htr,hK,hKp=>by
  simp only [b32] at h;simp only [a0g];split at h
  ·rename_i ho;rw [ho];exact a2c htab hfn hcr h htr hK hKp
  ·rename_i o ho;rw [ho];refine d0b h (fun s h=>?_) (fun s h=>?_)
   ·refine d96 htab hfn hcr h (fun v ws rs h=>?_) (fun v rs h=>hKp _ _ _ _ _ htr h);rw [b2w] at h;rw [← b7n,← a3n];refine a2c htab hfn hcr h ?_ hK hKp;simp only [List.map_cons,List.cons.injEq,htr,and_true];simp only [Tr.face,Tr.ids,F7,List.map_map];rfl
   ·rw [b2w] at h;have:=a3n s o.dst (.tuple []);simp only [toD,Q5] at this;rw [← this];refine a2c htab hfn hcr h ?_ hK hKp;simp only [List.map_cons,List.cons.injEq,htr,and_true];rfl

def E0.more (s:E0) (n:Nat):E0:={ s with heap:=s.heap ++ List.replicate n .free }
theorem d90 (s:E0) (n:Nat):B4 (s.more n)=(B4 s).more n:=by simp only [B4,E0.more,St.more,List.map_append,List.map_replicate,D4]
def e14 (C:Comb) (m:I9) (c:Int):Bool:=C.bnot (C.band (C.bnot (C.iEq c m.k0)) (C.band (C.bnot (C.iEq c m.k1)) (C.bnot (C.iEq c m.k2))))
def e4l (C:Comb) (m:I9) (c:Int):Int:=C.isel (C.iEq c m.k0) m.v0 (C.isel (C.iEq c m.k1) m.v1 m.v2)
def e27 (m:I9) (s:E0) (c x:Int):E0:=(((s.put (some m.t0) .junk).put (some m.t1) .junk).put (some m.t2) (.int .u8 c)).put (some m.t3) (.int .i64 x)
theorem e7m (m:I9) (c:Int):e14 CR m c=m.has c:=by
 unfold e14 I9.has;simp only [f2i,f2h,e4r,a3a,O2,U1]
theorem f2b (m:I9) (c:Int):e4l CR m c=m.val c:=by
 unfold e4l I9.val;simp only [f2j,e4r,c01,U1]
theorem d91 (m:I9) (s:E0) (c:Int):B4 (e27 m s c (m.val c))=m.put (B4 s) c:=by
 unfold e27 I9.put;simp only [a3n,toD]
def c11 (C:Comb) (X:Pr) (fn:FuncId→F3) (cr:V9) (ops:Array Oper) (draw:Bool) (s:E0) (K:E0→Om) (Kp:V→Om):Om :=
 match draw with
 | false=>match b3e ops.toList with
  | none=>fSt (s.more (a4x ops.toList)) fun s'=>b32 C X fn cr ops (fun i=>s.heap.length+a7y ops.toList i) (List.range ops.size) s' [] (fun s _=>K s) (fun _ d _ _=>Kp d)
  | some m=>cond (a5y X.P m.mt && m.ok s.tmps.length) (vI C .u8 (Q3 s.tmps m.src) fun c=>C.chk (e14 C m c) (C.fI (e4l C m c) fun x=>fSt (e27 m (s.more (a4x ops.toList)) c x) fun s' =>
   b32 C X fn cr ops (fun i=>s.heap.length+a7y ops.toList i) (List.range' 7 (ops.size - 7)) s' [] (fun s _=>K s) (fun _ d _ _=>Kp d))) none
 | true=>cond (a5z ops)
   (fSt (s.more (a4x ops.toList)) fun s'=>b32 C X fn cr ops (fun i=>s.heap.length+a7y ops.toList i) (List.range ops.size) s' [] (fun s tr=>cond (U5 ops tr) (K s) none)
    (fun i d rs tr=>cond (U5 ops (⟨i,none,.junk,[],rs⟩ :: tr) && (List.range ops.size).all fun j=>Nat.ble j i || W1 ops i ops.size j) (Kp d) none)) none
theorem c82 {fn:FuncId→F3} {cr:V9} (htab:X.tab=[]) (hfn:∀ g,G8 X g (fn g)) (hcr:a4a cr) {ops:Array Oper} {draw:Bool} {s:E0} {K:E0→Om} {Kp:V→Om} (h:c11 CR X fn cr ops draw s K Kp=some r)
  {K':St→Prop} {Kp':D→Prop} (hK:∀ s,K s=some r→K' (B4 s)) (hKp:∀ v,Kp v=some r→Kp' (toD v)):a3p X ops draw (B4 s) K' Kp':=by
 have el:(B4 s).heap.length=s.heap.length:=by simp [B4]
 unfold c11 at h;unfold a3p;rw [el,← d90];split at h
 ·simp only [];split at h
  ·rename_i hm;rw [hm];rw [b2w] at h;exact a2c htab hfn hcr h rfl (fun s t t' _ h=>hK s h) (fun i v rs t t' _ h=>hKp v h)
  ·rename_i m hm;rw [hm];have et:(B4 s).tmps.length=s.tmps.length:=by simp [B4]
   simp only [et];generalize (a5y X.P m.mt && m.ok s.tmps.length)=b at h ⊢;cases b with
   | false=>cases h
   | true =>
    simp only [cond_true] at h ⊢;obtain ⟨c,hc,h⟩:=a0a h;obtain ⟨h0,h⟩:=F8 h;rw [e7m] at h0;rw [CfI,f2b,b2w] at h;have e1:(B4 s).tmps.getD m.src .junk=.int .u8 c:=by
     have:=A6 s (.tmp m.src);have e2:(B4 s).eval (.tmp m.src)=(B4 s).tmps.getD m.src .junk:=rfl;rw [← e2,this];exact hc
    rw [e1];simp only [h0,cond_true];rw [← d91];exact a2c htab hfn hcr h rfl (fun s t t' _ h=>hK s h) (fun i v rs t t' _ h=>hKp v h)
 ·simp only [];cases he:a5z ops with
  | false=>rw [he] at h;cases h
  | true =>
   rw [he] at h;simp only [cond_true] at h ⊢;rw [b2w] at h;refine a2c htab hfn hcr h rfl (fun s t t' ht h=>?_) (fun i v rs t t' ht h=>?_)
   ·rw [← b1a ht];cases hr:U5 ops t with
    | false=>rw [hr] at h;cases h
    | true=>rw [hr] at h;exact hK s h
   ·rw [← b1a (a:=⟨i,none,.junk,[],rs⟩ :: t) (by simp only [List.map_cons,ht])];generalize (U5 ops (⟨i,none,.junk,[],rs⟩ :: t) && (List.range ops.size).all fun j=>Nat.ble j i || W1 ops i ops.size j)=b at h ⊢;cases b with
    | false=>cases h
    | true=>exact hKp v h
end

inductive Sh where
 | int (k:IntKind)
 | bool
 | str
 | slice (n:Nat) (c:Cap)
 | q
 | a (m:Nat)
 | agg (l:List Sh)
 | tuple (l:List Sh)
 | ptr (id off:Nat)
 | cref (m:Nat)
 | bslice (id:Nat)
 | mapp (id:Nat)
 | nilp
 | nilIface
 | iface (t:TypeId) (s:Sh)
 | func (fn:Fn) (fs cs:List Sh)
 | any
inductive ShB where
 | cells (l:List Sh)
 | opa (m:Nat)
 | tok (size:Nat)
 | row
 | map
 | any

mutual
def d2g:V→Sh
 | .bool _ | .known _=>.bool
 | .int k _=>.int k
 | .str _ _=>.str
 | .slice _ n _ _ c=>.slice n c
 | .q _=>.q
 | .a _ m=>.a m
 | .agg cs=>.agg (a3m cs)
 | .tuple cs=>.tuple (a3m cs)
 | .ptr id off=>.ptr id off
 | .cref _ _ m=>.cref m
 | .bslice id _=>.bslice id
 | .mapp id=>.mapp id
 | .nilp=>.nilp
 | .nilIface=>.nilIface
 | .iface t v=>.iface t (d2g v)
 | .func fn a b=>.func fn (a3m a) (a3m b)
 | .junk=>.any
def a3m:List V→List Sh
 | []=>[]
 | v :: vs=>d2g v :: a3m vs
end
def c8o:Bx→ShB
 | .cells cs=>.cells (a3m cs)
 | .opa _ m=>.opa m
 | .tok _ z=>.tok z
 | .row _ _=>.row
 | .map _=>.map
 | _=>.any
def uI (k:IntKind) (v:V) (K:Int→Om):Om:=match v with
 | .int k' n=>cond (ikEq k k') (K n) none
 | .q x=>cI k x K
 | _=>none
def uB (v:V) (K:Bool→Om):Om:=match v with
 | .bool b=>K b
 | .known b=>K b
 | .q x=>cB x K
 | _=>none
def uS (v:V) (K:Nat→Nat→Om):Om:=match v with
 | .str l c=>K l c
 | .q x=>cS x K
 | _=>none
def uSl (n cN:Nat) (v:V) (K:u1 Q→Nat→Nat→Om):Om:=match v with
 | .slice t n' off len c=>cond (Nat.beq (a0k c) cN) (Nat.rec (motive:=fun _=>Om) (chk (nEq len 0) (K .nil 0 0)) (fun _ _=>cond (Nat.beq n n') (K t off len) (chk (nEq len 0) (K .nil 0 0))) n') none
 | .q x=>cond (Nat.beq cN 0) (cSl n x K) none
 | _=>none
def uQ (v:V) (K:Q→Om):Om:=match c1x v with
 | some x=>K x
 | none=>match v with
  | .slice t n off len .no=>K (.slice t n off len)
  | _=>none
def uA (m:Nat) (v:V) (K:Q→Om):Om:=match v with
 | .a x m'=>cond (Nat.beq m m') (K x) none
 | .agg cs=>cond (Nat.beq cs.length m) (match exQs cs with
  | some qs=>K (.agg qs 0)
  | none=>none) none
 | _=>none
where
 exQ (v:V):Option Q:=match c1x v with
  | some x=>some x
  | none=>match v with
   | .slice t n off len .no=>some (.slice t n off len)
   | _=>none
 exQs:List V→Option (List Q)
  | []=>some []
  | v :: vs=>match exQ v,exQs vs with
   | some q,some qs=>some (q :: qs)
   | _,_=>none
def uL (v:V) (K:List V→Om):Om:=match v with
 | .agg cs=>K cs
 | _=>none
def uTu (v:V) (K:List V→Om):Om:=match v with
 | .tuple cs=>K cs
 | _=>none
def uP (id off:Nat) (v:V) (K:Om):Om:=match v with
 | .ptr i o=>cond (Nat.beq id i) (cond (Nat.beq off o) K none) none
 | _=>none
def uCref (m:Nat) (v:V) (K:Q→Om):Om:=match v with
 | .cref x off m'=>cond (Nat.beq m m') (fQ (subQ x off) K) none
 | _=>none
def uBs (id:Nat) (v:V) (K:Nat→Om):Om:=match v with
 | .bslice i len=>cond (Nat.beq id i) (K len) none
 | _=>none
def uMp (id:Nat) (v:V) (K:Om):Om:=match v with
 | .mapp i=>cond (Nat.beq id i) K none
 | _=>none
def uNilp (v:V) (K:Om):Om:=match v with
 | .nilp=>K
 | .q x=>d2w x K
 | _=>none
def uNilI (v:V) (K:Om):Om:=match v with
 | .nilIface=>K
 | _=>none
def uIf (t:TypeId) (v:V) (K:V→Om):Om:=match v with
 | .iface t' v=>cond (Nat.beq t t') (K v) none
 | _=>none
def uFn (f:Nat) (v:V) (K:List V→List V→Om):Om:=match v with
 | .func (.func f') fs cs=>cond (Nat.beq f f') (K fs cs) none
 | _=>none
def uCons (l:List V) (K:V→List V→Om):Om:=match l with
 | v :: l=>K v l
 | []=>none
def uNil (l:List V) (K:Om):Om:=match l with
 | []=>K
 | _=>none
def uConsB (l:List Bx) (K:Bx→List Bx→Om):Om:=match l with
 | v :: l=>K v l
 | []=>none
def uNilB (l:List Bx) (K:Om):Om:=match l with
 | []=>K
 | _=>none
def uBc (b:Bx) (K:List V→Om):Om:=match b with
 | .cells cs=>K cs
 | .opa x m=>K ((b1q 0 m).map fun i=>.q (celQ x i))
 | _=>none
def uBo (m:Nat) (b:Bx) (K:Q→Om):Om:=match b with
 | .opa x m'=>cond (Nat.beq m m') (K x) none
 | .cells cs=>cond (Nat.beq cs.length m) (match uA.exQs cs with
  | some qs=>K (.agg qs 0)
  | none=>none) none
 | _=>none
def uBt (z:Nat) (b:Bx) (K:Nat→Om):Om:=match b with
 | .tok l z'=>cond (Nat.beq z z') (K l) none
 | _=>none
def uBr (b:Bx) (K:u1 Q→Nat→Om):Om:=match b with
 | .row t len=>K t len
 | _=>none
def uBm (b:Bx) (K:List V→Om):Om:=match b with
 | .map kvs=>K kvs
 | _=>none
structure C3 extends Comb where
 uI:IntKind→V→(Int→Om)→Om
 uB:V→(Bool→Om)→Om
 uS:V→(Nat→Nat→Om)→Om
 uSl:Nat→Nat→V→(u1 Q→Nat→Nat→Om)→Om
 uQ:V→(Q→Om)→Om
 uA:Nat→V→(Q→Om)→Om
 uL:V→(List V→Om)→Om
 uTu:V→(List V→Om)→Om
 uP:Nat→Nat→V→Om→Om
 uCref:Nat→V→(Q→Om)→Om
 uBs:Nat→V→(Nat→Om)→Om
 uNilp:V→Om→Om
 uNilI:V→Om→Om
 uIf:Nat→V→(V→Om)→Om
 uFn:Nat→V→(List V→List V→Om)→Om
 uCons:List V→(V→List V→Om)→Om
 uNil:List V→Om→Om
 uConsB:List Bx→(Bx→List Bx→Om)→Om
 uNilB:List Bx→Om→Om
 uBc:Bx→(List V→Om)→Om
 uBo:Nat→Bx→(Q→Om)→Om
 uBt:Nat→Bx→(Nat→Om)→Om
 uBr:Bx→(u1 Q→Nat→Om)→Om
 uMp:Nat→V→Om→Om
 uBm:Bx→(List V→Om)→Om
 lp:((List V→List Bx→Om)→List V→List Bx→Om)→List V→List Bx→Om
 jn:((List V→List Bx→Om)→Om)→(List V→List Bx→Om)→Om
 same:List Bx→List Bx→Om→Om
def E3:Nat:=100000
def lp (body:(List V→List Bx→Om)→List V→List Bx→Om):List V→List Bx→Om :=
 Nat.rec (motive:=fun _=>List V→List Bx→Om) (fun _ _=>none) (fun _ ih=>body ih) E3
def jn (f:(List V→List Bx→Om)→Om) (g:List V→List Bx→Om):Om:=f g
def CU:C3:={ CR with
 uI:=uI,uB:=uB,uS:=uS,uSl:=uSl,uQ:=uQ,uA:=uA,uL:=uL,uTu:=uTu,uP:=uP,uCref:=uCref,uBs:=uBs,uNilp:=uNilp,uNilI:=uNilI,uIf:=uIf,uFn:=uFn,uCons:=uCons,uNil:=uNil,
 uConsB:=uConsB,uNilB:=uNilB,uBc:=uBc,uBo:=uBo,uBt:=uBt,uBr:=uBr,uMp:=uMp,uBm:=uBm,lp:=lp,jn:=jn,same:=same }
mutual
def d21 (U:C3):Sh→V→(V→Om)→Om
 | .int k,v,K=>U.uI k v fun n=>K (.int k n)
 | .bool,v,K=>U.uB v fun b=>K (.bool b)
 | .str,v,K=>U.uS v fun l c=>K (.str l c)
 | .slice n c,v,K=>U.uSl n (a0k c) v fun t off len=>K (.slice t n off len c)
 | .q,v,K=>U.uQ v fun x=>K (.q x)
 | .a m,v,K=>U.uA m v fun x=>K (.a x m)
 | .agg l,v,K=>U.uL v fun cs=>a1q U l cs fun cs=>K (.agg cs)
 | .tuple l,v,K=>U.uTu v fun cs=>a1q U l cs fun cs=>K (.tuple cs)
 | .ptr id off,v,K=>U.uP id off v (K (.ptr id off))
 | .cref m,v,K=>U.uCref m v fun x=>K (.cref x 0 m)
 | .bslice id,v,K=>U.uBs id v fun len=>K (.bslice id len)
 | .mapp id,v,K=>U.uMp id v (K (.mapp id))
 | .nilp,v,K=>U.uNilp v (K .nilp)
 | .nilIface,v,K=>U.uNilI v (K .nilIface)
 | .iface t s,v,K=>U.uIf t v fun v=>d21 U s v fun v=>K (.iface t v)
 | .func (.func f) fs cs,v,K=>U.uFn f v fun a b=>a1q U fs a fun a=>a1q U cs b fun b=>K (.func (.func f) a b)
 | .func _ _ _,_,_=>none
 | .any,v,K=>K v
def a1q (U:C3):List Sh→List V→(List V→Om)→Om
 | [],l,K=>U.uNil l (K [])
 | s :: ss,l,K=>U.uCons l fun v l=>d21 U s v fun v=>a1q U ss l fun l=>K (v :: l)
end
def e4x (U:C3):ShB→Bx→(Bx→Om)→Om
 | .cells l,b,K=>U.uBc b fun cs=>a1q U l cs fun cs=>K (.cells cs)
 | .opa m,b,K=>U.uBo m b fun x=>K (.opa x m)
 | .tok z,b,K=>U.uBt z b fun l=>K (.tok l z)
 | .row,b,K=>U.uBr b fun t len=>K (.row t len)
 | .map,b,K=>U.uBm b fun kvs=>K (.map kvs)
 | .any,b,K=>K b
def a07 (U:C3):List ShB→List Bx→(List Bx→Om)→Om
 | [],l,K=>U.uNilB l (K [])
 | s :: ss,l,K=>U.uConsB l fun b l=>e4x U s b fun b=>a07 U ss l fun l=>K (b :: l)

section
variable {r:R}
theorem f13 {k:IntKind} {v:V} {K:Int→Om} (h:uI k v K=some r):∃ n,toD v=.int k n∧K n=some r:=a0a (k:=k) (v:=v) (by unfold vI;exact h)
theorem f12 {v:V} {K:Bool→Om} (h:uB v K=some r):∃ b,toD v=.bool b∧K b=some r:=a02 (v:=v) (by unfold vB;exact h)
theorem f18 {v:V} {K:Nat→Nat→Om} (h:uS v K=some r):∃ l c,toD v=.str (s5 l c)∧K l c=some r:=a03 (v:=v) (by unfold vS;exact h)
theorem e4h {n:Nat} {c:Cap} {v:V} {K:u1 Q→Nat→Nat→Om} (h:uSl n (a0k c) v K=some r):∃ t off len,toD v=.slice len (rows (D2 t) n off len) c∧K t off len=some r:=by
 unfold uSl at h;split at h
 ·rename_i t n' off len c';cases hc:Nat.beq (a0k c') (a0k c) with
  | false=>rw [hc] at h;cases h
  | true =>
   rw [hc] at h;have:=c5d (Nat.eq_of_beq_eq_true hc);subst this;simp only [cond_true] at h;cases n' with
   | zero =>
    obtain ⟨h1,h⟩:=b0l (show chk (nEq len 0) (K .nil 0 0)=some r from h);have:=Nat.eq_of_beq_eq_true h1;subst this;exact ⟨.nil,0,0,by simp only [toD,rows],h⟩
   | succ n' =>
    have h:cond (Nat.beq n (n'+1)) (K t off len) (chk (nEq len 0) (K .nil 0 0))=some r:=h;cases hn:Nat.beq n (n'+1) with
    | false =>
     rw [hn] at h;obtain ⟨h1,h⟩:=b0l (show chk (nEq len 0) (K .nil 0 0)=some r from h);have:=Nat.eq_of_beq_eq_true h1;subst this;exact ⟨.nil,0,0,by simp only [toD,rows],h⟩
    | true=>rw [hn] at h;rw [Nat.eq_of_beq_eq_true hn];exact ⟨t,off,len,by simp only [toD],h⟩
 ·cases hc:Nat.beq (a0k c) 0 with
  | false=>rw [hc] at h;cases h
  | true =>
   rw [hc] at h;have:c=.no:=c5d (Nat.eq_of_beq_eq_true hc);subst this;obtain ⟨t,off,len,hx,h'⟩:=c5c h;exact ⟨t,off,len,by simp only [toD,hx],h'⟩
 ·cases h
theorem e1w {v:V} {x:Q} (h:uA.exQ v=some x):toD v=den x 0:=by
 unfold uA.exQ at h;split at h
 ·rename_i hx;injection h with h;subst h;exact a79 hx
 ·split at h
  ·injection h with h;subst h;simp only [toD,den];rfl
  ·cases h
theorem b2v:∀ {vs:List V} {qs:List Q},uA.exQs vs=some qs→vs.map toD=qs.map (fun x=>den x 0)
 | [],qs,h=>by simp only [uA.exQs] at h;injection h with h;subst h;rfl
 | v :: vs,qs,h=>by
  simp only [uA.exQs] at h;split at h
  ·rename_i q qs' hq hqs;injection h with h;subst h;simp only [List.map_cons,e1w hq,b2v hqs]
  ·cases h
theorem f15 {v:V} {K:Q→Om} (h:uQ v K=some r):∃ x,toD v=den x 0∧K x=some r:=by
 unfold uQ at h;split at h
 ·rename_i x hx;exact ⟨x,a79 hx,h⟩
 ·split at h
  ·exact ⟨_,by simp only [toD,den];rfl,h⟩
  ·cases h
theorem f11 {m:Nat} {v:V} {K:Q→Om} (h:uA m v K=some r):∃ x,toD v=.agg (C1 (den x) 0 m)∧K x=some r:=by
 unfold uA at h;split at h
 ·rename_i x m';cases hm:Nat.beq m m' with
  | false=>rw [hm] at h;cases h
  | true=>rw [hm] at h;rw [Nat.eq_of_beq_eq_true hm];exact ⟨x,by simp only [toD],h⟩
 ·rename_i cs;cases hm:Nat.beq cs.length m with
  | false=>rw [hm] at h;cases h
  | true =>
   rw [hm] at h;simp only [cond_true] at h;split at h
   ·rename_i qs hqs;have e:=b2v hqs;have hl:qs.length=m:=by have:=congrArg List.length e;simp at this;rw [← this];exact Nat.eq_of_beq_eq_true hm
    exact ⟨_,by simp only [toD,F5,e];rw [← hl,a7g],h⟩
   ·cases h
 ·cases h
mutual
theorem b2j:∀ {s:Sh} {v:V} {K:V→Om},d21 CU s v K=some r→∃ v',toD v'=toD v∧K v'=some r
 | .int k,v,K,h=>by
  obtain ⟨n,hv,h⟩:=f13 (show uI k v _=some r from h);exact ⟨_,by rw [hv];simp only [toD],h⟩
 | .bool,v,K,h=>by
  obtain ⟨n,hv,h⟩:=f12 (show uB v _=some r from h);exact ⟨_,by rw [hv];simp only [toD],h⟩
 | .str,v,K,h=>by
  obtain ⟨l,c,hv,h⟩:=f18 (show uS v _=some r from h);exact ⟨_,by rw [hv];simp only [toD],h⟩
 | .slice n c,v,K,h=>by
  obtain ⟨t,off,len,hv,h⟩:=e4h (show uSl n (a0k c) v (fun t off len=>K (.slice t n off len c))=some r from h);exact ⟨_,by rw [hv];simp only [toD],h⟩
 | .q,v,K,h=>by
  obtain ⟨x,hv,h⟩:=f15 (show uQ v _=some r from h);exact ⟨_,by rw [hv];simp only [toD],h⟩
 | .a m,v,K,h=>by
  obtain ⟨x,hv,h⟩:=f11 (show uA m v _=some r from h);exact ⟨_,by rw [hv];simp only [toD],h⟩
 | .agg l,v,K,h=>by
  replace h:uL v _=some r:=h;unfold uL at h;split at h
  ·obtain ⟨cs',e,h⟩:=M3 h;exact ⟨_,by simp only [toD,F5,e],h⟩
  ·cases h
 | .tuple l,v,K,h=>by
  replace h:uTu v _=some r:=h;unfold uTu at h;split at h
  ·obtain ⟨cs',e,h⟩:=M3 h;exact ⟨_,by simp only [toD,F5,e],h⟩
  ·cases h
 | .ptr id off,v,K,h=>by
  replace h:uP id off v _=some r:=h;unfold uP at h;split at h
  ·rename_i i o;cases h1:Nat.beq id i with
   | false=>rw [h1] at h;cases h
   | true =>
    rw [h1] at h;cases h2:Nat.beq off o with
    | false=>rw [h2] at h;cases h
    | true=>rw [h2] at h;exact ⟨_,by rw [Nat.eq_of_beq_eq_true h1,Nat.eq_of_beq_eq_true h2],h⟩
  ·cases h
 | .cref m,v,K,h=>by
  replace h:uCref m v _=some r:=h;unfold uCref at h;split at h
  ·rename_i x off m';cases h1:Nat.beq m m' with
   | false=>rw [h1] at h;cases h
   | true =>
    rw [h1] at h;simp only [cond_true,b8k] at h;exact ⟨_,by rw [Nat.eq_of_beq_eq_true h1];simp only [toD,b90,Nat.add_zero],h⟩
  ·cases h
 | .bslice id,v,K,h=>by
  replace h:uBs id v _=some r:=h;unfold uBs at h;split at h
  ·rename_i i len;cases h1:Nat.beq id i with
   | false=>rw [h1] at h;cases h
   | true=>rw [h1] at h;exact ⟨_,by rw [Nat.eq_of_beq_eq_true h1],h⟩
  ·cases h
 | .mapp id,v,K,h=>by
  replace h:uMp id v _=some r:=h;unfold uMp at h;split at h
  ·rename_i i;cases h1:Nat.beq id i with
   | false=>rw [h1] at h;cases h
   | true=>rw [h1] at h;exact ⟨_,by rw [Nat.eq_of_beq_eq_true h1],h⟩
  ·cases h
 | .nilp,v,K,h=>by
  replace h:uNilp v _=some r:=h;unfold uNilp at h;split at h
  ·exact ⟨_,rfl,h⟩
  ·obtain ⟨hx,h'⟩:=d2x h;subst hx;exact ⟨_,by simp only [toD,den];rfl,h'⟩
  ·cases h
 | .nilIface,v,K,h=>by
  replace h:uNilI v _=some r:=h;unfold uNilI at h;split at h
  ·exact ⟨_,rfl,h⟩
  ·cases h
 | .iface t s,v,K,h=>by
  replace h:uIf t v _=some r:=h;unfold uIf at h;split at h
  ·rename_i t' v0;cases h1:Nat.beq t t' with
   | false=>rw [h1] at h;cases h
   | true =>
    rw [h1] at h;obtain ⟨v',e,h⟩:=b2j h;exact ⟨_,by rw [Nat.eq_of_beq_eq_true h1];simp only [toD,e],h⟩
  ·cases h
 | .func (.func f) fs cs,v,K,h=>by
  replace h:uFn f v _=some r:=h;unfold uFn at h;split at h
  ·rename_i f' a b;cases h1:Nat.beq f f' with
   | false=>rw [h1] at h;cases h
   | true =>
    rw [h1] at h;obtain ⟨a',ea,h⟩:=M3 h;obtain ⟨b',eb,h⟩:=M3 h;exact ⟨_,by rw [Nat.eq_of_beq_eq_true h1];simp only [toD,F5,ea,eb],h⟩
  ·cases h
 | .any,v,K,h=>⟨v,rfl,h⟩
theorem M3:∀ {ss:List Sh} {l:List V} {K:List V→Om},a1q CU ss l K=some r→∃ l',l'.map toD=l.map toD∧K l'=some r
 | [],l,K,h=>by
  replace h:uNil l _=some r:=h;unfold uNil at h;split at h
  ·exact ⟨[],rfl,h⟩
  ·cases h
 | s :: ss,l,K,h=>by
  replace h:uCons l _=some r:=h;unfold uCons at h;split at h
  ·obtain ⟨v',e1,h⟩:=b2j h;obtain ⟨l',e2,h⟩:=M3 h;exact ⟨_,by simp only [List.map_cons,e1,e2],h⟩
  ·cases h
end
theorem d22 {s:ShB} {b:Bx} {K:Bx→Om} (h:e4x CU s b K=some r):∃ b',D4 b'=D4 b∧K b'=some r:=by
 cases s with
 | cells l =>
  replace h:uBc b _=some r:=h;unfold uBc at h;split at h
  ·obtain ⟨cs',e,h⟩:=M3 h;exact ⟨_,by simp only [D4,e],h⟩
  ·rename_i x m;obtain ⟨cs',e,h⟩:=M3 h;refine ⟨_,?_,h⟩;simp only [D4,e,J7,List.map_map];congr 1;exact List.map_congr_left fun i _=>by simp only [Function.comp,toD];exact a1t x i
  ·cases h
 | opa m =>
  replace h:uBo m b _=some r:=h;unfold uBo at h;split at h
  ·rename_i x m';cases hm:Nat.beq m m' with
   | false=>rw [hm] at h;cases h
   | true=>rw [hm] at h;exact ⟨_,by rw [Nat.eq_of_beq_eq_true hm],h⟩
  ·rename_i cs;cases hm:Nat.beq cs.length m with
   | false=>rw [hm] at h;cases h
   | true =>
    rw [hm] at h;simp only [cond_true] at h;split at h
    ·rename_i qs hqs;have e:=b2v hqs;have hl:qs.length=m:=by have:=congrArg List.length e;simp at this;rw [← this];exact Nat.eq_of_beq_eq_true hm
     exact ⟨_,by simp only [D4,e];rw [← hl,a7g],h⟩
    ·cases h
  ·cases h
 | tok z =>
  replace h:uBt z b _=some r:=h;unfold uBt at h;split at h
  ·rename_i l z';cases hm:Nat.beq z z' with
   | false=>rw [hm] at h;cases h
   | true=>rw [hm] at h;exact ⟨_,by rw [Nat.eq_of_beq_eq_true hm],h⟩
  ·cases h
 | row =>
  replace h:uBr b _=some r:=h;unfold uBr at h;split at h
  ·exact ⟨_,rfl,h⟩
  ·cases h
 | map =>
  replace h:uBm b _=some r:=h;unfold uBm at h;split at h
  ·exact ⟨_,rfl,h⟩
  ·cases h
 | any=>exact ⟨b,rfl,h⟩
theorem Z5:∀ {ss:List ShB} {l:List Bx} {K:List Bx→Om},a07 CU ss l K=some r→∃ l',l'.map D4=l.map D4∧K l'=some r
 | [],l,K,h=>by
  replace h:uNilB l _=some r:=h;unfold uNilB at h;split at h
  ·exact ⟨[],rfl,h⟩
  ·cases h
 | s :: ss,l,K,h=>by
  replace h:uConsB l _=some r:=h;unfold uConsB at h;split at h
  ·obtain ⟨v',e1,h⟩:=d22 h;obtain ⟨l',e2,h⟩:=Z5 h;exact ⟨_,by simp only [List.map_cons,e1,e2],h⟩
  ·cases h
end

structure Ann where
 ks:List (Nat × Nat)
 vs:List Sh
 bs:List ShB

def ev (U:C3) (X:Pr) (fn:FuncId→F3) (cr:V9) (n0:Nat) (AL AJ:Nat→Option Ann):Code→Nat→Nat→E0→(E0→Om)→(Nat→E0→Om)→(E0→Om)→(V→Om)→Om
 | .skip,_,_,s,K,_,_,_=>K s
 | .region _ ops draw,_,_,s,K,_,_,Kp=>c11 U.toComb X fn cr ops draw s K Kp
 | .seq a b,p,q,s,K,Kx,Kr,Kp=>match AJ q with
  | none=>ev U X fn cr n0 AL AJ a p (q+1) s (fun s'=>ev U X fn cr n0 AL AJ b (p+Q9 a) (q+1+W0 a) s' K Kx Kr Kp) Kx Kr Kp
  | some A=>U.jn (fun j=>ev U X fn cr n0 AL AJ a p (q+1) s (fun s'=>cond (a5n n0 s.tmps.length A.ks s') (j (a6r n0 A.ks s').1 (a6r n0 A.ks s').2) none) Kx Kr Kp)
    (fun vs bs=>a1q U A.vs vs fun vs=>a07 U A.bs bs fun bs=>ev U X fn cr n0 AL AJ b (p+Q9 a) (q+1+W0 a) (b5a s.tmps.length A.ks vs bs) K Kx Kr Kp)
 | .cond c t e,p,q,s,K,Kx,Kr,Kp=>match s.eval c with
  | .known b=>cond b (ev U X fn cr n0 AL AJ t p q s K Kx Kr Kp) (ev U X fn cr n0 AL AJ e (p+Q9 t) (q+W0 t) s K Kx Kr Kp)
  | v=>vB U.toComb v fun b=>U.cnd b (ev U X fn cr n0 AL AJ t p q (refV s c true) K Kx Kr Kp) (ev U X fn cr n0 AL AJ e (p+Q9 t) (q+W0 t) (refV s c false) K Kx Kr Kp)
 | .block id c,p,q,s,K,Kx,Kr,Kp=>ev U X fn cr n0 AL AJ c p q s K (fun j s'=>cond (Nat.beq j id) (K s') (Kx j s')) Kr Kp
 | .loop c,p,q,s,_,Kx,Kr,Kp=>match AL p with
  | none=>none
  | some A=>cond (a5n n0 s.tmps.length A.ks s) (U.lp (fun self vs bs=>a1q U A.vs vs fun vs=>a07 U A.bs bs fun bs =>
    ev U X fn cr n0 AL AJ c (p+1) q (b5a s.tmps.length A.ks vs bs) (fun s'=>cond (a5n n0 s.tmps.length A.ks s') (self (a6r n0 A.ks s').1 (a6r n0 A.ks s').2) none) Kx Kr Kp) (a6r n0 A.ks s).1 (a6r n0 A.ks s).2) none
 | .exit j,_,_,s,_,Kx,_,_=>Kx j s
 | .ret,_,_,s,_,_,Kr,_=>Kr s
 | _,_,_,_,_,_,_,_=>none
where refV (s:E0) (c:Operand) (b:Bool):E0:=match c with
 | .tmp t=>s.put (some t) (.known b)
 | _=>s

def b2h (A:Ann):Cut:={ π:=List D × List C5→Prop,ι:=fun p=>{ v // p v },ks:=A.ks,V:=fun _ ix=>ix.val }

section
variable {X:Pr} {r:R}
theorem c8w (s:E0) (c:Operand) (b:Bool):B4 (ev.refV s c b)=(B4 s).ref c b:=by
 cases c with
 | tmp t=>have:=a3n s (some t) (.known b);simp only [toD] at this;exact this
 | _=>rfl
theorem d7d {body:(List V→List Bx→Om)→List V→List Bx→Om} {vs:List V} {bs:List Bx} (h:CU.lp body vs bs=some r):∃ n,Nat.rec (motive:=fun _=>List V→List Bx→Om) (fun _ _=>none) (fun _ ih=>body ih) n vs bs=some r:=⟨E3,h⟩

theorem R8 {fn:FuncId→F3} {cr:V9} (htab:X.tab=[]) (hfn:∀ g,G8 X g (fn g)) (hcr:a4a cr) {n0:Nat} {AL AJ:Nat→Option Ann}:∀ (c:Code) {p q:Nat} {s:E0} {K:E0→Om} {Kx:Nat→E0→Om} {Kr:E0→Om} {Kp:V→Om},
  ev CU X fn cr n0 AL AJ c p q s K Kx Kr Kp=some r→∀ {K':St→Prop} {Kx':Nat→St→Prop} {Kr':St→Prop} {Kp':D→Prop},(∀ s,K s=some r→K' (B4 s))→(∀ j s,Kx j s=some r→Kx' j (B4 s))→(∀ s,Kr s=some r→Kr' (B4 s))→(∀ v,Kp v=some r→Kp' (toD v)) →
  vc X n0 (fun _ body s=>a2g n0 body s) (fun q=>(AJ q).map b2h) c p q (B4 s) K' Kx' Kr' Kp'
 | .skip,p,q,s,K,Kx,Kr,Kp,h,K',Kx',Kr',Kp',hK,hx,hr,hp=>hK s h
 | .region id ops draw,p,q,s,K,Kx,Kr,Kp,h,K',Kx',Kr',Kp',hK,hx,hr,hp=>c82 htab hfn hcr h hK hp
 | .seq a b,p,q,s,K,Kx,Kr,Kp,h,K',Kx',Kr',Kp',hK,hx,hr,hp=>by
  simp only [ev] at h;simp only [vc];have el:(B4 s).tmps.length=s.tmps.length:=by simp [B4]
  split at h
  ·rename_i hj;rw [hj];exact R8 htab hfn hcr a h (fun s' h=>R8 htab hfn hcr b h hK hx hr hp) hx hr hp
  ·rename_i A hj;rw [hj];simp only [Option.map_some,b2h];have h:jn _ _=some r:=h;unfold jn at h;refine ⟨fun v=>vc X n0 (fun _ body s=>a2g n0 body s) (fun q=>(AJ q).map b2h) b (p+Q9 a) (q+1+W0 a) (a86 (B4 s).tmps.length A.ks v) K' Kx' Kr' Kp',?_,fun ix=>ix.property⟩;refine R8 htab hfn hcr a h (fun s' h=>?_) hx hr hp;rw [el,← b65];cases hok:a5n n0 s.tmps.length A.ks s' with
   | false=>rw [hok] at h;cases h
   | true =>
    rw [hok] at h;simp only [cond_true] at h ⊢;obtain ⟨vs',e1,h⟩:=M3 h;obtain ⟨bs',e2,h⟩:=Z5 h;refine .mk ⟨gcV n0 A.ks (B4 s'),?_⟩ rfl;rw [c0w,← e1,← e2,← c8t];exact R8 htab hfn hcr b h hK hx hr hp
 | .cond c t e,p,q,s,K,Kx,Kr,Kp,h,K',Kx',Kr',Kp',hK,hx,hr,hp=>by
  simp only [ev] at h;simp only [vc];rw [A6];split at h
  ·rename_i b hc;rw [hc];simp only [toD];have e0:(B4 s).eval c=.bool b:=by rw [A6,hc];simp only [toD]
   cases b
   ·simp only [cond_false] at h ⊢;rw [b09 e0];exact R8 htab hfn hcr e h hK hx hr hp
   ·simp only [cond_true] at h ⊢;rw [b09 e0];exact R8 htab hfn hcr t h hK hx hr hp
  ·obtain ⟨b,hv,h⟩:=a02 h;rw [hv];simp only [];have h:cnd b _ _=some r:=h;rw [a9d] at h;cases b
   ·simp only [cond_false] at h ⊢;rw [← c8w];exact R8 htab hfn hcr e h hK hx hr hp
   ·simp only [cond_true] at h ⊢;rw [← c8w];exact R8 htab hfn hcr t h hK hx hr hp
 | .block id c,p,q,s,K,Kx,Kr,Kp,h,K',Kx',Kr',Kp',hK,hx,hr,hp=>by
  simp only [ev] at h;simp only [vc];refine R8 htab hfn hcr c h hK (fun j s h=>?_) hr hp;cases hj:Nat.beq j id with
  | true=>rw [hj] at h;exact hK s h
  | false=>rw [hj] at h;exact hx j s h
 | .loop c,p,q,s,K,Kx,Kr,Kp,h,K',Kx',Kr',Kp',hK,hx,hr,hp=>by
  simp only [ev] at h;simp only [vc];have el:(B4 s).tmps.length=s.tmps.length:=by simp [B4]
  split at h
  ·cases h
  ·rename_i A hA;cases hok:a5n n0 s.tmps.length A.ks s with
   | false=>rw [hok] at h;cases h
   | true =>
    rw [hok] at h;simp only [cond_true] at h;obtain ⟨n,h⟩:=d7d h;generalize hbody:(fun (self:List V→List Bx→Om) (vs:List V) (bs:List Bx)=>a1q CU A.vs vs fun vs=>a07 CU A.bs bs fun bs =>
     ev CU X fn cr n0 AL AJ c (p+1) q (b5a s.tmps.length A.ks vs bs) (fun s'=>cond (a5n n0 s.tmps.length A.ks s') (self (a6r n0 A.ks s').1 (a6r n0 A.ks s').2) none) Kx Kr Kp)=body at h
    refine a2g.mk { x:(List D × List C5) × Nat // ∃ vs bs,x.1=(vs.map toD,bs.map D4)∧Nat.rec (motive:=fun _=>List V→List Bx→Om) (fun _ _=>none) (fun _ ih=>body ih) x.2 vs bs=some r } (fun i=>i.val.1) (fun i=>i.val.2)
     ⟨(gcV n0 A.ks (B4 s),n),_,_,c0w n0 A.ks s,h⟩ A.ks (by rw [el,← b65];exact hok) rfl ?_
    rintro ⟨⟨v,m⟩,vs,bs,hv,hrun⟩;simp only at hv hrun ⊢;cases m with
    | zero=>cases hrun
    | succ m =>
     have hrun:body (Nat.rec (motive:=fun _=>List V→List Bx→Om) (fun _ _=>none) (fun _ ih=>body ih) m) vs bs=some r:=hrun;rw [← hbody] at hrun;obtain ⟨vs',e1,hrun⟩:=M3 hrun;obtain ⟨bs',e2,hrun⟩:=Z5 hrun;subst hv;rw [el];have e3:B4 (b5a s.tmps.length A.ks vs' bs')=a86 s.tmps.length A.ks (vs.map toD,bs.map D4):=by rw [c8t,e1,e2]
     rw [← e3];refine R8 htab hfn hcr c hrun (fun s' h'=>?_) hx hr hp;rw [← b65];cases hok':a5n n0 s.tmps.length A.ks s' with
     | false=>rw [hok'] at h';cases h'
     | true =>
      rw [hok'] at h';simp only [cond_true] at h' ⊢;rw [hbody] at h';exact .mk ⟨(gcV n0 A.ks (B4 s'),m),_,_,c0w n0 A.ks s',h'⟩ (Nat.lt_succ_self m) rfl
 | .exit j,p,q,s,K,Kx,Kr,Kp,h,K',Kx',Kr',Kp',hK,hx,hr,hp=>hx j s h
 | .ret,p,q,s,K,Kx,Kr,Kp,h,K',Kx',Kr',Kp',hK,hx,hr,hp=>hr s h
 | .rangeFunc ..,_,_,_,_,_,_,_,h,_,_,_,_,_,_,_,_=>by cases h
 | .scope _,_,_,_,_,_,_,_,h,_,_,_,_,_,_,_,_=>by cases h
 | .label _,_,_,_,_,_,_,_,h,_,_,_,_,_,_,_,_=>by cases h
 | .goto _,_,_,_,_,_,_,_,h,_,_,_,_,_,_,_,_=>by cases h
 | .refuse _,_,_,_,_,_,_,_,h,_,_,_,_,_,_,_,_=>by cases h
end

def b1c (C:Comb) (P:Program) (s:E0):List ResultVar→(List V→Om)→Om
 | [],K=>K []
 | .tmp t :: rs,K=>b1c C P s rs fun vs=>K (Q3 s.tmps t :: vs)
 | .cell x t :: rs,K=>match Q3 s.tmps x with
  | .ptr id off=>match O3 s.heap id with
   | .cells cs=>b9g C P t cs off fun v=>b1c C P s rs fun vs=>K (v :: vs)
   | .opa y m=>b40 C P t y off m fun v=>b1c C P s rs fun vs=>K (v :: vs)
   | _=>none
  | _=>none
def c7q:List V→V
 | [v]=>v
 | vs=>.tuple vs
def b5b (n:Nat) (v:V):V:=a6b (Q0 (a0v n) v)
theorem b9y (n:Nat) (v:V):toD (b5b n v)=U7 n (toD v):=by unfold b5b U7;rw [b9x,V3]
def c6w (C:Comb) (n:Nat) (h:List Bx) (g:Option Nat) (v:V) (K:V→Om):Om:=match g,v with
 | some z,.slice t m off len (.tok id)=>match O3 h id with
  | .tok l z'=>bif Nat.ble n id && (Nat.beq z' z && Nat.beq m z) then C.chk (C.nEq l len) (K (.slice t m off len (.fr z))) else none
  | _=>none
 | some z,.slice t m off len .exact=>bif Nat.beq m z then K (.slice t m off len (.fr z)) else bif Nat.beq m 0 then C.chk (C.nEq len 0) (K (.slice .nil z 0 0 (.fr z))) else none
 | _,v=>K (b5b n v)
def a9k (C:Comb) (n:Nat) (h:List Bx):List (Option Nat)→List V→(List V→Om)→Om
 | _,[],K=>K []
 | [],v :: vs,K=>a9k C n h [] vs fun r=>K (b5b n v :: r)
 | g :: gv,v :: vs,K=>c6w C n h g v fun v=>a9k C n h gv vs fun r=>K (v :: r)
def c0s (C:Comb) (P:Program) (rs:List ResultVar) (n:Nat) (gv:List (Option Nat)) (s:E0):Om :=
 b1c C P s rs fun vs=>match a9c s.heap (List.range n) with
  | some bs=>a9k C n s.heap gv vs fun vs=>some (.ret (c7q vs),bs.map (a05 (a0v n)))
  | none=>none
def b9w (ntmps:Nat) (vs:List V) (bs:List Bx):E0:={ tmps:=vs ++ List.replicate (ntmps - vs.length) (.tuple []),heap:=bs }
def e1r (U:C3) (X:Pr) (fn:FuncId→F3) (cr:V9) (AL AJ:Nat→Option Ann) (gv:List (Option Nat)) (f:Func):F3:=fun vs bs =>
 ev U X fn cr bs.length AL AJ (f.body.getD .skip) 0 0 (b9w f.ntmps vs bs) (c0s U.toComb X.P f.results.toList bs.length gv) (fun _ _=>none) (c0s U.toComb X.P f.results.toList bs.length gv) (fun v=>some (.pan v,bs))

section
variable {X:Pr} {r:R}
theorem a5r {P:Program} {s:E0}:∀ {rs:List ResultVar} {K:List V→Om},b1c CR P s rs K=some r→∃ vs,K vs=some r∧a4z P (B4 s) rs=some (vs.map toD)
 | [],K,h=>⟨[],h,rfl⟩
 | .tmp t :: rs,K,h=>by
  simp only [b1c] at h;obtain ⟨vs,h,e⟩:=a5r h;exact ⟨_,h,by simp only [a4z,e,Option.map_some,List.map_cons,a4l]⟩
 | .cell x t :: rs,K,h=>by
  simp only [b1c] at h;split at h
  ·rename_i id off hx;split at h
   ·rename_i cs hb;obtain ⟨v,h,hr⟩:=b08 h;obtain ⟨vs,h,e⟩:=a5r h;have hh:=R9 hb (by simp);refine ⟨_,h,?_⟩;simp only [a4z,a4l,hx,toD,hh,D4,hr,Option.bind_some,e,Option.map_some,List.map_cons]
   ·rename_i y m hb;obtain ⟨v,h,hr⟩:=a5q h;obtain ⟨vs,h,e⟩:=a5r h;have hh:=R9 hb (by simp);have:=hr 0 (Nat.zero_le _);rw [Nat.sub_zero,Nat.sub_zero] at this;refine ⟨_,h,?_⟩;simp only [a4z,a4l,hx,toD,hh,D4,this,Option.bind_some,e,Option.map_some,List.map_cons]
   ·cases h
  ·cases h
theorem d7r (vs:List V):toD (c7q vs)=b05 (vs.map toD):=by
 unfold c7q;split
 ·rfl
 ·rename_i h
  match vs,h with
  | [],_=>simp only [toD,Q5,List.map_nil,b05]
  | [v],h=>exact absurd rfl (h v)
  | v :: w :: vs,_=>simp only [toD,F5,List.map_cons,b05]
theorem c9l {n:Nat} {s:E0} {g:Option Nat} {v:V} {K:V→Om} (h:c6w CR n s.heap g v K=some r):∃ v',K v'=some r∧a3u n (B4 s).heap g (toD v)=toD v':=by
 unfold c6w at h;split at h
 ·rename_i z t m off len id;split at h
  ·rename_i l z' hb;have hh:=R9 hb (by simp);simp only [D4] at hh;cases hg:Nat.ble n id && (Nat.beq z' z && Nat.beq m z) with
   | false=>rw [hg] at h;cases h
   | true =>
    rw [hg] at h;simp only [cond_true] at h;obtain ⟨h0,h⟩:=F8 h;have h0:Nat.beq l len=true:=h0;simp only [Bool.and_eq_true] at hg;obtain ⟨g1,g2,g3⟩:=hg;have:=Nat.eq_of_beq_eq_true g3;subst this;refine ⟨_,h,?_⟩;simp only [toD,a3u,hh,g1,g2,h0,I8,Nat.beq_refl,Bool.and_self,cond_true]
  ·cases h
 ·rename_i z t m off len;cases hm:Nat.beq m z with
  | true =>
   rw [hm] at h;have:=Nat.eq_of_beq_eq_true hm;subst this;exact ⟨_,h,by simp only [toD,a3u,I8,Nat.beq_refl,cond_true]⟩
  | false =>
   rw [hm] at h;simp only [cond_false] at h;cases h0:Nat.beq m 0 with
   | false=>rw [h0] at h;cases h
   | true =>
    rw [h0] at h;simp only [cond_true] at h;obtain ⟨h1,h⟩:=F8 h;have h1:Nat.beq len 0=true:=h1;have:=Nat.eq_of_beq_eq_true h1;subst this;exact ⟨_,h,by simp only [toD,a3u,rows,List.length_nil,Nat.zero_mul,Nat.beq_refl,cond_true]⟩
 ·rename_i hn1 hn2;refine ⟨_,h,?_⟩;rw [b9y];unfold a3u;split
  ·rename_i z len c id hd;exfalso;cases v <;> simp only [toD] at hd <;> first | (cases hd;done) | skip
   ·injection hd with _ _ hd;subst hd;exact hn1 _ _ _ _ _ _ rfl rfl
   ·cases a0w _ _ _ _ _ hd
  ·rename_i z len c hd;exfalso;cases v <;> simp only [toD] at hd <;> first | (cases hd;done) | skip
   ·injection hd with _ _ hd;subst hd;exact hn2 _ _ _ _ _ rfl rfl
   ·cases a0w _ _ _ _ _ hd
  ·rfl
theorem a8r {n:Nat} {s:E0}:∀ {gv:List (Option Nat)} {vs:List V} {K:List V→Om},a9k CR n s.heap gv vs K=some r→∃ vs',K vs'=some r∧a0d n (B4 s).heap gv (vs.map toD)=vs'.map toD
 | gv,[],K,h=>by cases gv <;> exact ⟨[],h,by simp [a0d]⟩
 | [],v :: vs,K,h=>by
  simp only [a9k] at h;obtain ⟨vs',h,e⟩:=a8r h;exact ⟨_,h,by simp only [List.map_cons,a0d,b9y,e]⟩
 | g :: gv,v :: vs,K,h=>by
  simp only [a9k] at h;obtain ⟨v',h,e1⟩:=c9l h;obtain ⟨vs',h,e⟩:=a8r h;exact ⟨_,h,by simp only [List.map_cons,a0d,e1,e]⟩
theorem a4j {P:Program} {rs:List ResultVar} {n:Nat} {gv:List (Option Nat)} {s:E0} {x:K0} {bs':List Bx} (h:c0s CR P rs n gv s=some (x,bs')):fin P rs n gv (b3h x) (bs'.map K1) (B4 s):=by
 obtain ⟨vs,h,e⟩:=a5r h;split at h
 ·rename_i bs hb;obtain ⟨vs',h,eg⟩:=a8r h;injection h with h;injection h with h1 h2;subst h1 h2;obtain ⟨q1,q2,q3⟩:=a8h hb;have q1:T0 (B4 s).heap (List.range n)=some (bs.map K1):=q1;unfold fin;rw [e,q1];refine ⟨?_,?_⟩
  ·simp only [b3h,d7r,eg]
  ·rw [List.map_map,List.map_map];exact List.map_congr_left fun b hb=>(b42 (a0v n) (List.all_eq_true.1 q2 b hb)).symm
 ·cases h
theorem b93 (n:Nat) (vs:List V) {bs:List Bx} (h:bs.all L2=true):B4 (b9w n vs bs)=start n (vs.map toD) (bs.map K1):=by
 unfold b9w start B4;simp only [List.map_append,List.map_replicate,List.length_map,List.map_map,toD,Q5];congr 1;exact List.map_congr_left fun b hb=>d0l (List.all_eq_true.1 h b hb)

theorem e7d {fn:FuncId→F3} {cr:V9} (htab:X.tab=[]) (hfn:∀ g,G8 X g (fn g)) (hcr:a4a cr) {AL AJ:Nat→Option Ann} {gv:List (Option Nat)} {f:FuncId} {F:Func} (hf:X.P.funcs[f]?=some F) (hb:F.body.isSome=true)
  (hcall:∀ args w,(callFunc f args).run X.P w=.ok (.enter f args) w):G8 X f (e1r CU X fn cr AL AJ gv F):=by
 intro vs bs x bs' h hok;obtain ⟨c,hc⟩:=Option.isSome_iff_exists.1 hb;unfold e1r at h;rw [hc] at h;have:=R8 (X:=X) htab hfn hcr c h (K':=fin X.P F.results.toList bs.length gv (b3h x) (bs'.map K1)) (Kx':=fun _ _=>False) (Kr':=fin X.P F.results.toList bs.length gv (b3h x) (bs'.map K1)) (Kp':=fun d=>b3h x=.pan d)
  (fun s h=>a4j h) (fun _ _ h=>by cases h) (fun s h=>a4j h) (fun v h=>by injection h with h;injection h with h1 h2;rw [← h1];rfl)
 rw [b93 _ _ hok] at this;have e:(bs.map K1).length=bs.length:=by simp
 refine a3c (X:=X) (gv:=gv) (L:=fun _ body s=>a2g bs.length body s) (J:=fun q=>(AJ q).map b2h) hf hc hcall (fun _ _ _ h=>by rw [e];exact h) ?_;rw [e];exact this

end
def d3q (U:C3) (X:Pr) (fn:FuncId→F3) (cr:V9) (AL AJ:Nat→Option Ann) (gv:List (Option Nat)) (f:Func):F3:=fun vs bs=>match f.body with
 | some (.seq A (.seq R C))=>match a9g R with
  | some (_,t)=>ev U X fn cr bs.length AL AJ A 0 0 (b9w f.ntmps vs bs) (fun s=>match Q3 s.tmps t with
    | .ptr _ _=>ev U X fn cr bs.length AL AJ C (Q9 A) (W0 A) s (c0s U.toComb X.P f.results.toList bs.length gv) (fun _ _=>none) (c0s U.toComb X.P f.results.toList bs.length gv) (fun _=>none)
    | _=>none) (fun _ _=>none) (c0s U.toComb X.P f.results.toList bs.length gv) (fun _=>none)
  | none=>none
 | _=>none
def d3j (f:Func):Option FuncId:=match f.body with
 | some (.seq _ (.seq R _))=>(a9g R).map (·.1)
 | _=>none
section
variable {X:Pr} {r:R}
theorem e1s {fn:FuncId→F3} {cr:V9} (htab:X.tab=[]) (hfn:∀ g,G8 X g (fn g)) (hcr:a4a cr) {AL AJ:Nat→Option Ann} {gv:List (Option Nat)} {f g:FuncId} {F:Func} (hf:X.P.funcs[f]?=some F) (hd:d3j F=some g)
  (hcall:∀ args w,(callFunc f args).run X.P w=.ok (.enter f args) w) (hg:∀ args w,(callFunc g args).run X.P w=.ok (.enter g args) w) (hidle:e00 X.P g):G8 X f (d3q CU X fn cr AL AJ gv F):=by
 intro vs bs x bs' h hok;unfold d3q at h;unfold d3j at hd;split at h
 ·rename_i A R C hb;rw [hb] at hd;simp only [] at hd;split at h
  ·rename_i g' t hR;rw [hR] at hd;injection hd with hd;subst hd;have e:(bs.map K1).length=bs.length:=by simp
   refine c0k (X:=X) (gv:=gv) (L:=fun _ body s=>a2g bs.length body s) (J:=fun q=>(AJ q).map b2h) hf hb hR hcall hg hidle (fun _ _ _ h=>by rw [e];exact h) ?_;rw [e,← b93 _ _ hok];refine R8 (X:=X) htab hfn hcr A h (fun s h=>?_) (fun _ _ h=>by cases h) (fun s h=>a4j h) (fun v h=>by cases h);split at h
   ·rename_i id off hp;refine ⟨⟨id,off,?_⟩,R8 (X:=X) htab hfn hcr C h (fun s h=>a4j h) (fun _ _ h=>by cases h) (fun s h=>a4j h) (fun v h=>by cases h)⟩;have:=A6 s (.tmp t);have e2:(B4 s).eval (.tmp t)=(B4 s).tmps.getD t .junk:=rfl;rw [← e2,this];show toD (Q3 s.tmps t)=_;rw [hp];simp only [toD]
   ·cases h
  ·cases h
 ·cases h
end
end
end Go.Abs
