/- What the operations say, run: second part. -/
import Derived.Test.YtdldcfllnohkeaaGreatDoorCQ1
set_option linter.all false
namespace Go.Abs
noncomputable section

theorem b1m:∀ (vs ds:List D) (off:Nat),off+vs.length≤ds.length→O4 ds off vs=ds.take off ++ vs ++ ds.drop (off+vs.length)
 | [],ds,off,h=>by simp [O4]
 | v :: vs,ds,off,h=>by
  simp only [List.length_cons] at h
  simp only [O4]
  rw [b1m vs _ _ (by simp;omega)]
  have e1:(ds.set off v).take (off+1)=ds.take off ++ [v]:=by
   apply List.ext_getElem?
   intro i
   rcases Nat.lt_or_ge i off with hi | hi
   ·rw [List.getElem?_take_of_lt oM,List.getElem?_set_ne oM,List.getElem?_append_left (by simp;omega),List.getElem?_take_of_lt hi]
   ·rcases Nat.eq_or_lt_of_le hi with hi | hi
    ·subst hi
     rw [List.getElem?_take_of_lt oM,List.getElem?_set_self oM,List.getElem?_append_right (by simp;omega)]
     simp [Nat.min_eq_left (show off≤ds.length by omega)]
    ·rw [List.getElem?_eq_none (by simp;omega),List.getElem?_eq_none (by simp;omega)]
  have e2:(ds.set off v).drop (off+1+vs.length)=ds.drop (off+1+vs.length):=by
   apply List.ext_getElem?
   intro i
   rw [List.getElem?_drop,List.getElem?_drop,List.getElem?_set_ne oM]
  rw [e1,e2]
  simp only [List.append_assoc,List.cons_append,List.nil_append,List.length_cons]
  rw [show off+1+vs.length=off+(vs.length+1) by omega]

section
variable {X:Pr} {s:A9} {nid:Nat} {r:R}

theorem c17 {n:Nat}:∀ {ps:List (Nat × V)} {i:Nat} {ds:List D} {qs:List Q},a4w n i ps=some qs→ds.length=(i+ps.length) * n →
  ∃ out,a4f (fun i=>some (i * n,n)) ds (ps.map fun p=>(p.1,toD p.2))=some out∧out.map (renI a0e)=(ds.take (i * n)).map (renI a0e) ++ qs.flatMap fun q=>t8 (den q) 0 n
 | [],i,ds,qs,h,hl=>by
  simp only [a4w] at h
  injection h with h
  subst h
  refine ⟨ds,rfl,?_⟩
  simp only [List.flatMap_nil,List.append_nil]
  rw [List.take_of_length_le (by rw [hl];simp)]
 | (j,v) :: ps,i,ds,qs,h,hl=>by
  simp only [a4w] at h
  split at h
  ·rename_i q qs' hj hq hqs
   injection h with h
   subst h
   have:=Nat.eq_of_beq_eq_true hj
   subst this
   obtain ⟨h1,h2,h3⟩:=d3k hq
   simp only [List.length_cons] at hl
   have hle:i * n+n≤ds.length:=by
    rw [hl]
    have:(i+1) * n≤(i+(ps.length+1)) * n:=Nat.mul_le_mul_right n oM
    rw [Nat.succ_mul] at this
    exact this
   have hw:O4 ds (i * n) (toD v).cells=ds.take (i * n) ++ (toD v).cells ++ ds.drop (i * n+n):=by
    rw [b1m _ _ _ (by rw [h2];exact hle),h2]
   have hlen:(O4 ds (i * n) (toD v).cells).length=(i+1+ps.length) * n:=by
    rw [hw]
    simp only [List.length_append,List.length_take,List.length_drop,h2]
    have:(i+1+ps.length) * n=ds.length:=by rw [hl];congr 1;omega
    omega
   obtain ⟨out,ho,hm⟩:=c17 hqs hlen
   refine ⟨out,?_,?_⟩
   ·simp only [List.map_cons,a4f,h1,h2]
    have e1:Nat.ble (i * n+n) ds.length=true:=by rw [Nat.ble_eq];exact hle
    rw [e1]
    simp only [beq_self_eq_true,Bool.and_self,cond_true]
    exact ho
   ·rw [hm,hw,Nat.succ_mul]
    have e2:(ds.take (i * n) ++ (toD v).cells ++ ds.drop (i * n+n)).take (i * n+n)=ds.take (i * n) ++ (toD v).cells :=
     List.take_left' (by simp only [List.length_append,List.length_take,h2];omega)
    rw [e2,List.map_append,h3,List.flatMap_cons,List.append_assoc]
  ·cases h
theorem b1o {n:Nat}:∀ {ps:List (Nat × V)} {i:Nat} {qs:List Q},a4w n i ps=some qs→qs.length=ps.length
 | [],i,qs,h=>by simp only [a4w] at h;injection h with h;subst h;rfl
 | (j,v) :: ps,i,qs,h=>by
  simp only [a4w] at h
  split at h
  ·rename_i q qs' hj hq hqs
   injection h with h
   subst h
   simp [b1o hqs]
  ·cases h
theorem d7i:∀ (qs:List Q) (i:Nat) (t:j8 Q),i+qs.length+2≤2 ^ P2→(∀ k,k < i→K5 (y8 (mkT qs i t)) k=K5 (y8 t) k)∧∀ k q,qs[k]?=some q→K5 (y8 (mkT qs i t)) (i+k)=den q
 | [],i,t,_=>⟨fun _ _=>rfl,fun k q h=>by simp at h⟩
 | q :: qs,i,t,hb=>by
  simp only [List.length_cons] at hb
  obtain ⟨h1,h2⟩:=d7i qs (i+1) (t.set .no q P2 i) oM
  refine ⟨fun k hk=>?_,fun k x hx=>?_⟩
  ·simp only [mkT];rw [h1 k oM,a5q _ _ _ oM]
  ·simp only [mkT]
   cases k with
   | zero =>
    simp at hx;subst hx
    show K5 (y8 (mkT qs (i+1) (j8.set Q.no q P2 t i))) i=den q
    rw [h1 i oM,b3y _ _ oM]
   | succ k =>
    simp only [List.getElem?_cons_succ] at hx
    have:=h2 k x hx
    rw [show i+1+k=i+(k+1) by omega] at this
    exact this
theorem c26 {T:j8 Den} {n:Nat}:∀ (qs:List Q) (off:Nat),(∀ k q,qs[k]?=some q→K5 T (off+k)=den q)→rows T n off qs.length=qs.flatMap fun q=>t8 (den q) 0 n
 | [],off,h=>rfl
 | q :: qs,off,h=>by
  simp only [List.length_cons,rows,List.flatMap_cons]
  rw [c26 qs (off+1) (fun k x hx=>by have:=h (k+1) x (by simpa using hx);rw [show off+1+k=off+(k+1) by omega];exact this)]
  have:=h 0 q rfl
  rw [Nat.add_zero] at this
  rw [this]

theorem c83 (z:List D) (n:Nat):(a4o z n).length=n:=by simp [a4o]

theorem c8x {P:Program} {t:TypeId} {x y:V} {K:KV} (h:c1j CR P s nid t x y K=some r):∃ v ws rs,K v ws rs=some r∧a3u P (o7 s) nid t (toD x) (toD y)=some ⟨true,toD v,E1 ws,rs⟩:=by
 unfold c1j at h
 split at h
 ·rename_i e hu
  split at h
  ·rename_i n b z hn hb hz
   cases hg:Nat.beq z.length n && Nat.blt 0 n && a2g s nid with
   | false=>rw [hg] at h;cases h
   | true =>
    rw [hg] at h
    simp only [cond_true] at h
    simp only [Bool.and_eq_true] at hg
    obtain ⟨⟨g1,g2⟩,g3⟩:=hg
    obtain ⟨tr,off,len,c,hx,h⟩:=a2d h
    obtain ⟨t2,off2,m,_,hy,h⟩:=a2d h
    obtain ⟨h0,h⟩:=D5 h
    have h0:(band (Nat.ble ((len+m) * b) 140737488355328) (Nat.ble (len+m) 140737488355328))=true:=h0
    rw [CfN] at h
    rw [N8,Bool.and_eq_true,Nat.ble_eq,Nat.ble_eq] at h0
    obtain ⟨t',h,hold,hnew⟩:=d0j m (t:=tr) (i:=off+len) (j:=off2) h
    have hrows:rows (y8 t') n off (len+m)=rows (y8 tr) n off len ++ rows (y8 t2) n off2 m:=by
     rw [b5d]
     congr 1
     ·exact b08 len off off fun k hk=>hold _ oM
     ·exact b08 m (off+len) off2 fun k hk=>hnew k hk
    have hz':=a3m hz
    have hzl:Nat.beq (z.map toD).length n=true:=by rw [List.length_map];exact g1
    have hneed:(decide ((len+m) * b≤I7∧len+m≤I7∧(rows (y8 tr) n off len).length=len * n∧(rows (y8 t2) n off2 m).length=m * n) && (rows (y8 t2) n off2 m).all D.one)=true:=by
     rw [c76,Bool.and_true,decide_eq_true_iff]
     exact ⟨h0.1,h0.2,G1 _ _,G1 _ _⟩
    split at h
    ·refine ⟨_,_,_,h,?_⟩
     simp only [u6,nAdd,Nat.add_eq,a3u,hu,hx,hy,hn,hb,hz',hzl,g2,a79 g3,Bool.and_self,cond_true,hneed,toD,hrows,E1,List.map_cons,List.map_nil,C5]
    ·rename_i id
     split at h
     ·rename_i l k hbx
      obtain ⟨h1,h⟩:=D5 h
      have h1:(band (Nat.beq l len) (Nat.beq k n))=true:=h1
      rw [N8,Bool.and_eq_true] at h1
      refine ⟨_,_,_,h,?_⟩
      have hh:=W5 hbx (by simp)
      simp only [C5] at hh
      simp only [u6,nAdd,Nat.add_eq,a3u,hu,hx,hy,hn,hb,hz',hzl,g2,a79 g3,Bool.and_self,cond_true,hneed,toD,hrows,E1,List.map_cons,List.map_nil,C5,hh,h1.1,h1.2]
     ·cases h
    ·cases h
  ·cases h
 ·cases h

theorem a8r {v:V} {x:Q} (h:c1h v=some x):toD v=den x 0:=by
 unfold c1h at h
 split at h <;> first
  | (injection h with h;subst h;simp only [toD,den];rfl)
  | (injection h with h;subst h;simp only [toD])
  | cases h
theorem d4l {b:Bx} {cs:List V} (h:d4k CR b=some cs):C5 b=.cells (cs.map toD)∧b ≠ .dead:=by
 unfold d4k at h
 split at h
 ·injection h with h;subst h;exact ⟨rfl,by simp⟩
 ·rename_i x m
  injection h with h
  subst h
  refine ⟨?_,by simp⟩
  simp only [C5,M8,List.map_map]
  congr 1
  exact List.map_congr_left fun i _=>by simp only [Function.comp,toD];exact (a3t x i).symm
 ·cases h
theorem e24 {tr:j8 Q} {y:Q} {off len:Nat} (h1:off < len) (h2:off+2≤2 ^ P2):rows (y8 (tr.set .no y P2 off)) 1 0 len=(rows (y8 tr) 1 0 len).set off (den y 0):=by
 have key:∀ (T:j8 Den) (m o i:Nat),i < m→(rows T 1 o m)[i]?=some (K5 T (o+i) 0):=by
  intro T m
  induction m with
  | zero=>intro o i hi;omega
  | succ m ih =>
   intro o i hi
   simp only [rows,t8,List.cons_append,List.nil_append]
   cases i with
   | zero=>rfl
   | succ i =>
    rw [List.getElem?_cons_succ,ih (o+1) i oM]
    rw [show o+1+i=o+(i+1) by omega]
 apply List.ext_getElem?
 intro i
 rcases Nat.lt_or_ge i len with hi | hi
 ·rw [key _ _ _ _ hi,Nat.zero_add]
  by_cases he:off=i
  ·subst he
   rw [List.getElem?_set_self (by rw [G1,Nat.mul_one];exact hi),b3y _ _ h2]
  ·rw [List.getElem?_set_ne he,key _ _ _ _ hi,Nat.zero_add,a5q _ _ _ (fun e=>he e.symm)]
 ·rw [List.getElem?_eq_none (by rw [G1,Nat.mul_one];exact hi),List.getElem?_eq_none (by rw [List.length_set,G1,Nat.mul_one];exact hi)]
end

section
variable {X:Pr} {s:A9} {nid:Nat} {r:R}

theorem c7h (l:List Operand):l.map (o7 s).eval=(l.map s.eval).map toD:=by
 rw [List.map_map];exact List.map_congr_left fun x _=>n8 s x

theorem d89 {t:TypeId} {parts:Array (Nat × Operand)} {K:KV} (h:S6 CR X s nid (.build t parts) K=some r):∃ v ws rs,K v ws rs=some r∧s9 X (o7 s) nid (.build t parts)=some ⟨true,toD v,E1 ws,rs⟩:=by
 simp only [S6] at h
 split at h
 ·rename_i fs z hu hz
  split at h
  ·rename_i cs hf
   cases ha:(fs.all fun f=>(E0 X.P f.type).isSome) with
   | false=>rw [ha] at h;cases h
   | true =>
    rw [ha] at h
    refine ⟨_,_,_,h,?_⟩
    have:=b7o hf
    simp only [List.map_map] at this
    have e:(parts.toList.map fun p=>(p.1,(o7 s).eval p.2))=parts.toList.map ((fun p:Nat × V=>(p.1,toD p.2)) ∘ fun p=>(p.1,s.eval p.2)) :=
     List.map_congr_left fun p _=>by simp only [Function.comp,n8]
    rw [← e] at this
    simp only [u6,s9,hu,a3m hz,this,F2,ha,toD,D3]
    rfl
  ·cases h
 ·cases h
theorem c1l {t:TypeId} {len:Nat} {parts:Array (Nat × Operand)} {K:KV} (h:S6 CR X s nid (.buildSlice t len parts) K=some r):∃ v ws rs,K v ws rs=some r∧s9 X (o7 s) nid (.buildSlice t len parts)=some ⟨true,toD v,E1 ws,rs⟩:=by
 simp only [S6] at h
 split at h
 ·rename_i e hu
  split at h
  ·rename_i n z hn hz
   split at h
   ·rename_i qs hq
    cases hg:Nat.beq qs.length len && (Nat.ble (len * n) 16777216 && Nat.ble len 16777216) with
    | false=>rw [hg] at h;cases h
    | true =>
     rw [hg] at h
     simp only [Bool.and_eq_true] at hg
     obtain ⟨g1,g2,g3⟩:=hg
     have hql:=Nat.eq_of_beq_eq_true g1
     refine ⟨_,_,_,h,?_⟩
     have hpl:=b1o hq
     simp only [List.length_map] at hpl
     obtain ⟨out,ho,hm⟩:=c17 hq (ds:=a4o (z.map toD) (len * n)) (by rw [c83,Nat.zero_add,List.length_map,← hpl,hql])
     simp only [List.map_map] at ho
     have e:(parts.toList.map fun p=>(p.1,(o7 s).eval p.2))=parts.toList.map ((fun p:Nat × V=>(p.1,toD p.2)) ∘ fun p=>(p.1,s.eval p.2)) :=
      List.map_congr_left fun p _=>by simp only [Function.comp,n8]
     rw [← e] at ho
     simp only [u6,s9,hu,hn,a3m hz,ho,F2,g2,toD,hm,Nat.zero_mul,List.take_zero,List.map_nil,List.nil_append]
     have hb:0+qs.length+2≤2 ^ P2:=by
      rw [Nat.ble_eq] at g3
      show 0+qs.length+2≤2 ^ 48
      omega
     obtain ⟨_,h2⟩:=d7i qs 0 .nil hb
     rw [← hql,c26 qs 0 h2]
     rfl
   ·cases h
  ·cases h
 ·cases h
theorem e3z {t:TypeId} {a:Operand} {K:KV} (h:S6 CR X s nid (.load t a) K=some r):∃ v ws rs,K v ws rs=some r∧s9 X (o7 s) nid (.load t a)=some ⟨true,toD v,E1 ws,rs⟩:=by
 simp only [S6] at h
 split at h
 ·rename_i id off ha
  split at h
  ·rename_i cs hb
   obtain ⟨v,h,hr⟩:=b02 h
   have hh:=W5 hb (by simp)
   refine ⟨_,_,_,h,?_⟩
   simp only [u6,s9,n8,ha,toD,hh,C5,hr,Option.map_some]
   rfl
  ·rename_i x m hb
   obtain ⟨v,h,hr⟩:=a5x h
   have hh:=W5 hb (by simp)
   have:=hr 0 (Nat.zero_le _)
   rw [Nat.sub_zero,Nat.sub_zero] at this
   refine ⟨_,_,_,h,?_⟩
   simp only [u6,s9,n8,ha,toD,hh,C5,this,Option.map_some]
   rfl
  ·rename_i tr len hb
   split at h
   ·rename_i hag
    obtain ⟨h0,h⟩:=D5 h
    have h0:(Nat.ble (off+1) len)=true:=h0
    rw [CfQ] at h
    rw [Nat.ble_eq] at h0
    have hh:=W5 hb (by simp)
    refine ⟨_,_,_,h,?_⟩
    have key:(rows (y8 tr) 1 0 len)[off]?=some (den (tQ tr off) 0):=by
     have h1:=c25 (T:=y8 tr) (n:=1) (off:=0) (show off < len by omega)
     rw [Nat.mul_one,Nat.zero_add] at h1
     have h2:=congrArg (·[0]?) h1
     simp only [List.getElem?_take_of_lt (show 0 < 1 by omega),List.getElem?_drop,Nat.add_zero] at h2
     rw [h2,b9i]
     rfl
    simp only [u6,s9,n8,ha,toD,hh,C5,U3,hag,key,Option.map_some]
    rfl
   ·cases h
  ·cases h
 ·rename_i x off m ha
  obtain ⟨v,h,hr⟩:=a5x h
  have:=hr off (Nat.le_refl _)
  rw [Nat.add_sub_cancel_left,Nat.sub_self] at this
  refine ⟨_,_,_,h,?_⟩
  simp only [u6,s9,n8,ha,toD,this,Option.map_some]
  rfl
 ·cases h
theorem d9b {t:TypeId} {a x:Operand} {K:KV} (h:S6 CR X s nid (.store t a x) K=some r):∃ v ws rs,K v ws rs=some r∧s9 X (o7 s) nid (.store t a x)=some ⟨true,toD v,E1 ws,rs⟩:=by
 simp only [S6] at h
 split at h
 ·rename_i id off ha
  split at h
  ·rename_i tr len hb hn
   split at h
   ·rename_i y hy
    obtain ⟨h0,h⟩:=D5 h
    have h0:(band (Nat.ble (off+1) len) (Nat.ble (off+2) 281474976710656))=true:=h0
    rw [N8,Bool.and_eq_true,Nat.ble_eq,Nat.ble_eq] at h0
    rw [show CR.sT=fun t i x K=>a27 x P2 t i K from rfl] at h
    simp only [Z6] at h
    have hh:=W5 hb (by simp)
    have hv:=a8r hy
    have ho:=O0 y 0
    refine ⟨_,_,_,h,?_⟩
    have hc:(den y 0).cells=[den y 0]:=by cases hd:den y 0 <;> rw [hd] at ho <;> first | rfl | cases ho
    have hok:(den y 0).ok=true:=by simp [D.ok,ho]
    have e1:Nat.ble (off+1) (rows (y8 tr) 1 0 len).length=true:=by rw [G1,Nat.mul_one,Nat.ble_eq];exact h0.1
    simp only [u6,s9,n8,ha,toD,hh,C5,hn,hv,hok,hc,List.all_cons,List.all_nil,ho,e1,Bool.and_self,List.length_cons,List.length_nil,Nat.zero_add,O4,E1,List.map_cons,List.map_nil,V2]
    rw [e24 oM (by show off+2≤2 ^ 48;exact h0.2)]
    rfl
   ·cases h
  ·rename_i n hn hnr
   split at h
   ·rename_i cs hcs
    obtain ⟨hB,hd⟩:=d4l hcs
    have hh:=W5 (s:=s) (i:=id) rfl hd
    rw [hB] at hh
    split at h
    ·rename_i y m hx
     have hal:(t8 (den y) 0 m).all D.one=true:=b0i (O0 y) m 0
     cases hg:Nat.beq m n && (Nat.beq off 0 && Nat.beq m cs.length) with
     | true =>
      rw [hg] at h
      simp only [Bool.and_eq_true] at hg
      obtain ⟨g1,g2,g3⟩:=hg
      have e1:=Nat.eq_of_beq_eq_true g1
      have e2:=Nat.eq_of_beq_eq_true g2
      have e3:=Nat.eq_of_beq_eq_true g3
      subst e1 e2
      refine ⟨_,_,_,h,?_⟩
      have e4:Nat.ble (0+m) (cs.map toD).length=true:=by rw [List.length_map,Nat.ble_eq];omega
      have e5:O4 (cs.map toD) 0 (t8 (den y) 0 m)=t8 (den y) 0 m:=by
       rw [b1m _ _ _ (by rw [E4,List.length_map];omega),E4,List.take_zero,List.nil_append,List.drop_of_length_le (by rw [List.length_map];omega),List.append_nil]
      simp only [u6,s9,n8,ha,hx,toD,hh,hn,D.ok,D.isAgg,D.cells,E4,g1,hal,e4,Bool.or_true,Bool.and_self,cond_true,e5,E1,List.map_cons,List.map_nil,C5,V2]
     | false =>
      rw [hg] at h
      simp only [cond_false] at h
      cases hg2:Nat.beq m n && Nat.ble (off+n) cs.length with
      | false=>rw [hg2] at h;cases h
      | true =>
       rw [hg2] at h
       simp only [Bool.and_eq_true] at hg2
       obtain ⟨g1,g2⟩:=hg2
       have e1:=Nat.eq_of_beq_eq_true g1
       subst e1
       refine ⟨_,_,_,h,?_⟩
       have e4:Nat.ble (off+m) (cs.map toD).length=true:=by rw [List.length_map];exact g2
       have e6:((b1j 0 m).map fun i=>V.q (celQ y i)).map toD=t8 (den y) 0 m:=by
        rw [M8,List.map_map]
        exact List.map_congr_left fun i _=>by simp only [Function.comp,toD];exact a3t y i
       simp only [u6,s9,n8,ha,hx,toD,hh,hn,D.ok,D.isAgg,D.cells,E4,g1,hal,e4,Bool.or_true,Bool.and_self,cond_true,E1,List.map_cons,List.map_nil,C5,V2,a8s]
       rw [e6]
    ·rename_i hna
     split at h
     ·rename_i vs hvs
      obtain ⟨hok,hcl⟩:=a4c hvs
      cases hg:Nat.beq vs.length n && (vs.all c0x && Nat.ble (off+n) cs.length) with
      | false=>rw [hg] at h;cases h
      | true =>
       rw [hg] at h
       simp only [Bool.and_eq_true] at hg
       obtain ⟨g1,g2,g3⟩:=hg
       refine ⟨_,_,_,h,?_⟩
       have e1:Nat.beq (vs.map toD).length n=true:=by rw [List.length_map];exact g1
       have e4:Nat.ble (off+n) (cs.map toD).length=true:=by rw [List.length_map];exact g3
       simp only [u6,s9,n8,ha,toD,hh,hn,hok,hcl,e1,e5w g2,e4,Bool.and_self,cond_true,E1,List.map_cons,List.map_nil,C5,V2,a8s]
     ·cases h
   ·cases h
  ·cases h
 ·cases h
theorem d9a {t:TypeId} {x:Operand} {f:Nat} {K:KV} (h:S6 CR X s nid (.field t x f) K=some r):∃ v ws rs,K v ws rs=some r∧s9 X (o7 s) nid (.field t x f)=some ⟨true,toD v,E1 ws,rs⟩:=by
 simp only [S6] at h
 split at h
 ·rename_i fs hu
  split at h
  ·rename_i fd cs hf hx
   obtain ⟨v,h,hr⟩:=b02 h
   refine ⟨_,_,_,h,?_⟩
   simp only [u6,s9,hu,hf,n8,hx,toD,D3,hr,Option.bind_some,x4]
   rfl
  ·rename_i fd y m hf hx
   obtain ⟨v,h,hr⟩:=a5x h
   have:=hr 0 (Nat.zero_le _)
   rw [Nat.sub_zero,Nat.sub_zero] at this
   refine ⟨_,_,_,h,?_⟩
   simp only [u6,s9,hu,hf,n8,hx,toD,this,Option.bind_some,x4]
   rfl
  ·cases h
 ·cases h
theorem c36 {t:TypeId} {x:Operand} {f:Nat} {K:KV} (h:S6 CR X s nid (.fieldAddr t x f) K=some r):∃ v ws rs,K v ws rs=some r∧s9 X (o7 s) nid (.fieldAddr t x f)=some ⟨true,toD v,E1 ws,rs⟩:=by
 simp only [S6] at h
 split at h
 ·rename_i fs hu
  split at h
  ·rename_i fd hf
   split at h
   ·rename_i k hs
    split at h
    ·rename_i id off hx
     exact ⟨_,_,_,h,by simp only [u6,s9,hu,hf,hs,n8,hx,toD,x4];rfl⟩
    ·rename_i y off m hx
     exact ⟨_,_,_,h,by simp only [u6,s9,hu,hf,hs,n8,hx,toD,x4,a8w];rfl⟩
    ·cases h
   ·cases h
  ·cases h
 ·cases h
theorem c37 {t:TypeId} {x i:Operand} {K:KV} (h:S6 CR X s nid (.indexAddr t x i) K=some r):∃ v ws rs,K v ws rs=some r∧s9 X (o7 s) nid (.indexAddr t x i)=some ⟨true,toD v,E1 ws,rs⟩:=by
 simp only [S6] at h
 split at h
 ·rename_i e hu
  split at h
  ·rename_i n hn
   split at h
   ·rename_i id len hx
    obtain ⟨_,k,hi,h⟩:=P9 h
    obtain ⟨h0,h⟩:=D5 h
    have h0:(band (iLe 0 k) (iLt k (len:Int)))=true:=h0
    rw [CfN] at h
    have g:0≤k∧k < (len:Int):=by simpa [N8,Y4,a1l] using h0
    refine ⟨_,_,_,h,?_⟩
    simp only [u6,s9,hu,n8,hx,hi,toD,hn,Option.bind_some,F2,decide_eq_true g,nMul,F8]
    rfl
   ·obtain ⟨tr,off,len,c,hx,h⟩:=a2d h
    obtain ⟨_,k,hi,h⟩:=P9 h
    obtain ⟨h0,h⟩:=D5 h
    have h0:(band (iLe 0 k) (iLt k (len:Int)))=true:=h0
    rw [CfQ] at h
    have g:0≤k∧k < (len:Int):=by simpa [N8,Y4,a1l] using h0
    refine ⟨_,_,_,h,?_⟩
    have g2:0≤k∧k < (len:Int)∧len * (n+1)≤(rows (y8 tr) (n+1) off len).length∧0 < n+1:=⟨g.1,g.2,by rw [G1];exact Nat.le_refl _,oM⟩
    simp only [u6,s9,hu,n8,hx,hi,toD,hn,Option.bind_some,F2,decide_eq_true g2,F8]
    rw [c25 (show k.toNat < len by omega),b9i]
    rfl
  ·cases h
 ·cases h
theorem d0d {b:Builtin} {args:Array Operand} {ts:Array TypeId} {K:KV} (h:S6 CR X s nid (.call { callee:=.builtin b,args,argTypes:=ts }) K=some r) :
  ∃ v ws rs,K v ws rs=some r∧s9 X (o7 s) nid (.call { callee:=.builtin b,args,argTypes:=ts })=some ⟨true,toD v,E1 ws,rs⟩:=by
 simp only [S6] at h
 split at h
 ·rename_i x t ha ht
  split at h
  ·rename_i hu
   obtain ⟨l,c,hx,h⟩:=a1a h
   rw [CfI] at h
   exact ⟨_,_,_,h,by simp only [u6,s9,ha,ht,hu,n8,hx,x4,toD,U0];rfl⟩
  ·rename_i e hu
   split at h
   ·rename_i id n hx
    rw [CfI] at h
    exact ⟨_,_,_,h,by simp only [u6,s9,ha,ht,hu,n8,hx,x4,toD];rfl⟩
   ·split at h
    ·obtain ⟨tr,off,len,c,hx,h⟩:=a2d h
     rw [CfI] at h
     exact ⟨_,_,_,h,by simp only [u6,s9,ha,ht,hu,n8,hx,x4,toD];rfl⟩
    ·cases h
  ·cases h
 ·rename_i x y t ts' ha ht
  split at h
  ·rename_i k hu
   obtain ⟨a,hx,h⟩:=a0b h
   obtain ⟨b,hy,h⟩:=a0b h
   rw [CfI] at h
   refine ⟨_,_,_,h,?_⟩
   simp only [u6,s9,ha,n8,hx,hy,x4,toD,c0i,a1l]
   by_cases hab:a < b
   ·simp [hab,E1]
   ·simp [hab,E1]
  ·cases h
 ·rename_i x y t ts' ha ht
  split at h
  ·rename_i k hu
   obtain ⟨a,hx,h⟩:=a0b h
   obtain ⟨b,hy,h⟩:=a0b h
   rw [CfI] at h
   refine ⟨_,_,_,h,?_⟩
   simp only [u6,s9,ha,n8,hx,hy,x4,toD,c0i,a1l]
   by_cases hab:b < a
   ·simp [hab,E1]
   ·simp [hab,E1]
  ·cases h
 ·rename_i x y t u ha ht
  cases hb:Nat.beq t u with
  | false=>rw [hb] at h;cases h
  | true =>
   rw [hb] at h
   obtain ⟨v,ws,rs,h,hd⟩:=c8x h
   exact ⟨v,ws,rs,h,by simp only [u6,s9,ha,ht,hb,cond_true,n8,hd]⟩
 ·cases h

theorem d5n {P:Program} {t:TypeId} {same:Bool} {l c:V} {K:KV} (h:d5m CR P s nid t same l c K=some r):∃ v ws rs,K v ws rs=some r∧b32 P (o7 s) nid t same (toD l) (toD c)=some ⟨true,toD v,E1 ws,rs⟩:=by
 unfold d5m at h
 split at h
 ·rename_i e hu
  split at h
  ·rename_i n b z hn hb hz
   cases hg:Nat.beq z.length n && Nat.blt 0 n with
   | false=>rw [hg] at h;cases h
   | true =>
    rw [hg] at h
    simp only [cond_true] at h
    have hz':=a3m hz
    have hg':(Nat.beq (z.map toD).length n && Nat.blt 0 n)=true:=by rw [List.length_map];exact hg
    split at h
    ·obtain ⟨_,a,hl,h⟩:=P9 h
     obtain ⟨_,m,hc,h⟩:=P9 h
     obtain ⟨h0,h⟩:=D5 h
     have h0:band (iEq a 0) (band (iLe 0 m) (band (Nat.ble (iNat m * b) 140737488355328) (Nat.ble (iNat m) 140737488355328)))=true:=h0
     obtain ⟨hf,h⟩:=a1k h
     refine ⟨_,_,_,h,?_⟩
     have hq:a=0∧0≤m∧m.toNat * b≤I7∧m.toNat≤I7:=by
      simp only [N8,U1,Y4,F8,Bool.and_eq_true,beq_iff_eq,decide_eq_true_eq,Nat.ble_eq] at h0
      exact h0
     simp only [b32,hu,hl,hc,hn,hb,hz',hg',cond_true,decide_eq_true hq,a7c hf,toD,rows,E1,List.map_cons,List.map_nil,C5]
    ·split at h
     ·rename_i z0
      split at h
      ·rename_i x hx
       obtain ⟨_,a,hl,h⟩:=P9 h
       obtain ⟨_,m,hc,h⟩:=P9 h
       obtain ⟨h0,h⟩:=D5 h
       have h0:band (iLe 0 a) (band (iEq a m) (band (Nat.ble (iNat a * b) 140737488355328) (Nat.ble (iNat a) 140737488355328)))=true:=h0
       rw [CfN] at h
       obtain ⟨tr,h,_,hnew⟩:=d2u (CR.iNat a) (t:=.nil) (i:=0) h
       obtain ⟨hf,h⟩:=a1k h
       refine ⟨_,_,_,h,?_⟩
       have hq:0≤a∧a=m∧a.toNat * b≤I7∧a.toNat≤I7:=by
        simp only [N8,U1,Y4,F8,Bool.and_eq_true,beq_iff_eq,decide_eq_true_eq,Nat.ble_eq] at h0
        exact h0
       have hn1:n=1:=by
        simp only [Bool.and_eq_true,List.length_cons,List.length_nil] at hg
        exact (Nat.eq_of_beq_eq_true hg.1).symm
       subst hn1
       have hia:CR.iNat a=a.toNat:=F8 a
       rw [hia] at hnew ⊢
       have hrows:rows (y8 tr) 1 0 a.toNat=a4o [toD z0] (a.toNat * 1):=by
        rw [a8r hx]
        have key:∀ (m off:Nat),(∀ k,k < m→K5 (y8 tr) (off+k)=den x)→rows (y8 tr) 1 off m=List.replicate m (den x 0):=by
         intro m
         induction m with
         | zero=>intro _ _;rfl
         | succ m ih =>
          intro off hk
          simp only [rows,t8,List.replicate_succ,List.cons_append,List.nil_append]
          have e0:=hk 0 oM
          rw [Nat.add_zero] at e0
          rw [e0,ih (off+1) (fun k hk'=>by have:=hk (k+1) oM;rw [show off+1+k=off+(k+1) by omega];exact this)]
        rw [key _ 0 hnew,Nat.mul_one]
        unfold a4o
        apply List.ext_getElem?
        intro i
        rcases Nat.lt_or_ge i a.toNat with hi | hi
        ·rw [List.getElem?_replicate,if_pos hi,List.getElem?_map,List.getElem?_range hi]
         simp [Nat.mod_one]
        ·rw [List.getElem?_eq_none (by simpa using hi),List.getElem?_eq_none (by simpa using hi)]
       simp only [b32,hu,hl,hc,hn,hb,hz',hg',cond_true,decide_eq_true hq,a7c hf,toD,E1,List.map_cons,List.map_nil,C5,hrows]
       rfl
      ·cases h
     ·cases h
  ·cases h
 ·cases h
theorem e30 {o:Op} {K:KV} (h:S6 CR X s nid o K=some r):∃ v ws rs,K v ws rs=some r∧s9 X (o7 s) nid o=some ⟨true,toD v,E1 ws,rs⟩:=by
 cases o
 case move x=>exact ⟨_,_,_,h,by simp only [u6,s9,n8,x4];rfl⟩
 case assign x=>exact ⟨_,_,_,h,by simp only [u6,s9,n8,x4];rfl⟩
 case alloc t =>
  simp only [S6] at h
  split at h
  ·rename_i z hz
   obtain ⟨hf,h⟩:=a1k h
   exact ⟨_,_,_,h,by simp only [u6,s9,a3m hz,a7c hf,toD,E1,List.map_cons,List.map_nil,C5]⟩
  ·cases h
 case box t x =>
  simp only [S6] at h
  split at h
  ·rename_i y m hx
   obtain ⟨hf,h⟩:=a1k h
   exact ⟨_,_,_,h,by simp only [u6,s9,n8,hx,toD,D.ok,D.isAgg,Bool.or_true,cond_true,a7c hf,D.cells,E1,List.map_cons,List.map_nil,C5]⟩
  ·split at h
   ·rename_i cs hcs
    obtain ⟨hf,h⟩:=a1k h
    obtain ⟨h1,h2⟩:=a4c hcs
    exact ⟨_,_,_,h,by simp only [u6,s9,n8,h1,cond_true,a7c hf,h2,toD,E1,List.map_cons,List.map_nil,C5]⟩
   ·cases h
 case build t parts=>exact d89 h
 case buildSlice t len parts=>exact c1l h
 case load t a=>exact e3z h
 case store t a x=>exact d9b h
 case nilCheck x =>
  simp only [S6] at h
  split at h
  ·rename_i hx;exact ⟨_,_,_,h,by simp only [u6,s9,n8,hx,toD,x4];rfl⟩
  ·rename_i hx;exact ⟨_,_,_,h,by simp only [u6,s9,n8,hx,toD,x4];rfl⟩
  ·rename_i hx;exact ⟨_,_,_,h,by simp only [u6,s9,n8,hx,toD,x4];rfl⟩
  ·cases h
 case binOp op t x y u =>
  simp only [S6] at h
  obtain ⟨v,h,hd⟩:=d87 h
  exact ⟨_,_,_,h,by simp only [u6,s9,n8,hd];rfl⟩
 case unOp op t x =>
  simp only [S6] at h
  split at h
  ·obtain ⟨b,hx,h⟩:=a09 h
   rw [CfB] at h
   exact ⟨_,_,_,h,by simp only [u6,s9,n8,hx,x4,toD,a3q];rfl⟩
  ·rename_i k hu
   obtain ⟨n,hx,h⟩:=a0b h
   rw [CfI] at h
   exact ⟨_,_,_,h,by simp only [u6,s9,n8,hx,x4,toD,a3l,b36];rfl⟩
  ·cases h
 case convert src dst x =>
  simp only [S6] at h
  obtain ⟨v,h,hd⟩:=d5l h
  exact ⟨_,_,_,h,by simp only [u6,s9,n8,hd];rfl⟩
 case makeInterface t x =>
  simp only [S6] at h
  split at h
  ·cases h
  ·rename_i u h1 hu
   refine ⟨_,_,_,h,?_⟩
   simp only [s9,n8,hu,x4,toD]
   cases u <;> first | rfl | exact (h1 _ rfl).elim
  ·cases h
 case makeFunc fn first captured =>
  simp only [S6] at h
  exact ⟨_,_,_,h,by simp only [u6,s9,c7h,x4,toD,D3];rfl⟩
 case makeSlice t l c =>
  simp only [S6] at h
  obtain ⟨v,ws,rs,h,hd⟩:=d5n h
  exact ⟨v,ws,rs,h,by simp only [s9,n8,hd]⟩
 case slice t x lo hi mx =>
  simp only [S6] at h
  obtain ⟨v,h,hd⟩:=d0e h
  exact ⟨_,_,_,h,by simp only [u6,s9,n8,hd];rfl⟩
 case fieldAddr t x f=>exact c36 h
 case field t x f=>exact d9a h
 case indexAddr t x i=>exact c37 h
 case index t x i =>
  simp only [S6] at h
  split at h
  ·rename_i hu
   obtain ⟨l,c,hx,h⟩:=a1a h
   obtain ⟨_,k,hi,h⟩:=P9 h
   obtain ⟨h0,h⟩:=D5 h
   have h0:(band (iLe 0 k) (iLt k (l:Int)))=true:=h0
   rw [CfI] at h
   have g:0≤k∧k < (l:Int):=by simpa [N8,Y4,a1l] using h0
   have g2:0≤k∧k < ((m8 l c).length:Int):=by rw [U0];exact g
   refine ⟨_,_,_,h,?_⟩
   simp only [u6,s9,hu,n8,hx,hi,F2,decide_eq_true g2,toD,F8]
   rw [d2k (show k.toNat < l by omega)]
   rfl
  ·cases h
 case extract x i =>
  simp only [S6] at h
  split at h
  ·rename_i vs hx
   cases hb:Nat.blt i vs.length with
   | false=>rw [hb] at h;cases h
   | true =>
    rw [hb] at h
    have hl:i < vs.length:=by simpa [Nat.blt_eq] using hb
    refine ⟨_,_,_,h,?_⟩
    rw [a3z,List.getD_eq_getElem?_getD,List.getElem?_eq_getElem hl]
    simp only [u6,s9,n8,hx,toD,D3,List.getElem?_map,List.getElem?_eq_getElem hl,Option.map_some,x4,Option.getD_some]
    rfl
  ·cases h
 case call c =>
  obtain ⟨callee,args,ts⟩:=c
  cases callee with
  | builtin b=>exact d0d h
  | value f=>cases h
  | invoke x m=>cases h
 all_goals cases h
end

section
variable {f:Nat→Option Nat}
theorem map_toD {g:V→V} {h:D→D} (e:∀ v,toD (g v)=h (toD v)) (l:List V):(l.map g).map toD=(l.map toD).map h:=by
 rw [List.map_map,List.map_map];exact List.map_congr_left fun v _=>e v
theorem c73 (v:V):toD (X7 f v)=R9 f (toD v):=by
 cases v
 case slice t n off len c=>cases c <;> simp only [X7,toD,R9]
 case q x=>simp only [X7,toD];exact (Z2 f x 0).symm
 case ptr id off=>simp only [X7,toD,R9];cases f id <;> simp only [toD]
 all_goals simp only [X7,toD,R9]
theorem b6p (x:Q) (i:Nat):a9c f (den x i)=den x i:=by
 have h1:=O0 x i
 have h2:=Z2 f x i
 cases hd:den x i <;> rw [hd] at h1 h2 <;> first | exact h2 | (cases h1;done) | (exfalso;simp [R9] at h2;done)
theorem c74 (v:V):toD (a05 f v)=a9c f (toD v):=by
 cases v
 case func fn fs cs=>simp only [a05,toD,a9c,D3,map_toD (fun v=>c73 (f:=f) v)]
 case q x=>simp only [a05,X7,toD];exact (b6p x 0).symm
 all_goals (simp only [a05];rw [c73];simp only [toD,a9c])
theorem b05 (v:V):toD (X8 f v)=a7n f (toD v):=by
 cases v
 case agg cs=>simp only [X8,toD,a7n,D3,map_toD (fun v=>c74 (f:=f) v)]
 case a x m =>
  simp only [X8,toD,a7n]
  congr 1
  rw [M8,List.map_map]
  exact List.map_congr_left fun i _=>(b6p x i).symm
 case q x =>
  simp only [X8,a05,X7,toD]
  have h1:=O0 x 0
  have h2:=b6p (f:=f) x 0
  cases hd:den x 0 <;> rw [hd] at h1 h2 <;> first | exact h2.symm | cases h1
 all_goals (simp only [X8];rw [c74];simp only [toD,a7n])
theorem a19 (v:V):toD (X9 f v)=renI f (toD v):=by
 cases v
 case iface t v=>simp only [X9,toD,renI,b05]
 case q x=>simp only [X9,X8,a05,X7,toD];exact (a33 f x 0).symm
 all_goals (simp only [X9];rw [b05];simp only [toD,renI])
theorem a93 (v:V):toD (a2a f v)=ren f (toD v):=by
 cases v
 case tuple vs=>simp only [a2a,toD,ren,D3,map_toD (fun v=>a19 (f:=f) v)]
 case q x =>
  simp only [a2a,X9,X8,a05,X7,toD]
  have h1:=O0 x 0
  have h2:=a33 f x 0
  cases hd:den x 0 <;> rw [hd] at h1 h2 <;> first | exact h2.symm | cases h1
 all_goals (simp only [a2a];rw [a19];simp only [toD,ren])
end

def Q4:Bx→Bool
 | .cells _ | .opa _ _ | .row _ _=>true
 | _=>false
def G2:Bx→List D
 | .cells cs=>cs.map toD
 | .opa x m=>t8 (den x) 0 m
 | .row t len=>rows (y8 t) 1 0 len
 | _=>[]
theorem a3r {b:Bx} (h:Q4 b=true):C5 b=.cells (G2 b):=by cases b <;> first | rfl | cases h
def a18 (f:Nat→Option Nat):Bx→Bx
 | .cells cs=>.cells (cs.map (X9 f))
 | b=>b
theorem b6t (f:Nat→Option Nat) (t:j8 Q):∀ (n m off:Nat),(rows (y8 t) n off m).map (renI f)=rows (y8 t) n off m
 | _,0,_=>rfl
 | n,m+1,off=>by
  simp only [rows,List.map_append,b6t f t n m]
  congr 1
  rw [Y9]
  exact a04 f _ n 0
theorem b4h (f:Nat→Option Nat) {b:Bx}:G2 (a18 f b)=(G2 b).map (renI f):=by
 cases b <;> simp only [a18,G2]
 ·exact map_toD (fun v=>a19 v) _
 ·exact (a04 f _ _ 0).symm
 ·rfl
 ·exact (b6t f _ 1 _ 0).symm
 ·rfl
 ·rfl
theorem d2f (f:Nat→Option Nat) {b:Bx}:Q4 (a18 f b)=Q4 b:=by cases b <;> rfl

/- What is kept of a state. -/
def Y0 (f:Nat→Option Nat):V→V
 | .slice t n off len (.tok id)=>match f id with
  | some j=>.slice t n off len (.tok j)
  | none=>.slice t n off len .no
 | .slice t n off len .exact=>.slice t n off len .exact
 | .bslice id l=>match f id with
  | some j=>.bslice j l
  | none=>.junk
 | .agg cs=>X8 f (.agg cs)
 | .a x m=>.a x m
 | .tuple ds=>.tuple (ds.map (X9 f))
 | d=>X9 f d
theorem b6q (f:Nat→Option Nat) (v:V):toD (Y0 f v)=S3 f (toD v):=by
 cases v
 case slice t n off len c =>
  cases c with
  | no=>simp only [Y0,X9,X8,a05,X7,toD,S3,renI,a7n,a9c,R9]
  | exact=>simp only [Y0,toD,S3]
  | tok id=>simp only [Y0,toD,S3];cases f id <;> simp only [toD]
  | fr z=>simp only [Y0,X9,X8,a05,X7,toD,S3,renI,a7n,a9c,R9]
 case bslice id l=>simp only [Y0,toD,S3];cases f id <;> simp only [toD]
 case agg cs=>simp only [Y0];rw [b05];simp only [toD,S3]
 case a x m =>
  have:=b05 (f:=f) (.a x m)
  simp only [X8,toD] at this
  simp only [Y0,toD,S3]
  exact this
 case tuple ds=>simp only [Y0,toD,S3,D3,map_toD (fun v=>a19 (f:=f) v)]
 case q x =>
  simp only [Y0,X9,X8,a05,X7,toD]
  have h1:=O0 x 0
  have h2:=a33 f x 0
  have h3:=Z2 f x 0
  cases hd:den x 0 <;> rw [hd] at h1 h2 h3 <;> first | exact h2.symm | cases h1 | skip
  all_goals (rename_i c;cases c <;> first | rfl | (simp only [R9] at h3;cases h3))
 all_goals (simp only [Y0];rw [a19];simp only [toD,S3])
def b59 (f:Nat→Option Nat):Bx→Bx
 | .cells cs=>.cells (cs.map (Y0 f))
 | b=>b
theorem c75 (f:Nat→Option Nat) (x:Q) (i:Nat):S3 f (den x i)=den x i:=by
 have h1:=O0 x i
 have h2:=a33 f x i
 have h3:=Z2 f x i
 cases hd:den x i <;> rw [hd] at h1 h2 h3 <;> first | exact h2 | cases h1 | skip
 all_goals (rename_i c;cases c <;> first | rfl | (simp only [R9] at h3;cases h3))
theorem c9h (f:Nat→Option Nat) (b:Bx):C5 (b59 f b)=a6s f (C5 b):=by
 cases b <;> simp only [b59,C5,a6s]
 ·rw [map_toD (fun v=>b6q f v)]
 ·congr 1;rw [M8,List.map_map];exact List.map_congr_left fun i _=>(c75 f _ i).symm
 ·congr 1
  rename_i t len
  have:∀ (m off:Nat),(rows (y8 t) 1 off m).map (S3 f)=rows (y8 t) 1 off m:=by
   intro m
   induction m with
   | zero=>intro _;rfl
   | succ m ih =>
    intro off
    simp only [rows,List.map_append,ih]
    congr 1
    rw [Y9,M8,List.map_map]
    exact List.map_congr_left fun i _=>c75 f _ i
  exact (this len 0).symm
def b6m:V→Option Nat
 | .ptr id _=>some id
 | _=>none
theorem a91 (x:Q) (i:Nat):pid (den x i)=none∧b01 (den x i)=[]∧a8l (den x i)=[]:=by
 have h1:=O0 x i
 have h3:=Z2 a0e x i
 cases hd:den x i <;> rw [hd] at h1 h3 <;> first | exact ⟨rfl,rfl,rfl⟩ | cases h1 | (simp only [R9,a0e] at h3;cases h3) | skip
 all_goals (rename_i c;cases c <;> first | exact ⟨rfl,rfl,rfl⟩ | (simp only [R9] at h3;cases h3))
theorem e7l (v:V):b6m v=pid (toD v):=by
 cases v <;> simp only [b6m,toD,pid]
 exact (a91 _ 0).1.symm
theorem a8h (l:List V):l.filterMap b6m=(l.map toD).filterMap pid:=by
 rw [List.filterMap_map];congr 1;funext v;exact e7l v
def b8m:V→List Nat
 | .ptr id _=>[id]
 | .func _ fs cs=>fs.filterMap b6m ++ cs.filterMap b6m
 | _=>[]
theorem e1b (v:V):b8m v=b01 (toD v):=by
 cases v <;> simp only [b8m,toD,b01]
 ·exact (a91 _ 0).2.1.symm
 ·rw [D3,D3,a8h,a8h]
def b4g:V→List Nat
 | .ptr id _=>[id]
 | .slice _ _ _ _ (.tok id)=>[id]
 | .bslice id _=>[id]
 | .func _ fs cs=>fs.filterMap b6m ++ cs.filterMap b6m
 | _=>[]
theorem c71 (v:V):b4g v=a8l (toD v):=by
 cases v <;> simp only [b4g,toD,a8l]
 ·rename_i c;cases c <;> rfl
 ·exact (a91 _ 0).2.2.symm
 ·rw [D3,D3,a8h,a8h]
def b07 (n0:Nat) (ks:List Nat) (s:A9):List Nat :=
 let a:=b16 (List.range n0) (ks.flatMap fun i=>b4g (P7 s.tmps i))
 b16 a (a.flatMap fun id=>match Q8 s.heap id with
  | .cells ds=>ds.flatMap b4g
  | _=>[])
theorem a3w {α β:Type} {f:α→List β}:∀ (l:List α),(∀ x ∈ l,f x=[])→l.flatMap f=[]
 | [],_=>rfl
 | x :: l,h=>by rw [List.flatMap_cons,h x List.mem_cons_self,a3w l fun y hy=>h y (List.mem_cons_of_mem _ hy)];rfl
theorem a40 (s:A9) (i:Nat):(o7 s).tmps.getD i .junk=toD (P7 s.tmps i):=n8 s (.tmp i)
theorem c2c (s:A9) (i:Nat):(o7 s).heap.getD i .dead=C5 (Q8 s.heap i):=by
 rw [a3y,List.getD_eq_getElem?_getD,List.getD_eq_getElem?_getD,c3j]
 cases s.heap[i]? <;> rfl
theorem b5c (n0:Nat) (ks:List Nat) (s:A9):b07 n0 ks s=a95 n0 ks (o7 s):=by
 unfold b07 a95
 have e1:(ks.flatMap fun i=>b4g (P7 s.tmps i))=ks.flatMap fun i=>a8l ((o7 s).tmps.getD i .junk):=by
  congr 1;funext i;rw [a40,c71]
 have e2:(fun id=>match Q8 s.heap id with | .cells ds=>ds.flatMap b4g | _=>[])=fun id=>match (o7 s).heap.getD id .dead with | .cells ds=>ds.flatMap a8l | _=>[]:=by
  funext id
  rw [c2c]
  cases Q8 s.heap id <;> simp only [C5]
  ·rw [List.flatMap_map];congr 1;funext v;exact c71 v
  ·rw [M8,List.flatMap_map];exact (a3w _ fun i _=>(a91 _ i).2.2).symm
  ·rename_i t len
   have:∀ (m off:Nat),(rows (y8 t) 1 off m).flatMap a8l=[]:=by
    intro m
    induction m with
    | zero=>intro _;rfl
    | succ m ih=>intro off;simp only [rows,List.flatMap_append,ih,List.append_nil];rw [Y9,M8,List.flatMap_map];exact a3w _ fun i _=>(a91 _ i).2.2
   exact (this len 0).symm
 simp only [e1,e2]
 rfl
def b0p:V→V
 | .slice t n off len _=>.slice t n off len .no
 | v=>v
theorem b4x (v:V):toD (b0p v)=a2f (toD v):=by
 cases v <;> simp only [b0p,toD,a2f]
 rename_i x
 cases hd:den x 0 <;> first | rfl | skip
 rename_i l c k
 cases a00 x 0 l c k hd
 rfl
def Y5 (ids:List Nat):List (Nat × Nat)→A9→Nat→List V × List Bx
 | [],_,_=>([],[])
 | (i,z) :: ks,s,n=>bif Nat.beq z a0l then (b0p (Y0 (pos · ids) (P7 s.tmps i)) :: (Y5 ids ks s n).1,(Y5 ids ks s n).2) else match P7 s.tmps i,z with
  | .slice t m off l .exact,z+1=>(.slice t m off l (.tok n) :: (Y5 ids ks s (n+1)).1,.tok l (z+1) :: (Y5 ids ks s (n+1)).2)
  | d,_=>(Y0 (pos · ids) d :: (Y5 ids ks s n).1,(Y5 ids ks s n).2)
theorem a8a {ids:List Nat}:∀ (ks:List (Nat × Nat)) (s:A9) (n:Nat),(Y5 ids ks s n).1.map toD=(N1 ids ks (o7 s) n).1∧(Y5 ids ks s n).2.map C5=(N1 ids ks (o7 s) n).2
 | [],_,_=>⟨rfl,rfl⟩
 | (i,z) :: ks,s,n=>by
  obtain ⟨h1,h2⟩:=a8a (ids:=ids) ks s n
  obtain ⟨h3,h4⟩:=a8a (ids:=ids) ks s (n+1)
  simp only [Y5,N1,a40]
  cases hf:Nat.beq z a0l with
  | true=>simp only [cond_true,List.map_cons,b4x,b6q,h1,h2,and_self]
  | false =>
  simp only [cond_false]
  generalize P7 s.tmps i=v
  have hplain:(Y0 (pos · ids) v :: (Y5 ids ks s n).1).map toD=S3 (pos · ids) (toD v) :: (N1 ids ks (o7 s) n).1:=by simp only [List.map_cons,b6q,h1]
  cases v
  case slice t m off l c =>
   cases c <;> cases z <;> first
    | exact ⟨hplain,h2⟩
    | (simp only [toD,List.map_cons,h3,h4,C5,and_self])
  case q x =>
   have hn:∀ l c,den x 0 ≠ .slice l c .exact:=fun l c hd=>by cases a00 x 0 l c _ hd
   simp only [toD] at hplain ⊢
   generalize den x 0=d at hplain hn
   cases d with
   | slice l c k=>cases k <;> cases z <;> first | exact ⟨hplain,h2⟩ | exact (hn _ _ rfl).elim
   | _=>exact ⟨hplain,h2⟩
  all_goals exact ⟨hplain,h2⟩
def b1f (j c z:Nat) (h:List Bx):List Bx:=match Q8 h j with
 | .cells cs=>bif Nat.blt c cs.length then bif Nat.beq z a0l then h.set j (.cells (cs.set c (b0p (P7 cs c)))) else match P7 cs c with
  | .slice t n off len .exact=>(h.set j (.cells (cs.set c (.slice t n off len (.tok h.length))))) ++ [.tok len z]
  | _=>h
  else h
 | _=>h
def b9l:List (Nat × Nat)→List Bx→List Bx
 | [],h=>h
 | (i,z) :: ks,h=>bif Nat.ble 1000000 i then b9l ks (b1f ((i - 1000000) / 1000) ((i - 1000000) % 1000) z h) else b9l ks h
theorem b26 {t:j8 Q}:∀ (m off i l:Nat) (c:List D) (k:Cap),(rows (y8 t) 1 off m)[i]?=some (.slice l c k)→k=.no
 | 0,off,i,l,c,k,h=>by simp [rows] at h
 | m+1,off,0,l,c,k,h=>by
  simp only [rows,t8,List.cons_append,List.nil_append,List.getElem?_cons_zero] at h
  injection h with h
  exact b33 t off 0 l c k h
 | m+1,off,i+1,l,c,k,h=>by
  simp only [rows,t8,List.cons_append,List.nil_append,List.getElem?_cons_succ] at h
  exact b26 m (off+1) i l c k h
theorem c3s {x:Q} {m i l:Nat} {c:List D} {k:Cap} (h:(t8 (den x) 0 m)[i]?=some (.slice l c k)):k=.no:=by
 rcases Nat.lt_or_ge i m with hi | hi
 ·rw [a5r _ _ _ hi] at h
  injection h with h
  exact a00 x _ l c k h
 ·rw [List.getElem?_eq_none (by rw [E4];exact hi)] at h;cases h
theorem e0u {h:List Bx} {j:Nat}:(h.map C5)[j]?=if j < h.length then some (C5 (Q8 h j)) else none:=by
 rw [a3y,List.getD_eq_getElem?_getD,List.getElem?_map]
 split
 ·rename_i hj;rw [List.getElem?_eq_getElem hj];rfl
 ·rename_i hj;rw [List.getElem?_eq_none oM];rfl
theorem c3c {α:Type} {l:List α} {i:Nat} {x:α} (h:l[i]?=some x):l.set i x=l:=by
 apply List.ext_getElem?
 intro k
 by_cases hk:i=k
 ·subst hk;rw [List.getElem?_set_self (List.getElem?_eq_some_iff.1 h).1,h]
 ·rw [List.getElem?_set_ne hk]
theorem b1v {j c z:Nat} {h:List u5} {ds:List D} (hj:h[j]?=some (.cells ds)) (hd:∀ (i l:Nat) (x:List D) (k:Cap),ds[i]?=some (D.slice l x k)→k=Cap.no):tokCell j c z h=h:=by
 unfold tokCell
 rw [hj]
 simp only []
 split
 ·rename_i d hc
  have e:a2f d=d:=by
   cases d with
   | slice l x k=>cases hd c l x k hc;rfl
   | _=>rfl
  cases Nat.beq z a0l with
  | true =>
   simp only [cond_true]
   rw [e,c3c hc,c3c hj]
  | false =>
   simp only [cond_false]
   split
   ·cases hd c _ _ _ hc
   ·rfl
 ·rfl
theorem c99 (j c z:Nat) (h:List Bx):(b1f j c z h).map C5=tokCell j c z (h.map C5):=by
 rcases Nat.lt_or_ge j h.length with hj | hj
 ·have hg:(h.map C5)[j]?=some (C5 (Q8 h j)):=by rw [e0u,if_pos hj]
  unfold b1f
  generalize hb:Q8 h j=b at hg
  cases b with
  | cells cs =>
   unfold tokCell
   rw [hg]
   simp only [C5]
   cases hc:Nat.blt c cs.length with
   | true =>
    have hc':c < cs.length:=by rw [Nat.blt_eq] at hc;exact hc
    have e1:(cs.map toD)[c]?=some (toD (P7 cs c)):=by
     rw [a3z,List.getD_eq_getElem?_getD,List.getElem?_map,List.getElem?_eq_getElem hc'];rfl
    rw [e1]
    simp only [cond_true]
    cases hz:Nat.beq z a0l with
    | true=>simp only [cond_true,List.map_set,C5,b4x]
    | false =>
     simp only [cond_false]
     generalize P7 cs c=v
     cases v
     case slice t n off len k =>
      cases k <;> simp only [toD,List.map_append,List.map_set,C5,List.map_cons,List.map_nil,List.length_map]
     case q x =>
      simp only [toD]
      cases hd:den x 0 <;> first | rfl | skip
      rename_i l d k
      cases a00 x 0 l d k hd
      rfl
     all_goals simp only [toD]
   | false =>
    have hc':cs.length≤c:=by
     rcases Nat.lt_or_ge c cs.length with h1 | h1
     ·have:Nat.blt c cs.length=true:=by rw [Nat.blt_eq];exact h1
      rw [hc] at this;cases this
     ·exact h1
    have e1:(cs.map toD)[c]?=none:=List.getElem?_eq_none (by simpa using hc')
    rw [e1]
    rfl
  | opa x m=>exact (b1v hg (fun i l d k hd=>c3s hd)).symm
  | row t len=>exact (b1v hg (fun i l d k hd=>b26 _ _ _ _ _ _ hd)).symm
  | _=>unfold tokCell;rw [hg];rfl
 ·have e2:Q8 h j=.dead:=by rw [a3y,List.getD_eq_getElem?_getD,List.getElem?_eq_none hj];rfl
  have hg:(h.map C5)[j]?=none:=List.getElem?_eq_none (by simpa using hj)
  unfold b1f tokCell
  rw [e2,hg]
theorem b60:∀ (ks:List (Nat × Nat)) (h:List Bx),(b9l ks h).map C5=tokB ks (h.map C5)
 | [],h=>rfl
 | (i,z) :: ks,h=>by
  simp only [b9l,tokB]
  cases Nat.ble 1000000 i with
  | true=>simp only [cond_true];rw [b60,c99]
  | false=>simp only [cond_false];rw [b60]
def a7d (n0:Nat) (ks:List (Nat × Nat)) (s:A9):List V × List Bx :=
 let ids:=b07 n0 (b25 ks) s
 ((Y5 ids ks s ids.length).1,b9l ks ((ids.map fun id=>b59 (pos · ids) (Q8 s.heap id)) ++ (Y5 ids ks s ids.length).2))
theorem c0d (n0:Nat) (ks:List (Nat × Nat)) (s:A9):gcV n0 ks (o7 s)=((a7d n0 ks s).1.map toD,(a7d n0 ks s).2.map C5):=by
 unfold gcV a7d
 simp only [b5c,b60,List.map_append,(a8a _ _ _).1,(a8a _ _ _).2,List.map_map]
 congr 3
 exact List.map_congr_left fun id _=>by simp only [Function.comp,c9h,c2c]
def a5w (n0 n:Nat) (ks:List (Nat × Nat)) (s:A9):Bool:=b8e n0 (b07 n0 (b25 ks) s) && Nat.beq s.tmps.length n && decide (ks.map (·.1)).Nodup
theorem b6h (n0 n:Nat) (ks:List (Nat × Nat)) (s:A9):a5w n0 n ks s=b0z n0 n ks (o7 s):=by
 unfold a5w b0z;rw [b5c];simp only [o7,List.length_map]
def d03 (n:Nat) (ks:List Nat) (vs:List V):List V:=(List.range n).map fun i=>match pos i ks with
 | some j=>P7 vs j
 | none=>.junk
def b4o (n:Nat) (ks:List (Nat × Nat)) (vs:List V) (bs:List Bx):A9:={ tmps:=d03 n (ks.map (·.1)) vs,heap:=bs }
theorem c8l (n:Nat) (ks:List (Nat × Nat)) (vs:List V) (bs:List Bx):o7 (b4o n ks vs bs)=a9i n ks (vs.map toD,bs.map C5):=by
 unfold b4o a9i o7 d03 c5u
 simp only [List.map_map]
 congr 1
 refine List.map_congr_left fun i _=>?_
 simp only [Function.comp]
 cases pos i (ks.map (·.1)) with
 | none=>simp only [toD]
 | some j =>
  simp only []
  rw [a3z,List.getD_eq_getElem?_getD,List.getD_eq_getElem?_getD,List.getElem?_map]
  cases vs[j]? <;> simp [toD]

abbrev E6:=List V→List Bx→Om
def a9d:L6→W0
 | .ret v=>.ret (toD v)
 | .pan v=>.pan (toD v)
def O9 (X:Pr) (g:FuncId) (F:E6):Prop:=∀ (vs:List V) (bs:List Bx) (x:L6) (bs':List Bx),F vs bs=some (x,bs')→bs.all Q4=true →
 CM X.P X.G g (vs.map toD) (bs.map G2) (a9d x) (bs'.map G2)
theorem CM.pan_any {P:Program} {G:b1z} {f:FuncId} {ds:List D} {hs hs' hs2:List (List D)} {d:D} (h:CM P G f ds hs (.pan d) hs'):CM P G f ds hs (.pan d) hs2:=h
def d1b:u5→Bool
 | .cells _=>true
 | _=>false
theorem d9p (b:Bx):Q4 b=d1b (C5 b):=by cases b <;> rfl
theorem c1q {a b:List Bx} (h:a.map C5=b.map C5) (ha:a.all Q4=true):b.all Q4=true:=by
 have e:∀ l:List Bx,l.all Q4=(l.map C5).all d1b:=fun l=>by rw [List.all_map];congr 1;funext b;exact d9p b
 rw [e,← h,← e];exact ha
mutual
def eqQ:Q→Q→Bool
 | .bool a,.bool b=>bsel a b (bnot b)
 | .int k a,.int k' b=>cond (ikEq k k') (iEq a b) false
 | .str l c,.str l' c'=>cond (Nat.beq l l') (Nat.beq c c') false
 | .slice t n o l,.slice t' n' o' l'=>cond (Nat.beq n n') (cond (Nat.beq o o') (cond (Nat.beq l l') (eqT t t') false) false) false
 | .nilp,.nilp=>true
 | .nilIface,.nilIface=>true
 | .agg cs o,.agg cs' o'=>cond (Nat.beq o o') (c5t cs cs') false
 | .aggt t o,.aggt t' o'=>cond (Nat.beq o o') (eqT t t') false
 | .no,.no=>true
 | _,_=>false
def eqT:j8 Q→j8 Q→Bool
 | .nil,.nil=>true
 | .node v l r,.node v' l' r'=>cond (eqQ v v') (cond (eqT l l') (eqT r r') false) false
 | _,_=>false
def c5t:List Q→List Q→Bool
 | [],[]=>true
 | x :: xs,y :: ys=>cond (eqQ x y) (c5t xs ys) false
 | _,_=>false
end
theorem x8 {a b:Bool} (h:cond a b false=true):a=true∧b=true:=by cases a <;> simp_all
theorem c1u {a b:Bool} (h:bsel a b (bnot b)=true):a=b:=by cases a <;> cases b <;> first | rfl | cases h
theorem c53 {a b:Int} (h:iEq a b=true):a=b:=by rw [U1] at h;simpa using h
mutual
theorem b7j:∀ {a b:Q},eqQ a b=true→a=b
 | .bool a,b,h=>by cases b <;> simp only [eqQ] at h <;> first | (rw [c1u h]) | cases h
 | .int k a,b,h=>by
  cases b <;> simp only [eqQ] at h <;> first | cases h | skip
  obtain ⟨h1,h2⟩:=x8 h
  rw [a9u h1,c53 h2]
 | .str l c,b,h=>by
  cases b <;> simp only [eqQ] at h <;> first | cases h | skip
  obtain ⟨h1,h2⟩:=x8 h
  rw [Nat.eq_of_beq_eq_true h1,Nat.eq_of_beq_eq_true h2]
 | .slice t n o l,b,h=>by
  cases b <;> simp only [eqQ] at h <;> first | cases h | skip
  obtain ⟨h1,h⟩:=x8 h
  obtain ⟨h2,h⟩:=x8 h
  obtain ⟨h3,h⟩:=x8 h
  rw [Nat.eq_of_beq_eq_true h1,Nat.eq_of_beq_eq_true h2,Nat.eq_of_beq_eq_true h3,b2g h]
 | .nilp,b,h=>by cases b <;> simp only [eqQ] at h <;> first | rfl | cases h
 | .nilIface,b,h=>by cases b <;> simp only [eqQ] at h <;> first | rfl | cases h
 | .agg cs o,b,h=>by
  cases b <;> simp only [eqQ] at h <;> first | cases h | skip
  obtain ⟨h1,h⟩:=x8 h
  rw [Nat.eq_of_beq_eq_true h1,d01 h]
 | .aggt t o,b,h=>by
  cases b <;> simp only [eqQ] at h <;> first | cases h | skip
  obtain ⟨h1,h⟩:=x8 h
  rw [Nat.eq_of_beq_eq_true h1,b2g h]
 | .no,b,h=>by cases b <;> simp only [eqQ] at h <;> first | rfl | cases h
theorem b2g:∀ {a b:j8 Q},eqT a b=true→a=b
 | .nil,b,h=>by cases b <;> simp only [eqT] at h <;> first | rfl | cases h
 | .node v l r,b,h=>by
  cases b <;> simp only [eqT] at h <;> first | cases h | skip
  obtain ⟨h1,h⟩:=x8 h
  obtain ⟨h2,h⟩:=x8 h
  rw [b7j h1,b2g h2,b2g h]
theorem d01:∀ {a b:List Q},c5t a b=true→a=b
 | [],b,h=>by cases b <;> simp only [c5t] at h <;> first | rfl | cases h
 | x :: xs,b,h=>by
  cases b <;> simp only [c5t] at h <;> first | cases h | skip
  obtain ⟨h1,h⟩:=x8 h
  rw [b7j h1,d01 h]
end
def c4d:Cap→Bool
 | .no=>true
 | _=>false
def d7y:V→Bool
 | .bool _ | .known _ | .int _ _ | .str _ _ | .q _ | .nilp | .nilIface=>true
 | .slice _ _ _ _ c=>c4d c
 | _=>false
def d41:V→V→Bool
 | .bool a,.bool b=>bsel a b (bnot b)
 | .int k a,.int k' b=>cond (ikEq k k') (iEq a b) false
 | .str l c,.str l' c'=>cond (Nat.beq l l') (Nat.beq c c') false
 | .slice t n o l c,.slice t' n' o' l' c'=>cond (c4d c) (cond (c4d c') (cond (Nat.beq n n') (cond (Nat.beq o o') (cond (Nat.beq l l') (eqT t t') false) false) false) false) false
 | .q x,.q y=>eqQ x y
 | .nilp,.nilp=>true
 | .nilIface,.nilIface=>true
 | _,_=>false
theorem c49 {c:Cap} (h:c4d c=true):c=.no:=by cases c <;> first | rfl | cases h
theorem e26 {a b:V} (h:d41 a b=true):a=b:=by
 unfold d41 at h
 split at h <;> first | rfl | cases h | skip
 ·rw [c1u h]
 ·obtain ⟨h1,h2⟩:=x8 h;rw [a9u h1,c53 h2]
 ·obtain ⟨h1,h2⟩:=x8 h;rw [Nat.eq_of_beq_eq_true h1,Nat.eq_of_beq_eq_true h2]
 ·obtain ⟨g1,h⟩:=x8 h
  obtain ⟨g2,h⟩:=x8 h
  obtain ⟨h1,h⟩:=x8 h
  obtain ⟨h2,h⟩:=x8 h
  obtain ⟨h3,h⟩:=x8 h
  rw [c49 g1,c49 g2,Nat.eq_of_beq_eq_true h1,Nat.eq_of_beq_eq_true h2,Nat.eq_of_beq_eq_true h3,b2g h]
 ·rw [b7j h]
def b3b:List V→List V→Bool
 | [],[]=>true
 | x :: xs,y :: ys=>cond (d41 x y) (b3b xs ys) false
 | _,_=>false
theorem c3a:∀ {a b:List V},b3b a b=true→a=b
 | [],b,h=>by cases b <;> simp only [b3b] at h <;> first | rfl | cases h
 | x :: xs,b,h=>by
  cases b <;> simp only [b3b] at h <;> first | cases h | skip
  obtain ⟨h1,h⟩:=x8 h
  rw [e26 h1,c3a h]
def eqB:Bx→Bx→Bool
 | .cells a,.cells b=>b3b a b
 | .opa x m,.opa y n=>cond (Nat.beq m n) (eqQ x y) false
 | _,_=>false
theorem f0r {a b:Bx} (h:eqB a b=true):a=b:=by
 unfold eqB at h
 split at h <;> first | cases h | skip
 ·rw [c3a h]
 ·obtain ⟨h1,h⟩:=x8 h;rw [Nat.eq_of_beq_eq_true h1,b7j h]
def b53:List Bx→List Bx→Bool
 | [],[]=>true
 | x :: xs,y :: ys=>cond (eqB x y) (b53 xs ys) false
 | _,_=>false
theorem d00:∀ {a b:List Bx},b53 a b=true→a=b
 | [],b,h=>by cases b <;> simp only [b53] at h <;> first | rfl | cases h
 | x :: xs,b,h=>by
  cases b <;> simp only [b53] at h <;> first | cases h | skip
  obtain ⟨h1,h⟩:=x8 h
  rw [f0r h1,d00 h]
def same (a b:List Bx) (x:Om):Om:=cond (b53 a b) x none
def c7q:Bx→Bool
 | .cells cs=>cs.all d7y
 | .opa _ _=>true
 | _=>false
theorem d4p (f:Nat→Option Nat) {v:V} (h:d7y v=true):renI f (toD v)=toD v:=by
 rw [← a19]
 cases v <;> first | rfl | cases h | skip
 rename_i c
 cases c <;> first | rfl | cases h
theorem b8n (f:Nat→Option Nat) {b:Bx} (h:c7q b=true):(G2 b).map (renI f)=G2 b:=by
 cases b <;> first | cases h | skip
 ·rename_i cs
  simp only [G2,List.map_map]
  refine List.map_congr_left fun v hv=>d4p f (List.all_eq_true.1 h v hv)
 ·exact a04 f _ _ 0
abbrev V4:=FuncId→List Bx→V→List Bx→(V→Option (List Bx)→Om)→Om
def a4p (cr:V4):Prop:=∀ (g:FuncId) (bs0:List Bx) (v:V) (bs:List Bx) (K:V→Option (List Bx)→Om) (r:R),cr g bs0 v bs K=some r →
 (∃ v' bs',toD v'=toD v∧bs'.map C5=bs.map C5∧K v' (some bs')=some r)∨(∃ v',toD v'=toD v∧bs=bs0∧K v' none=some r)
def A9.lay (s:A9) (ws:List (Nat × Bx)):A9:={ s with heap:=ws.foldl (fun h x=>h.set x.1 x.2) s.heap }
def A9.put (s:A9) (dst:Option Tmp) (v:V):A9:=match dst with
 | some t=>{ s with tmps:=s.tmps.set t v }
 | none=>s
theorem a4a (s:A9) (dst:Option Tmp) (v:V):o7 (s.put dst v)=(o7 s).put dst (toD v):=by
 cases dst with
 | none=>rfl
 | some t=>simp only [A9.put,o7,St.put,List.map_set]
theorem b6z (s:A9) (ws:List (Nat × Bx)):o7 (s.lay ws)=(o7 s).lay (E1 ws):=by
 unfold A9.lay St.lay E1 o7
 simp only []
 congr 1
 rw [List.foldl_map]
 generalize s.heap=h
 induction ws generalizing h with
 | nil=>rfl
 | cons x ws ih=>simp only [List.foldl_cons];rw [ih,List.map_set]

def c0c (C:Comb):A9→List V→(List V→List Nat→Om)→Om
 | _,[],K=>K [] []
 | s,.bslice id len :: vs,K=>match Q8 s.heap id with
  | .row t len'=>C.chk (C.nEq len len') (c0c C { s with heap:=s.heap.set id .dead } vs fun vs' ks=>K (.slice t 1 0 len .no :: vs') (id :: ks))
  | _=>none
 | s,v :: vs,K=>c0c C s vs fun vs' ks=>K (v :: vs') ks
def a9o (h:List Bx):List Nat→Option (List Bx)
 | []=>some []
 | id :: ids=>bif Q4 (Q8 h id) then (a9o h ids).map (Q8 h id :: ·) else none
def b4d (ids:List Nat) (bs:List Bx):List (Nat × Bx):=(ids.zip bs).map fun p=>(p.1,a18 (ids[·]?) p.2)
def a6u:V→V
 | .slice t n off len (.fr _)=>.slice t n off len .no
 | v=>v
def b8i (nid:Nat):List V→Option (List V × List (Nat × Bx))
 | []=>some ([],[])
 | v :: vs=>match v with
  | .slice t n off len (.fr z)=>bif Nat.beq n z then some (.slice t n off len (.tok nid) :: vs.map a6u,[(nid,.tok len z)]) else none
  | v=>(b8i nid vs).map fun p=>(v :: p.1,p.2)
def e1a (nid:Nat):V→Option (V × List (Nat × Bx))
 | .tuple vs=>(b8i nid vs).map fun p=>(.tuple p.1,p.2)
 | .slice t n off len (.fr z)=>bif Nat.beq n z then some (.slice t n off len (.tok nid),[(nid,.tok len z)]) else none
 | v=>some (v,[])
def c4l (s:A9) (nid:Nat) (v:V) (ws:List (Nat × Bx)) (rs:List Nat) (K:KV):Om :=
 match e1a nid v with
 | some (v',[])=>K v' ws rs
 | some (v',x :: xs)=>cond (a2g (s.lay ws) nid) (K v' (ws ++ x :: xs) (nid :: rs)) none
 | none=>none
def e5q (C:Comb) (fn:FuncId→E6) (cr:V4) (s:A9) (nid:Nat) (g:FuncId) (vs:List V) (K:KV) (Kp:V→List Nat→Om):Om :=
 c0c C s vs fun vs' ks =>
  let ids:=X4 (vs'.flatMap b8m)
  match a9o (s.lay (ks.map fun k=>(k,.dead))).heap ids with
  | some bs=>C.bind (fn g (vs'.map (a2a (pos · ids))) (bs.map (a18 (pos · ids))))
    (fun v bs'=>cr g (bs.map (a18 (pos · ids))) v bs' fun v o=>match o with
     | some bs'=>bif Nat.beq bs'.length ids.length && bs'.all Q4 then c4l s nid (a2a (ids[·]?) v) ((ks.map fun k=>(k,Bx.dead)) ++ b4d ids bs') (ids ++ ks) K else none
     | none=>bif bs.all c7q then c4l s nid (a2a (ids[·]?) v) (ks.map fun k=>(k,Bx.dead)) (ids ++ ks) K else none) (fun v=>Kp (C.rn0 v) (ids ++ ks))
  | none=>none

section
variable {X:Pr} {r:R}
theorem a8v {h:List Bx}:∀ {ids:List Nat} {bs:List Bx},a9o h ids=some bs→T0 (h.map C5) ids=some (bs.map G2)∧bs.all Q4=true∧bs.length=ids.length
 | [],bs,hb=>by simp only [a9o] at hb;injection hb with hb;subst hb;exact ⟨rfl,rfl,rfl⟩
 | id :: ids,bs,hb=>by
  simp only [a9o] at hb
  cases ho:Q4 (Q8 h id) with
  | false=>rw [ho] at hb;cases hb
  | true =>
   rw [ho] at hb
   obtain ⟨bs',h1,rfl⟩:=Option.map_eq_some_iff.1 hb
   obtain ⟨h2,h3,h4⟩:=a8v h1
   have e:(h.map C5)[id]?=some (.cells (G2 (Q8 h id))):=by
    rw [← a3r ho,List.getElem?_map,a3y,List.getD_eq_getElem?_getD]
    cases hi:h[id]? with
    | none=>rw [a3y,List.getD_eq_getElem?_getD,hi] at ho;cases ho
    | some x=>rfl
   refine ⟨?_,by simp only [List.all_cons,ho,h3,Bool.and_self],by simp [h4]⟩
   simp only [T0,e,h2,Option.map_some,List.map_cons]
theorem b2j:∀ {vs:List V} {s:A9} {K:List V→List Nat→Om},c0c CR s vs K=some r→∃ vs' ks,K vs' ks=some r∧frz (o7 s) (vs.map toD)=some (vs'.map toD,ks)
 | [],s,K,h=>⟨[],[],h,rfl⟩
 | v :: vs,s,K,h=>by
  by_cases hb:∃ id len,v=.bslice id len
  ·obtain ⟨id,len,rfl⟩:=hb
   simp only [c0c] at h
   split at h
   ·rename_i t len' hbx
    obtain ⟨h0,h'⟩:=D5 h
    have h0:(Nat.beq len len')=true:=h0
    have he:=Nat.eq_of_beq_eq_true h0
    subst he
    obtain ⟨vs',ks,h,hf⟩:=b2j h'
    have hh:=W5 hbx (by simp)
    refine ⟨_,_,h,?_⟩
    have e:o7 { s with heap:=s.heap.set id .dead }={ o7 s with heap:=(o7 s).heap.set id .dead }:=by simp only [o7,List.map_set,C5]
    rw [e] at hf
    simp only [List.map_cons,toD,frz,hh,C5,hf,Option.map_some,b6t]
   ·cases h
  ·have h':c0c CR s vs (fun vs' ks=>K (v :: vs') ks)=some r:=by
    rw [← h]
    cases v <;> first | rfl | exact absurd ⟨_,_,rfl⟩ hb
   obtain ⟨vs',ks,h',hf⟩:=b2j h'
   refine ⟨_,_,h',?_⟩
   have hd:¬∃ id len,toD v=.bslice id len:=by
    rintro ⟨id,len,hd⟩
    cases v <;> simp only [toD] at hd <;> first | (cases hd;done) | skip
    ·have h3:=congrArg (R9 a0e) hd;rw [Z2,hd] at h3;simp only [R9] at h3;cases h3
    ·exact hb ⟨_,_,rfl⟩
   simp only [List.map_cons]
   have e:frz (o7 s) (toD v :: vs.map toD)=(frz (o7 s) (vs.map toD)).map fun p=>(toD v :: p.1,p.2):=by
    cases hv:toD v <;> first | rfl | exact absurd ⟨_,_,hv⟩ hd
   rw [e,hf]
   rfl
theorem d4r {ids:List Nat} {bs:List Bx} (h:bs.all Q4=true):E1 (b4d ids bs)=a7j ids (bs.map G2):=by
 unfold b4d a7j E1
 rw [List.map_map,List.zip_map_right,List.map_map]
 refine List.map_congr_left fun p hp=>?_
 have hm:p.2 ∈ bs:=(List.of_mem_zip hp).2
 have ho:=List.all_eq_true.1 h _ hm
 simp only [Function.comp,Prod.map,id]
 rw [a3r (by rw [d2f];exact ho),b4h]
theorem b9e (v:V):toD (a6u v)=a1p (toD v):=by
 cases v
 case slice t n off len c=>cases c <;> simp only [a6u,toD,a1p]
 case q x =>
  simp only [a6u,toD]
  have h:=Z2 a0e x 0
  have h1:=O0 x 0
  cases hd:den x 0 <;> first | rfl | skip
  rename_i l c k
  cases k <;> first | rfl | skip
  exfalso
  exact c5p hd
 all_goals simp only [a6u,toD,a1p]
theorem b8j {nid:Nat}:∀ {vs vs':List V} {ws:List (Nat × Bx)},b8i nid vs=some (vs',ws)→a16 nid (vs.map toD)=(vs'.map toD,E1 ws)
 | [],vs',ws,h=>by simp only [b8i] at h;injection h with h;injection h with h1 h2;subst h1 h2;rfl
 | v :: vs,vs',ws,h=>by
  simp only [b8i] at h
  split at h
  ·rename_i t n off len z
   cases hz:Nat.beq n z with
   | false=>rw [hz] at h;cases h
   | true =>
    rw [hz] at h
    injection h with h;injection h with h1 h2;subst h1 h2
    have:=Nat.eq_of_beq_eq_true hz
    subst this
    simp only [List.map_cons,toD,a16,G1,Nat.beq_refl,cond_true,E1,C5,List.map_nil,map_toD (fun v=>b9e v)]
  ·rename_i hnf
   obtain ⟨p,hp,he⟩:=Option.map_eq_some_iff.1 h
   obtain ⟨p1,p2⟩:=p
   injection he with h1 h2;subst h1 h2
   have ih:=b8j hp
   have hnd:∀ l c z,toD v ≠ .slice l c (.fr z):=fun l c z hd=>by
    cases v <;> simp only [toD] at hd <;> first | (cases hd;done) | skip
    ·injection hd with _ _ hd;subst hd;exact hnf _ _ _ _ _ rfl
    ·exact c5p hd
   rw [List.map_cons,List.map_cons]
   unfold a16
   split
   ·rename_i hd;exact absurd hd (hnd _ _ _)
   ·rw [ih]
theorem c2u {nid:Nat} {v v':V} {ws:List (Nat × Bx)} (h:e1a nid v=some (v',ws)):own nid (toD v)=(toD v',E1 ws):=by
 unfold e1a at h
 split at h
 ·obtain ⟨p,hp,he⟩:=Option.map_eq_some_iff.1 h
  obtain ⟨p1,p2⟩:=p
  injection he with h1 h2;subst h1 h2
  simp only [toD,own,D3,b8j hp]
 ·rename_i t n off len z
  cases hz:Nat.beq n z with
  | false=>rw [hz] at h;cases h
  | true =>
   rw [hz] at h
   injection h with h;injection h with h1 h2;subst h1 h2
   have:=Nat.eq_of_beq_eq_true hz
   subst this
   simp only [toD,own,G1,Nat.beq_refl,cond_true,E1,C5,List.map_cons,List.map_nil]
 ·rename_i h1 h2
  injection h with h;injection h with q1 q2;subst q1 q2
  unfold own
  split
  ·rename_i ds hd
   exfalso
   cases v <;> simp only [toD] at hd <;> first | (cases hd;done) | skip
   ·rename_i x;have:=O0 x 0;rw [hd] at this;cases this
   ·exact h1 _ rfl
  ·rename_i hd
   exfalso
   cases v <;> simp only [toD] at hd <;> first | (cases hd;done) | skip
   ·injection hd with _ _ hd;subst hd;exact h2 _ _ _ _ _ rfl
   ·exact c5p hd
  ·rfl
theorem b8g {s:A9} {nid:Nat} {v:V} {ws:List (Nat × Bx)} {rs:List Nat} {K:KV} (h:c4l s nid v ws rs K=some r) {K':D→List (Nat × u5)→List Nat→Prop} (hK:∀ v ws rs,K v ws rs=some r→K' (toD v) (E1 ws) rs) :
  a15 (o7 s) nid (toD v) (E1 ws) rs K':=by
 unfold c4l at h
 unfold a15
 split at h
 ·rename_i v' ho
  rw [c2u ho]
  exact hK _ _ _ h
 ·rename_i v' x xs ho
  rw [c2u ho]
  simp only [E1,List.map_cons]
  cases hf:a2g (s.lay ws) nid with
  | false=>rw [hf] at h;cases h
  | true =>
   rw [hf] at h
   have e:E2 ((o7 s).lay (ws.map fun p=>(p.1,C5 p.2))) nid=true:=by
    have:=a79 hf
    rw [b6z] at this
    exact this
   rw [e]
   have:=hK _ _ _ h
   simp only [E1,List.map_append,List.map_cons] at this
   exact this
 ·cases h
theorem d5j {fn:FuncId→E6} {cr:V4} (htab:X.tab=[]) (hfn:∀ g,O9 X g (fn g)) (hcr:a4p cr) {s:A9} {nid:Nat} {g:FuncId} {vs:List V} {K:KV} {Kp:V→List Nat→Om} (h:e5q CR fn cr s nid g vs K Kp=some r)
  {K':D→List (Nat × u5)→List Nat→Prop} {Kp':D→List Nat→Prop} (hK:∀ v ws rs,K v ws rs=some r→K' (toD v) (E1 ws) rs) (hKp:∀ v rs,Kp v rs=some r→Kp' (toD v) rs):a1q X (o7 s) nid g (vs.map toD) K' Kp':=by
 obtain ⟨vs',ks,h,hf⟩:=b2j h
 unfold a1q
 rw [hf]
 simp only [] at h ⊢
 have eids:X4 ((vs'.map toD).flatMap b01)=X4 (vs'.flatMap b8m):=by
  rw [List.flatMap_map];congr 2;funext v;exact (e1b v).symm
 rw [eids]
 generalize X4 (vs'.flatMap b8m)=ids at h ⊢
 have elay:(o7 s).lay (ks.map fun k=>(k,u5.dead))=o7 (s.lay (ks.map fun k=>(k,Bx.dead))):=by
  rw [b6z];congr 1;unfold E1;rw [List.map_map];rfl
 rw [elay]
 split at h
 ·rename_i bs hb
  obtain ⟨h1,h2,h3⟩:=a8v hb
  have h1':T0 (o7 (s.lay (ks.map fun k=>(k,Bx.dead)))).heap ids=some (bs.map G2):=h1
  rw [h1']
  simp only []
  have hall:(bs.map (a18 (pos · ids))).all Q4=true:=by
   rw [List.all_map];rw [List.all_eq_true] at h2 ⊢;intro b hbm;simp only [Function.comp,d2f];exact h2 b hbm
  have e1:(vs'.map toD).map (ren (pos · ids))=(vs'.map (a2a (pos · ids))).map toD:=(map_toD (fun v=>a93 v) vs').symm
  have e2:(bs.map G2).map (fun x=>x.map (renI (pos · ids)))=(bs.map (a18 (pos · ids))).map G2:=by
   rw [List.map_map,List.map_map];exact List.map_congr_left fun b _=>(b4h (pos · ids)).symm
  rw [e1,e2]
  unfold b3z
  rw [htab]
  simp only [a6o]
  have h:bind (fn g (vs'.map (a2a (pos · ids))) (bs.map (a18 (pos · ids)))) _ _=some r:=h
  unfold bind at h
  split at h
  ·rename_i v bs' hcall
   have hcm:=hfn g _ _ _ _ hcall hall
   rcases hcr _ _ _ _ _ _ h with ⟨v2,bs2,ev,eb,hk⟩ | ⟨v2,ev,eb,hk⟩
   ·simp only [] at hk
    cases hg:Nat.beq bs2.length ids.length && bs2.all Q4 with
    | false=>rw [hg] at hk;cases hk
    | true =>
     rw [hg] at hk
     rw [Bool.and_eq_true] at hg
     have hl2:=Nat.eq_of_beq_eq_true hg.1
     have hok:=c1q eb hg.2
     have ebD:bs2.map G2=bs'.map G2:=by
      have hl:bs2.length=bs'.length:=by have:=congrArg List.length eb;simpa using this
      apply List.ext_getElem
      ·simpa using hl
      ·intro i hi1 hi2
       simp only [List.length_map] at hi1 hi2
       simp only [List.getElem_map]
       have q1:=List.all_eq_true.1 hg.2 _ (List.getElem_mem hi1)
       have q2:=List.all_eq_true.1 hok _ (List.getElem_mem hi2)
       have q3:(bs2.map C5)[i]?=(bs'.map C5)[i]?:=by rw [eb]
       rw [List.getElem?_map,List.getElem?_map,List.getElem?_eq_getElem hi1,List.getElem?_eq_getElem hi2] at q3
       simp only [Option.map_some] at q3
       injection q3 with q3
       rw [a3r q1,a3r q2] at q3
       injection q3
     refine .ret (toD v) (bs'.map G2) hcm (by rw [← ebD,List.length_map];exact hl2) ?_
     have:=b8g hk hK
     rw [a93,ev] at this
     have e3:E1 ((ks.map fun k=>(k,Bx.dead)) ++ b4d ids bs2)=(ks.map fun k=>(k,u5.dead)) ++ a7j ids (bs'.map G2):=by
      rw [← ebD,← d4r hg.2];unfold E1;rw [List.map_append,List.map_map];rfl
     rw [e3] at this
     exact .inl this
   ·simp only [] at hk
    cases hg:bs.all c7q with
    | false=>rw [hg] at hk;cases hk
    | true =>
     rw [hg] at hk
     subst eb
     refine .ret (toD v) _ hcm (by simp [h3]) (.inr ⟨?_,?_⟩)
     ·rw [List.map_map,List.map_map]
      refine List.map_congr_left fun b hb=>?_
      have hp:=List.all_eq_true.1 hg b hb
      simp only [Function.comp]
      rw [b4h,b8n _ hp,b8n _ hp]
     ·have:=b8g hk hK
      rw [a93,ev] at this
      have e3:E1 (ks.map fun k=>(k,Bx.dead))=ks.map fun k=>(k,u5.dead):=by unfold E1;rw [List.map_map];rfl
      rw [e3] at this
      exact this
  ·rename_i v bs' hcall
   have hcm:=hfn g _ _ _ _ hcall hall
   refine .pan (toD v) (bs.map G2) (CM.pan_any hcm) (by simp [h3]) ?_
   have:=hKp _ _ h
   rw [show CR.rn0 v=a2a a0e v from rfl,a93] at this
   exact this
  ·cases h
 ·cases h

def e3y (C:Comb) (X:Pr) (fn:FuncId→E6) (cr:V4) (s:A9) (nid:Nat) (o:Op) (K:KV) (Kp:V→List Nat→Om):Om :=
 match o with
 | .call { callee:=.value f,args,.. }=>match s.eval f with
  | .func (.func g) fs cs=>e5q C fn cr s nid g (fs ++ args.toList.map s.eval ++ cs) K Kp
  | _=>none
 | .panic x=>match s.eval x with
  | .iface t d=>Kp (a2a a0e (.iface t d)) []
  | _=>none
 | .pick c a b=>match s.eval c with
  | .known t=>cond t (K (s.eval a) [] []) (K (s.eval b) [] [])
  | v=>vB C v fun t=>C.cnd t (K (s.eval a) [] []) (K (s.eval b) [] [])
 | o=>S6 C X s nid o K
theorem d88 {fn:FuncId→E6} {cr:V4} (htab:X.tab=[]) (hfn:∀ g,O9 X g (fn g)) (hcr:a4p cr) {s:A9} {nid:Nat} {o:Op} {K:KV} {Kp:V→List Nat→Om} (h:e3y CR X fn cr s nid o K Kp=some r)
  {K':D→List (Nat × u5)→List Nat→Prop} {Kp':D→List Nat→Prop} (hK:∀ v ws rs,K v ws rs=some r→K' (toD v) (E1 ws) rs) (hKp:∀ v rs,Kp v rs=some r→Kp' (toD v) rs):R1 X (o7 s) nid o K' Kp':=by
 have hrest:∀ o:Op,S6 CR X s nid o K=some r→(match s9 X (o7 s) nid o with | some out=>cond out.need (K' out.val out.ws out.rs) False | none=>False):=by
  intro o h
  obtain ⟨v,ws,rs,h,hd⟩:=e30 h
  rw [hd]
  exact hK _ _ _ h
 unfold e3y at h
 unfold R1
 split at h
 ·rename_i f args ts
  simp only []
  split at h
  ·rename_i g fs cs hf
   rw [n8,hf]
   simp only [toD]
   have:=d5j htab hfn hcr h hK hKp
   rw [List.map_append,List.map_append] at this
   rw [D3,D3,c7h]
   exact this
  ·cases h
 ·rename_i x
  simp only []
  split at h
  ·rename_i t d hx
   rw [n8,hx]
   have:=hKp _ _ h
   rw [a93] at this
   simp only [toD] at this ⊢
   exact this
  ·cases h
 ·rename_i c a b
  simp only [n8]
  split at h
  ·rename_i t hc
   rw [hc]
   simp only [toD]
   cases t
   ·exact hK _ _ _ h
   ·exact hK _ _ _ h
  ·obtain ⟨t,hc,h⟩:=a09 h
   rw [hc]
   simp only []
   have h:cnd t _ _=some r:=h
   rw [a9p] at h
   cases t
   ·exact hK _ _ _ h
   ·exact hK _ _ _ h
 ·rename_i h1 h2 h3
  split
  ·exact absurd rfl (h1 _ _ _)
  ·exact absurd rfl (h2 _)
  ·exact absurd rfl (h3 _ _ _)
  ·exact hrest o h

def c8y (C:Comb) (ops:Array Oper) (s:A9) (o:Oper) (Ky Kn:A9→Om):Om :=
 match o.guard with
 | none=>Ky s
 | some (j,want)=>match b2p ops j with
  | none=>Kn s
  | some t=>bif Nat.blt t s.tmps.length then
    match P7 s.tmps t with
    | .known b=>cond (cond want b (!b)) (Ky s) (Kn s)
    | .tuple _=>Kn s
    | v=>vB C v fun b=>match want with
     | true=>C.cnd b (Ky (s.put (some t) (.known true))) (Kn (s.put (some t) (.known false)))
     | false=>C.cnd b (Kn (s.put (some t) (.known true))) (Ky (s.put (some t) (.known false)))
   else Kn s
theorem d0c {ops:Array Oper} {s:A9} {o:Oper} {Ky Kn:A9→Om} (h:c8y CR ops s o Ky Kn=some r) {Ky' Kn':St→Prop} (hy:∀ s,Ky s=some r→Ky' (o7 s)) (hn:∀ s,Kn s=some r→Kn' (o7 s)):a7z ops (o7 s) o Ky' Kn':=by
 unfold c8y at h
 unfold a7z
 split at h
 ·rename_i hg;rw [hg];exact hy _ h
 ·rename_i j want hg
  rw [hg]
  simp only []
  split at h
  ·rename_i ht;rw [ht];exact hn _ h
  ·rename_i t ht
   rw [ht]
   simp only []
   cases hb:Nat.blt t s.tmps.length with
   | false =>
    rw [hb] at h
    have hl:s.tmps.length≤t:=by
     rcases Nat.lt_or_ge t s.tmps.length with h1 | h1
     ·have:Nat.blt t s.tmps.length=true:=by rw [Nat.blt_eq];exact h1
      rw [hb] at this;cases this
     ·exact h1
    have e:(o7 s).tmps[t]?=none:=by simp only [o7,List.getElem?_map,List.getElem?_eq_none hl,Option.map_none]
    rw [e]
    exact hn _ h
   | true =>
    rw [hb] at h
    have hl:t < s.tmps.length:=by rw [Nat.blt_eq] at hb;exact hb
    have e:(o7 s).tmps[t]?=some (toD (P7 s.tmps t)):=by
     rw [a3z,List.getD_eq_getElem?_getD,List.getElem?_eq_getElem hl]
     simp only [o7,List.getElem?_map,List.getElem?_eq_getElem hl,Option.map_some,Option.getD_some]
    rw [e]
    simp only [cond_true] at h
    have key:∀ b,toD (P7 s.tmps t)=.bool b→(o7 s).put (some t) (.bool b)=o7 s:=fun b hb=>b6n (by rw [e,hb])
    split at h
    ·rename_i b hv
     rw [hv]
     have k1:=key b (by rw [hv];simp only [toD])
     simp only [toD]
     cases want <;> cases b <;> simp only [cond_true,cond_false,Bool.not_true,Bool.not_false] at h ⊢ <;> rw [k1] <;> first | exact hy _ h | exact hn _ h
    ·rename_i hv
     rw [hv]
     simp only [toD]
     exact hn _ h
    ·obtain ⟨b,hv,h⟩:=a09 h
     rw [hv]
     simp only []
     have p1:=a4a s (some t) (.known true)
     have p2:=a4a s (some t) (.known false)
     simp only [toD] at p1 p2
     cases want
     ·have h:cnd b _ _=some r:=h
      rw [a9p] at h
      cases b <;> simp only [cond_true,cond_false] at h ⊢
      ·rw [← p2];exact hy _ h
      ·rw [← p1];exact hn _ h
     ·have h:cnd b _ _=some r:=h
      rw [a9p] at h
      cases b <;> simp only [cond_true,cond_false] at h ⊢
      ·rw [← p2];exact hn _ h
      ·rw [← p1];exact hy _ h

def fLV (l:List V):(List V→Om)→Om:=List.rec (motive:=fun _=>(List V→Om)→Om) (fun K=>K []) (fun x _ ih K=>ih fun l=>K (x :: l)) l
def fLB (l:List Bx):(List Bx→Om)→Om:=List.rec (motive:=fun _=>(List Bx→Om)→Om) (fun K=>K []) (fun x _ ih K=>ih fun l=>K (x :: l)) l
def fSt (s:A9) (K:A9→Om):Om:=fLV s.tmps fun t=>fLB s.heap fun h=>K ⟨t,h⟩
theorem d6m:∀ (l:List V) (K:List V→Om),fLV l K=K l
 | [],_=>rfl
 | x :: l,K=>d6m l fun l=>K (x :: l)
theorem d6l:∀ (l:List Bx) (K:List Bx→Om),fLB l K=K l
 | [],_=>rfl
 | x :: l,K=>d6l l fun l=>K (x :: l)
theorem b2i (s:A9) (K:A9→Om):fSt s K=K s:=by unfold fSt;rw [d6m,d6l]
def b3r (C:Comb) (X:Pr) (fn:FuncId→E6) (cr:V4) (ops:Array Oper) (nid:Nat→Nat):List Nat→A9→List Tr→(A9→List Tr→Om)→(Nat→V→List Nat→List Tr→Om)→Om
 | [],s,tr,K,_=>K s tr
 | i :: l,s,tr,K,Kp=>match ops[i]? with
  | none=>b3r C X fn cr ops nid l s tr K Kp
  | some o=>c8y C ops s o
    (fun s=>e3y C X fn cr s (nid i) o.op (fun d ws rs=>fSt ((s.lay ws).put o.dst d) fun s=>b3r C X fn cr ops nid l s (⟨i,o.dst,.junk,ws.map fun p=>(p.1,.dead),rs⟩ :: tr) K Kp) (fun d rs=>Kp i d rs tr))
    (fun s=>fSt (s.put o.dst (.tuple [])) fun s=>b3r C X fn cr ops nid l s (⟨i,o.dst,.junk,[],[]⟩ :: tr) K Kp)
def Tr.face (t:Tr):Nat × Option Tmp × List Nat × List Nat:=(t.i,t.dst,t.ids,t.rs)
theorem d4c {ops:Array Oper} {x y x' y':Tr} (hx:x.face=x'.face) (hy:y.face=y'.face):Q7 ops x y=Q7 ops x' y':=by
 unfold Tr.face at hx hy
 injection hx with h1 hx;injection hx with h2 hx;injection hx with h3 h4
 injection hy with g1 hy;injection hy with g2 hy;injection hy with g3 g4
 unfold Q7
 rw [h1,h2,h3,h4,g1,g2,g3,g4]
theorem b04 {ops:Array Oper}:∀ {a b:List Tr},a.map Tr.face=b.map Tr.face→U5 ops a=U5 ops b
 | [],[],_=>rfl
 | [],_ :: _,h=>by simp at h
 | _ :: _,[],h=>by simp at h
 | x :: a,y :: b,h=>by
  simp only [List.map_cons,List.cons.injEq] at h
  simp only [U5]
  rw [b04 h.2]
  congr 1
  have:∀ {a b:List Tr},a.map Tr.face=b.map Tr.face→(a.all fun z=>!Q7 ops z x || V8 ops z.i ops.size x.i)=b.all fun z=>!Q7 ops z y || V8 ops z.i ops.size y.i:=by
   intro a
   induction a with
   | nil=>intro b hab;cases b with
    | nil=>rfl
    | cons=>simp at hab
   | cons z a ih=>intro b hab;cases b with
    | nil=>simp at hab
    | cons u b =>
     simp only [List.map_cons,List.cons.injEq] at hab
     simp only [List.all_cons]
     rw [ih hab.2,d4c hab.1 h.1]
     have e1:z.i=u.i:=congrArg Prod.fst hab.1
     have e2:x.i=y.i:=congrArg Prod.fst h.1
     rw [e1,e2]
  exact this h.2
theorem a2l {fn:FuncId→E6} {cr:V4} (htab:X.tab=[]) (hfn:∀ g,O9 X g (fn g)) (hcr:a4p cr) {ops:Array Oper} {nid:Nat→Nat}:∀ {l:List Nat} {s:A9} {tr:List Tr} {K:A9→List Tr→Om} {Kp:Nat→V→List Nat→List Tr→Om},b3r CR X fn cr ops nid l s tr K Kp=some r →
  ∀ {tr':List Tr} {K':St→List Tr→Prop} {Kp':Nat→D→List Nat→List Tr→Prop},tr.map Tr.face=tr'.map Tr.face→(∀ s t t',t.map Tr.face=t'.map Tr.face→K s t=some r→K' (o7 s) t')→(∀ i v rs t t',t.map Tr.face=t'.map Tr.face→Kp i v rs t=some r→Kp' i (toD v) rs t')→a0j X ops nid l (o7 s) tr' K' Kp'
 | [],s,tr,K,Kp,h,tr',K',Kp',htr,hK,hKp=>hK _ _ _ htr h
 | i :: l,s,tr,K,Kp,h,tr',K',Kp',htr,hK,hKp=>by
  simp only [b3r] at h
  simp only [a0j]
  split at h
  ·rename_i ho;rw [ho];exact a2l htab hfn hcr h htr hK hKp
  ·rename_i o ho
   rw [ho]
   refine d0c h (fun s h=>?_) (fun s h=>?_)
   ·refine d88 htab hfn hcr h (fun v ws rs h=>?_) (fun v rs h=>hKp _ _ _ _ _ htr h)
    rw [b2i] at h
    rw [← b6z,← a4a]
    refine a2l htab hfn hcr h ?_ hK hKp
    simp only [List.map_cons,List.cons.injEq,htr,and_true]
    simp only [Tr.face,Tr.ids,E1,List.map_map]
    rfl
   ·rw [b2i] at h
    have:=a4a s o.dst (.tuple [])
    simp only [toD,V2] at this
    rw [← this]
    refine a2l htab hfn hcr h ?_ hK hKp
    simp only [List.map_cons,List.cons.injEq,htr,and_true]
    rfl

def A9.more (s:A9) (n:Nat):A9:={ s with heap:=s.heap ++ List.replicate n .free }
theorem d8v (s:A9) (n:Nat):o7 (s.more n)=(o7 s).more n:=by simp only [o7,A9.more,St.more,List.map_append,List.map_replicate,C5]
def e0b (C:Comb) (m:G4) (c:Int):Bool:=C.bnot (C.band (C.bnot (C.iEq c m.k0)) (C.band (C.bnot (C.iEq c m.k1)) (C.bnot (C.iEq c m.k2))))
def e33 (C:Comb) (m:G4) (c:Int):Int:=C.isel (C.iEq c m.k0) m.v0 (C.isel (C.iEq c m.k1) m.v1 m.v2)
def e1h (m:G4) (s:A9) (c x:Int):A9:=(((s.put (some m.t0) .junk).put (some m.t1) .junk).put (some m.t2) (.int .u8 c)).put (some m.t3) (.int .i64 x)
theorem e6d (m:G4) (c:Int):e0b CR m c=m.has c:=by
 unfold e0b G4.has
 simp only [e94,e93,e4b,a3q,N8,U1]
theorem e9v (m:G4) (c:Int):e33 CR m c=m.val c:=by
 unfold e33 G4.val
 simp only [e95,e4b,c0i,U1]
theorem d8w (m:G4) (s:A9) (c:Int):o7 (e1h m s c (m.val c))=m.put (o7 s) c:=by
 unfold e1h G4.put
 simp only [a4a,toD]
def c1m (C:Comb) (X:Pr) (fn:FuncId→E6) (cr:V4) (ops:Array Oper) (draw:Bool) (s:A9) (K:A9→Om) (Kp:V→Om):Om :=
 match draw with
 | false=>match b2x ops.toList with
  | none=>fSt (s.more (a5g ops.toList)) fun s'=>b3r C X fn cr ops (fun i=>s.heap.length+a8j ops.toList i) (List.range ops.size) s' [] (fun s _=>K s) (fun _ d _ _=>Kp d)
  | some m=>cond (a6j X.P m.mt && m.ok s.tmps.length) (vI C .u8 (P7 s.tmps m.src) fun c=>C.chk (e0b C m c) (C.fI (e33 C m c) fun x=>fSt (e1h m (s.more (a5g ops.toList)) c x) fun s' =>
   b3r C X fn cr ops (fun i=>s.heap.length+a8j ops.toList i) (List.range' 7 (ops.size - 7)) s' [] (fun s _=>K s) (fun _ d _ _=>Kp d))) none
 | true=>cond (a6n ops)
   (fSt (s.more (a5g ops.toList)) fun s'=>b3r C X fn cr ops (fun i=>s.heap.length+a8j ops.toList i) (List.range ops.size) s' [] (fun s tr=>cond (U5 ops tr) (K s) none)
    (fun i d rs tr=>cond (U5 ops (⟨i,none,.junk,[],rs⟩ :: tr) && (List.range ops.size).all fun j=>Nat.ble j i || V8 ops i ops.size j) (Kp d) none)) none
theorem c8z {fn:FuncId→E6} {cr:V4} (htab:X.tab=[]) (hfn:∀ g,O9 X g (fn g)) (hcr:a4p cr) {ops:Array Oper} {draw:Bool} {s:A9} {K:A9→Om} {Kp:V→Om} (h:c1m CR X fn cr ops draw s K Kp=some r)
  {K':St→Prop} {Kp':D→Prop} (hK:∀ s,K s=some r→K' (o7 s)) (hKp:∀ v,Kp v=some r→Kp' (toD v)):a4b X ops draw (o7 s) K' Kp':=by
 have el:(o7 s).heap.length=s.heap.length:=by simp [o7]
 unfold c1m at h
 unfold a4b
 rw [el,← d8v]
 split at h
 ·simp only []
  split at h
  ·rename_i hm
   rw [hm]
   rw [b2i] at h
   exact a2l htab hfn hcr h rfl (fun s t t' _ h=>hK s h) (fun i v rs t t' _ h=>hKp v h)
  ·rename_i m hm
   rw [hm]
   have et:(o7 s).tmps.length=s.tmps.length:=by simp [o7]
   simp only [et]
   generalize (a6j X.P m.mt && m.ok s.tmps.length)=b at h ⊢
   cases b with
   | false=>cases h
   | true =>
    simp only [cond_true] at h ⊢
    obtain ⟨c,hc,h⟩:=a0b h
    obtain ⟨h0,h⟩:=D5 h
    rw [e6d] at h0
    rw [CfI,e9v,b2i] at h
    have e1:(o7 s).tmps.getD m.src .junk=.int .u8 c:=by
     have:=n8 s (.tmp m.src)
     have e2:(o7 s).eval (.tmp m.src)=(o7 s).tmps.getD m.src .junk:=rfl
     rw [← e2,this];exact hc
    rw [e1]
    simp only [h0,cond_true]
    rw [← d8w]
    exact a2l htab hfn hcr h rfl (fun s t t' _ h=>hK s h) (fun i v rs t t' _ h=>hKp v h)
 ·simp only []
  cases he:a6n ops with
  | false=>rw [he] at h;cases h
  | true =>
   rw [he] at h
   simp only [cond_true] at h ⊢
   rw [b2i] at h
   refine a2l htab hfn hcr h rfl (fun s t t' ht h=>?_) (fun i v rs t t' ht h=>?_)
   ·rw [← b04 ht]
    cases hr:U5 ops t with
    | false=>rw [hr] at h;cases h
    | true=>rw [hr] at h;exact hK s h
   ·rw [← b04 (a:=⟨i,none,.junk,[],rs⟩ :: t) (by simp only [List.map_cons,ht])]
    generalize (U5 ops (⟨i,none,.junk,[],rs⟩ :: t) && (List.range ops.size).all fun j=>Nat.ble j i || V8 ops i ops.size j)=b at h ⊢
    cases b with
    | false=>cases h
    | true=>exact hKp v h
end

inductive Sh where
 | int (k:IntKind)
 | bool
 | str
 | slice (n:Nat) (c:Cap)
 | q
 | a (m:Nat)
 | agg (l:List Sh)
 | tuple (l:List Sh)
 | ptr (id off:Nat)
 | cref (m:Nat)
 | bslice (id:Nat)
 | nilp
 | nilIface
 | iface (t:TypeId) (s:Sh)
 | func (fn:Fn) (fs cs:List Sh)
 | any
inductive ShB where
 | cells (l:List Sh)
 | opa (m:Nat)
 | tok (size:Nat)
 | row
 | any

mutual
def d2n:V→Sh
 | .bool _ | .known _=>.bool
 | .int k _=>.int k
 | .str _ _=>.str
 | .slice _ n _ _ c=>.slice n c
 | .q _=>.q
 | .a _ m=>.a m
 | .agg cs=>.agg (a35 cs)
 | .tuple cs=>.tuple (a35 cs)
 | .ptr id off=>.ptr id off
 | .cref _ _ m=>.cref m
 | .bslice id _=>.bslice id
 | .nilp=>.nilp
 | .nilIface=>.nilIface
 | .iface t v=>.iface t (d2n v)
 | .func fn a b=>.func fn (a35 a) (a35 b)
 | .junk=>.any
def a35:List V→List Sh
 | []=>[]
 | v :: vs=>d2n v :: a35 vs
end
def c8d:Bx→ShB
 | .cells cs=>.cells (a35 cs)
 | .opa _ m=>.opa m
 | .tok _ z=>.tok z
 | .row _ _=>.row
 | _=>.any
def uI (k:IntKind) (v:V) (K:Int→Om):Om:=match v with
 | .int k' n=>cond (ikEq k k') (K n) none
 | .q x=>cI k x K
 | _=>none
def uB (v:V) (K:Bool→Om):Om:=match v with
 | .bool b=>K b
 | .known b=>K b
 | .q x=>cB x K
 | _=>none
def uS (v:V) (K:Nat→Nat→Om):Om:=match v with
 | .str l c=>K l c
 | .q x=>cS x K
 | _=>none
def uSl (n cN:Nat) (v:V) (K:j8 Q→Nat→Nat→Om):Om:=match v with
 | .slice t n' off len c=>cond (Nat.beq (a0o c) cN) (Nat.rec (motive:=fun _=>Om) (chk (nEq len 0) (K .nil 0 0)) (fun _ _=>cond (Nat.beq n n') (K t off len) (chk (nEq len 0) (K .nil 0 0))) n') none
 | .q x=>cond (Nat.beq cN 0) (cSl n x K) none
 | _=>none
def uQ (v:V) (K:Q→Om):Om:=match c1h v with
 | some x=>K x
 | none=>match v with
  | .slice t n off len .no=>K (.slice t n off len)
  | _=>none
def uA (m:Nat) (v:V) (K:Q→Om):Om:=match v with
 | .a x m'=>cond (Nat.beq m m') (K x) none
 | .agg cs=>cond (Nat.beq cs.length m) (match exQs cs with
  | some qs=>K (.agg qs 0)
  | none=>none) none
 | _=>none
where
 exQ (v:V):Option Q:=match c1h v with
  | some x=>some x
  | none=>match v with
   | .slice t n off len .no=>some (.slice t n off len)
   | _=>none
 exQs:List V→Option (List Q)
  | []=>some []
  | v :: vs=>match exQ v,exQs vs with
   | some q,some qs=>some (q :: qs)
   | _,_=>none
def uL (v:V) (K:List V→Om):Om:=match v with
 | .agg cs=>K cs
 | _=>none
def uTu (v:V) (K:List V→Om):Om:=match v with
 | .tuple cs=>K cs
 | _=>none
def uP (id off:Nat) (v:V) (K:Om):Om:=match v with
 | .ptr i o=>cond (Nat.beq id i) (cond (Nat.beq off o) K none) none
 | _=>none
def uCref (m:Nat) (v:V) (K:Q→Om):Om:=match v with
 | .cref x off m'=>cond (Nat.beq m m') (fQ (subQ x off) K) none
 | _=>none
def uBs (id:Nat) (v:V) (K:Nat→Om):Om:=match v with
 | .bslice i len=>cond (Nat.beq id i) (K len) none
 | _=>none
def uNilp (v:V) (K:Om):Om:=match v with
 | .nilp=>K
 | .q x=>d23 x K
 | _=>none
def uNilI (v:V) (K:Om):Om:=match v with
 | .nilIface=>K
 | _=>none
def uIf (t:TypeId) (v:V) (K:V→Om):Om:=match v with
 | .iface t' v=>cond (Nat.beq t t') (K v) none
 | _=>none
def uFn (f:Nat) (v:V) (K:List V→List V→Om):Om:=match v with
 | .func (.func f') fs cs=>cond (Nat.beq f f') (K fs cs) none
 | _=>none
def uCons (l:List V) (K:V→List V→Om):Om:=match l with
 | v :: l=>K v l
 | []=>none
def uNil (l:List V) (K:Om):Om:=match l with
 | []=>K
 | _=>none
def uConsB (l:List Bx) (K:Bx→List Bx→Om):Om:=match l with
 | v :: l=>K v l
 | []=>none
def uNilB (l:List Bx) (K:Om):Om:=match l with
 | []=>K
 | _=>none
def uBc (b:Bx) (K:List V→Om):Om:=match b with
 | .cells cs=>K cs
 | .opa x m=>K ((b1j 0 m).map fun i=>.q (celQ x i))
 | _=>none
def uBo (m:Nat) (b:Bx) (K:Q→Om):Om:=match b with
 | .opa x m'=>cond (Nat.beq m m') (K x) none
 | .cells cs=>cond (Nat.beq cs.length m) (match uA.exQs cs with
  | some qs=>K (.agg qs 0)
  | none=>none) none
 | _=>none
def uBt (z:Nat) (b:Bx) (K:Nat→Om):Om:=match b with
 | .tok l z'=>cond (Nat.beq z z') (K l) none
 | _=>none
def uBr (b:Bx) (K:j8 Q→Nat→Om):Om:=match b with
 | .row t len=>K t len
 | _=>none
structure v8 extends Comb where
 uI:IntKind→V→(Int→Om)→Om
 uB:V→(Bool→Om)→Om
 uS:V→(Nat→Nat→Om)→Om
 uSl:Nat→Nat→V→(j8 Q→Nat→Nat→Om)→Om
 uQ:V→(Q→Om)→Om
 uA:Nat→V→(Q→Om)→Om
 uL:V→(List V→Om)→Om
 uTu:V→(List V→Om)→Om
 uP:Nat→Nat→V→Om→Om
 uCref:Nat→V→(Q→Om)→Om
 uBs:Nat→V→(Nat→Om)→Om
 uNilp:V→Om→Om
 uNilI:V→Om→Om
 uIf:Nat→V→(V→Om)→Om
 uFn:Nat→V→(List V→List V→Om)→Om
 uCons:List V→(V→List V→Om)→Om
 uNil:List V→Om→Om
 uConsB:List Bx→(Bx→List Bx→Om)→Om
 uNilB:List Bx→Om→Om
 uBc:Bx→(List V→Om)→Om
 uBo:Nat→Bx→(Q→Om)→Om
 uBt:Nat→Bx→(Nat→Om)→Om
 uBr:Bx→(j8 Q→Nat→Om)→Om
 lp:((List V→List Bx→Om)→List V→List Bx→Om)→List V→List Bx→Om
 jn:((List V→List Bx→Om)→Om)→(List V→List Bx→Om)→Om
 same:List Bx→List Bx→Om→Om
def C4:Nat:=100000
def lp (body:(List V→List Bx→Om)→List V→List Bx→Om):List V→List Bx→Om :=
 Nat.rec (motive:=fun _=>List V→List Bx→Om) (fun _ _=>none) (fun _ ih=>body ih) C4
def jn (f:(List V→List Bx→Om)→Om) (g:List V→List Bx→Om):Om:=f g
def CU:v8:={ CR with
 uI:=uI,uB:=uB,uS:=uS,uSl:=uSl,uQ:=uQ,uA:=uA,uL:=uL,uTu:=uTu,uP:=uP,uCref:=uCref,uBs:=uBs,uNilp:=uNilp,uNilI:=uNilI,uIf:=uIf,uFn:=uFn,uCons:=uCons,uNil:=uNil,
 uConsB:=uConsB,uNilB:=uNilB,uBc:=uBc,uBo:=uBo,uBt:=uBt,uBr:=uBr,lp:=lp,jn:=jn,same:=same }
mutual
def d28 (U:v8):Sh→V→(V→Om)→Om
 | .int k,v,K=>U.uI k v fun n=>K (.int k n)
 | .bool,v,K=>U.uB v fun b=>K (.bool b)
 | .str,v,K=>U.uS v fun l c=>K (.str l c)
 | .slice n c,v,K=>U.uSl n (a0o c) v fun t off len=>K (.slice t n off len c)
 | .q,v,K=>U.uQ v fun x=>K (.q x)
 | .a m,v,K=>U.uA m v fun x=>K (.a x m)
 | .agg l,v,K=>U.uL v fun cs=>a1t U l cs fun cs=>K (.agg cs)
 | .tuple l,v,K=>U.uTu v fun cs=>a1t U l cs fun cs=>K (.tuple cs)
 | .ptr id off,v,K=>U.uP id off v (K (.ptr id off))
 | .cref m,v,K=>U.uCref m v fun x=>K (.cref x 0 m)
 | .bslice id,v,K=>U.uBs id v fun len=>K (.bslice id len)
 | .nilp,v,K=>U.uNilp v (K .nilp)
 | .nilIface,v,K=>U.uNilI v (K .nilIface)
 | .iface t s,v,K=>U.uIf t v fun v=>d28 U s v fun v=>K (.iface t v)
 | .func (.func f) fs cs,v,K=>U.uFn f v fun a b=>a1t U fs a fun a=>a1t U cs b fun b=>K (.func (.func f) a b)
 | .func _ _ _,_,_=>none
 | .any,v,K=>K v
def a1t (U:v8):List Sh→List V→(List V→Om)→Om
 | [],l,K=>U.uNil l (K [])
 | s :: ss,l,K=>U.uCons l fun v l=>d28 U s v fun v=>a1t U ss l fun l=>K (v :: l)
end
def e4e (U:v8):ShB→Bx→(Bx→Om)→Om
 | .cells l,b,K=>U.uBc b fun cs=>a1t U l cs fun cs=>K (.cells cs)
 | .opa m,b,K=>U.uBo m b fun x=>K (.opa x m)
 | .tok z,b,K=>U.uBt z b fun l=>K (.tok l z)
 | .row,b,K=>U.uBr b fun t len=>K (.row t len)
 | .any,b,K=>K b
def a1i (U:v8):List ShB→List Bx→(List Bx→Om)→Om
 | [],l,K=>U.uNilB l (K [])
 | s :: ss,l,K=>U.uConsB l fun b l=>e4e U s b fun b=>a1i U ss l fun l=>K (b :: l)

section
variable {r:R}
theorem e9s {k:IntKind} {v:V} {K:Int→Om} (h:uI k v K=some r):∃ n,toD v=.int k n∧K n=some r:=a0b (k:=k) (v:=v) (by unfold vI;exact h)
theorem e9r {v:V} {K:Bool→Om} (h:uB v K=some r):∃ b,toD v=.bool b∧K b=some r:=a09 (v:=v) (by unfold vB;exact h)
theorem e9u {v:V} {K:Nat→Nat→Om} (h:uS v K=some r):∃ l c,toD v=.str (m8 l c)∧K l c=some r:=a1a (v:=v) (by unfold vS;exact h)
theorem e3w {n:Nat} {c:Cap} {v:V} {K:j8 Q→Nat→Nat→Om} (h:uSl n (a0o c) v K=some r):∃ t off len,toD v=.slice len (rows (y8 t) n off len) c∧K t off len=some r:=by
 unfold uSl at h
 split at h
 ·rename_i t n' off len c'
  cases hc:Nat.beq (a0o c') (a0o c) with
  | false=>rw [hc] at h;cases h
  | true =>
   rw [hc] at h
   have:=c48 (Nat.eq_of_beq_eq_true hc)
   subst this
   simp only [cond_true] at h
   cases n' with
   | zero =>
    obtain ⟨h1,h⟩:=b0k (show chk (nEq len 0) (K .nil 0 0)=some r from h)
    have:=Nat.eq_of_beq_eq_true h1
    subst this
    exact ⟨.nil,0,0,by simp only [toD,rows],h⟩
   | succ n' =>
    have h:cond (Nat.beq n (n'+1)) (K t off len) (chk (nEq len 0) (K .nil 0 0))=some r:=h
    cases hn:Nat.beq n (n'+1) with
    | false =>
     rw [hn] at h
     obtain ⟨h1,h⟩:=b0k (show chk (nEq len 0) (K .nil 0 0)=some r from h)
     have:=Nat.eq_of_beq_eq_true h1
     subst this
     exact ⟨.nil,0,0,by simp only [toD,rows],h⟩
    | true=>rw [hn] at h;rw [Nat.eq_of_beq_eq_true hn];exact ⟨t,off,len,by simp only [toD],h⟩
 ·cases hc:Nat.beq (a0o c) 0 with
  | false=>rw [hc] at h;cases h
  | true =>
   rw [hc] at h
   have:c=.no:=c48 (Nat.eq_of_beq_eq_true hc)
   subst this
   obtain ⟨t,off,len,hx,h'⟩:=c47 h
   exact ⟨t,off,len,by simp only [toD,hx],h'⟩
 ·cases h
theorem d92 {v:V} {x:Q} (h:uA.exQ v=some x):toD v=den x 0:=by
 unfold uA.exQ at h
 split at h
 ·rename_i hx;injection h with h;subst h;exact a8r hx
 ·split at h
  ·injection h with h;subst h;simp only [toD,den];rfl
  ·cases h
theorem b2h:∀ {vs:List V} {qs:List Q},uA.exQs vs=some qs→vs.map toD=qs.map (fun x=>den x 0)
 | [],qs,h=>by simp only [uA.exQs] at h;injection h with h;subst h;rfl
 | v :: vs,qs,h=>by
  simp only [uA.exQs] at h
  split at h
  ·rename_i q qs' hq hqs
   injection h with h;subst h
   simp only [List.map_cons,d92 hq,b2h hqs]
  ·cases h
theorem e9t {v:V} {K:Q→Om} (h:uQ v K=some r):∃ x,toD v=den x 0∧K x=some r:=by
 unfold uQ at h
 split at h
 ·rename_i x hx;exact ⟨x,a8r hx,h⟩
 ·split at h
  ·exact ⟨_,by simp only [toD,den];rfl,h⟩
  ·cases h
theorem e9q {m:Nat} {v:V} {K:Q→Om} (h:uA m v K=some r):∃ x,toD v=.agg (t8 (den x) 0 m)∧K x=some r:=by
 unfold uA at h
 split at h
 ·rename_i x m'
  cases hm:Nat.beq m m' with
  | false=>rw [hm] at h;cases h
  | true=>rw [hm] at h;rw [Nat.eq_of_beq_eq_true hm];exact ⟨x,by simp only [toD],h⟩
 ·rename_i cs
  cases hm:Nat.beq cs.length m with
  | false=>rw [hm] at h;cases h
  | true =>
   rw [hm] at h
   simp only [cond_true] at h
   split at h
   ·rename_i qs hqs
    have e:=b2h hqs
    have hl:qs.length=m:=by have:=congrArg List.length e;simp at this;rw [← this];exact Nat.eq_of_beq_eq_true hm
    exact ⟨_,by simp only [toD,D3,e];rw [← hl,b2b],h⟩
   ·cases h
 ·cases h
mutual
theorem b18:∀ {s:Sh} {v:V} {K:V→Om},d28 CU s v K=some r→∃ v',toD v'=toD v∧K v'=some r
 | .int k,v,K,h=>by
  obtain ⟨n,hv,h⟩:=e9s (show uI k v _=some r from h);exact ⟨_,by rw [hv];simp only [toD],h⟩
 | .bool,v,K,h=>by
  obtain ⟨n,hv,h⟩:=e9r (show uB v _=some r from h);exact ⟨_,by rw [hv];simp only [toD],h⟩
 | .str,v,K,h=>by
  obtain ⟨l,c,hv,h⟩:=e9u (show uS v _=some r from h);exact ⟨_,by rw [hv];simp only [toD],h⟩
 | .slice n c,v,K,h=>by
  obtain ⟨t,off,len,hv,h⟩:=e3w (show uSl n (a0o c) v (fun t off len=>K (.slice t n off len c))=some r from h);exact ⟨_,by rw [hv];simp only [toD],h⟩
 | .q,v,K,h=>by
  obtain ⟨x,hv,h⟩:=e9t (show uQ v _=some r from h);exact ⟨_,by rw [hv];simp only [toD],h⟩
 | .a m,v,K,h=>by
  obtain ⟨x,hv,h⟩:=e9q (show uA m v _=some r from h);exact ⟨_,by rw [hv];simp only [toD],h⟩
 | .agg l,v,K,h=>by
  replace h:uL v _=some r:=h
  unfold uL at h
  split at h
  ·obtain ⟨cs',e,h⟩:=L7 h;exact ⟨_,by simp only [toD,D3,e],h⟩
  ·cases h
 | .tuple l,v,K,h=>by
  replace h:uTu v _=some r:=h
  unfold uTu at h
  split at h
  ·obtain ⟨cs',e,h⟩:=L7 h;exact ⟨_,by simp only [toD,D3,e],h⟩
  ·cases h
 | .ptr id off,v,K,h=>by
  replace h:uP id off v _=some r:=h
  unfold uP at h
  split at h
  ·rename_i i o
   cases h1:Nat.beq id i with
   | false=>rw [h1] at h;cases h
   | true =>
    rw [h1] at h
    cases h2:Nat.beq off o with
    | false=>rw [h2] at h;cases h
    | true=>rw [h2] at h;exact ⟨_,by rw [Nat.eq_of_beq_eq_true h1,Nat.eq_of_beq_eq_true h2],h⟩
  ·cases h
 | .cref m,v,K,h=>by
  replace h:uCref m v _=some r:=h
  unfold uCref at h
  split at h
  ·rename_i x off m'
   cases h1:Nat.beq m m' with
   | false=>rw [h1] at h;cases h
   | true =>
    rw [h1] at h
    simp only [cond_true,b7m] at h
    exact ⟨_,by rw [Nat.eq_of_beq_eq_true h1];simp only [toD,b9h,Nat.add_zero],h⟩
  ·cases h
 | .bslice id,v,K,h=>by
  replace h:uBs id v _=some r:=h
  unfold uBs at h
  split at h
  ·rename_i i len
   cases h1:Nat.beq id i with
   | false=>rw [h1] at h;cases h
   | true=>rw [h1] at h;exact ⟨_,by rw [Nat.eq_of_beq_eq_true h1],h⟩
  ·cases h
 | .nilp,v,K,h=>by
  replace h:uNilp v _=some r:=h
  unfold uNilp at h
  split at h
  ·exact ⟨_,rfl,h⟩
  ·obtain ⟨hx,h'⟩:=d24 h;subst hx;exact ⟨_,by simp only [toD,den];rfl,h'⟩
  ·cases h
 | .nilIface,v,K,h=>by
  replace h:uNilI v _=some r:=h
  unfold uNilI at h
  split at h
  ·exact ⟨_,rfl,h⟩
  ·cases h
 | .iface t s,v,K,h=>by
  replace h:uIf t v _=some r:=h
  unfold uIf at h
  split at h
  ·rename_i t' v0
   cases h1:Nat.beq t t' with
   | false=>rw [h1] at h;cases h
   | true =>
    rw [h1] at h
    obtain ⟨v',e,h⟩:=b18 h
    exact ⟨_,by rw [Nat.eq_of_beq_eq_true h1];simp only [toD,e],h⟩
  ·cases h
 | .func (.func f) fs cs,v,K,h=>by
  replace h:uFn f v _=some r:=h
  unfold uFn at h
  split at h
  ·rename_i f' a b
   cases h1:Nat.beq f f' with
   | false=>rw [h1] at h;cases h
   | true =>
    rw [h1] at h
    obtain ⟨a',ea,h⟩:=L7 h
    obtain ⟨b',eb,h⟩:=L7 h
    exact ⟨_,by rw [Nat.eq_of_beq_eq_true h1];simp only [toD,D3,ea,eb],h⟩
  ·cases h
 | .any,v,K,h=>⟨v,rfl,h⟩
theorem L7:∀ {ss:List Sh} {l:List V} {K:List V→Om},a1t CU ss l K=some r→∃ l',l'.map toD=l.map toD∧K l'=some r
 | [],l,K,h=>by
  replace h:uNil l _=some r:=h
  unfold uNil at h
  split at h
  ·exact ⟨[],rfl,h⟩
  ·cases h
 | s :: ss,l,K,h=>by
  replace h:uCons l _=some r:=h
  unfold uCons at h
  split at h
  ·obtain ⟨v',e1,h⟩:=b18 h
   obtain ⟨l',e2,h⟩:=L7 h
   exact ⟨_,by simp only [List.map_cons,e1,e2],h⟩
  ·cases h
end
theorem d29 {s:ShB} {b:Bx} {K:Bx→Om} (h:e4e CU s b K=some r):∃ b',C5 b'=C5 b∧K b'=some r:=by
 cases s with
 | cells l =>
  replace h:uBc b _=some r:=h
  unfold uBc at h
  split at h
  ·obtain ⟨cs',e,h⟩:=L7 h;exact ⟨_,by simp only [C5,e],h⟩
  ·rename_i x m
   obtain ⟨cs',e,h⟩:=L7 h
   refine ⟨_,?_,h⟩
   simp only [C5,e,M8,List.map_map]
   congr 1
   exact List.map_congr_left fun i _=>by simp only [Function.comp,toD];exact a3t x i
  ·cases h
 | opa m =>
  replace h:uBo m b _=some r:=h
  unfold uBo at h
  split at h
  ·rename_i x m'
   cases hm:Nat.beq m m' with
   | false=>rw [hm] at h;cases h
   | true=>rw [hm] at h;exact ⟨_,by rw [Nat.eq_of_beq_eq_true hm],h⟩
  ·rename_i cs
   cases hm:Nat.beq cs.length m with
   | false=>rw [hm] at h;cases h
   | true =>
    rw [hm] at h
    simp only [cond_true] at h
    split at h
    ·rename_i qs hqs
     have e:=b2h hqs
     have hl:qs.length=m:=by have:=congrArg List.length e;simp at this;rw [← this];exact Nat.eq_of_beq_eq_true hm
     exact ⟨_,by simp only [C5,e];rw [← hl,b2b],h⟩
    ·cases h
  ·cases h
 | tok z =>
  replace h:uBt z b _=some r:=h
  unfold uBt at h
  split at h
  ·rename_i l z'
   cases hm:Nat.beq z z' with
   | false=>rw [hm] at h;cases h
   | true=>rw [hm] at h;exact ⟨_,by rw [Nat.eq_of_beq_eq_true hm],h⟩
  ·cases h
 | row =>
  replace h:uBr b _=some r:=h
  unfold uBr at h
  split at h
  ·exact ⟨_,rfl,h⟩
  ·cases h
 | any=>exact ⟨b,rfl,h⟩
theorem Z0:∀ {ss:List ShB} {l:List Bx} {K:List Bx→Om},a1i CU ss l K=some r→∃ l',l'.map C5=l.map C5∧K l'=some r
 | [],l,K,h=>by
  replace h:uNilB l _=some r:=h
  unfold uNilB at h
  split at h
  ·exact ⟨[],rfl,h⟩
  ·cases h
 | s :: ss,l,K,h=>by
  replace h:uConsB l _=some r:=h
  unfold uConsB at h
  split at h
  ·obtain ⟨v',e1,h⟩:=d29 h
   obtain ⟨l',e2,h⟩:=Z0 h
   exact ⟨_,by simp only [List.map_cons,e1,e2],h⟩
  ·cases h
end

structure Ann where
 ks:List (Nat × Nat)
 vs:List Sh
 bs:List ShB

def ev (U:v8) (X:Pr) (fn:FuncId→E6) (cr:V4) (n0:Nat) (AL AJ:Nat→Option Ann):Code→Nat→Nat→A9→(A9→Om)→(Nat→A9→Om)→(A9→Om)→(V→Om)→Om
 | .skip,_,_,s,K,_,_,_=>K s
 | .region _ ops draw,_,_,s,K,_,_,Kp=>c1m U.toComb X fn cr ops draw s K Kp
 | .seq a b,p,q,s,K,Kx,Kr,Kp=>match AJ q with
  | none=>ev U X fn cr n0 AL AJ a p (q+1) s (fun s'=>ev U X fn cr n0 AL AJ b (p+Q2 a) (q+1+V6 a) s' K Kx Kr Kp) Kx Kr Kp
  | some A=>U.jn (fun j=>ev U X fn cr n0 AL AJ a p (q+1) s (fun s'=>cond (a5w n0 s.tmps.length A.ks s') (j (a7d n0 A.ks s').1 (a7d n0 A.ks s').2) none) Kx Kr Kp)
    (fun vs bs=>a1t U A.vs vs fun vs=>a1i U A.bs bs fun bs=>ev U X fn cr n0 AL AJ b (p+Q2 a) (q+1+V6 a) (b4o s.tmps.length A.ks vs bs) K Kx Kr Kp)
 | .cond c t e,p,q,s,K,Kx,Kr,Kp=>match s.eval c with
  | .known b=>cond b (ev U X fn cr n0 AL AJ t p q s K Kx Kr Kp) (ev U X fn cr n0 AL AJ e (p+Q2 t) (q+V6 t) s K Kx Kr Kp)
  | v=>vB U.toComb v fun b=>U.cnd b (ev U X fn cr n0 AL AJ t p q (refV s c true) K Kx Kr Kp) (ev U X fn cr n0 AL AJ e (p+Q2 t) (q+V6 t) (refV s c false) K Kx Kr Kp)
 | .block id c,p,q,s,K,Kx,Kr,Kp=>ev U X fn cr n0 AL AJ c p q s K (fun j s'=>cond (Nat.beq j id) (K s') (Kx j s')) Kr Kp
 | .loop c,p,q,s,_,Kx,Kr,Kp=>match AL p with
  | none=>none
  | some A=>cond (a5w n0 s.tmps.length A.ks s) (U.lp (fun self vs bs=>a1t U A.vs vs fun vs=>a1i U A.bs bs fun bs =>
    ev U X fn cr n0 AL AJ c (p+1) q (b4o s.tmps.length A.ks vs bs) (fun s'=>cond (a5w n0 s.tmps.length A.ks s') (self (a7d n0 A.ks s').1 (a7d n0 A.ks s').2) none) Kx Kr Kp) (a7d n0 A.ks s).1 (a7d n0 A.ks s).2) none
 | .exit j,_,_,s,_,Kx,_,_=>Kx j s
 | .ret,_,_,s,_,_,Kr,_=>Kr s
 | _,_,_,_,_,_,_,_=>none
where refV (s:A9) (c:Operand) (b:Bool):A9:=match c with
 | .tmp t=>s.put (some t) (.known b)
 | _=>s

def b17 (A:Ann):Cut:={ π:=List D × List u5→Prop,ι:=fun p=>{ v // p v },ks:=A.ks,V:=fun _ ix=>ix.val }

section
variable {X:Pr} {r:R}
theorem c8r (s:A9) (c:Operand) (b:Bool):o7 (ev.refV s c b)=(o7 s).ref c b:=by
 cases c with
 | tmp t=>have:=a4a s (some t) (.known b);simp only [toD] at this;exact this
 | _=>rfl
theorem d68 {body:(List V→List Bx→Om)→List V→List Bx→Om} {vs:List V} {bs:List Bx} (h:CU.lp body vs bs=some r):∃ n,Nat.rec (motive:=fun _=>List V→List Bx→Om) (fun _ _=>none) (fun _ ih=>body ih) n vs bs=some r:=⟨C4,h⟩

theorem R5 {fn:FuncId→E6} {cr:V4} (htab:X.tab=[]) (hfn:∀ g,O9 X g (fn g)) (hcr:a4p cr) {n0:Nat} {AL AJ:Nat→Option Ann}:∀ (c:Code) {p q:Nat} {s:A9} {K:A9→Om} {Kx:Nat→A9→Om} {Kr:A9→Om} {Kp:V→Om},
  ev CU X fn cr n0 AL AJ c p q s K Kx Kr Kp=some r→∀ {K':St→Prop} {Kx':Nat→St→Prop} {Kr':St→Prop} {Kp':D→Prop},(∀ s,K s=some r→K' (o7 s))→(∀ j s,Kx j s=some r→Kx' j (o7 s))→(∀ s,Kr s=some r→Kr' (o7 s))→(∀ v,Kp v=some r→Kp' (toD v)) →
  vc X n0 (fun _ body s=>a2o n0 body s) (fun q=>(AJ q).map b17) c p q (o7 s) K' Kx' Kr' Kp'
 | .skip,p,q,s,K,Kx,Kr,Kp,h,K',Kx',Kr',Kp',hK,hx,hr,hp=>hK s h
 | .region id ops draw,p,q,s,K,Kx,Kr,Kp,h,K',Kx',Kr',Kp',hK,hx,hr,hp=>c8z htab hfn hcr h hK hp
 | .seq a b,p,q,s,K,Kx,Kr,Kp,h,K',Kx',Kr',Kp',hK,hx,hr,hp=>by
  simp only [ev] at h
  simp only [vc]
  have el:(o7 s).tmps.length=s.tmps.length:=by simp [o7]
  split at h
  ·rename_i hj
   rw [hj]
   exact R5 htab hfn hcr a h (fun s' h=>R5 htab hfn hcr b h hK hx hr hp) hx hr hp
  ·rename_i A hj
   rw [hj]
   simp only [Option.map_some,b17]
   have h:jn _ _=some r:=h
   unfold jn at h
   refine ⟨fun v=>vc X n0 (fun _ body s=>a2o n0 body s) (fun q=>(AJ q).map b17) b (p+Q2 a) (q+1+V6 a) (a9i (o7 s).tmps.length A.ks v) K' Kx' Kr' Kp',?_,fun ix=>ix.property⟩
   refine R5 htab hfn hcr a h (fun s' h=>?_) hx hr hp
   rw [el,← b6h]
   cases hok:a5w n0 s.tmps.length A.ks s' with
   | false=>rw [hok] at h;cases h
   | true =>
    rw [hok] at h
    simp only [cond_true] at h ⊢
    obtain ⟨vs',e1,h⟩:=L7 h
    obtain ⟨bs',e2,h⟩:=Z0 h
    refine .mk ⟨gcV n0 A.ks (o7 s'),?_⟩ rfl
    rw [c0d,← e1,← e2,← c8l]
    exact R5 htab hfn hcr b h hK hx hr hp
 | .cond c t e,p,q,s,K,Kx,Kr,Kp,h,K',Kx',Kr',Kp',hK,hx,hr,hp=>by
  simp only [ev] at h
  simp only [vc]
  rw [n8]
  split at h
  ·rename_i b hc
   rw [hc]
   simp only [toD]
   have e0:(o7 s).eval c=.bool b:=by rw [n8,hc];simp only [toD]
   cases b
   ·simp only [cond_false] at h ⊢;rw [b03 e0];exact R5 htab hfn hcr e h hK hx hr hp
   ·simp only [cond_true] at h ⊢;rw [b03 e0];exact R5 htab hfn hcr t h hK hx hr hp
  ·obtain ⟨b,hv,h⟩:=a09 h
   rw [hv]
   simp only []
   have h:cnd b _ _=some r:=h
   rw [a9p] at h
   cases b
   ·simp only [cond_false] at h ⊢;rw [← c8r];exact R5 htab hfn hcr e h hK hx hr hp
   ·simp only [cond_true] at h ⊢;rw [← c8r];exact R5 htab hfn hcr t h hK hx hr hp
 | .block id c,p,q,s,K,Kx,Kr,Kp,h,K',Kx',Kr',Kp',hK,hx,hr,hp=>by
  simp only [ev] at h
  simp only [vc]
  refine R5 htab hfn hcr c h hK (fun j s h=>?_) hr hp
  cases hj:Nat.beq j id with
  | true=>rw [hj] at h;exact hK s h
  | false=>rw [hj] at h;exact hx j s h
 | .loop c,p,q,s,K,Kx,Kr,Kp,h,K',Kx',Kr',Kp',hK,hx,hr,hp=>by
  simp only [ev] at h
  simp only [vc]
  have el:(o7 s).tmps.length=s.tmps.length:=by simp [o7]
  split at h
  ·cases h
  ·rename_i A hA
   cases hok:a5w n0 s.tmps.length A.ks s with
   | false=>rw [hok] at h;cases h
   | true =>
    rw [hok] at h
    simp only [cond_true] at h
    obtain ⟨n,h⟩:=d68 h
    generalize hbody:(fun (self:List V→List Bx→Om) (vs:List V) (bs:List Bx)=>a1t CU A.vs vs fun vs=>a1i CU A.bs bs fun bs =>
     ev CU X fn cr n0 AL AJ c (p+1) q (b4o s.tmps.length A.ks vs bs) (fun s'=>cond (a5w n0 s.tmps.length A.ks s') (self (a7d n0 A.ks s').1 (a7d n0 A.ks s').2) none) Kx Kr Kp)=body at h
    refine a2o.mk { x:(List D × List u5) × Nat // ∃ vs bs,x.1=(vs.map toD,bs.map C5)∧Nat.rec (motive:=fun _=>List V→List Bx→Om) (fun _ _=>none) (fun _ ih=>body ih) x.2 vs bs=some r } (fun i=>i.val.1) (fun i=>i.val.2)
     ⟨(gcV n0 A.ks (o7 s),n),_,_,c0d n0 A.ks s,h⟩ A.ks (by rw [el,← b6h];exact hok) rfl ?_
    rintro ⟨⟨v,m⟩,vs,bs,hv,hrun⟩
    simp only at hv hrun ⊢
    cases m with
    | zero=>cases hrun
    | succ m =>
     have hrun:body (Nat.rec (motive:=fun _=>List V→List Bx→Om) (fun _ _=>none) (fun _ ih=>body ih) m) vs bs=some r:=hrun
     rw [← hbody] at hrun
     obtain ⟨vs',e1,hrun⟩:=L7 hrun
     obtain ⟨bs',e2,hrun⟩:=Z0 hrun
     subst hv
     rw [el]
     have e3:o7 (b4o s.tmps.length A.ks vs' bs')=a9i s.tmps.length A.ks (vs.map toD,bs.map C5):=by rw [c8l,e1,e2]
     rw [← e3]
     refine R5 htab hfn hcr c hrun (fun s' h'=>?_) hx hr hp
     rw [← b6h]
     cases hok':a5w n0 s.tmps.length A.ks s' with
     | false=>rw [hok'] at h';cases h'
     | true =>
      rw [hok'] at h'
      simp only [cond_true] at h' ⊢
      rw [hbody] at h'
      exact .mk ⟨(gcV n0 A.ks (o7 s'),m),_,_,c0d n0 A.ks s',h'⟩ (Nat.lt_succ_self m) rfl
 | .exit j,p,q,s,K,Kx,Kr,Kp,h,K',Kx',Kr',Kp',hK,hx,hr,hp=>hx j s h
 | .ret,p,q,s,K,Kx,Kr,Kp,h,K',Kx',Kr',Kp',hK,hx,hr,hp=>hr s h
 | .rangeFunc ..,_,_,_,_,_,_,_,h,_,_,_,_,_,_,_,_=>by cases h
 | .scope _,_,_,_,_,_,_,_,h,_,_,_,_,_,_,_,_=>by cases h
 | .label _,_,_,_,_,_,_,_,h,_,_,_,_,_,_,_,_=>by cases h
 | .goto _,_,_,_,_,_,_,_,h,_,_,_,_,_,_,_,_=>by cases h
 | .refuse _,_,_,_,_,_,_,_,h,_,_,_,_,_,_,_,_=>by cases h
end

def b06 (C:Comb) (P:Program) (s:A9):List ResultVar→(List V→Om)→Om
 | [],K=>K []
 | .tmp t :: rs,K=>b06 C P s rs fun vs=>K (P7 s.tmps t :: vs)
 | .cell x t :: rs,K=>match P7 s.tmps x with
  | .ptr id off=>match Q8 s.heap id with
   | .cells cs=>b8t C P t cs off fun v=>b06 C P s rs fun vs=>K (v :: vs)
   | .opa y m=>b4f C P t y off m fun v=>b06 C P s rs fun vs=>K (v :: vs)
   | _=>none
  | _=>none
def c7f:List V→V
 | [v]=>v
 | vs=>.tuple vs
def b4p (n:Nat) (v:V):V:=a6u (X9 (a1s n) v)
theorem b9f (n:Nat) (v:V):toD (b4p n v)=U8 n (toD v):=by unfold b4p U8;rw [b9e,a19]
def c52 (C:Comb) (n:Nat) (h:List Bx) (g:Option Nat) (v:V) (K:V→Om):Om:=match g,v with
 | some z,.slice t m off len (.tok id)=>match Q8 h id with
  | .tok l z'=>bif Nat.ble n id && (Nat.beq z' z && Nat.beq m z) then C.chk (C.nEq l len) (K (.slice t m off len (.fr z))) else none
  | _=>none
 | some z,.slice t m off len .exact=>bif Nat.beq m z then K (.slice t m off len (.fr z)) else bif Nat.beq m 0 then C.chk (C.nEq len 0) (K (.slice .nil z 0 0 (.fr z))) else none
 | _,v=>K (b4p n v)
def a9t (C:Comb) (n:Nat) (h:List Bx):List (Option Nat)→List V→(List V→Om)→Om
 | _,[],K=>K []
 | [],v :: vs,K=>a9t C n h [] vs fun r=>K (b4p n v :: r)
 | g :: gv,v :: vs,K=>c52 C n h g v fun v=>a9t C n h gv vs fun r=>K (v :: r)
def b98 (C:Comb) (P:Program) (rs:List ResultVar) (n:Nat) (gv:List (Option Nat)) (s:A9):Om :=
 b06 C P s rs fun vs=>match a9o s.heap (List.range n) with
  | some bs=>a9t C n s.heap gv vs fun vs=>some (.ret (c7f vs),bs.map (a18 (a1s n)))
  | none=>none
def b9c (ntmps:Nat) (vs:List V) (bs:List Bx):A9:={ tmps:=vs ++ List.replicate (ntmps - vs.length) (.tuple []),heap:=bs }
def d90 (U:v8) (X:Pr) (fn:FuncId→E6) (cr:V4) (AL AJ:Nat→Option Ann) (gv:List (Option Nat)) (f:Func):E6:=fun vs bs =>
 ev U X fn cr bs.length AL AJ (f.body.getD .skip) 0 0 (b9c f.ntmps vs bs) (b98 U.toComb X.P f.results.toList bs.length gv) (fun _ _=>none) (b98 U.toComb X.P f.results.toList bs.length gv) (fun v=>some (.pan v,bs))

section
variable {X:Pr} {r:R}
theorem a5y {P:Program} {s:A9}:∀ {rs:List ResultVar} {K:List V→Om},b06 CR P s rs K=some r→∃ vs,K vs=some r∧a5h P (o7 s) rs=some (vs.map toD)
 | [],K,h=>⟨[],h,rfl⟩
 | .tmp t :: rs,K,h=>by
  simp only [b06] at h
  obtain ⟨vs,h,e⟩:=a5y h
  exact ⟨_,h,by simp only [a5h,e,Option.map_some,List.map_cons,a40]⟩
 | .cell x t :: rs,K,h=>by
  simp only [b06] at h
  split at h
  ·rename_i id off hx
   split at h
   ·rename_i cs hb
    obtain ⟨v,h,hr⟩:=b02 h
    obtain ⟨vs,h,e⟩:=a5y h
    have hh:=W5 hb (by simp)
    refine ⟨_,h,?_⟩
    simp only [a5h,a40,hx,toD,hh,C5,hr,Option.bind_some,e,Option.map_some,List.map_cons]
   ·rename_i y m hb
    obtain ⟨v,h,hr⟩:=a5x h
    obtain ⟨vs,h,e⟩:=a5y h
    have hh:=W5 hb (by simp)
    have:=hr 0 (Nat.zero_le _)
    rw [Nat.sub_zero,Nat.sub_zero] at this
    refine ⟨_,h,?_⟩
    simp only [a5h,a40,hx,toD,hh,C5,this,Option.bind_some,e,Option.map_some,List.map_cons]
   ·cases h
  ·cases h
theorem d7p (vs:List V):toD (c7f vs)=b00 (vs.map toD):=by
 unfold c7f
 split
 ·rfl
 ·rename_i h
  match vs,h with
  | [],_=>simp only [toD,V2,List.map_nil,b00]
  | [v],h=>exact absurd rfl (h v)
  | v :: w :: vs,_=>simp only [toD,D3,List.map_cons,b00]
theorem c9f {n:Nat} {s:A9} {g:Option Nat} {v:V} {K:V→Om} (h:c52 CR n s.heap g v K=some r):∃ v',K v'=some r∧a4h n (o7 s).heap g (toD v)=toD v':=by
 unfold c52 at h
 split at h
 ·rename_i z t m off len id
  split at h
  ·rename_i l z' hb
   have hh:=W5 hb (by simp)
   simp only [C5] at hh
   cases hg:Nat.ble n id && (Nat.beq z' z && Nat.beq m z) with
   | false=>rw [hg] at h;cases h
   | true =>
    rw [hg] at h
    simp only [cond_true] at h
    obtain ⟨h0,h⟩:=D5 h
    have h0:Nat.beq l len=true:=h0
    simp only [Bool.and_eq_true] at hg
    obtain ⟨g1,g2,g3⟩:=hg
    have:=Nat.eq_of_beq_eq_true g3
    subst this
    refine ⟨_,h,?_⟩
    simp only [toD,a4h,hh,g1,g2,h0,G1,Nat.beq_refl,Bool.and_self,cond_true]
  ·cases h
 ·rename_i z t m off len
  cases hm:Nat.beq m z with
  | true =>
   rw [hm] at h
   have:=Nat.eq_of_beq_eq_true hm
   subst this
   exact ⟨_,h,by simp only [toD,a4h,G1,Nat.beq_refl,cond_true]⟩
  | false =>
   rw [hm] at h
   simp only [cond_false] at h
   cases h0:Nat.beq m 0 with
   | false=>rw [h0] at h;cases h
   | true =>
    rw [h0] at h
    simp only [cond_true] at h
    obtain ⟨h1,h⟩:=D5 h
    have h1:Nat.beq len 0=true:=h1
    have:=Nat.eq_of_beq_eq_true h1
    subst this
    exact ⟨_,h,by simp only [toD,a4h,rows,List.length_nil,Nat.zero_mul,Nat.beq_refl,cond_true]⟩
 ·rename_i hn1 hn2
  refine ⟨_,h,?_⟩
  rw [b9f]
  unfold a4h
  split
  ·rename_i z len c id hd
   exfalso
   cases v <;> simp only [toD] at hd <;> first | (cases hd;done) | skip
   ·injection hd with _ _ hd;subst hd;exact hn1 _ _ _ _ _ _ rfl rfl
   ·cases a00 _ _ _ _ _ hd
  ·rename_i z len c hd
   exfalso
   cases v <;> simp only [toD] at hd <;> first | (cases hd;done) | skip
   ·injection hd with _ _ hd;subst hd;exact hn2 _ _ _ _ _ rfl rfl
   ·cases a00 _ _ _ _ _ hd
  ·rfl
theorem a83 {n:Nat} {s:A9}:∀ {gv:List (Option Nat)} {vs:List V} {K:List V→Om},a9t CR n s.heap gv vs K=some r→∃ vs',K vs'=some r∧a0i n (o7 s).heap gv (vs.map toD)=vs'.map toD
 | gv,[],K,h=>by cases gv <;> exact ⟨[],h,by simp [a0i]⟩
 | [],v :: vs,K,h=>by
  simp only [a9t] at h
  obtain ⟨vs',h,e⟩:=a83 h
  exact ⟨_,h,by simp only [List.map_cons,a0i,b9f,e]⟩
 | g :: gv,v :: vs,K,h=>by
  simp only [a9t] at h
  obtain ⟨v',h,e1⟩:=c9f h
  obtain ⟨vs',h,e⟩:=a83 h
  exact ⟨_,h,by simp only [List.map_cons,a0i,e1,e]⟩
theorem a4y {P:Program} {rs:List ResultVar} {n:Nat} {gv:List (Option Nat)} {s:A9} {x:L6} {bs':List Bx} (h:b98 CR P rs n gv s=some (x,bs')):fin P rs n gv (a9d x) (bs'.map G2) (o7 s):=by
 obtain ⟨vs,h,e⟩:=a5y h
 split at h
 ·rename_i bs hb
  obtain ⟨vs',h,eg⟩:=a83 h
  injection h with h
  injection h with h1 h2
  subst h1 h2
  obtain ⟨q1,q2,q3⟩:=a8v hb
  have q1:T0 (o7 s).heap (List.range n)=some (bs.map G2):=q1
  unfold fin
  rw [e,q1]
  refine ⟨?_,?_⟩
  ·simp only [a9d,d7p,eg]
  ·rw [List.map_map,List.map_map];exact List.map_congr_left fun b _=>(b4h (a1s n)).symm
 ·cases h
theorem b9k (n:Nat) (vs:List V) {bs:List Bx} (h:bs.all Q4=true):o7 (b9c n vs bs)=start n (vs.map toD) (bs.map G2):=by
 unfold b9c start o7
 simp only [List.map_append,List.map_replicate,List.length_map,List.map_map,toD,V2]
 congr 1
 exact List.map_congr_left fun b hb=>a3r (List.all_eq_true.1 h b hb)

theorem e6a {fn:FuncId→E6} {cr:V4} (htab:X.tab=[]) (hfn:∀ g,O9 X g (fn g)) (hcr:a4p cr) {AL AJ:Nat→Option Ann} {gv:List (Option Nat)} {f:FuncId} {F:Func} (hf:X.P.funcs[f]?=some F) (hb:F.body.isSome=true)
  (hcall:∀ args w,(callFunc f args).run X.P w=.ok (.enter f args) w):O9 X f (d90 CU X fn cr AL AJ gv F):=by
 intro vs bs x bs' h hok
 obtain ⟨c,hc⟩:=Option.isSome_iff_exists.1 hb
 unfold d90 at h
 rw [hc] at h
 have:=R5 (X:=X) htab hfn hcr c h (K':=fin X.P F.results.toList bs.length gv (a9d x) (bs'.map G2)) (Kx':=fun _ _=>False) (Kr':=fin X.P F.results.toList bs.length gv (a9d x) (bs'.map G2)) (Kp':=fun d=>a9d x=.pan d)
  (fun s h=>a4y h) (fun _ _ h=>by cases h) (fun s h=>a4y h) (fun v h=>by injection h with h;injection h with h1 h2;rw [← h1];rfl)
 rw [b9k _ _ hok] at this
 have e:(bs.map G2).length=bs.length:=by simp
 refine a1x (X:=X) (gv:=gv) (L:=fun _ body s=>a2o bs.length body s) (J:=fun q=>(AJ q).map b17) hf hc hcall (fun _ _ _ h=>by rw [e];exact h) ?_
 rw [e]
 exact this

end
def d3l (U:v8) (X:Pr) (fn:FuncId→E6) (cr:V4) (AL AJ:Nat→Option Ann) (gv:List (Option Nat)) (f:Func):E6:=fun vs bs=>match f.body with
 | some (.seq A (.seq R C))=>match a9q R with
  | some (_,t)=>ev U X fn cr bs.length AL AJ A 0 0 (b9c f.ntmps vs bs) (fun s=>match P7 s.tmps t with
    | .ptr _ _=>ev U X fn cr bs.length AL AJ C (Q2 A) (V6 A) s (b98 U.toComb X.P f.results.toList bs.length gv) (fun _ _=>none) (b98 U.toComb X.P f.results.toList bs.length gv) (fun _=>none)
    | _=>none) (fun _ _=>none) (b98 U.toComb X.P f.results.toList bs.length gv) (fun _=>none)
  | none=>none
 | _=>none
def d3h (f:Func):Option FuncId:=match f.body with
 | some (.seq _ (.seq R _))=>(a9q R).map (·.1)
 | _=>none
section
variable {X:Pr} {r:R}
theorem d91 {fn:FuncId→E6} {cr:V4} (htab:X.tab=[]) (hfn:∀ g,O9 X g (fn g)) (hcr:a4p cr) {AL AJ:Nat→Option Ann} {gv:List (Option Nat)} {f g:FuncId} {F:Func} (hf:X.P.funcs[f]?=some F) (hd:d3h F=some g)
  (hcall:∀ args w,(callFunc f args).run X.P w=.ok (.enter f args) w) (hg:∀ args w,(callFunc g args).run X.P w=.ok (.enter g args) w) (hidle:d2y X.P g):O9 X f (d3l CU X fn cr AL AJ gv F):=by
 intro vs bs x bs' h hok
 unfold d3l at h
 unfold d3h at hd
 split at h
 ·rename_i A R C hb
  rw [hb] at hd
  simp only [] at hd
  split at h
  ·rename_i g' t hR
   rw [hR] at hd
   injection hd with hd
   subst hd
   have e:(bs.map G2).length=bs.length:=by simp
   refine b91 (X:=X) (gv:=gv) (L:=fun _ body s=>a2o bs.length body s) (J:=fun q=>(AJ q).map b17) hf hb hR hcall hg hidle (fun _ _ _ h=>by rw [e];exact h) ?_
   rw [e,← b9k _ _ hok]
   refine R5 (X:=X) htab hfn hcr A h (fun s h=>?_) (fun _ _ h=>by cases h) (fun s h=>a4y h) (fun v h=>by cases h)
   split at h
   ·rename_i id off hp
    refine ⟨⟨id,off,?_⟩,R5 (X:=X) htab hfn hcr C h (fun s h=>a4y h) (fun _ _ h=>by cases h) (fun s h=>a4y h) (fun v h=>by cases h)⟩
    have:=n8 s (.tmp t)
    have e2:(o7 s).eval (.tmp t)=(o7 s).tmps.getD t .junk:=rfl
    rw [← e2,this]
    show toD (P7 s.tmps t)=_
    rw [hp]
    simp only [toD]
   ·cases h
  ·cases h
 ·cases h
end
end
end Go.Abs
