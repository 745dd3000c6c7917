/- What the operations say, run: second part. -/
import Derived.Test.YtffaodopiifbkaaGreatDoorCQ1
set_option linter.all false
namespace Go.Abs
noncomputable section

theorem b0y:∀ (vs ds:List D) (off:Nat),off+vs.length≤ds.length→N7 ds off vs=ds.take off ++ vs ++ ds.drop (off+vs.length)
 | [],ds,off,h=>by simp [N7]
 | v :: vs,ds,off,h=>by
  simp only [List.length_cons] at h
  simp only [N7]
  rw [b0y vs _ _ (by simp;omega)]
  have e1:(ds.set off v).take (off+1)=ds.take off ++ [v]:=by
   apply List.ext_getElem?
   intro i
   rcases Nat.lt_or_ge i off with hi | hi
   ·rw [List.getElem?_take_of_lt oM,List.getElem?_set_ne oM,List.getElem?_append_left (by simp;omega),List.getElem?_take_of_lt hi]
   ·rcases Nat.eq_or_lt_of_le hi with hi | hi
    ·subst hi
     rw [List.getElem?_take_of_lt oM,List.getElem?_set_self oM,List.getElem?_append_right (by simp;omega)]
     simp [Nat.min_eq_left (show off≤ds.length by omega)]
    ·rw [List.getElem?_eq_none (by simp;omega),List.getElem?_eq_none (by simp;omega)]
  have e2:(ds.set off v).drop (off+1+vs.length)=ds.drop (off+1+vs.length):=by
   apply List.ext_getElem?
   intro i
   rw [List.getElem?_drop,List.getElem?_drop,List.getElem?_set_ne oM]
  rw [e1,e2]
  simp only [List.append_assoc,List.cons_append,List.nil_append,List.length_cons]
  rw [show off+1+vs.length=off+(vs.length+1) by omega]

section
variable {X:Pr} {s:B3} {nid:Nat} {r:R}

theorem c1y {n:Nat}:∀ {ps:List (Nat × V)} {i:Nat} {ds:List D} {qs:List Q},a4t n i ps=some qs→ds.length=(i+ps.length) * n →
  ∃ out,a38 (fun i=>some (i * n,n)) ds (ps.map fun p=>(p.1,toD p.2))=some out∧out.map (renI Z5)=(ds.take (i * n)).map (renI Z5) ++ qs.flatMap fun q=>u3 (den q) 0 n
 | [],i,ds,qs,h,hl=>by
  simp only [a4t] at h
  injection h with h
  subst h
  refine ⟨ds,rfl,?_⟩
  simp only [List.flatMap_nil,List.append_nil]
  rw [List.take_of_length_le (by rw [hl];simp)]
 | (j,v) :: ps,i,ds,qs,h,hl=>by
  simp only [a4t] at h
  split at h
  ·rename_i q qs' hj hq hqs
   injection h with h
   subst h
   have:=Nat.eq_of_beq_eq_true hj
   subst this
   obtain ⟨h1,h2,h3⟩:=d3g hq
   simp only [List.length_cons] at hl
   have hle:i * n+n≤ds.length:=by
    rw [hl]
    have:(i+1) * n≤(i+(ps.length+1)) * n:=Nat.mul_le_mul_right n oM
    rw [Nat.succ_mul] at this
    exact this
   have hw:N7 ds (i * n) (toD v).cells=ds.take (i * n) ++ (toD v).cells ++ ds.drop (i * n+n):=by
    rw [b0y _ _ _ (by rw [h2];exact hle),h2]
   have hlen:(N7 ds (i * n) (toD v).cells).length=(i+1+ps.length) * n:=by
    rw [hw]
    simp only [List.length_append,List.length_take,List.length_drop,h2]
    have:(i+1+ps.length) * n=ds.length:=by rw [hl];congr 1;omega
    omega
   obtain ⟨out,ho,hm⟩:=c1y hqs hlen
   refine ⟨out,?_,?_⟩
   ·simp only [List.map_cons,a38,h1,h2]
    have e1:Nat.ble (i * n+n) ds.length=true:=by rw [Nat.ble_eq];exact hle
    rw [e1]
    simp only [beq_self_eq_true,Bool.and_self,cond_true]
    exact ho
   ·rw [hm,hw,Nat.succ_mul]
    have e2:(ds.take (i * n) ++ (toD v).cells ++ ds.drop (i * n+n)).take (i * n+n)=ds.take (i * n) ++ (toD v).cells :=
     List.take_left' (by simp only [List.length_append,List.length_take,h2];omega)
    rw [e2,List.map_append,h3,List.flatMap_cons,List.append_assoc]
  ·cases h
theorem b1t {n:Nat}:∀ {ps:List (Nat × V)} {i:Nat} {qs:List Q},a4t n i ps=some qs→qs.length=ps.length
 | [],i,qs,h=>by simp only [a4t] at h;injection h with h;subst h;rfl
 | (j,v) :: ps,i,qs,h=>by
  simp only [a4t] at h
  split at h
  ·rename_i q qs' hj hq hqs
   injection h with h
   subst h
   simp [b1t hqs]
  ·cases h
theorem d7i:∀ (qs:List Q) (i:Nat) (t:j9 Q),i+qs.length+2≤2 ^ O3→(∀ k,k < i→J8 (z7 (mkT qs i t)) k=J8 (z7 t) k)∧∀ k q,qs[k]?=some q→J8 (z7 (mkT qs i t)) (i+k)=den q
 | [],i,t,_=>⟨fun _ _=>rfl,fun k q h=>by simp at h⟩
 | q :: qs,i,t,hb=>by
  simp only [List.length_cons] at hb
  obtain ⟨h1,h2⟩:=d7i qs (i+1) (t.set .no q O3 i) oM
  refine ⟨fun k hk=>?_,fun k x hx=>?_⟩
  ·simp only [mkT];rw [h1 k oM,a5k _ _ _ oM]
  ·simp only [mkT]
   cases k with
   | zero =>
    simp at hx;subst hx
    show J8 (z7 (mkT qs (i+1) (j9.set Q.no q O3 t i))) i=den q
    rw [h1 i oM,b33 _ _ oM]
   | succ k =>
    simp only [List.getElem?_cons_succ] at hx
    have:=h2 k x hx
    rw [show i+1+k=i+(k+1) by omega] at this
    exact this
theorem c24 {T:j9 Den} {n:Nat}:∀ (qs:List Q) (off:Nat),(∀ k q,qs[k]?=some q→J8 T (off+k)=den q)→rows T n off qs.length=qs.flatMap fun q=>u3 (den q) 0 n
 | [],off,h=>rfl
 | q :: qs,off,h=>by
  simp only [List.length_cons,rows,List.flatMap_cons]
  rw [c24 qs (off+1) (fun k x hx=>by have:=h (k+1) x (by simpa using hx);rw [show off+1+k=off+(k+1) by omega];exact this)]
  have:=h 0 q rfl
  rw [Nat.add_zero] at this
  rw [this]

theorem c6j (z:List D) (n:Nat):(a4g z n).length=n:=by simp [a4g]

theorem c8h {P:Program} {t:TypeId} {x y:V} {K:KV} (h:c0r CR P s nid t x y K=some r):∃ v ws rs,K v ws rs=some r∧a3o P (o7 s) nid t (toD x) (toD y)=some ⟨true,toD v,D5 ws,rs⟩:=by
 unfold c0r at h
 split at h
 ·rename_i e hu
  split at h
  ·rename_i n b z hn hb hz
   cases hg:Nat.beq z.length n && Nat.blt 0 n && a2g s nid with
   | false=>rw [hg] at h;cases h
   | true =>
    rw [hg] at h
    simp only [cond_true] at h
    simp only [Bool.and_eq_true] at hg
    obtain ⟨⟨g1,g2⟩,g3⟩:=hg
    obtain ⟨tr,off,len,c,hx,h⟩:=a10 h
    obtain ⟨t2,off2,m,_,hy,h⟩:=a10 h
    obtain ⟨h0,h⟩:=D0 h
    have h0:(band (Nat.ble ((len+m) * b) 140737488355328) (Nat.ble (len+m) 140737488355328))=true:=h0
    rw [CfN] at h
    rw [N6,Bool.and_eq_true,Nat.ble_eq,Nat.ble_eq] at h0
    obtain ⟨t',h,hold,hnew⟩:=d2r m (t:=tr) (i:=off+len) (j:=off2) h
    have hrows:rows (z7 t') n off (len+m)=rows (z7 tr) n off len ++ rows (z7 t2) n off2 m:=by
     rw [b5j]
     congr 1
     ·exact b1o len off off fun k hk=>hold _ oM
     ·exact b1o m (off+len) off2 fun k hk=>hnew k hk
    have hz':=a3i hz
    have hzl:Nat.beq (z.map toD).length n=true:=by rw [List.length_map];exact g1
    have hneed:(decide ((len+m) * b≤I9∧len+m≤I9∧(rows (z7 tr) n off len).length=len * n∧(rows (z7 t2) n off2 m).length=m * n) && (rows (z7 t2) n off2 m).all D.one)=true:=by
     rw [c86,Bool.and_true,decide_eq_true_iff]
     exact ⟨h0.1,h0.2,G1 _ _,G1 _ _⟩
    split at h
    ·refine ⟨_,_,_,h,?_⟩
     simp only [u9,nAdd,Nat.add_eq,a3o,hu,hx,hy,hn,hb,hz',hzl,g2,a8b g3,Bool.and_self,cond_true,hneed,toD,hrows,D5,List.map_cons,List.map_nil,C3]
    ·rename_i id
     split at h
     ·rename_i l k hbx
      obtain ⟨h1,h⟩:=D0 h
      have h1:(band (Nat.beq l len) (Nat.beq k n))=true:=h1
      rw [N6,Bool.and_eq_true] at h1
      refine ⟨_,_,_,h,?_⟩
      have hh:=V2 hbx (by simp)
      simp only [C3] at hh
      simp only [u9,nAdd,Nat.add_eq,a3o,hu,hx,hy,hn,hb,hz',hzl,g2,a8b g3,Bool.and_self,cond_true,hneed,toD,hrows,D5,List.map_cons,List.map_nil,C3,hh,h1.1,h1.2]
     ·cases h
    ·cases h
  ·cases h
 ·cases h

theorem a7z {v:V} {x:Q} (h:c0z v=some x):toD v=den x 0:=by
 unfold c0z at h
 split at h <;> first
  | (injection h with h;subst h;simp only [toD,den];rfl)
  | (injection h with h;subst h;simp only [toD])
  | cases h
theorem d26 {b:Bx} {cs:List V} (h:d40 CR b=some cs):C3 b=.cells (cs.map toD)∧b ≠ .dead:=by
 unfold d40 at h
 split at h
 ·injection h with h;subst h;exact ⟨rfl,by simp⟩
 ·rename_i x m
  injection h with h
  subst h
  refine ⟨?_,by simp⟩
  simp only [C3,L6,List.map_map]
  congr 1
  exact List.map_congr_left fun i _=>by simp only [Function.comp,toD];exact (a3t x i).symm
 ·cases h
theorem e12 {tr:j9 Q} {y:Q} {off len:Nat} (h1:off < len) (h2:off+2≤2 ^ O3):rows (z7 (tr.set .no y O3 off)) 1 0 len=(rows (z7 tr) 1 0 len).set off (den y 0):=by
 have key:∀ (T:j9 Den) (m o i:Nat),i < m→(rows T 1 o m)[i]?=some (J8 T (o+i) 0):=by
  intro T m
  induction m with
  | zero=>intro o i hi;omega
  | succ m ih =>
   intro o i hi
   simp only [rows,u3,List.cons_append,List.nil_append]
   cases i with
   | zero=>rfl
   | succ i =>
    rw [List.getElem?_cons_succ,ih (o+1) i oM]
    rw [show o+1+i=o+(i+1) by omega]
 apply List.ext_getElem?
 intro i
 rcases Nat.lt_or_ge i len with hi | hi
 ·rw [key _ _ _ _ hi,Nat.zero_add]
  by_cases he:off=i
  ·subst he
   rw [List.getElem?_set_self (by rw [G1,Nat.mul_one];exact hi),b33 _ _ h2]
  ·rw [List.getElem?_set_ne he,key _ _ _ _ hi,Nat.zero_add,a5k _ _ _ (fun e=>he e.symm)]
 ·rw [List.getElem?_eq_none (by rw [G1,Nat.mul_one];exact hi),List.getElem?_eq_none (by rw [List.length_set,G1,Nat.mul_one];exact hi)]
end

section
variable {X:Pr} {s:B3} {nid:Nat} {r:R}

theorem c5n (l:List Operand):l.map (o7 s).eval=(l.map s.eval).map toD:=by
 rw [List.map_map];exact List.map_congr_left fun x _=>n9 s x

theorem d72 {t:TypeId} {parts:Array (Nat × Operand)} {K:KV} (h:R4 CR X s nid (.build t parts) K=some r):∃ v ws rs,K v ws rs=some r∧t8 X (o7 s) nid (.build t parts)=some ⟨true,toD v,D5 ws,rs⟩:=by
 simp only [R4] at h
 split at h
 ·rename_i fs z hu hz
  split at h
  ·rename_i cs hf
   cases ha:(fs.all fun f=>(D6 X.P f.type).isSome) with
   | false=>rw [ha] at h;cases h
   | true =>
    rw [ha] at h
    refine ⟨_,_,_,h,?_⟩
    have:=b69 hf
    simp only [List.map_map] at this
    have e:(parts.toList.map fun p=>(p.1,(o7 s).eval p.2))=parts.toList.map ((fun p:Nat × V=>(p.1,toD p.2)) ∘ fun p=>(p.1,s.eval p.2)) :=
     List.map_congr_left fun p _=>by simp only [Function.comp,n9]
    rw [← e] at this
    simp only [u9,t8,hu,a3i hz,this,F1,ha,toD,C9]
    rfl
  ·cases h
 ·cases h
theorem c0c {t:TypeId} {len:Nat} {parts:Array (Nat × Operand)} {K:KV} (h:R4 CR X s nid (.buildSlice t len parts) K=some r):∃ v ws rs,K v ws rs=some r∧t8 X (o7 s) nid (.buildSlice t len parts)=some ⟨true,toD v,D5 ws,rs⟩:=by
 simp only [R4] at h
 split at h
 ·rename_i e hu
  split at h
  ·rename_i n z hn hz
   split at h
   ·rename_i qs hq
    cases hg:Nat.beq qs.length len && (Nat.ble (len * n) 16777216 && Nat.ble len 16777216) with
    | false=>rw [hg] at h;cases h
    | true =>
     rw [hg] at h
     simp only [Bool.and_eq_true] at hg
     obtain ⟨g1,g2,g3⟩:=hg
     have hql:=Nat.eq_of_beq_eq_true g1
     refine ⟨_,_,_,h,?_⟩
     have hpl:=b1t hq
     simp only [List.length_map] at hpl
     obtain ⟨out,ho,hm⟩:=c1y hq (ds:=a4g (z.map toD) (len * n)) (by rw [c6j,Nat.zero_add,List.length_map,← hpl,hql])
     simp only [List.map_map] at ho
     have e:(parts.toList.map fun p=>(p.1,(o7 s).eval p.2))=parts.toList.map ((fun p:Nat × V=>(p.1,toD p.2)) ∘ fun p=>(p.1,s.eval p.2)) :=
      List.map_congr_left fun p _=>by simp only [Function.comp,n9]
     rw [← e] at ho
     simp only [u9,t8,hu,hn,a3i hz,ho,F1,g2,toD,hm,Nat.zero_mul,List.take_zero,List.map_nil,List.nil_append]
     have hb:0+qs.length+2≤2 ^ O3:=by
      rw [Nat.ble_eq] at g3
      show 0+qs.length+2≤2 ^ 48
      omega
     obtain ⟨_,h2⟩:=d7i qs 0 .nil hb
     rw [← hql,c24 qs 0 h2]
     rfl
   ·cases h
  ·cases h
 ·cases h
theorem e4k {t:TypeId} {a:Operand} {K:KV} (h:R4 CR X s nid (.load t a) K=some r):∃ v ws rs,K v ws rs=some r∧t8 X (o7 s) nid (.load t a)=some ⟨true,toD v,D5 ws,rs⟩:=by
 simp only [R4] at h
 split at h
 ·rename_i id off ha
  split at h
  ·rename_i cs hb
   obtain ⟨v,h,hr⟩:=b0i h
   have hh:=V2 hb (by simp)
   refine ⟨_,_,_,h,?_⟩
   simp only [u9,t8,n9,ha,toD,hh,C3,hr,Option.map_some]
   rfl
  ·rename_i x m hb
   obtain ⟨v,h,hr⟩:=a5m h
   have hh:=V2 hb (by simp)
   have:=hr 0 (Nat.zero_le _)
   rw [Nat.sub_zero,Nat.sub_zero] at this
   refine ⟨_,_,_,h,?_⟩
   simp only [u9,t8,n9,ha,toD,hh,C3,this,Option.map_some]
   rfl
  ·rename_i tr len hb
   split at h
   ·rename_i hag
    obtain ⟨h0,h⟩:=D0 h
    have h0:(Nat.ble (off+1) len)=true:=h0
    rw [CfQ] at h
    rw [Nat.ble_eq] at h0
    have hh:=V2 hb (by simp)
    refine ⟨_,_,_,h,?_⟩
    have key:(rows (z7 tr) 1 0 len)[off]?=some (den (tQ tr off) 0):=by
     have h1:=c2r (T:=z7 tr) (n:=1) (off:=0) (show off < len by omega)
     rw [Nat.mul_one,Nat.zero_add] at h1
     have h2:=congrArg (·[0]?) h1
     simp only [List.getElem?_take_of_lt (show 0 < 1 by omega),List.getElem?_drop,Nat.add_zero] at h2
     rw [h2,b9p]
     rfl
    simp only [u9,t8,n9,ha,toD,hh,C3,T6,hag,key,Option.map_some]
    rfl
   ·cases h
  ·cases h
 ·rename_i x off m ha
  obtain ⟨v,h,hr⟩:=a5m h
  have:=hr off (Nat.le_refl _)
  rw [Nat.add_sub_cancel_left,Nat.sub_self] at this
  refine ⟨_,_,_,h,?_⟩
  simp only [u9,t8,n9,ha,toD,this,Option.map_some]
  rfl
 ·cases h
theorem d6i {t:TypeId} {a x:Operand} {K:KV} (h:R4 CR X s nid (.store t a x) K=some r):∃ v ws rs,K v ws rs=some r∧t8 X (o7 s) nid (.store t a x)=some ⟨true,toD v,D5 ws,rs⟩:=by
 simp only [R4] at h
 split at h
 ·rename_i id off ha
  split at h
  ·rename_i tr len hb hn
   split at h
   ·rename_i y hy
    obtain ⟨h0,h⟩:=D0 h
    have h0:(band (Nat.ble (off+1) len) (Nat.ble (off+2) 281474976710656))=true:=h0
    rw [N6,Bool.and_eq_true,Nat.ble_eq,Nat.ble_eq] at h0
    rw [show CR.sT=fun t i x K=>a2n x O3 t i K from rfl] at h
    simp only [Y1] at h
    have hh:=V2 hb (by simp)
    have hv:=a7z hy
    have ho:=N3 y 0
    refine ⟨_,_,_,h,?_⟩
    have hc:(den y 0).cells=[den y 0]:=by cases hd:den y 0 <;> rw [hd] at ho <;> first | rfl | cases ho
    have hok:(den y 0).ok=true:=by simp [D.ok,ho]
    have e1:Nat.ble (off+1) (rows (z7 tr) 1 0 len).length=true:=by rw [G1,Nat.mul_one,Nat.ble_eq];exact h0.1
    simp only [u9,t8,n9,ha,toD,hh,C3,hn,hv,hok,hc,List.all_cons,List.all_nil,ho,e1,Bool.and_self,List.length_cons,List.length_nil,Nat.zero_add,N7,D5,List.map_cons,List.map_nil,U8]
    rw [e12 oM (by show off+2≤2 ^ 48;exact h0.2)]
    rfl
   ·cases h
  ·rename_i n hn hnr
   split at h
   ·rename_i cs hcs
    obtain ⟨hB,hd⟩:=d26 hcs
    have hh:=V2 (s:=s) (i:=id) rfl hd
    rw [hB] at hh
    split at h
    ·rename_i y m hx
     have hal:(u3 (den y) 0 m).all D.one=true:=b0f (N3 y) m 0
     cases hg:Nat.beq m n && (Nat.beq off 0 && Nat.beq m cs.length) with
     | true =>
      rw [hg] at h
      simp only [Bool.and_eq_true] at hg
      obtain ⟨g1,g2,g3⟩:=hg
      have e1:=Nat.eq_of_beq_eq_true g1
      have e2:=Nat.eq_of_beq_eq_true g2
      have e3:=Nat.eq_of_beq_eq_true g3
      subst e1 e2
      refine ⟨_,_,_,h,?_⟩
      have e4:Nat.ble (0+m) (cs.map toD).length=true:=by rw [List.length_map,Nat.ble_eq];omega
      have e5:N7 (cs.map toD) 0 (u3 (den y) 0 m)=u3 (den y) 0 m:=by
       rw [b0y _ _ _ (by rw [E1,List.length_map];omega),E1,List.take_zero,List.nil_append,List.drop_of_length_le (by rw [List.length_map];omega),List.append_nil]
      simp only [u9,t8,n9,ha,hx,toD,hh,hn,D.ok,D.isAgg,D.cells,E1,g1,hal,e4,Bool.or_true,Bool.and_self,cond_true,e5,D5,List.map_cons,List.map_nil,C3,U8]
     | false =>
      rw [hg] at h
      simp only [cond_false] at h
      cases hg2:Nat.beq m n && Nat.ble (off+n) cs.length with
      | false=>rw [hg2] at h;cases h
      | true =>
       rw [hg2] at h
       simp only [Bool.and_eq_true] at hg2
       obtain ⟨g1,g2⟩:=hg2
       have e1:=Nat.eq_of_beq_eq_true g1
       subst e1
       refine ⟨_,_,_,h,?_⟩
       have e4:Nat.ble (off+m) (cs.map toD).length=true:=by rw [List.length_map];exact g2
       have e6:((b1m 0 m).map fun i=>V.q (celQ y i)).map toD=u3 (den y) 0 m:=by
        rw [L6,List.map_map]
        exact List.map_congr_left fun i _=>by simp only [Function.comp,toD];exact a3t y i
       simp only [u9,t8,n9,ha,hx,toD,hh,hn,D.ok,D.isAgg,D.cells,E1,g1,hal,e4,Bool.or_true,Bool.and_self,cond_true,D5,List.map_cons,List.map_nil,C3,U8,a77]
       rw [e6]
    ·rename_i hna
     split at h
     ·rename_i vs hvs
      obtain ⟨hok,hcl⟩:=a4b hvs
      cases hg:Nat.beq vs.length n && (vs.all c1g && Nat.ble (off+n) cs.length) with
      | false=>rw [hg] at h;cases h
      | true =>
       rw [hg] at h
       simp only [Bool.and_eq_true] at hg
       obtain ⟨g1,g2,g3⟩:=hg
       refine ⟨_,_,_,h,?_⟩
       have e1:Nat.beq (vs.map toD).length n=true:=by rw [List.length_map];exact g1
       have e4:Nat.ble (off+n) (cs.map toD).length=true:=by rw [List.length_map];exact g3
       simp only [u9,t8,n9,ha,toD,hh,hn,hok,hcl,e1,e8p g2,e4,Bool.and_self,cond_true,D5,List.map_cons,List.map_nil,C3,U8,a77]
     ·cases h
   ·cases h
  ·cases h
 ·cases h
theorem d6r {t:TypeId} {x:Operand} {f:Nat} {K:KV} (h:R4 CR X s nid (.field t x f) K=some r):∃ v ws rs,K v ws rs=some r∧t8 X (o7 s) nid (.field t x f)=some ⟨true,toD v,D5 ws,rs⟩:=by
 simp only [R4] at h
 split at h
 ·rename_i fs hu
  split at h
  ·rename_i fd cs hf hx
   obtain ⟨v,h,hr⟩:=b0i h
   refine ⟨_,_,_,h,?_⟩
   simp only [u9,t8,hu,hf,n9,hx,toD,C9,hr,Option.bind_some,x9]
   rfl
  ·rename_i fd y m hf hx
   obtain ⟨v,h,hr⟩:=a5m h
   have:=hr 0 (Nat.zero_le _)
   rw [Nat.sub_zero,Nat.sub_zero] at this
   refine ⟨_,_,_,h,?_⟩
   simp only [u9,t8,hu,hf,n9,hx,toD,this,Option.bind_some,x9]
   rfl
  ·cases h
 ·cases h
theorem c3r {t:TypeId} {x:Operand} {f:Nat} {K:KV} (h:R4 CR X s nid (.fieldAddr t x f) K=some r):∃ v ws rs,K v ws rs=some r∧t8 X (o7 s) nid (.fieldAddr t x f)=some ⟨true,toD v,D5 ws,rs⟩:=by
 simp only [R4] at h
 split at h
 ·rename_i fs hu
  split at h
  ·rename_i fd hf
   split at h
   ·rename_i k hs
    split at h
    ·rename_i id off hx
     exact ⟨_,_,_,h,by simp only [u9,t8,hu,hf,hs,n9,hx,toD,x9];rfl⟩
    ·rename_i y off m hx
     exact ⟨_,_,_,h,by simp only [u9,t8,hu,hf,hs,n9,hx,toD,x9,a81];rfl⟩
    ·cases h
   ·cases h
  ·cases h
 ·cases h
theorem c35 {t:TypeId} {x i:Operand} {K:KV} (h:R4 CR X s nid (.indexAddr t x i) K=some r):∃ v ws rs,K v ws rs=some r∧t8 X (o7 s) nid (.indexAddr t x i)=some ⟨true,toD v,D5 ws,rs⟩:=by
 simp only [R4] at h
 split at h
 ·rename_i e hu
  split at h
  ·rename_i n hn
   split at h
   ·rename_i id len hx
    obtain ⟨_,k,hi,h⟩:=P0 h
    obtain ⟨h0,h⟩:=D0 h
    have h0:(band (iLe 0 k) (iLt k (len:Int)))=true:=h0
    rw [CfN] at h
    have g:0≤k∧k < (len:Int):=by simpa [N6,X7,a1o] using h0
    refine ⟨_,_,_,h,?_⟩
    simp only [u9,t8,hu,n9,hx,hi,toD,hn,Option.bind_some,F1,decide_eq_true g,nMul,F9]
    rfl
   ·obtain ⟨tr,off,len,c,hx,h⟩:=a10 h
    obtain ⟨_,k,hi,h⟩:=P0 h
    obtain ⟨h0,h⟩:=D0 h
    have h0:(band (iLe 0 k) (iLt k (len:Int)))=true:=h0
    rw [CfQ] at h
    have g:0≤k∧k < (len:Int):=by simpa [N6,X7,a1o] using h0
    refine ⟨_,_,_,h,?_⟩
    have g2:0≤k∧k < (len:Int)∧len * (n+1)≤(rows (z7 tr) (n+1) off len).length∧0 < n+1:=⟨g.1,g.2,by rw [G1];exact Nat.le_refl _,oM⟩
    simp only [u9,t8,hu,n9,hx,hi,toD,hn,Option.bind_some,F1,decide_eq_true g2,F9]
    rw [c2r (show k.toNat < len by omega),b9p]
    rfl
  ·cases h
 ·cases h
theorem c9t {b:Builtin} {args:Array Operand} {ts:Array TypeId} {K:KV} (h:R4 CR X s nid (.call { callee:=.builtin b,args,argTypes:=ts }) K=some r) :
  ∃ v ws rs,K v ws rs=some r∧t8 X (o7 s) nid (.call { callee:=.builtin b,args,argTypes:=ts })=some ⟨true,toD v,D5 ws,rs⟩:=by
 simp only [R4] at h
 split at h
 ·rename_i x t ha ht
  split at h
  ·rename_i hu
   obtain ⟨l,c,hx,h⟩:=a07 h
   rw [CfI] at h
   exact ⟨_,_,_,h,by simp only [u9,t8,ha,ht,hu,n9,hx,x9,toD,T3];rfl⟩
  ·rename_i e hu
   split at h
   ·rename_i id n hx
    rw [CfI] at h
    exact ⟨_,_,_,h,by simp only [u9,t8,ha,ht,hu,n9,hx,x9,toD];rfl⟩
   ·split at h
    ·obtain ⟨tr,off,len,c,hx,h⟩:=a10 h
     rw [CfI] at h
     exact ⟨_,_,_,h,by simp only [u9,t8,ha,ht,hu,n9,hx,x9,toD];rfl⟩
    ·cases h
  ·cases h
 ·rename_i x y t ts' ha ht
  split at h
  ·rename_i k hu
   obtain ⟨a,hx,h⟩:=Z2 h
   obtain ⟨b,hy,h⟩:=Z2 h
   rw [CfI] at h
   refine ⟨_,_,_,h,?_⟩
   simp only [u9,t8,ha,n9,hx,hy,x9,toD,c06,a1o]
   by_cases hab:a < b
   ·simp [hab,D5]
   ·simp [hab,D5]
  ·cases h
 ·rename_i x y t ts' ha ht
  split at h
  ·rename_i k hu
   obtain ⟨a,hx,h⟩:=Z2 h
   obtain ⟨b,hy,h⟩:=Z2 h
   rw [CfI] at h
   refine ⟨_,_,_,h,?_⟩
   simp only [u9,t8,ha,n9,hx,hy,x9,toD,c06,a1o]
   by_cases hab:b < a
   ·simp [hab,D5]
   ·simp [hab,D5]
  ·cases h
 ·rename_i x y t u ha ht
  cases hb:Nat.beq t u with
  | false=>rw [hb] at h;cases h
  | true =>
   rw [hb] at h
   obtain ⟨v,ws,rs,h,hd⟩:=c8h h
   exact ⟨v,ws,rs,h,by simp only [u9,t8,ha,ht,hb,cond_true,n9,hd]⟩
 ·cases h

theorem d46 {P:Program} {t:TypeId} {same:Bool} {l c:V} {K:KV} (h:d5t CR P s nid t same l c K=some r):∃ v ws rs,K v ws rs=some r∧b4m P (o7 s) nid t same (toD l) (toD c)=some ⟨true,toD v,D5 ws,rs⟩:=by
 unfold d5t at h
 split at h
 ·rename_i e hu
  split at h
  ·rename_i n b z hn hb hz
   cases hg:Nat.beq z.length n && Nat.blt 0 n with
   | false=>rw [hg] at h;cases h
   | true =>
    rw [hg] at h
    simp only [cond_true] at h
    have hz':=a3i hz
    have hg':(Nat.beq (z.map toD).length n && Nat.blt 0 n)=true:=by rw [List.length_map];exact hg
    split at h
    ·obtain ⟨_,a,hl,h⟩:=P0 h
     obtain ⟨_,m,hc,h⟩:=P0 h
     obtain ⟨h0,h⟩:=D0 h
     have h0:band (iEq a 0) (band (iLe 0 m) (band (Nat.ble (iNat m * b) 140737488355328) (Nat.ble (iNat m) 140737488355328)))=true:=h0
     obtain ⟨hf,h⟩:=a1h h
     refine ⟨_,_,_,h,?_⟩
     have hq:a=0∧0≤m∧m.toNat * b≤I9∧m.toNat≤I9:=by
      simp only [N6,T2,X7,F9,Bool.and_eq_true,beq_iff_eq,decide_eq_true_eq,Nat.ble_eq] at h0
      exact h0
     simp only [b4m,hu,hl,hc,hn,hb,hz',hg',cond_true,decide_eq_true hq,a7o hf,toD,rows,D5,List.map_cons,List.map_nil,C3]
    ·split at h
     ·rename_i z0
      split at h
      ·rename_i x hx
       obtain ⟨_,a,hl,h⟩:=P0 h
       obtain ⟨_,m,hc,h⟩:=P0 h
       obtain ⟨h0,h⟩:=D0 h
       have h0:band (iLe 0 a) (band (iEq a m) (band (Nat.ble (iNat a * b) 140737488355328) (Nat.ble (iNat a) 140737488355328)))=true:=h0
       rw [CfN] at h
       obtain ⟨tr,h,_,hnew⟩:=d11 (CR.iNat a) (t:=.nil) (i:=0) h
       obtain ⟨hf,h⟩:=a1h h
       refine ⟨_,_,_,h,?_⟩
       have hq:0≤a∧a=m∧a.toNat * b≤I9∧a.toNat≤I9:=by
        simp only [N6,T2,X7,F9,Bool.and_eq_true,beq_iff_eq,decide_eq_true_eq,Nat.ble_eq] at h0
        exact h0
       have hn1:n=1:=by
        simp only [Bool.and_eq_true,List.length_cons,List.length_nil] at hg
        exact (Nat.eq_of_beq_eq_true hg.1).symm
       subst hn1
       have hia:CR.iNat a=a.toNat:=F9 a
       rw [hia] at hnew ⊢
       have hrows:rows (z7 tr) 1 0 a.toNat=a4g [toD z0] (a.toNat * 1):=by
        rw [a7z hx]
        have key:∀ (m off:Nat),(∀ k,k < m→J8 (z7 tr) (off+k)=den x)→rows (z7 tr) 1 off m=List.replicate m (den x 0):=by
         intro m
         induction m with
         | zero=>intro _ _;rfl
         | succ m ih =>
          intro off hk
          simp only [rows,u3,List.replicate_succ,List.cons_append,List.nil_append]
          have e0:=hk 0 oM
          rw [Nat.add_zero] at e0
          rw [e0,ih (off+1) (fun k hk'=>by have:=hk (k+1) oM;rw [show off+1+k=off+(k+1) by omega];exact this)]
        rw [key _ 0 hnew,Nat.mul_one]
        unfold a4g
        apply List.ext_getElem?
        intro i
        rcases Nat.lt_or_ge i a.toNat with hi | hi
        ·rw [List.getElem?_replicate,if_pos hi,List.getElem?_map,List.getElem?_range hi]
         simp [Nat.mod_one]
        ·rw [List.getElem?_eq_none (by simpa using hi),List.getElem?_eq_none (by simpa using hi)]
       simp only [b4m,hu,hl,hc,hn,hb,hz',hg',cond_true,decide_eq_true hq,a7o hf,toD,D5,List.map_cons,List.map_nil,C3,hrows]
       rfl
      ·cases h
     ·cases h
  ·cases h
 ·cases h
theorem e2h {o:Op} {K:KV} (h:R4 CR X s nid o K=some r):∃ v ws rs,K v ws rs=some r∧t8 X (o7 s) nid o=some ⟨true,toD v,D5 ws,rs⟩:=by
 cases o
 case move x=>exact ⟨_,_,_,h,by simp only [u9,t8,n9,x9];rfl⟩
 case assign x=>exact ⟨_,_,_,h,by simp only [u9,t8,n9,x9];rfl⟩
 case alloc t =>
  simp only [R4] at h
  split at h
  ·rename_i z hz
   obtain ⟨hf,h⟩:=a1h h
   exact ⟨_,_,_,h,by simp only [u9,t8,a3i hz,a7o hf,toD,D5,List.map_cons,List.map_nil,C3]⟩
  ·cases h
 case box t x =>
  simp only [R4] at h
  split at h
  ·rename_i y m hx
   obtain ⟨hf,h⟩:=a1h h
   exact ⟨_,_,_,h,by simp only [u9,t8,n9,hx,toD,D.ok,D.isAgg,Bool.or_true,cond_true,a7o hf,D.cells,D5,List.map_cons,List.map_nil,C3]⟩
  ·split at h
   ·rename_i cs hcs
    obtain ⟨hf,h⟩:=a1h h
    obtain ⟨h1,h2⟩:=a4b hcs
    exact ⟨_,_,_,h,by simp only [u9,t8,n9,h1,cond_true,a7o hf,h2,toD,D5,List.map_cons,List.map_nil,C3]⟩
   ·cases h
 case build t parts=>exact d72 h
 case buildSlice t len parts=>exact c0c h
 case load t a=>exact e4k h
 case store t a x=>exact d6i h
 case nilCheck x =>
  simp only [R4] at h
  split at h
  ·rename_i hx;exact ⟨_,_,_,h,by simp only [u9,t8,n9,hx,toD,x9];rfl⟩
  ·rename_i hx;exact ⟨_,_,_,h,by simp only [u9,t8,n9,hx,toD,x9];rfl⟩
  ·rename_i hx;exact ⟨_,_,_,h,by simp only [u9,t8,n9,hx,toD,x9];rfl⟩
  ·cases h
 case binOp op t x y u =>
  simp only [R4] at h
  obtain ⟨v,h,hd⟩:=d6u h
  exact ⟨_,_,_,h,by simp only [u9,t8,n9,hd];rfl⟩
 case unOp op t x =>
  simp only [R4] at h
  split at h
  ·obtain ⟨b,hx,h⟩:=a0z h
   rw [CfB] at h
   exact ⟨_,_,_,h,by simp only [u9,t8,n9,hx,x9,toD,a3y];rfl⟩
  ·rename_i k hu
   obtain ⟨n,hx,h⟩:=Z2 h
   rw [CfI] at h
   exact ⟨_,_,_,h,by simp only [u9,t8,n9,hx,x9,toD,a3e,b4k];rfl⟩
  ·cases h
 case convert src dst x =>
  simp only [R4] at h
  obtain ⟨v,h,hd⟩:=d3x h
  exact ⟨_,_,_,h,by simp only [u9,t8,n9,hd];rfl⟩
 case makeInterface t x =>
  simp only [R4] at h
  split at h
  ·cases h
  ·rename_i u h1 hu
   refine ⟨_,_,_,h,?_⟩
   simp only [t8,n9,hu,x9,toD]
   cases u <;> first | rfl | exact (h1 _ rfl).elim
  ·cases h
 case makeFunc fn first captured =>
  simp only [R4] at h
  exact ⟨_,_,_,h,by simp only [u9,t8,c5n,x9,toD,C9];rfl⟩
 case makeSlice t l c =>
  simp only [R4] at h
  obtain ⟨v,ws,rs,h,hd⟩:=d46 h
  exact ⟨v,ws,rs,h,by simp only [t8,n9,hd]⟩
 case slice t x lo hi mx =>
  simp only [R4] at h
  obtain ⟨v,h,hd⟩:=c9p h
  exact ⟨_,_,_,h,by simp only [u9,t8,n9,hd];rfl⟩
 case fieldAddr t x f=>exact c3r h
 case field t x f=>exact d6r h
 case indexAddr t x i=>exact c35 h
 case index t x i =>
  simp only [R4] at h
  split at h
  ·rename_i hu
   obtain ⟨l,c,hx,h⟩:=a07 h
   obtain ⟨_,k,hi,h⟩:=P0 h
   obtain ⟨h0,h⟩:=D0 h
   have h0:(band (iLe 0 k) (iLt k (l:Int)))=true:=h0
   rw [CfI] at h
   have g:0≤k∧k < (l:Int):=by simpa [N6,X7,a1o] using h0
   have g2:0≤k∧k < ((n5 l c).length:Int):=by rw [T3];exact g
   refine ⟨_,_,_,h,?_⟩
   simp only [u9,t8,hu,n9,hx,hi,F1,decide_eq_true g2,toD,F9]
   rw [d06 (show k.toNat < l by omega)]
   rfl
  ·cases h
 case extract x i =>
  simp only [R4] at h
  split at h
  ·rename_i vs hx
   cases hb:Nat.blt i vs.length with
   | false=>rw [hb] at h;cases h
   | true =>
    rw [hb] at h
    have hl:i < vs.length:=by simpa [Nat.blt_eq] using hb
    refine ⟨_,_,_,h,?_⟩
    rw [a3n,List.getD_eq_getElem?_getD,List.getElem?_eq_getElem hl]
    simp only [u9,t8,n9,hx,toD,C9,List.getElem?_map,List.getElem?_eq_getElem hl,Option.map_some,x9,Option.getD_some]
    rfl
  ·cases h
 case call c =>
  obtain ⟨callee,args,ts⟩:=c
  cases callee with
  | builtin b=>exact c9t h
  | value f=>cases h
  | invoke x m=>cases h
 all_goals cases h
end

section
variable {f:Nat→Option Nat}
theorem map_toD {g:V→V} {h:D→D} (e:∀ v,toD (g v)=h (toD v)) (l:List V):(l.map g).map toD=(l.map toD).map h:=by
 rw [List.map_map,List.map_map];exact List.map_congr_left fun v _=>e v
theorem c6f (v:V):toD (W4 f v)=R2 f (toD v):=by
 cases v
 case slice t n off len c=>cases c <;> simp only [W4,toD,R2]
 case q x=>simp only [W4,toD];exact (Y6 f x 0).symm
 case ptr id off=>simp only [W4,toD,R2];cases f id <;> simp only [toD]
 all_goals simp only [W4,toD,R2]
theorem b60 (x:Q) (i:Nat):a8u f (den x i)=den x i:=by
 have h1:=N3 x i
 have h2:=Y6 f x i
 cases hd:den x i <;> rw [hd] at h1 h2 <;> first | exact h2 | (cases h1;done) | (exfalso;simp [R2] at h2;done)
theorem c60 (v:V):toD (a0w f v)=a8u f (toD v):=by
 cases v
 case func fn fs cs=>simp only [a0w,toD,a8u,C9,map_toD (fun v=>c6f (f:=f) v)]
 case q x=>simp only [a0w,W4,toD];exact (b60 x 0).symm
 all_goals (simp only [a0w];rw [c6f];simp only [toD,a8u])
theorem b01 (v:V):toD (X1 f v)=a7q f (toD v):=by
 cases v
 case agg cs=>simp only [X1,toD,a7q,C9,map_toD (fun v=>c60 (f:=f) v)]
 case a x m =>
  simp only [X1,toD,a7q]
  congr 1
  rw [L6,List.map_map]
  exact List.map_congr_left fun i _=>(b60 x i).symm
 case q x =>
  simp only [X1,a0w,W4,toD]
  have h1:=N3 x 0
  have h2:=b60 (f:=f) x 0
  cases hd:den x 0 <;> rw [hd] at h1 h2 <;> first | exact h2.symm | cases h1
 all_goals (simp only [X1];rw [c60];simp only [toD,a7q])
theorem a14 (v:V):toD (X3 f v)=renI f (toD v):=by
 cases v
 case iface t v=>simp only [X3,toD,renI,b01]
 case q x=>simp only [X3,X1,a0w,W4,toD];exact (a3u f x 0).symm
 all_goals (simp only [X3];rw [b01];simp only [toD,renI])
theorem a9e (v:V):toD (a1t f v)=ren f (toD v):=by
 cases v
 case tuple vs=>simp only [a1t,toD,ren,C9,map_toD (fun v=>a14 (f:=f) v)]
 case q x =>
  simp only [a1t,X3,X1,a0w,W4,toD]
  have h1:=N3 x 0
  have h2:=a3u f x 0
  cases hd:den x 0 <;> rw [hd] at h1 h2 <;> first | exact h2.symm | cases h1
 all_goals (simp only [a1t];rw [a14];simp only [toD,ren])
end

def P7:Bx→Bool
 | .cells _ | .opa _ _ | .row _ _=>true
 | _=>false
def J3:Bx→List D
 | .cells cs=>cs.map toD
 | .opa x m=>u3 (den x) 0 m
 | .row t len=>rows (z7 t) 1 0 len
 | _=>[]
theorem a3q {b:Bx} (h:P7 b=true):C3 b=.cells (J3 b):=by cases b <;> first | rfl | cases h
def a16 (f:Nat→Option Nat):Bx→Bx
 | .cells cs=>.cells (cs.map (X3 f))
 | b=>b
theorem b5p (f:Nat→Option Nat) (t:j9 Q):∀ (n m off:Nat),(rows (z7 t) n off m).map (renI f)=rows (z7 t) n off m
 | _,0,_=>rfl
 | n,m+1,off=>by
  simp only [rows,List.map_append,b5p f t n m]
  congr 1
  rw [Y9]
  exact a01 f _ n 0
theorem b37 (f:Nat→Option Nat) {b:Bx}:J3 (a16 f b)=(J3 b).map (renI f):=by
 cases b <;> simp only [a16,J3]
 ·exact map_toD (fun v=>a14 v) _
 ·exact (a01 f _ _ 0).symm
 ·rfl
 ·exact (b5p f _ 1 _ 0).symm
 ·rfl
 ·rfl
theorem d1v (f:Nat→Option Nat) {b:Bx}:P7 (a16 f b)=P7 b:=by cases b <;> rfl

/- What is kept of a state. -/
def W3 (f:Nat→Option Nat):V→V
 | .slice t n off len (.tok id)=>match f id with
  | some j=>.slice t n off len (.tok j)
  | none=>.slice t n off len .no
 | .slice t n off len .exact=>.slice t n off len .exact
 | .bslice id l=>match f id with
  | some j=>.bslice j l
  | none=>.junk
 | .agg cs=>X1 f (.agg cs)
 | .a x m=>.a x m
 | .tuple ds=>.tuple (ds.map (X3 f))
 | d=>X3 f d
theorem b5r (f:Nat→Option Nat) (v:V):toD (W3 f v)=R8 f (toD v):=by
 cases v
 case slice t n off len c =>
  cases c with
  | no=>simp only [W3,X3,X1,a0w,W4,toD,R8,renI,a7q,a8u,R2]
  | exact=>simp only [W3,toD,R8]
  | tok id=>simp only [W3,toD,R8];cases f id <;> simp only [toD]
  | fr z=>simp only [W3,X3,X1,a0w,W4,toD,R8,renI,a7q,a8u,R2]
 case bslice id l=>simp only [W3,toD,R8];cases f id <;> simp only [toD]
 case agg cs=>simp only [W3];rw [b01];simp only [toD,R8]
 case a x m =>
  have:=b01 (f:=f) (.a x m)
  simp only [X1,toD] at this
  simp only [W3,toD,R8]
  exact this
 case tuple ds=>simp only [W3,toD,R8,C9,map_toD (fun v=>a14 (f:=f) v)]
 case q x =>
  simp only [W3,X3,X1,a0w,W4,toD]
  have h1:=N3 x 0
  have h2:=a3u f x 0
  have h3:=Y6 f x 0
  cases hd:den x 0 <;> rw [hd] at h1 h2 h3 <;> first | exact h2.symm | cases h1 | skip
  all_goals (rename_i c;cases c <;> first | rfl | (simp only [R2] at h3;cases h3))
 all_goals (simp only [W3];rw [a14];simp only [toD,R8])
def b5v (f:Nat→Option Nat):Bx→Bx
 | .cells cs=>.cells (cs.map (W3 f))
 | b=>b
theorem c8c (f:Nat→Option Nat) (x:Q) (i:Nat):R8 f (den x i)=den x i:=by
 have h1:=N3 x i
 have h2:=a3u f x i
 have h3:=Y6 f x i
 cases hd:den x i <;> rw [hd] at h1 h2 h3 <;> first | exact h2 | cases h1 | skip
 all_goals (rename_i c;cases c <;> first | rfl | (simp only [R2] at h3;cases h3))
theorem d0c (f:Nat→Option Nat) (b:Bx):C3 (b5v f b)=a6q f (C3 b):=by
 cases b <;> simp only [b5v,C3,a6q]
 ·rw [map_toD (fun v=>b5r f v)]
 ·congr 1;rw [L6,List.map_map];exact List.map_congr_left fun i _=>(c8c f _ i).symm
 ·congr 1
  rename_i t len
  have:∀ (m off:Nat),(rows (z7 t) 1 off m).map (R8 f)=rows (z7 t) 1 off m:=by
   intro m
   induction m with
   | zero=>intro _;rfl
   | succ m ih =>
    intro off
    simp only [rows,List.map_append,ih]
    congr 1
    rw [Y9,L6,List.map_map]
    exact List.map_congr_left fun i _=>c8c f _ i
  exact (this len 0).symm
def b5z:V→Option Nat
 | .ptr id _=>some id
 | _=>none
theorem a9m (x:Q) (i:Nat):pid (den x i)=none∧b03 (den x i)=[]∧a8e (den x i)=[]:=by
 have h1:=N3 x i
 have h3:=Y6 Z5 x i
 cases hd:den x i <;> rw [hd] at h1 h3 <;> first | exact ⟨rfl,rfl,rfl⟩ | cases h1 | (simp only [R2,Z5] at h3;cases h3) | skip
 all_goals (rename_i c;cases c <;> first | exact ⟨rfl,rfl,rfl⟩ | (simp only [R2] at h3;cases h3))
theorem e6r (v:V):b5z v=pid (toD v):=by
 cases v <;> simp only [b5z,toD,pid]
 exact (a9m _ 0).1.symm
theorem a7x (l:List V):l.filterMap b5z=(l.map toD).filterMap pid:=by
 rw [List.filterMap_map];congr 1;funext v;exact e6r v
def b7p:V→List Nat
 | .ptr id _=>[id]
 | .func _ fs cs=>fs.filterMap b5z ++ cs.filterMap b5z
 | _=>[]
theorem e1z (v:V):b7p v=b03 (toD v):=by
 cases v <;> simp only [b7p,toD,b03]
 ·exact (a9m _ 0).2.1.symm
 ·rw [C9,C9,a7x,a7x]
def b4h:V→List Nat
 | .ptr id _=>[id]
 | .slice _ _ _ _ (.tok id)=>[id]
 | .bslice id _=>[id]
 | .func _ fs cs=>fs.filterMap b5z ++ cs.filterMap b5z
 | _=>[]
theorem c7g (v:V):b4h v=a8e (toD v):=by
 cases v <;> simp only [b4h,toD,a8e]
 ·rename_i c;cases c <;> rfl
 ·exact (a9m _ 0).2.2.symm
 ·rw [C9,C9,a7x,a7x]
def b1h (n0:Nat) (ks:List Nat) (s:B3):List Nat :=
 let a:=b2h (List.range n0) (ks.flatMap fun i=>b4h (P1 s.tmps i))
 b2h a (a.flatMap fun id=>match Q3 s.heap id with
  | .cells ds=>ds.flatMap b4h
  | _=>[])
theorem a30 {α β:Type} {f:α→List β}:∀ (l:List α),(∀ x ∈ l,f x=[])→l.flatMap f=[]
 | [],_=>rfl
 | x :: l,h=>by rw [List.flatMap_cons,h x List.mem_cons_self,a30 l fun y hy=>h y (List.mem_cons_of_mem _ hy)];rfl
theorem a4r (s:B3) (i:Nat):(o7 s).tmps.getD i .junk=toD (P1 s.tmps i):=n9 s (.tmp i)
theorem c16 (s:B3) (i:Nat):(o7 s).heap.getD i .dead=C3 (Q3 s.heap i):=by
 rw [a31,List.getD_eq_getElem?_getD,List.getD_eq_getElem?_getD,c2k]
 cases s.heap[i]? <;> rfl
theorem b40 (n0:Nat) (ks:List Nat) (s:B3):b1h n0 ks s=a9f n0 ks (o7 s):=by
 unfold b1h a9f
 have e1:(ks.flatMap fun i=>b4h (P1 s.tmps i))=ks.flatMap fun i=>a8e ((o7 s).tmps.getD i .junk):=by
  congr 1;funext i;rw [a4r,c7g]
 have e2:(fun id=>match Q3 s.heap id with | .cells ds=>ds.flatMap b4h | _=>[])=fun id=>match (o7 s).heap.getD id .dead with | .cells ds=>ds.flatMap a8e | _=>[]:=by
  funext id
  rw [c16]
  cases Q3 s.heap id <;> simp only [C3]
  ·rw [List.flatMap_map];congr 1;funext v;exact c7g v
  ·rw [L6,List.flatMap_map];exact (a30 _ fun i _=>(a9m _ i).2.2).symm
  ·rename_i t len
   have:∀ (m off:Nat),(rows (z7 t) 1 off m).flatMap a8e=[]:=by
    intro m
    induction m with
    | zero=>intro _;rfl
    | succ m ih=>intro off;simp only [rows,List.flatMap_append,ih,List.append_nil];rw [Y9,L6,List.flatMap_map];exact a30 _ fun i _=>(a9m _ i).2.2
   exact (this len 0).symm
 simp only [e1,e2]
 rfl
def b0q:V→V
 | .slice t n off len _=>.slice t n off len .no
 | v=>v
theorem b5m (v:V):toD (b0q v)=a2d (toD v):=by
 cases v <;> simp only [b0q,toD,a2d]
 rename_i x
 cases hd:den x 0 <;> first | rfl | skip
 rename_i l c k
 cases a04 x 0 l c k hd
 rfl
def X6 (ids:List Nat):List (Nat × Nat)→B3→Nat→List V × List Bx
 | [],_,_=>([],[])
 | (i,z) :: ks,s,n=>bif Nat.beq z a0f then (b0q (W3 (pos · ids) (P1 s.tmps i)) :: (X6 ids ks s n).1,(X6 ids ks s n).2) else match P1 s.tmps i,z with
  | .slice t m off l .exact,z+1=>(.slice t m off l (.tok n) :: (X6 ids ks s (n+1)).1,.tok l (z+1) :: (X6 ids ks s (n+1)).2)
  | d,_=>(W3 (pos · ids) d :: (X6 ids ks s n).1,(X6 ids ks s n).2)
theorem a7y {ids:List Nat}:∀ (ks:List (Nat × Nat)) (s:B3) (n:Nat),(X6 ids ks s n).1.map toD=(M4 ids ks (o7 s) n).1∧(X6 ids ks s n).2.map C3=(M4 ids ks (o7 s) n).2
 | [],_,_=>⟨rfl,rfl⟩
 | (i,z) :: ks,s,n=>by
  obtain ⟨h1,h2⟩:=a7y (ids:=ids) ks s n
  obtain ⟨h3,h4⟩:=a7y (ids:=ids) ks s (n+1)
  simp only [X6,M4,a4r]
  cases hf:Nat.beq z a0f with
  | true=>simp only [cond_true,List.map_cons,b5m,b5r,h1,h2,and_self]
  | false =>
  simp only [cond_false]
  generalize P1 s.tmps i=v
  have hplain:(W3 (pos · ids) v :: (X6 ids ks s n).1).map toD=R8 (pos · ids) (toD v) :: (M4 ids ks (o7 s) n).1:=by simp only [List.map_cons,b5r,h1]
  cases v
  case slice t m off l c =>
   cases c <;> cases z <;> first
    | exact ⟨hplain,h2⟩
    | (simp only [toD,List.map_cons,h3,h4,C3,and_self])
  case q x =>
   have hn:∀ l c,den x 0 ≠ .slice l c .exact:=fun l c hd=>by cases a04 x 0 l c _ hd
   simp only [toD] at hplain ⊢
   generalize den x 0=d at hplain hn
   cases d with
   | slice l c k=>cases k <;> cases z <;> first | exact ⟨hplain,h2⟩ | exact (hn _ _ rfl).elim
   | _=>exact ⟨hplain,h2⟩
  all_goals exact ⟨hplain,h2⟩
def b0k (j c z:Nat) (h:List Bx):List Bx:=match Q3 h j with
 | .cells cs=>bif Nat.blt c cs.length then bif Nat.beq z a0f then h.set j (.cells (cs.set c (b0q (P1 cs c)))) else match P1 cs c with
  | .slice t n off len .exact=>(h.set j (.cells (cs.set c (.slice t n off len (.tok h.length))))) ++ [.tok len z]
  | _=>h
  else h
 | _=>h
def b9r:List (Nat × Nat)→List Bx→List Bx
 | [],h=>h
 | (i,z) :: ks,h=>bif Nat.ble 1000000 i then b9r ks (b0k ((i - 1000000) / 1000) ((i - 1000000) % 1000) z h) else b9r ks h
theorem b3n {t:j9 Q}:∀ (m off i l:Nat) (c:List D) (k:Cap),(rows (z7 t) 1 off m)[i]?=some (.slice l c k)→k=.no
 | 0,off,i,l,c,k,h=>by simp [rows] at h
 | m+1,off,0,l,c,k,h=>by
  simp only [rows,u3,List.cons_append,List.nil_append,List.getElem?_cons_zero] at h
  injection h with h
  exact b4t t off 0 l c k h
 | m+1,off,i+1,l,c,k,h=>by
  simp only [rows,u3,List.cons_append,List.nil_append,List.getElem?_cons_succ] at h
  exact b3n m (off+1) i l c k h
theorem c33 {x:Q} {m i l:Nat} {c:List D} {k:Cap} (h:(u3 (den x) 0 m)[i]?=some (.slice l c k)):k=.no:=by
 rcases Nat.lt_or_ge i m with hi | hi
 ·rw [a5t _ _ _ hi] at h
  injection h with h
  exact a04 x _ l c k h
 ·rw [List.getElem?_eq_none (by rw [E1];exact hi)] at h;cases h
theorem e1k {h:List Bx} {j:Nat}:(h.map C3)[j]?=if j < h.length then some (C3 (Q3 h j)) else none:=by
 rw [a31,List.getD_eq_getElem?_getD,List.getElem?_map]
 split
 ·rename_i hj;rw [List.getElem?_eq_getElem hj];rfl
 ·rename_i hj;rw [List.getElem?_eq_none oM];rfl
theorem c2j {α:Type} {l:List α} {i:Nat} {x:α} (h:l[i]?=some x):l.set i x=l:=by
 apply List.ext_getElem?
 intro k
 by_cases hk:i=k
 ·subst hk;rw [List.getElem?_set_self (List.getElem?_eq_some_iff.1 h).1,h]
 ·rw [List.getElem?_set_ne hk]
theorem b1v {j c z:Nat} {h:List u7} {ds:List D} (hj:h[j]?=some (.cells ds)) (hd:∀ (i l:Nat) (x:List D) (k:Cap),ds[i]?=some (D.slice l x k)→k=Cap.no):tokCell j c z h=h:=by
 unfold tokCell
 rw [hj]
 simp only []
 split
 ·rename_i d hc
  have e:a2d d=d:=by
   cases d with
   | slice l x k=>cases hd c l x k hc;rfl
   | _=>rfl
  cases Nat.beq z a0f with
  | true =>
   simp only [cond_true]
   rw [e,c2j hc,c2j hj]
  | false =>
   simp only [cond_false]
   split
   ·cases hd c _ _ _ hc
   ·rfl
 ·rfl
theorem c9g (j c z:Nat) (h:List Bx):(b0k j c z h).map C3=tokCell j c z (h.map C3):=by
 rcases Nat.lt_or_ge j h.length with hj | hj
 ·have hg:(h.map C3)[j]?=some (C3 (Q3 h j)):=by rw [e1k,if_pos hj]
  unfold b0k
  generalize hb:Q3 h j=b at hg
  cases b with
  | cells cs =>
   unfold tokCell
   rw [hg]
   simp only [C3]
   cases hc:Nat.blt c cs.length with
   | true =>
    have hc':c < cs.length:=by rw [Nat.blt_eq] at hc;exact hc
    have e1:(cs.map toD)[c]?=some (toD (P1 cs c)):=by
     rw [a3n,List.getD_eq_getElem?_getD,List.getElem?_map,List.getElem?_eq_getElem hc'];rfl
    rw [e1]
    simp only [cond_true]
    cases hz:Nat.beq z a0f with
    | true=>simp only [cond_true,List.map_set,C3,b5m]
    | false =>
     simp only [cond_false]
     generalize P1 cs c=v
     cases v
     case slice t n off len k =>
      cases k <;> simp only [toD,List.map_append,List.map_set,C3,List.map_cons,List.map_nil,List.length_map]
     case q x =>
      simp only [toD]
      cases hd:den x 0 <;> first | rfl | skip
      rename_i l d k
      cases a04 x 0 l d k hd
      rfl
     all_goals simp only [toD]
   | false =>
    have hc':cs.length≤c:=by
     rcases Nat.lt_or_ge c cs.length with h1 | h1
     ·have:Nat.blt c cs.length=true:=by rw [Nat.blt_eq];exact h1
      rw [hc] at this;cases this
     ·exact h1
    have e1:(cs.map toD)[c]?=none:=List.getElem?_eq_none (by simpa using hc')
    rw [e1]
    rfl
  | opa x m=>exact (b1v hg (fun i l d k hd=>c33 hd)).symm
  | row t len=>exact (b1v hg (fun i l d k hd=>b3n _ _ _ _ _ _ hd)).symm
  | _=>unfold tokCell;rw [hg];rfl
 ·have e2:Q3 h j=.dead:=by rw [a31,List.getD_eq_getElem?_getD,List.getElem?_eq_none hj];rfl
  have hg:(h.map C3)[j]?=none:=List.getElem?_eq_none (by simpa using hj)
  unfold b0k tokCell
  rw [e2,hg]
theorem b66:∀ (ks:List (Nat × Nat)) (h:List Bx),(b9r ks h).map C3=tokB ks (h.map C3)
 | [],h=>rfl
 | (i,z) :: ks,h=>by
  simp only [b9r,tokB]
  cases Nat.ble 1000000 i with
  | true=>simp only [cond_true];rw [b66,c9g]
  | false=>simp only [cond_false];rw [b66]
def a6x (n0:Nat) (ks:List (Nat × Nat)) (s:B3):List V × List Bx :=
 let ids:=b1h n0 (b2c ks) s
 ((X6 ids ks s ids.length).1,b9r ks ((ids.map fun id=>b5v (pos · ids) (Q3 s.heap id)) ++ (X6 ids ks s ids.length).2))
theorem c0k (n0:Nat) (ks:List (Nat × Nat)) (s:B3):gcV n0 ks (o7 s)=((a6x n0 ks s).1.map toD,(a6x n0 ks s).2.map C3):=by
 unfold gcV a6x
 simp only [b40,b66,List.map_append,(a7y _ _ _).1,(a7y _ _ _).2,List.map_map]
 congr 3
 exact List.map_congr_left fun id _=>by simp only [Function.comp,d0c,c16]
def a6d (n0 n:Nat) (ks:List (Nat × Nat)) (s:B3):Bool:=b9k n0 (b1h n0 (b2c ks) s) && Nat.beq s.tmps.length n && decide (ks.map (·.1)).Nodup
theorem b5q (n0 n:Nat) (ks:List (Nat × Nat)) (s:B3):a6d n0 n ks s=b0l n0 n ks (o7 s):=by
 unfold a6d b0l;rw [b40];simp only [o7,List.length_map]
def d19 (n:Nat) (ks:List Nat) (vs:List V):List V:=(List.range n).map fun i=>match pos i ks with
 | some j=>P1 vs j
 | none=>.junk
def b36 (n:Nat) (ks:List (Nat × Nat)) (vs:List V) (bs:List Bx):B3:={ tmps:=d19 n (ks.map (·.1)) vs,heap:=bs }
theorem c5d (n:Nat) (ks:List (Nat × Nat)) (vs:List V) (bs:List Bx):o7 (b36 n ks vs bs)=a8p n ks (vs.map toD,bs.map C3):=by
 unfold b36 a8p o7 d19 c56
 simp only [List.map_map]
 congr 1
 refine List.map_congr_left fun i _=>?_
 simp only [Function.comp]
 cases pos i (ks.map (·.1)) with
 | none=>simp only [toD]
 | some j =>
  simp only []
  rw [a3n,List.getD_eq_getElem?_getD,List.getD_eq_getElem?_getD,List.getElem?_map]
  cases vs[j]? <;> simp [toD]

abbrev E5:=List V→List Bx→Om
def a8w:L3→V1
 | .ret v=>.ret (toD v)
 | .pan v=>.pan (toD v)
def O2 (X:Pr) (g:FuncId) (F:E5):Prop:=∀ (vs:List V) (bs:List Bx) (x:L3) (bs':List Bx),F vs bs=some (x,bs')→bs.all P7=true →
 CM X.P X.G g (vs.map toD) (bs.map J3) (a8w x) (bs'.map J3)
theorem CM.pan_any {P:Program} {G:b27} {f:FuncId} {ds:List D} {hs hs' hs2:List (List D)} {d:D} (h:CM P G f ds hs (.pan d) hs'):CM P G f ds hs (.pan d) hs2:=h
def d1y:u7→Bool
 | .cells _=>true
 | _=>false
theorem d9t (b:Bx):P7 b=d1y (C3 b):=by cases b <;> rfl
theorem c3c {a b:List Bx} (h:a.map C3=b.map C3) (ha:a.all P7=true):b.all P7=true:=by
 have e:∀ l:List Bx,l.all P7=(l.map C3).all d1y:=fun l=>by rw [List.all_map];congr 1;funext b;exact d9t b
 rw [e,← h,← e];exact ha
mutual
def eqQ:Q→Q→Bool
 | .bool a,.bool b=>bsel a b (bnot b)
 | .int k a,.int k' b=>cond (ikEq k k') (iEq a b) false
 | .str l c,.str l' c'=>cond (Nat.beq l l') (Nat.beq c c') false
 | .slice t n o l,.slice t' n' o' l'=>cond (Nat.beq n n') (cond (Nat.beq o o') (cond (Nat.beq l l') (eqT t t') false) false) false
 | .nilp,.nilp=>true
 | .nilIface,.nilIface=>true
 | .agg cs o,.agg cs' o'=>cond (Nat.beq o o') (c42 cs cs') false
 | .aggt t o,.aggt t' o'=>cond (Nat.beq o o') (eqT t t') false
 | .no,.no=>true
 | _,_=>false
def eqT:j9 Q→j9 Q→Bool
 | .nil,.nil=>true
 | .node v l r,.node v' l' r'=>cond (eqQ v v') (cond (eqT l l') (eqT r r') false) false
 | _,_=>false
def c42:List Q→List Q→Bool
 | [],[]=>true
 | x :: xs,y :: ys=>cond (eqQ x y) (c42 xs ys) false
 | _,_=>false
end
theorem y7 {a b:Bool} (h:cond a b false=true):a=true∧b=true:=by cases a <;> simp_all
theorem c3k {a b:Bool} (h:bsel a b (bnot b)=true):a=b:=by cases a <;> cases b <;> first | rfl | cases h
theorem c8f {a b:Int} (h:iEq a b=true):a=b:=by rw [T2] at h;simpa using h
mutual
theorem b80:∀ {a b:Q},eqQ a b=true→a=b
 | .bool a,b,h=>by cases b <;> simp only [eqQ] at h <;> first | (rw [c3k h]) | cases h
 | .int k a,b,h=>by
  cases b <;> simp only [eqQ] at h <;> first | cases h | skip
  obtain ⟨h1,h2⟩:=y7 h
  rw [a9l h1,c8f h2]
 | .str l c,b,h=>by
  cases b <;> simp only [eqQ] at h <;> first | cases h | skip
  obtain ⟨h1,h2⟩:=y7 h
  rw [Nat.eq_of_beq_eq_true h1,Nat.eq_of_beq_eq_true h2]
 | .slice t n o l,b,h=>by
  cases b <;> simp only [eqQ] at h <;> first | cases h | skip
  obtain ⟨h1,h⟩:=y7 h
  obtain ⟨h2,h⟩:=y7 h
  obtain ⟨h3,h⟩:=y7 h
  rw [Nat.eq_of_beq_eq_true h1,Nat.eq_of_beq_eq_true h2,Nat.eq_of_beq_eq_true h3,b2g h]
 | .nilp,b,h=>by cases b <;> simp only [eqQ] at h <;> first | rfl | cases h
 | .nilIface,b,h=>by cases b <;> simp only [eqQ] at h <;> first | rfl | cases h
 | .agg cs o,b,h=>by
  cases b <;> simp only [eqQ] at h <;> first | cases h | skip
  obtain ⟨h1,h⟩:=y7 h
  rw [Nat.eq_of_beq_eq_true h1,d1n h]
 | .aggt t o,b,h=>by
  cases b <;> simp only [eqQ] at h <;> first | cases h | skip
  obtain ⟨h1,h⟩:=y7 h
  rw [Nat.eq_of_beq_eq_true h1,b2g h]
 | .no,b,h=>by cases b <;> simp only [eqQ] at h <;> first | rfl | cases h
theorem b2g:∀ {a b:j9 Q},eqT a b=true→a=b
 | .nil,b,h=>by cases b <;> simp only [eqT] at h <;> first | rfl | cases h
 | .node v l r,b,h=>by
  cases b <;> simp only [eqT] at h <;> first | cases h | skip
  obtain ⟨h1,h⟩:=y7 h
  obtain ⟨h2,h⟩:=y7 h
  rw [b80 h1,b2g h2,b2g h]
theorem d1n:∀ {a b:List Q},c42 a b=true→a=b
 | [],b,h=>by cases b <;> simp only [c42] at h <;> first | rfl | cases h
 | x :: xs,b,h=>by
  cases b <;> simp only [c42] at h <;> first | cases h | skip
  obtain ⟨h1,h⟩:=y7 h
  rw [b80 h1,d1n h]
end
def c4c:Cap→Bool
 | .no=>true
 | _=>false
def d8q:V→Bool
 | .bool _ | .known _ | .int _ _ | .str _ _ | .q _ | .nilp | .nilIface=>true
 | .slice _ _ _ _ c=>c4c c
 | _=>false
def d5a:V→V→Bool
 | .bool a,.bool b=>bsel a b (bnot b)
 | .int k a,.int k' b=>cond (ikEq k k') (iEq a b) false
 | .str l c,.str l' c'=>cond (Nat.beq l l') (Nat.beq c c') false
 | .slice t n o l c,.slice t' n' o' l' c'=>cond (c4c c) (cond (c4c c') (cond (Nat.beq n n') (cond (Nat.beq o o') (cond (Nat.beq l l') (eqT t t') false) false) false) false) false
 | .q x,.q y=>eqQ x y
 | .nilp,.nilp=>true
 | .nilIface,.nilIface=>true
 | _,_=>false
theorem c7x {c:Cap} (h:c4c c=true):c=.no:=by cases c <;> first | rfl | cases h
theorem e3n {a b:V} (h:d5a a b=true):a=b:=by
 unfold d5a at h
 split at h <;> first | rfl | cases h | skip
 ·rw [c3k h]
 ·obtain ⟨h1,h2⟩:=y7 h;rw [a9l h1,c8f h2]
 ·obtain ⟨h1,h2⟩:=y7 h;rw [Nat.eq_of_beq_eq_true h1,Nat.eq_of_beq_eq_true h2]
 ·obtain ⟨g1,h⟩:=y7 h
  obtain ⟨g2,h⟩:=y7 h
  obtain ⟨h1,h⟩:=y7 h
  obtain ⟨h2,h⟩:=y7 h
  obtain ⟨h3,h⟩:=y7 h
  rw [c7x g1,c7x g2,Nat.eq_of_beq_eq_true h1,Nat.eq_of_beq_eq_true h2,Nat.eq_of_beq_eq_true h3,b2g h]
 ·rw [b80 h]
def b2f:List V→List V→Bool
 | [],[]=>true
 | x :: xs,y :: ys=>cond (d5a x y) (b2f xs ys) false
 | _,_=>false
theorem c1l:∀ {a b:List V},b2f a b=true→a=b
 | [],b,h=>by cases b <;> simp only [b2f] at h <;> first | rfl | cases h
 | x :: xs,b,h=>by
  cases b <;> simp only [b2f] at h <;> first | cases h | skip
  obtain ⟨h1,h⟩:=y7 h
  rw [e3n h1,c1l h]
def eqB:Bx→Bx→Bool
 | .cells a,.cells b=>b2f a b
 | .opa x m,.opa y n=>cond (Nat.beq m n) (eqQ x y) false
 | _,_=>false
theorem f5c {a b:Bx} (h:eqB a b=true):a=b:=by
 unfold eqB at h
 split at h <;> first | cases h | skip
 ·rw [c1l h]
 ·obtain ⟨h1,h⟩:=y7 h;rw [Nat.eq_of_beq_eq_true h1,b80 h]
def b6e:List Bx→List Bx→Bool
 | [],[]=>true
 | x :: xs,y :: ys=>cond (eqB x y) (b6e xs ys) false
 | _,_=>false
theorem d1w:∀ {a b:List Bx},b6e a b=true→a=b
 | [],b,h=>by cases b <;> simp only [b6e] at h <;> first | rfl | cases h
 | x :: xs,b,h=>by
  cases b <;> simp only [b6e] at h <;> first | cases h | skip
  obtain ⟨h1,h⟩:=y7 h
  rw [f5c h1,d1w h]
def same (a b:List Bx) (x:Om):Om:=cond (b6e a b) x none
def c6z:Bx→Bool
 | .cells cs=>cs.all d8q
 | .opa _ _=>true
 | _=>false
theorem d5b (f:Nat→Option Nat) {v:V} (h:d8q v=true):renI f (toD v)=toD v:=by
 rw [← a14]
 cases v <;> first | rfl | cases h | skip
 rename_i c
 cases c <;> first | rfl | cases h
theorem b8k (f:Nat→Option Nat) {b:Bx} (h:c6z b=true):(J3 b).map (renI f)=J3 b:=by
 cases b <;> first | cases h | skip
 ·rename_i cs
  simp only [J3,List.map_map]
  refine List.map_congr_left fun v hv=>d5b f (List.all_eq_true.1 h v hv)
 ·exact a01 f _ _ 0
abbrev U7:=FuncId→List Bx→V→List Bx→(V→Option (List Bx)→Om)→Om
def a40 (cr:U7):Prop:=∀ (g:FuncId) (bs0:List Bx) (v:V) (bs:List Bx) (K:V→Option (List Bx)→Om) (r:R),cr g bs0 v bs K=some r →
 (∃ v' bs',toD v'=toD v∧bs'.map C3=bs.map C3∧K v' (some bs')=some r)∨(∃ v',toD v'=toD v∧bs=bs0∧K v' none=some r)
def B3.lay (s:B3) (ws:List (Nat × Bx)):B3:={ s with heap:=ws.foldl (fun h x=>h.set x.1 x.2) s.heap }
def B3.put (s:B3) (dst:Option Tmp) (v:V):B3:=match dst with
 | some t=>{ s with tmps:=s.tmps.set t v }
 | none=>s
theorem a3p (s:B3) (dst:Option Tmp) (v:V):o7 (s.put dst v)=(o7 s).put dst (toD v):=by
 cases dst with
 | none=>rfl
 | some t=>simp only [B3.put,o7,St.put,List.map_set]
theorem b57 (s:B3) (ws:List (Nat × Bx)):o7 (s.lay ws)=(o7 s).lay (D5 ws):=by
 unfold B3.lay St.lay D5 o7
 simp only []
 congr 1
 rw [List.foldl_map]
 generalize s.heap=h
 induction ws generalizing h with
 | nil=>rfl
 | cons x ws ih=>simp only [List.foldl_cons];rw [ih,List.map_set]

def c0g (C:Comb):B3→List V→(List V→List Nat→Om)→Om
 | _,[],K=>K [] []
 | s,.bslice id len :: vs,K=>match Q3 s.heap id with
  | .row t len'=>C.chk (C.nEq len len') (c0g C { s with heap:=s.heap.set id .dead } vs fun vs' ks=>K (.slice t 1 0 len .no :: vs') (id :: ks))
  | _=>none
 | s,v :: vs,K=>c0g C s vs fun vs' ks=>K (v :: vs') ks
def a9s (h:List Bx):List Nat→Option (List Bx)
 | []=>some []
 | id :: ids=>bif P7 (Q3 h id) then (a9s h ids).map (Q3 h id :: ·) else none
def b4a (ids:List Nat) (bs:List Bx):List (Nat × Bx):=(ids.zip bs).map fun p=>(p.1,a16 (ids[·]?) p.2)
def a6r:V→V
 | .slice t n off len (.fr _)=>.slice t n off len .no
 | v=>v
def b7b (nid:Nat):List V→Option (List V × List (Nat × Bx))
 | []=>some ([],[])
 | v :: vs=>match v with
  | .slice t n off len (.fr z)=>bif Nat.beq n z then some (.slice t n off len (.tok nid) :: vs.map a6r,[(nid,.tok len z)]) else none
  | v=>(b7b nid vs).map fun p=>(v :: p.1,p.2)
def e2f (nid:Nat):V→Option (V × List (Nat × Bx))
 | .tuple vs=>(b7b nid vs).map fun p=>(.tuple p.1,p.2)
 | .slice t n off len (.fr z)=>bif Nat.beq n z then some (.slice t n off len (.tok nid),[(nid,.tok len z)]) else none
 | v=>some (v,[])
def c4p (s:B3) (nid:Nat) (v:V) (ws:List (Nat × Bx)) (rs:List Nat) (K:KV):Om :=
 match e2f nid v with
 | some (v',[])=>K v' ws rs
 | some (v',x :: xs)=>cond (a2g (s.lay ws) nid) (K v' (ws ++ x :: xs) (nid :: rs)) none
 | none=>none
def e50 (C:Comb) (fn:FuncId→E5) (cr:U7) (s:B3) (nid:Nat) (g:FuncId) (vs:List V) (K:KV) (Kp:V→List Nat→Om):Om :=
 c0g C s vs fun vs' ks =>
  let ids:=W6 (vs'.flatMap b7p)
  match a9s (s.lay (ks.map fun k=>(k,.dead))).heap ids with
  | some bs=>C.bind (fn g (vs'.map (a1t (pos · ids))) (bs.map (a16 (pos · ids))))
    (fun v bs'=>cr g (bs.map (a16 (pos · ids))) v bs' fun v o=>match o with
     | some bs'=>bif Nat.beq bs'.length ids.length && bs'.all P7 then c4p s nid (a1t (ids[·]?) v) ((ks.map fun k=>(k,Bx.dead)) ++ b4a ids bs') (ids ++ ks) K else none
     | none=>bif bs.all c6z then c4p s nid (a1t (ids[·]?) v) (ks.map fun k=>(k,Bx.dead)) (ids ++ ks) K else none) (fun v=>Kp (C.rn0 v) (ids ++ ks))
  | none=>none

section
variable {X:Pr} {r:R}
theorem a89 {h:List Bx}:∀ {ids:List Nat} {bs:List Bx},a9s h ids=some bs→S4 (h.map C3) ids=some (bs.map J3)∧bs.all P7=true∧bs.length=ids.length
 | [],bs,hb=>by simp only [a9s] at hb;injection hb with hb;subst hb;exact ⟨rfl,rfl,rfl⟩
 | id :: ids,bs,hb=>by
  simp only [a9s] at hb
  cases ho:P7 (Q3 h id) with
  | false=>rw [ho] at hb;cases hb
  | true =>
   rw [ho] at hb
   obtain ⟨bs',h1,rfl⟩:=Option.map_eq_some_iff.1 hb
   obtain ⟨h2,h3,h4⟩:=a89 h1
   have e:(h.map C3)[id]?=some (.cells (J3 (Q3 h id))):=by
    rw [← a3q ho,List.getElem?_map,a31,List.getD_eq_getElem?_getD]
    cases hi:h[id]? with
    | none=>rw [a31,List.getD_eq_getElem?_getD,hi] at ho;cases ho
    | some x=>rfl
   refine ⟨?_,by simp only [List.all_cons,ho,h3,Bool.and_self],by simp [h4]⟩
   simp only [S4,e,h2,Option.map_some,List.map_cons]
theorem b11:∀ {vs:List V} {s:B3} {K:List V→List Nat→Om},c0g CR s vs K=some r→∃ vs' ks,K vs' ks=some r∧frz (o7 s) (vs.map toD)=some (vs'.map toD,ks)
 | [],s,K,h=>⟨[],[],h,rfl⟩
 | v :: vs,s,K,h=>by
  by_cases hb:∃ id len,v=.bslice id len
  ·obtain ⟨id,len,rfl⟩:=hb
   simp only [c0g] at h
   split at h
   ·rename_i t len' hbx
    obtain ⟨h0,h'⟩:=D0 h
    have h0:(Nat.beq len len')=true:=h0
    have he:=Nat.eq_of_beq_eq_true h0
    subst he
    obtain ⟨vs',ks,h,hf⟩:=b11 h'
    have hh:=V2 hbx (by simp)
    refine ⟨_,_,h,?_⟩
    have e:o7 { s with heap:=s.heap.set id .dead }={ o7 s with heap:=(o7 s).heap.set id .dead }:=by simp only [o7,List.map_set,C3]
    rw [e] at hf
    simp only [List.map_cons,toD,frz,hh,C3,hf,Option.map_some,b5p]
   ·cases h
  ·have h':c0g CR s vs (fun vs' ks=>K (v :: vs') ks)=some r:=by
    rw [← h]
    cases v <;> first | rfl | exact absurd ⟨_,_,rfl⟩ hb
   obtain ⟨vs',ks,h',hf⟩:=b11 h'
   refine ⟨_,_,h',?_⟩
   have hd:¬∃ id len,toD v=.bslice id len:=by
    rintro ⟨id,len,hd⟩
    cases v <;> simp only [toD] at hd <;> first | (cases hd;done) | skip
    ·have h3:=congrArg (R2 Z5) hd;rw [Y6,hd] at h3;simp only [R2] at h3;cases h3
    ·exact hb ⟨_,_,rfl⟩
   simp only [List.map_cons]
   have e:frz (o7 s) (toD v :: vs.map toD)=(frz (o7 s) (vs.map toD)).map fun p=>(toD v :: p.1,p.2):=by
    cases hv:toD v <;> first | rfl | exact absurd ⟨_,_,hv⟩ hd
   rw [e,hf]
   rfl
theorem d5y {ids:List Nat} {bs:List Bx} (h:bs.all P7=true):D5 (b4a ids bs)=a7h ids (bs.map J3):=by
 unfold b4a a7h D5
 rw [List.map_map,List.zip_map_right,List.map_map]
 refine List.map_congr_left fun p hp=>?_
 have hm:p.2 ∈ bs:=(List.of_mem_zip hp).2
 have ho:=List.all_eq_true.1 h _ hm
 simp only [Function.comp,Prod.map,id]
 rw [a3q (by rw [d1v];exact ho),b37]
theorem b8j (v:V):toD (a6r v)=a1n (toD v):=by
 cases v
 case slice t n off len c=>cases c <;> simp only [a6r,toD,a1n]
 case q x =>
  simp only [a6r,toD]
  have h:=Y6 Z5 x 0
  have h1:=N3 x 0
  cases hd:den x 0 <;> first | rfl | skip
  rename_i l c k
  cases k <;> first | rfl | skip
  exfalso
  exact c5w hd
 all_goals simp only [a6r,toD,a1n]
theorem b8i {nid:Nat}:∀ {vs vs':List V} {ws:List (Nat × Bx)},b7b nid vs=some (vs',ws)→a1v nid (vs.map toD)=(vs'.map toD,D5 ws)
 | [],vs',ws,h=>by simp only [b7b] at h;injection h with h;injection h with h1 h2;subst h1 h2;rfl
 | v :: vs,vs',ws,h=>by
  simp only [b7b] at h
  split at h
  ·rename_i t n off len z
   cases hz:Nat.beq n z with
   | false=>rw [hz] at h;cases h
   | true =>
    rw [hz] at h
    injection h with h;injection h with h1 h2;subst h1 h2
    have:=Nat.eq_of_beq_eq_true hz
    subst this
    simp only [List.map_cons,toD,a1v,G1,Nat.beq_refl,cond_true,D5,C3,List.map_nil,map_toD (fun v=>b8j v)]
  ·rename_i hnf
   obtain ⟨p,hp,he⟩:=Option.map_eq_some_iff.1 h
   obtain ⟨p1,p2⟩:=p
   injection he with h1 h2;subst h1 h2
   have ih:=b8i hp
   have hnd:∀ l c z,toD v ≠ .slice l c (.fr z):=fun l c z hd=>by
    cases v <;> simp only [toD] at hd <;> first | (cases hd;done) | skip
    ·injection hd with _ _ hd;subst hd;exact hnf _ _ _ _ _ rfl
    ·exact c5w hd
   rw [List.map_cons,List.map_cons]
   unfold a1v
   split
   ·rename_i hd;exact absurd hd (hnd _ _ _)
   ·rw [ih]
theorem c3n {nid:Nat} {v v':V} {ws:List (Nat × Bx)} (h:e2f nid v=some (v',ws)):own nid (toD v)=(toD v',D5 ws):=by
 unfold e2f at h
 split at h
 ·obtain ⟨p,hp,he⟩:=Option.map_eq_some_iff.1 h
  obtain ⟨p1,p2⟩:=p
  injection he with h1 h2;subst h1 h2
  simp only [toD,own,C9,b8i hp]
 ·rename_i t n off len z
  cases hz:Nat.beq n z with
  | false=>rw [hz] at h;cases h
  | true =>
   rw [hz] at h
   injection h with h;injection h with h1 h2;subst h1 h2
   have:=Nat.eq_of_beq_eq_true hz
   subst this
   simp only [toD,own,G1,Nat.beq_refl,cond_true,D5,C3,List.map_cons,List.map_nil]
 ·rename_i h1 h2
  injection h with h;injection h with q1 q2;subst q1 q2
  unfold own
  split
  ·rename_i ds hd
   exfalso
   cases v <;> simp only [toD] at hd <;> first | (cases hd;done) | skip
   ·rename_i x;have:=N3 x 0;rw [hd] at this;cases this
   ·exact h1 _ rfl
  ·rename_i hd
   exfalso
   cases v <;> simp only [toD] at hd <;> first | (cases hd;done) | skip
   ·injection hd with _ _ hd;subst hd;exact h2 _ _ _ _ _ rfl
   ·exact c5w hd
  ·rfl
theorem b74 {s:B3} {nid:Nat} {v:V} {ws:List (Nat × Bx)} {rs:List Nat} {K:KV} (h:c4p s nid v ws rs K=some r) {K':D→List (Nat × u7)→List Nat→Prop} (hK:∀ v ws rs,K v ws rs=some r→K' (toD v) (D5 ws) rs) :
  a1w (o7 s) nid (toD v) (D5 ws) rs K':=by
 unfold c4p at h
 unfold a1w
 split at h
 ·rename_i v' ho
  rw [c3n ho]
  exact hK _ _ _ h
 ·rename_i v' x xs ho
  rw [c3n ho]
  simp only [D5,List.map_cons]
  cases hf:a2g (s.lay ws) nid with
  | false=>rw [hf] at h;cases h
  | true =>
   rw [hf] at h
   have e:D7 ((o7 s).lay (ws.map fun p=>(p.1,C3 p.2))) nid=true:=by
    have:=a8b hf
    rw [b57] at this
    exact this
   rw [e]
   have:=hK _ _ _ h
   simp only [D5,List.map_append,List.map_cons] at this
   exact this
 ·cases h
theorem d3o {fn:FuncId→E5} {cr:U7} (htab:X.tab=[]) (hfn:∀ g,O2 X g (fn g)) (hcr:a40 cr) {s:B3} {nid:Nat} {g:FuncId} {vs:List V} {K:KV} {Kp:V→List Nat→Om} (h:e50 CR fn cr s nid g vs K Kp=some r)
  {K':D→List (Nat × u7)→List Nat→Prop} {Kp':D→List Nat→Prop} (hK:∀ v ws rs,K v ws rs=some r→K' (toD v) (D5 ws) rs) (hKp:∀ v rs,Kp v rs=some r→Kp' (toD v) rs):a1k X (o7 s) nid g (vs.map toD) K' Kp':=by
 obtain ⟨vs',ks,h,hf⟩:=b11 h
 unfold a1k
 rw [hf]
 simp only [] at h ⊢
 have eids:W6 ((vs'.map toD).flatMap b03)=W6 (vs'.flatMap b7p):=by
  rw [List.flatMap_map];congr 2;funext v;exact (e1z v).symm
 rw [eids]
 generalize W6 (vs'.flatMap b7p)=ids at h ⊢
 have elay:(o7 s).lay (ks.map fun k=>(k,u7.dead))=o7 (s.lay (ks.map fun k=>(k,Bx.dead))):=by
  rw [b57];congr 1;unfold D5;rw [List.map_map];rfl
 rw [elay]
 split at h
 ·rename_i bs hb
  obtain ⟨h1,h2,h3⟩:=a89 hb
  have h1':S4 (o7 (s.lay (ks.map fun k=>(k,Bx.dead)))).heap ids=some (bs.map J3):=h1
  rw [h1']
  simp only []
  have hall:(bs.map (a16 (pos · ids))).all P7=true:=by
   rw [List.all_map];rw [List.all_eq_true] at h2 ⊢;intro b hbm;simp only [Function.comp,d1v];exact h2 b hbm
  have e1:(vs'.map toD).map (ren (pos · ids))=(vs'.map (a1t (pos · ids))).map toD:=(map_toD (fun v=>a9e v) vs').symm
  have e2:(bs.map J3).map (fun x=>x.map (renI (pos · ids)))=(bs.map (a16 (pos · ids))).map J3:=by
   rw [List.map_map,List.map_map];exact List.map_congr_left fun b _=>(b37 (pos · ids)).symm
  rw [e1,e2]
  unfold b4i
  rw [htab]
  simp only [a6n]
  have h:bind (fn g (vs'.map (a1t (pos · ids))) (bs.map (a16 (pos · ids)))) _ _=some r:=h
  unfold bind at h
  split at h
  ·rename_i v bs' hcall
   have hcm:=hfn g _ _ _ _ hcall hall
   rcases hcr _ _ _ _ _ _ h with ⟨v2,bs2,ev,eb,hk⟩ | ⟨v2,ev,eb,hk⟩
   ·simp only [] at hk
    cases hg:Nat.beq bs2.length ids.length && bs2.all P7 with
    | false=>rw [hg] at hk;cases hk
    | true =>
     rw [hg] at hk
     rw [Bool.and_eq_true] at hg
     have hl2:=Nat.eq_of_beq_eq_true hg.1
     have hok:=c3c eb hg.2
     have ebD:bs2.map J3=bs'.map J3:=by
      have hl:bs2.length=bs'.length:=by have:=congrArg List.length eb;simpa using this
      apply List.ext_getElem
      ·simpa using hl
      ·intro i hi1 hi2
       simp only [List.length_map] at hi1 hi2
       simp only [List.getElem_map]
       have q1:=List.all_eq_true.1 hg.2 _ (List.getElem_mem hi1)
       have q2:=List.all_eq_true.1 hok _ (List.getElem_mem hi2)
       have q3:(bs2.map C3)[i]?=(bs'.map C3)[i]?:=by rw [eb]
       rw [List.getElem?_map,List.getElem?_map,List.getElem?_eq_getElem hi1,List.getElem?_eq_getElem hi2] at q3
       simp only [Option.map_some] at q3
       injection q3 with q3
       rw [a3q q1,a3q q2] at q3
       injection q3
     refine .ret (toD v) (bs'.map J3) hcm (by rw [← ebD,List.length_map];exact hl2) ?_
     have:=b74 hk hK
     rw [a9e,ev] at this
     have e3:D5 ((ks.map fun k=>(k,Bx.dead)) ++ b4a ids bs2)=(ks.map fun k=>(k,u7.dead)) ++ a7h ids (bs'.map J3):=by
      rw [← ebD,← d5y hg.2];unfold D5;rw [List.map_append,List.map_map];rfl
     rw [e3] at this
     exact .inl this
   ·simp only [] at hk
    cases hg:bs.all c6z with
    | false=>rw [hg] at hk;cases hk
    | true =>
     rw [hg] at hk
     subst eb
     refine .ret (toD v) _ hcm (by simp [h3]) (.inr ⟨?_,?_⟩)
     ·rw [List.map_map,List.map_map]
      refine List.map_congr_left fun b hb=>?_
      have hp:=List.all_eq_true.1 hg b hb
      simp only [Function.comp]
      rw [b37,b8k _ hp,b8k _ hp]
     ·have:=b74 hk hK
      rw [a9e,ev] at this
      have e3:D5 (ks.map fun k=>(k,Bx.dead))=ks.map fun k=>(k,u7.dead):=by unfold D5;rw [List.map_map];rfl
      rw [e3] at this
      exact this
  ·rename_i v bs' hcall
   have hcm:=hfn g _ _ _ _ hcall hall
   refine .pan (toD v) (bs.map J3) (CM.pan_any hcm) (by simp [h3]) ?_
   have:=hKp _ _ h
   rw [show CR.rn0 v=a1t Z5 v from rfl,a9e] at this
   exact this
  ·cases h
 ·cases h

def e06 (C:Comb) (X:Pr) (fn:FuncId→E5) (cr:U7) (s:B3) (nid:Nat) (o:Op) (K:KV) (Kp:V→List Nat→Om):Om :=
 match o with
 | .call { callee:=.value f,args,.. }=>match s.eval f with
  | .func (.func g) fs cs=>e50 C fn cr s nid g (fs ++ args.toList.map s.eval ++ cs) K Kp
  | _=>none
 | .panic x=>match s.eval x with
  | .iface t d=>Kp (a1t Z5 (.iface t d)) []
  | _=>none
 | .pick c a b=>match s.eval c with
  | .known t=>cond t (K (s.eval a) [] []) (K (s.eval b) [] [])
  | v=>vB C v fun t=>C.cnd t (K (s.eval a) [] []) (K (s.eval b) [] [])
 | o=>R4 C X s nid o K
theorem d6x {fn:FuncId→E5} {cr:U7} (htab:X.tab=[]) (hfn:∀ g,O2 X g (fn g)) (hcr:a40 cr) {s:B3} {nid:Nat} {o:Op} {K:KV} {Kp:V→List Nat→Om} (h:e06 CR X fn cr s nid o K Kp=some r)
  {K':D→List (Nat × u7)→List Nat→Prop} {Kp':D→List Nat→Prop} (hK:∀ v ws rs,K v ws rs=some r→K' (toD v) (D5 ws) rs) (hKp:∀ v rs,Kp v rs=some r→Kp' (toD v) rs):Q0 X (o7 s) nid o K' Kp':=by
 have hrest:∀ o:Op,R4 CR X s nid o K=some r→(match t8 X (o7 s) nid o with | some out=>cond out.need (K' out.val out.ws out.rs) False | none=>False):=by
  intro o h
  obtain ⟨v,ws,rs,h,hd⟩:=e2h h
  rw [hd]
  exact hK _ _ _ h
 unfold e06 at h
 unfold Q0
 split at h
 ·rename_i f args ts
  simp only []
  split at h
  ·rename_i g fs cs hf
   rw [n9,hf]
   simp only [toD]
   have:=d3o htab hfn hcr h hK hKp
   rw [List.map_append,List.map_append] at this
   rw [C9,C9,c5n]
   exact this
  ·cases h
 ·rename_i x
  simp only []
  split at h
  ·rename_i t d hx
   rw [n9,hx]
   have:=hKp _ _ h
   rw [a9e] at this
   simp only [toD] at this ⊢
   exact this
  ·cases h
 ·rename_i c a b
  simp only [n9]
  split at h
  ·rename_i t hc
   rw [hc]
   simp only [toD]
   cases t
   ·exact hK _ _ _ h
   ·exact hK _ _ _ h
  ·obtain ⟨t,hc,h⟩:=a0z h
   rw [hc]
   simp only []
   have h:cnd t _ _=some r:=h
   rw [a9p] at h
   cases t
   ·exact hK _ _ _ h
   ·exact hK _ _ _ h
 ·rename_i h1 h2 h3
  split
  ·exact absurd rfl (h1 _ _ _)
  ·exact absurd rfl (h2 _)
  ·exact absurd rfl (h3 _ _ _)
  ·exact hrest o h

def c8u (C:Comb) (ops:Array Oper) (s:B3) (o:Oper) (Ky Kn:B3→Om):Om :=
 match o.guard with
 | none=>Ky s
 | some (j,want)=>match b25 ops j with
  | none=>Kn s
  | some t=>bif Nat.blt t s.tmps.length then
    match P1 s.tmps t with
    | .known b=>cond (cond want b (!b)) (Ky s) (Kn s)
    | .tuple _=>Kn s
    | v=>vB C v fun b=>match want with
     | true=>C.cnd b (Ky (s.put (some t) (.known true))) (Kn (s.put (some t) (.known false)))
     | false=>C.cnd b (Kn (s.put (some t) (.known true))) (Ky (s.put (some t) (.known false)))
   else Kn s
theorem d0f {ops:Array Oper} {s:B3} {o:Oper} {Ky Kn:B3→Om} (h:c8u CR ops s o Ky Kn=some r) {Ky' Kn':St→Prop} (hy:∀ s,Ky s=some r→Ky' (o7 s)) (hn:∀ s,Kn s=some r→Kn' (o7 s)):a6z ops (o7 s) o Ky' Kn':=by
 unfold c8u at h
 unfold a6z
 split at h
 ·rename_i hg;rw [hg];exact hy _ h
 ·rename_i j want hg
  rw [hg]
  simp only []
  split at h
  ·rename_i ht;rw [ht];exact hn _ h
  ·rename_i t ht
   rw [ht]
   simp only []
   cases hb:Nat.blt t s.tmps.length with
   | false =>
    rw [hb] at h
    have hl:s.tmps.length≤t:=by
     rcases Nat.lt_or_ge t s.tmps.length with h1 | h1
     ·have:Nat.blt t s.tmps.length=true:=by rw [Nat.blt_eq];exact h1
      rw [hb] at this;cases this
     ·exact h1
    have e:(o7 s).tmps[t]?=none:=by simp only [o7,List.getElem?_map,List.getElem?_eq_none hl,Option.map_none]
    rw [e]
    exact hn _ h
   | true =>
    rw [hb] at h
    have hl:t < s.tmps.length:=by rw [Nat.blt_eq] at hb;exact hb
    have e:(o7 s).tmps[t]?=some (toD (P1 s.tmps t)):=by
     rw [a3n,List.getD_eq_getElem?_getD,List.getElem?_eq_getElem hl]
     simp only [o7,List.getElem?_map,List.getElem?_eq_getElem hl,Option.map_some,Option.getD_some]
    rw [e]
    simp only [cond_true] at h
    have key:∀ b,toD (P1 s.tmps t)=.bool b→(o7 s).put (some t) (.bool b)=o7 s:=fun b hb=>b6i (by rw [e,hb])
    split at h
    ·rename_i b hv
     rw [hv]
     have k1:=key b (by rw [hv];simp only [toD])
     simp only [toD]
     cases want <;> cases b <;> simp only [cond_true,cond_false,Bool.not_true,Bool.not_false] at h ⊢ <;> rw [k1] <;> first | exact hy _ h | exact hn _ h
    ·rename_i hv
     rw [hv]
     simp only [toD]
     exact hn _ h
    ·obtain ⟨b,hv,h⟩:=a0z h
     rw [hv]
     simp only []
     have p1:=a3p s (some t) (.known true)
     have p2:=a3p s (some t) (.known false)
     simp only [toD] at p1 p2
     cases want
     ·have h:cnd b _ _=some r:=h
      rw [a9p] at h
      cases b <;> simp only [cond_true,cond_false] at h ⊢
      ·rw [← p2];exact hy _ h
      ·rw [← p1];exact hn _ h
     ·have h:cnd b _ _=some r:=h
      rw [a9p] at h
      cases b <;> simp only [cond_true,cond_false] at h ⊢
      ·rw [← p2];exact hn _ h
      ·rw [← p1];exact hy _ h

def fLV (l:List V):(List V→Om)→Om:=List.rec (motive:=fun _=>(List V→Om)→Om) (fun K=>K []) (fun x _ ih K=>ih fun l=>K (x :: l)) l
def fLB (l:List Bx):(List Bx→Om)→Om:=List.rec (motive:=fun _=>(List Bx→Om)→Om) (fun K=>K []) (fun x _ ih K=>ih fun l=>K (x :: l)) l
def fSt (s:B3) (K:B3→Om):Om:=fLV s.tmps fun t=>fLB s.heap fun h=>K ⟨t,h⟩
theorem d79:∀ (l:List V) (K:List V→Om),fLV l K=K l
 | [],_=>rfl
 | x :: l,K=>d79 l fun l=>K (x :: l)
theorem d6n:∀ (l:List Bx) (K:List Bx→Om),fLB l K=K l
 | [],_=>rfl
 | x :: l,K=>d6n l fun l=>K (x :: l)
theorem b3o (s:B3) (K:B3→Om):fSt s K=K s:=by unfold fSt;rw [d79,d6n]
def b2u (C:Comb) (X:Pr) (fn:FuncId→E5) (cr:U7) (ops:Array Oper) (nid:Nat→Nat):List Nat→B3→List Tr→(B3→List Tr→Om)→(Nat→V→List Nat→List Tr→Om)→Om
 | [],s,tr,K,_=>K s tr
 | i :: l,s,tr,K,Kp=>match ops[i]? with
  | none=>b2u C X fn cr ops nid l s tr K Kp
  | some o=>c8u C ops s o
    (fun s=>e06 C X fn cr s (nid i) o.op (fun d ws rs=>fSt ((s.lay ws).put o.dst d) fun s=>b2u C X fn cr ops nid l s (⟨i,o.dst,.junk,ws.map fun p=>(p.1,.dead),rs⟩ :: tr) K Kp) (fun d rs=>Kp i d rs tr))
    (fun s=>fSt (s.put o.dst (.tuple [])) fun s=>b2u C X fn cr ops nid l s (⟨i,o.dst,.junk,[],[]⟩ :: tr) K Kp)
def Tr.face (t:Tr):Nat × Option Tmp × List Nat × List Nat:=(t.i,t.dst,t.ids,t.rs)
theorem d48 {ops:Array Oper} {x y x' y':Tr} (hx:x.face=x'.face) (hy:y.face=y'.face):P9 ops x y=P9 ops x' y':=by
 unfold Tr.face at hx hy
 injection hx with h1 hx;injection hx with h2 hx;injection hx with h3 h4
 injection hy with g1 hy;injection hy with g2 hy;injection hy with g3 g4
 unfold P9
 rw [h1,h2,h3,h4,g1,g2,g3,g4]
theorem b07 {ops:Array Oper}:∀ {a b:List Tr},a.map Tr.face=b.map Tr.face→T7 ops a=T7 ops b
 | [],[],_=>rfl
 | [],_ :: _,h=>by simp at h
 | _ :: _,[],h=>by simp at h
 | x :: a,y :: b,h=>by
  simp only [List.map_cons,List.cons.injEq] at h
  simp only [T7]
  rw [b07 h.2]
  congr 1
  have:∀ {a b:List Tr},a.map Tr.face=b.map Tr.face→(a.all fun z=>!P9 ops z x || U4 ops z.i ops.size x.i)=b.all fun z=>!P9 ops z y || U4 ops z.i ops.size y.i:=by
   intro a
   induction a with
   | nil=>intro b hab;cases b with
    | nil=>rfl
    | cons=>simp at hab
   | cons z a ih=>intro b hab;cases b with
    | nil=>simp at hab
    | cons u b =>
     simp only [List.map_cons,List.cons.injEq] at hab
     simp only [List.all_cons]
     rw [ih hab.2,d48 hab.1 h.1]
     have e1:z.i=u.i:=congrArg Prod.fst hab.1
     have e2:x.i=y.i:=congrArg Prod.fst h.1
     rw [e1,e2]
  exact this h.2
theorem a2e {fn:FuncId→E5} {cr:U7} (htab:X.tab=[]) (hfn:∀ g,O2 X g (fn g)) (hcr:a40 cr) {ops:Array Oper} {nid:Nat→Nat}:∀ {l:List Nat} {s:B3} {tr:List Tr} {K:B3→List Tr→Om} {Kp:Nat→V→List Nat→List Tr→Om},b2u CR X fn cr ops nid l s tr K Kp=some r →
  ∀ {tr':List Tr} {K':St→List Tr→Prop} {Kp':Nat→D→List Nat→List Tr→Prop},tr.map Tr.face=tr'.map Tr.face→(∀ s t t',t.map Tr.face=t'.map Tr.face→K s t=some r→K' (o7 s) t')→(∀ i v rs t t',t.map Tr.face=t'.map Tr.face→Kp i v rs t=some r→Kp' i (toD v) rs t')→Z8 X ops nid l (o7 s) tr' K' Kp'
 | [],s,tr,K,Kp,h,tr',K',Kp',htr,hK,hKp=>hK _ _ _ htr h
 | i :: l,s,tr,K,Kp,h,tr',K',Kp',htr,hK,hKp=>by
  simp only [b2u] at h
  simp only [Z8]
  split at h
  ·rename_i ho;rw [ho];exact a2e htab hfn hcr h htr hK hKp
  ·rename_i o ho
   rw [ho]
   refine d0f h (fun s h=>?_) (fun s h=>?_)
   ·refine d6x htab hfn hcr h (fun v ws rs h=>?_) (fun v rs h=>hKp _ _ _ _ _ htr h)
    rw [b3o] at h
    rw [← b57,← a3p]
    refine a2e htab hfn hcr h ?_ hK hKp
    simp only [List.map_cons,List.cons.injEq,htr,and_true]
    simp only [Tr.face,Tr.ids,D5,List.map_map]
    rfl
   ·rw [b3o] at h
    have:=a3p s o.dst (.tuple [])
    simp only [toD,U8] at this
    rw [← this]
    refine a2e htab hfn hcr h ?_ hK hKp
    simp only [List.map_cons,List.cons.injEq,htr,and_true]
    rfl

def B3.more (s:B3) (n:Nat):B3:={ s with heap:=s.heap ++ List.replicate n .free }
theorem d9e (s:B3) (n:Nat):o7 (s.more n)=(o7 s).more n:=by simp only [o7,B3.more,St.more,List.map_append,List.map_replicate,C3]
def e2z (C:Comb) (m:G4) (c:Int):Bool:=C.bnot (C.band (C.bnot (C.iEq c m.k0)) (C.band (C.bnot (C.iEq c m.k1)) (C.bnot (C.iEq c m.k2))))
def e30 (C:Comb) (m:G4) (c:Int):Int:=C.isel (C.iEq c m.k0) m.v0 (C.isel (C.iEq c m.k1) m.v1 m.v2)
def e3v (m:G4) (s:B3) (c x:Int):B3:=(((s.put (some m.t0) .junk).put (some m.t1) .junk).put (some m.t2) (.int .u8 c)).put (some m.t3) (.int .i64 x)
theorem f0n (m:G4) (c:Int):e2z CR m c=m.has c:=by
 unfold e2z G4.has
 simp only [f7w,f11,e46,a3y,N6,T2]
theorem e8a (m:G4) (c:Int):e30 CR m c=m.val c:=by
 unfold e30 G4.val
 simp only [f70,e46,c06,T2]
theorem d9p (m:G4) (s:B3) (c:Int):o7 (e3v m s c (m.val c))=m.put (o7 s) c:=by
 unfold e3v G4.put
 simp only [a3p,toD]
def c1f (C:Comb) (X:Pr) (fn:FuncId→E5) (cr:U7) (ops:Array Oper) (draw:Bool) (s:B3) (K:B3→Om) (Kp:V→Om):Om :=
 match draw with
 | false=>match b2w ops.toList with
  | none=>fSt (s.more (a49 ops.toList)) fun s'=>b2u C X fn cr ops (fun i=>s.heap.length+a78 ops.toList i) (List.range ops.size) s' [] (fun s _=>K s) (fun _ d _ _=>Kp d)
  | some m=>cond (a6i X.P m.mt && m.ok s.tmps.length) (vI C .u8 (P1 s.tmps m.src) fun c=>C.chk (e2z C m c) (C.fI (e30 C m c) fun x=>fSt (e3v m (s.more (a49 ops.toList)) c x) fun s' =>
   b2u C X fn cr ops (fun i=>s.heap.length+a78 ops.toList i) (List.range' 7 (ops.size - 7)) s' [] (fun s _=>K s) (fun _ d _ _=>Kp d))) none
 | true=>cond (a6k ops)
   (fSt (s.more (a49 ops.toList)) fun s'=>b2u C X fn cr ops (fun i=>s.heap.length+a78 ops.toList i) (List.range ops.size) s' [] (fun s tr=>cond (T7 ops tr) (K s) none)
    (fun i d rs tr=>cond (T7 ops (⟨i,none,.junk,[],rs⟩ :: tr) && (List.range ops.size).all fun j=>Nat.ble j i || U4 ops i ops.size j) (Kp d) none)) none
theorem c75 {fn:FuncId→E5} {cr:U7} (htab:X.tab=[]) (hfn:∀ g,O2 X g (fn g)) (hcr:a40 cr) {ops:Array Oper} {draw:Bool} {s:B3} {K:B3→Om} {Kp:V→Om} (h:c1f CR X fn cr ops draw s K Kp=some r)
  {K':St→Prop} {Kp':D→Prop} (hK:∀ s,K s=some r→K' (o7 s)) (hKp:∀ v,Kp v=some r→Kp' (toD v)):a3m X ops draw (o7 s) K' Kp':=by
 have el:(o7 s).heap.length=s.heap.length:=by simp [o7]
 unfold c1f at h
 unfold a3m
 rw [el,← d9e]
 split at h
 ·simp only []
  split at h
  ·rename_i hm
   rw [hm]
   rw [b3o] at h
   exact a2e htab hfn hcr h rfl (fun s t t' _ h=>hK s h) (fun i v rs t t' _ h=>hKp v h)
  ·rename_i m hm
   rw [hm]
   have et:(o7 s).tmps.length=s.tmps.length:=by simp [o7]
   simp only [et]
   generalize (a6i X.P m.mt && m.ok s.tmps.length)=b at h ⊢
   cases b with
   | false=>cases h
   | true =>
    simp only [cond_true] at h ⊢
    obtain ⟨c,hc,h⟩:=Z2 h
    obtain ⟨h0,h⟩:=D0 h
    rw [f0n] at h0
    rw [CfI,e8a,b3o] at h
    have e1:(o7 s).tmps.getD m.src .junk=.int .u8 c:=by
     have:=n9 s (.tmp m.src)
     have e2:(o7 s).eval (.tmp m.src)=(o7 s).tmps.getD m.src .junk:=rfl
     rw [← e2,this];exact hc
    rw [e1]
    simp only [h0,cond_true]
    rw [← d9p]
    exact a2e htab hfn hcr h rfl (fun s t t' _ h=>hK s h) (fun i v rs t t' _ h=>hKp v h)
 ·simp only []
  cases he:a6k ops with
  | false=>rw [he] at h;cases h
  | true =>
   rw [he] at h
   simp only [cond_true] at h ⊢
   rw [b3o] at h
   refine a2e htab hfn hcr h rfl (fun s t t' ht h=>?_) (fun i v rs t t' ht h=>?_)
   ·rw [← b07 ht]
    cases hr:T7 ops t with
    | false=>rw [hr] at h;cases h
    | true=>rw [hr] at h;exact hK s h
   ·rw [← b07 (a:=⟨i,none,.junk,[],rs⟩ :: t) (by simp only [List.map_cons,ht])]
    generalize (T7 ops (⟨i,none,.junk,[],rs⟩ :: t) && (List.range ops.size).all fun j=>Nat.ble j i || U4 ops i ops.size j)=b at h ⊢
    cases b with
    | false=>cases h
    | true=>exact hKp v h
end

inductive Sh where
 | int (k:IntKind)
 | bool
 | str
 | slice (n:Nat) (c:Cap)
 | q
 | a (m:Nat)
 | agg (l:List Sh)
 | tuple (l:List Sh)
 | ptr (id off:Nat)
 | cref (m:Nat)
 | bslice (id:Nat)
 | nilp
 | nilIface
 | iface (t:TypeId) (s:Sh)
 | func (fn:Fn) (fs cs:List Sh)
 | any
inductive ShB where
 | cells (l:List Sh)
 | opa (m:Nat)
 | tok (size:Nat)
 | row
 | any

mutual
def d2m:V→Sh
 | .bool _ | .known _=>.bool
 | .int k _=>.int k
 | .str _ _=>.str
 | .slice _ n _ _ c=>.slice n c
 | .q _=>.q
 | .a _ m=>.a m
 | .agg cs=>.agg (a3r cs)
 | .tuple cs=>.tuple (a3r cs)
 | .ptr id off=>.ptr id off
 | .cref _ _ m=>.cref m
 | .bslice id _=>.bslice id
 | .nilp=>.nilp
 | .nilIface=>.nilIface
 | .iface t v=>.iface t (d2m v)
 | .func fn a b=>.func fn (a3r a) (a3r b)
 | .junk=>.any
def a3r:List V→List Sh
 | []=>[]
 | v :: vs=>d2m v :: a3r vs
end
def c7w:Bx→ShB
 | .cells cs=>.cells (a3r cs)
 | .opa _ m=>.opa m
 | .tok _ z=>.tok z
 | .row _ _=>.row
 | _=>.any
def uI (k:IntKind) (v:V) (K:Int→Om):Om:=match v with
 | .int k' n=>cond (ikEq k k') (K n) none
 | .q x=>cI k x K
 | _=>none
def uB (v:V) (K:Bool→Om):Om:=match v with
 | .bool b=>K b
 | .known b=>K b
 | .q x=>cB x K
 | _=>none
def uS (v:V) (K:Nat→Nat→Om):Om:=match v with
 | .str l c=>K l c
 | .q x=>cS x K
 | _=>none
def uSl (n cN:Nat) (v:V) (K:j9 Q→Nat→Nat→Om):Om:=match v with
 | .slice t n' off len c=>cond (Nat.beq (a0i c) cN) (Nat.rec (motive:=fun _=>Om) (chk (nEq len 0) (K .nil 0 0)) (fun _ _=>cond (Nat.beq n n') (K t off len) (chk (nEq len 0) (K .nil 0 0))) n') none
 | .q x=>cond (Nat.beq cN 0) (cSl n x K) none
 | _=>none
def uQ (v:V) (K:Q→Om):Om:=match c0z v with
 | some x=>K x
 | none=>match v with
  | .slice t n off len .no=>K (.slice t n off len)
  | _=>none
def uA (m:Nat) (v:V) (K:Q→Om):Om:=match v with
 | .a x m'=>cond (Nat.beq m m') (K x) none
 | .agg cs=>cond (Nat.beq cs.length m) (match exQs cs with
  | some qs=>K (.agg qs 0)
  | none=>none) none
 | _=>none
where
 exQ (v:V):Option Q:=match c0z v with
  | some x=>some x
  | none=>match v with
   | .slice t n off len .no=>some (.slice t n off len)
   | _=>none
 exQs:List V→Option (List Q)
  | []=>some []
  | v :: vs=>match exQ v,exQs vs with
   | some q,some qs=>some (q :: qs)
   | _,_=>none
def uL (v:V) (K:List V→Om):Om:=match v with
 | .agg cs=>K cs
 | _=>none
def uTu (v:V) (K:List V→Om):Om:=match v with
 | .tuple cs=>K cs
 | _=>none
def uP (id off:Nat) (v:V) (K:Om):Om:=match v with
 | .ptr i o=>cond (Nat.beq id i) (cond (Nat.beq off o) K none) none
 | _=>none
def uCref (m:Nat) (v:V) (K:Q→Om):Om:=match v with
 | .cref x off m'=>cond (Nat.beq m m') (fQ (subQ x off) K) none
 | _=>none
def uBs (id:Nat) (v:V) (K:Nat→Om):Om:=match v with
 | .bslice i len=>cond (Nat.beq id i) (K len) none
 | _=>none
def uNilp (v:V) (K:Om):Om:=match v with
 | .nilp=>K
 | .q x=>d51 x K
 | _=>none
def uNilI (v:V) (K:Om):Om:=match v with
 | .nilIface=>K
 | _=>none
def uIf (t:TypeId) (v:V) (K:V→Om):Om:=match v with
 | .iface t' v=>cond (Nat.beq t t') (K v) none
 | _=>none
def uFn (f:Nat) (v:V) (K:List V→List V→Om):Om:=match v with
 | .func (.func f') fs cs=>cond (Nat.beq f f') (K fs cs) none
 | _=>none
def uCons (l:List V) (K:V→List V→Om):Om:=match l with
 | v :: l=>K v l
 | []=>none
def uNil (l:List V) (K:Om):Om:=match l with
 | []=>K
 | _=>none
def uConsB (l:List Bx) (K:Bx→List Bx→Om):Om:=match l with
 | v :: l=>K v l
 | []=>none
def uNilB (l:List Bx) (K:Om):Om:=match l with
 | []=>K
 | _=>none
def uBc (b:Bx) (K:List V→Om):Om:=match b with
 | .cells cs=>K cs
 | .opa x m=>K ((b1m 0 m).map fun i=>.q (celQ x i))
 | _=>none
def uBo (m:Nat) (b:Bx) (K:Q→Om):Om:=match b with
 | .opa x m'=>cond (Nat.beq m m') (K x) none
 | .cells cs=>cond (Nat.beq cs.length m) (match uA.exQs cs with
  | some qs=>K (.agg qs 0)
  | none=>none) none
 | _=>none
def uBt (z:Nat) (b:Bx) (K:Nat→Om):Om:=match b with
 | .tok l z'=>cond (Nat.beq z z') (K l) none
 | _=>none
def uBr (b:Bx) (K:j9 Q→Nat→Om):Om:=match b with
 | .row t len=>K t len
 | _=>none
structure x5 extends Comb where
 uI:IntKind→V→(Int→Om)→Om
 uB:V→(Bool→Om)→Om
 uS:V→(Nat→Nat→Om)→Om
 uSl:Nat→Nat→V→(j9 Q→Nat→Nat→Om)→Om
 uQ:V→(Q→Om)→Om
 uA:Nat→V→(Q→Om)→Om
 uL:V→(List V→Om)→Om
 uTu:V→(List V→Om)→Om
 uP:Nat→Nat→V→Om→Om
 uCref:Nat→V→(Q→Om)→Om
 uBs:Nat→V→(Nat→Om)→Om
 uNilp:V→Om→Om
 uNilI:V→Om→Om
 uIf:Nat→V→(V→Om)→Om
 uFn:Nat→V→(List V→List V→Om)→Om
 uCons:List V→(V→List V→Om)→Om
 uNil:List V→Om→Om
 uConsB:List Bx→(Bx→List Bx→Om)→Om
 uNilB:List Bx→Om→Om
 uBc:Bx→(List V→Om)→Om
 uBo:Nat→Bx→(Q→Om)→Om
 uBt:Nat→Bx→(Nat→Om)→Om
 uBr:Bx→(j9 Q→Nat→Om)→Om
 lp:((List V→List Bx→Om)→List V→List Bx→Om)→List V→List Bx→Om
 jn:((List V→List Bx→Om)→Om)→(List V→List Bx→Om)→Om
 same:List Bx→List Bx→Om→Om
def C2:Nat:=100000
def lp (body:(List V→List Bx→Om)→List V→List Bx→Om):List V→List Bx→Om :=
 Nat.rec (motive:=fun _=>List V→List Bx→Om) (fun _ _=>none) (fun _ ih=>body ih) C2
def jn (f:(List V→List Bx→Om)→Om) (g:List V→List Bx→Om):Om:=f g
def CU:x5:={ CR with
 uI:=uI,uB:=uB,uS:=uS,uSl:=uSl,uQ:=uQ,uA:=uA,uL:=uL,uTu:=uTu,uP:=uP,uCref:=uCref,uBs:=uBs,uNilp:=uNilp,uNilI:=uNilI,uIf:=uIf,uFn:=uFn,uCons:=uCons,uNil:=uNil,
 uConsB:=uConsB,uNilB:=uNilB,uBc:=uBc,uBo:=uBo,uBt:=uBt,uBr:=uBr,lp:=lp,jn:=jn,same:=same }
mutual
def d4g (U:x5):Sh→V→(V→Om)→Om
 | .int k,v,K=>U.uI k v fun n=>K (.int k n)
 | .bool,v,K=>U.uB v fun b=>K (.bool b)
 | .str,v,K=>U.uS v fun l c=>K (.str l c)
 | .slice n c,v,K=>U.uSl n (a0i c) v fun t off len=>K (.slice t n off len c)
 | .q,v,K=>U.uQ v fun x=>K (.q x)
 | .a m,v,K=>U.uA m v fun x=>K (.a x m)
 | .agg l,v,K=>U.uL v fun cs=>a1s U l cs fun cs=>K (.agg cs)
 | .tuple l,v,K=>U.uTu v fun cs=>a1s U l cs fun cs=>K (.tuple cs)
 | .ptr id off,v,K=>U.uP id off v (K (.ptr id off))
 | .cref m,v,K=>U.uCref m v fun x=>K (.cref x 0 m)
 | .bslice id,v,K=>U.uBs id v fun len=>K (.bslice id len)
 | .nilp,v,K=>U.uNilp v (K .nilp)
 | .nilIface,v,K=>U.uNilI v (K .nilIface)
 | .iface t s,v,K=>U.uIf t v fun v=>d4g U s v fun v=>K (.iface t v)
 | .func (.func f) fs cs,v,K=>U.uFn f v fun a b=>a1s U fs a fun a=>a1s U cs b fun b=>K (.func (.func f) a b)
 | .func _ _ _,_,_=>none
 | .any,v,K=>K v
def a1s (U:x5):List Sh→List V→(List V→Om)→Om
 | [],l,K=>U.uNil l (K [])
 | s :: ss,l,K=>U.uCons l fun v l=>d4g U s v fun v=>a1s U ss l fun l=>K (v :: l)
end
def e59 (U:x5):ShB→Bx→(Bx→Om)→Om
 | .cells l,b,K=>U.uBc b fun cs=>a1s U l cs fun cs=>K (.cells cs)
 | .opa m,b,K=>U.uBo m b fun x=>K (.opa x m)
 | .tok z,b,K=>U.uBt z b fun l=>K (.tok l z)
 | .row,b,K=>U.uBr b fun t len=>K (.row t len)
 | .any,b,K=>K b
def a1f (U:x5):List ShB→List Bx→(List Bx→Om)→Om
 | [],l,K=>U.uNilB l (K [])
 | s :: ss,l,K=>U.uConsB l fun b l=>e59 U s b fun b=>a1f U ss l fun l=>K (b :: l)

section
variable {r:R}
theorem e83 {k:IntKind} {v:V} {K:Int→Om} (h:uI k v K=some r):∃ n,toD v=.int k n∧K n=some r:=Z2 (k:=k) (v:=v) (by unfold vI;exact h)
theorem e93 {v:V} {K:Bool→Om} (h:uB v K=some r):∃ b,toD v=.bool b∧K b=some r:=a0z (v:=v) (by unfold vB;exact h)
theorem e7w {v:V} {K:Nat→Nat→Om} (h:uS v K=some r):∃ l c,toD v=.str (n5 l c)∧K l c=some r:=a07 (v:=v) (by unfold vS;exact h)
theorem e3o {n:Nat} {c:Cap} {v:V} {K:j9 Q→Nat→Nat→Om} (h:uSl n (a0i c) v K=some r):∃ t off len,toD v=.slice len (rows (z7 t) n off len) c∧K t off len=some r:=by
 unfold uSl at h
 split at h
 ·rename_i t n' off len c'
  cases hc:Nat.beq (a0i c') (a0i c) with
  | false=>rw [hc] at h;cases h
  | true =>
   rw [hc] at h
   have:=c6d (Nat.eq_of_beq_eq_true hc)
   subst this
   simp only [cond_true] at h
   cases n' with
   | zero =>
    obtain ⟨h1,h⟩:=b0j (show chk (nEq len 0) (K .nil 0 0)=some r from h)
    have:=Nat.eq_of_beq_eq_true h1
    subst this
    exact ⟨.nil,0,0,by simp only [toD,rows],h⟩
   | succ n' =>
    have h:cond (Nat.beq n (n'+1)) (K t off len) (chk (nEq len 0) (K .nil 0 0))=some r:=h
    cases hn:Nat.beq n (n'+1) with
    | false =>
     rw [hn] at h
     obtain ⟨h1,h⟩:=b0j (show chk (nEq len 0) (K .nil 0 0)=some r from h)
     have:=Nat.eq_of_beq_eq_true h1
     subst this
     exact ⟨.nil,0,0,by simp only [toD,rows],h⟩
    | true=>rw [hn] at h;rw [Nat.eq_of_beq_eq_true hn];exact ⟨t,off,len,by simp only [toD],h⟩
 ·cases hc:Nat.beq (a0i c) 0 with
  | false=>rw [hc] at h;cases h
  | true =>
   rw [hc] at h
   have:c=.no:=c6d (Nat.eq_of_beq_eq_true hc)
   subst this
   obtain ⟨t,off,len,hx,h'⟩:=c43 h
   exact ⟨t,off,len,by simp only [toD,hx],h'⟩
 ·cases h
theorem e4q {v:V} {x:Q} (h:uA.exQ v=some x):toD v=den x 0:=by
 unfold uA.exQ at h
 split at h
 ·rename_i hx;injection h with h;subst h;exact a7z hx
 ·split at h
  ·injection h with h;subst h;simp only [toD,den];rfl
  ·cases h
theorem b12:∀ {vs:List V} {qs:List Q},uA.exQs vs=some qs→vs.map toD=qs.map (fun x=>den x 0)
 | [],qs,h=>by simp only [uA.exQs] at h;injection h with h;subst h;rfl
 | v :: vs,qs,h=>by
  simp only [uA.exQs] at h
  split at h
  ·rename_i q qs' hq hqs
   injection h with h;subst h
   simp only [List.map_cons,e4q hq,b12 hqs]
  ·cases h
theorem e7v {v:V} {K:Q→Om} (h:uQ v K=some r):∃ x,toD v=den x 0∧K x=some r:=by
 unfold uQ at h
 split at h
 ·rename_i x hx;exact ⟨x,a7z hx,h⟩
 ·split at h
  ·exact ⟨_,by simp only [toD,den];rfl,h⟩
  ·cases h
theorem e8n {m:Nat} {v:V} {K:Q→Om} (h:uA m v K=some r):∃ x,toD v=.agg (u3 (den x) 0 m)∧K x=some r:=by
 unfold uA at h
 split at h
 ·rename_i x m'
  cases hm:Nat.beq m m' with
  | false=>rw [hm] at h;cases h
  | true=>rw [hm] at h;rw [Nat.eq_of_beq_eq_true hm];exact ⟨x,by simp only [toD],h⟩
 ·rename_i cs
  cases hm:Nat.beq cs.length m with
  | false=>rw [hm] at h;cases h
  | true =>
   rw [hm] at h
   simp only [cond_true] at h
   split at h
   ·rename_i qs hqs
    have e:=b12 hqs
    have hl:qs.length=m:=by have:=congrArg List.length e;simp at this;rw [← this];exact Nat.eq_of_beq_eq_true hm
    exact ⟨_,by simp only [toD,C9,e];rw [← hl,b2q],h⟩
   ·cases h
 ·cases h
mutual
theorem b2j:∀ {s:Sh} {v:V} {K:V→Om},d4g CU s v K=some r→∃ v',toD v'=toD v∧K v'=some r
 | .int k,v,K,h=>by
  obtain ⟨n,hv,h⟩:=e83 (show uI k v _=some r from h);exact ⟨_,by rw [hv];simp only [toD],h⟩
 | .bool,v,K,h=>by
  obtain ⟨n,hv,h⟩:=e93 (show uB v _=some r from h);exact ⟨_,by rw [hv];simp only [toD],h⟩
 | .str,v,K,h=>by
  obtain ⟨l,c,hv,h⟩:=e7w (show uS v _=some r from h);exact ⟨_,by rw [hv];simp only [toD],h⟩
 | .slice n c,v,K,h=>by
  obtain ⟨t,off,len,hv,h⟩:=e3o (show uSl n (a0i c) v (fun t off len=>K (.slice t n off len c))=some r from h);exact ⟨_,by rw [hv];simp only [toD],h⟩
 | .q,v,K,h=>by
  obtain ⟨x,hv,h⟩:=e7v (show uQ v _=some r from h);exact ⟨_,by rw [hv];simp only [toD],h⟩
 | .a m,v,K,h=>by
  obtain ⟨x,hv,h⟩:=e8n (show uA m v _=some r from h);exact ⟨_,by rw [hv];simp only [toD],h⟩
 | .agg l,v,K,h=>by
  replace h:uL v _=some r:=h
  unfold uL at h
  split at h
  ·obtain ⟨cs',e,h⟩:=L2 h;exact ⟨_,by simp only [toD,C9,e],h⟩
  ·cases h
 | .tuple l,v,K,h=>by
  replace h:uTu v _=some r:=h
  unfold uTu at h
  split at h
  ·obtain ⟨cs',e,h⟩:=L2 h;exact ⟨_,by simp only [toD,C9,e],h⟩
  ·cases h
 | .ptr id off,v,K,h=>by
  replace h:uP id off v _=some r:=h
  unfold uP at h
  split at h
  ·rename_i i o
   cases h1:Nat.beq id i with
   | false=>rw [h1] at h;cases h
   | true =>
    rw [h1] at h
    cases h2:Nat.beq off o with
    | false=>rw [h2] at h;cases h
    | true=>rw [h2] at h;exact ⟨_,by rw [Nat.eq_of_beq_eq_true h1,Nat.eq_of_beq_eq_true h2],h⟩
  ·cases h
 | .cref m,v,K,h=>by
  replace h:uCref m v _=some r:=h
  unfold uCref at h
  split at h
  ·rename_i x off m'
   cases h1:Nat.beq m m' with
   | false=>rw [h1] at h;cases h
   | true =>
    rw [h1] at h
    simp only [cond_true,b8a] at h
    exact ⟨_,by rw [Nat.eq_of_beq_eq_true h1];simp only [toD,b9q,Nat.add_zero],h⟩
  ·cases h
 | .bslice id,v,K,h=>by
  replace h:uBs id v _=some r:=h
  unfold uBs at h
  split at h
  ·rename_i i len
   cases h1:Nat.beq id i with
   | false=>rw [h1] at h;cases h
   | true=>rw [h1] at h;exact ⟨_,by rw [Nat.eq_of_beq_eq_true h1],h⟩
  ·cases h
 | .nilp,v,K,h=>by
  replace h:uNilp v _=some r:=h
  unfold uNilp at h
  split at h
  ·exact ⟨_,rfl,h⟩
  ·obtain ⟨hx,h'⟩:=d3d h;subst hx;exact ⟨_,by simp only [toD,den];rfl,h'⟩
  ·cases h
 | .nilIface,v,K,h=>by
  replace h:uNilI v _=some r:=h
  unfold uNilI at h
  split at h
  ·exact ⟨_,rfl,h⟩
  ·cases h
 | .iface t s,v,K,h=>by
  replace h:uIf t v _=some r:=h
  unfold uIf at h
  split at h
  ·rename_i t' v0
   cases h1:Nat.beq t t' with
   | false=>rw [h1] at h;cases h
   | true =>
    rw [h1] at h
    obtain ⟨v',e,h⟩:=b2j h
    exact ⟨_,by rw [Nat.eq_of_beq_eq_true h1];simp only [toD,e],h⟩
  ·cases h
 | .func (.func f) fs cs,v,K,h=>by
  replace h:uFn f v _=some r:=h
  unfold uFn at h
  split at h
  ·rename_i f' a b
   cases h1:Nat.beq f f' with
   | false=>rw [h1] at h;cases h
   | true =>
    rw [h1] at h
    obtain ⟨a',ea,h⟩:=L2 h
    obtain ⟨b',eb,h⟩:=L2 h
    exact ⟨_,by rw [Nat.eq_of_beq_eq_true h1];simp only [toD,C9,ea,eb],h⟩
  ·cases h
 | .any,v,K,h=>⟨v,rfl,h⟩
theorem L2:∀ {ss:List Sh} {l:List V} {K:List V→Om},a1s CU ss l K=some r→∃ l',l'.map toD=l.map toD∧K l'=some r
 | [],l,K,h=>by
  replace h:uNil l _=some r:=h
  unfold uNil at h
  split at h
  ·exact ⟨[],rfl,h⟩
  ·cases h
 | s :: ss,l,K,h=>by
  replace h:uCons l _=some r:=h
  unfold uCons at h
  split at h
  ·obtain ⟨v',e1,h⟩:=b2j h
   obtain ⟨l',e2,h⟩:=L2 h
   exact ⟨_,by simp only [List.map_cons,e1,e2],h⟩
  ·cases h
end
theorem d4y {s:ShB} {b:Bx} {K:Bx→Om} (h:e59 CU s b K=some r):∃ b',C3 b'=C3 b∧K b'=some r:=by
 cases s with
 | cells l =>
  replace h:uBc b _=some r:=h
  unfold uBc at h
  split at h
  ·obtain ⟨cs',e,h⟩:=L2 h;exact ⟨_,by simp only [C3,e],h⟩
  ·rename_i x m
   obtain ⟨cs',e,h⟩:=L2 h
   refine ⟨_,?_,h⟩
   simp only [C3,e,L6,List.map_map]
   congr 1
   exact List.map_congr_left fun i _=>by simp only [Function.comp,toD];exact a3t x i
  ·cases h
 | opa m =>
  replace h:uBo m b _=some r:=h
  unfold uBo at h
  split at h
  ·rename_i x m'
   cases hm:Nat.beq m m' with
   | false=>rw [hm] at h;cases h
   | true=>rw [hm] at h;exact ⟨_,by rw [Nat.eq_of_beq_eq_true hm],h⟩
  ·rename_i cs
   cases hm:Nat.beq cs.length m with
   | false=>rw [hm] at h;cases h
   | true =>
    rw [hm] at h
    simp only [cond_true] at h
    split at h
    ·rename_i qs hqs
     have e:=b12 hqs
     have hl:qs.length=m:=by have:=congrArg List.length e;simp at this;rw [← this];exact Nat.eq_of_beq_eq_true hm
     exact ⟨_,by simp only [C3,e];rw [← hl,b2q],h⟩
    ·cases h
  ·cases h
 | tok z =>
  replace h:uBt z b _=some r:=h
  unfold uBt at h
  split at h
  ·rename_i l z'
   cases hm:Nat.beq z z' with
   | false=>rw [hm] at h;cases h
   | true=>rw [hm] at h;exact ⟨_,by rw [Nat.eq_of_beq_eq_true hm],h⟩
  ·cases h
 | row =>
  replace h:uBr b _=some r:=h
  unfold uBr at h
  split at h
  ·exact ⟨_,rfl,h⟩
  ·cases h
 | any=>exact ⟨b,rfl,h⟩
theorem Z3:∀ {ss:List ShB} {l:List Bx} {K:List Bx→Om},a1f CU ss l K=some r→∃ l',l'.map C3=l.map C3∧K l'=some r
 | [],l,K,h=>by
  replace h:uNilB l _=some r:=h
  unfold uNilB at h
  split at h
  ·exact ⟨[],rfl,h⟩
  ·cases h
 | s :: ss,l,K,h=>by
  replace h:uConsB l _=some r:=h
  unfold uConsB at h
  split at h
  ·obtain ⟨v',e1,h⟩:=d4y h
   obtain ⟨l',e2,h⟩:=Z3 h
   exact ⟨_,by simp only [List.map_cons,e1,e2],h⟩
  ·cases h
end

structure Ann where
 ks:List (Nat × Nat)
 vs:List Sh
 bs:List ShB

def ev (U:x5) (X:Pr) (fn:FuncId→E5) (cr:U7) (n0:Nat) (AL AJ:Nat→Option Ann):Code→Nat→Nat→B3→(B3→Om)→(Nat→B3→Om)→(B3→Om)→(V→Om)→Om
 | .skip,_,_,s,K,_,_,_=>K s
 | .region _ ops draw,_,_,s,K,_,_,Kp=>c1f U.toComb X fn cr ops draw s K Kp
 | .seq a b,p,q,s,K,Kx,Kr,Kp=>match AJ q with
  | none=>ev U X fn cr n0 AL AJ a p (q+1) s (fun s'=>ev U X fn cr n0 AL AJ b (p+P4 a) (q+1+U3 a) s' K Kx Kr Kp) Kx Kr Kp
  | some A=>U.jn (fun j=>ev U X fn cr n0 AL AJ a p (q+1) s (fun s'=>cond (a6d n0 s.tmps.length A.ks s') (j (a6x n0 A.ks s').1 (a6x n0 A.ks s').2) none) Kx Kr Kp)
    (fun vs bs=>a1s U A.vs vs fun vs=>a1f U A.bs bs fun bs=>ev U X fn cr n0 AL AJ b (p+P4 a) (q+1+U3 a) (b36 s.tmps.length A.ks vs bs) K Kx Kr Kp)
 | .cond c t e,p,q,s,K,Kx,Kr,Kp=>match s.eval c with
  | .known b=>cond b (ev U X fn cr n0 AL AJ t p q s K Kx Kr Kp) (ev U X fn cr n0 AL AJ e (p+P4 t) (q+U3 t) s K Kx Kr Kp)
  | v=>vB U.toComb v fun b=>U.cnd b (ev U X fn cr n0 AL AJ t p q (refV s c true) K Kx Kr Kp) (ev U X fn cr n0 AL AJ e (p+P4 t) (q+U3 t) (refV s c false) K Kx Kr Kp)
 | .block id c,p,q,s,K,Kx,Kr,Kp=>ev U X fn cr n0 AL AJ c p q s K (fun j s'=>cond (Nat.beq j id) (K s') (Kx j s')) Kr Kp
 | .loop c,p,q,s,_,Kx,Kr,Kp=>match AL p with
  | none=>none
  | some A=>cond (a6d n0 s.tmps.length A.ks s) (U.lp (fun self vs bs=>a1s U A.vs vs fun vs=>a1f U A.bs bs fun bs =>
    ev U X fn cr n0 AL AJ c (p+1) q (b36 s.tmps.length A.ks vs bs) (fun s'=>cond (a6d n0 s.tmps.length A.ks s') (self (a6x n0 A.ks s').1 (a6x n0 A.ks s').2) none) Kx Kr Kp) (a6x n0 A.ks s).1 (a6x n0 A.ks s).2) none
 | .exit j,_,_,s,_,Kx,_,_=>Kx j s
 | .ret,_,_,s,_,_,Kr,_=>Kr s
 | _,_,_,_,_,_,_,_=>none
where refV (s:B3) (c:Operand) (b:Bool):B3:=match c with
 | .tmp t=>s.put (some t) (.known b)
 | _=>s

def b3k (A:Ann):Cut:={ π:=List D × List u7→Prop,ι:=fun p=>{ v // p v },ks:=A.ks,V:=fun _ ix=>ix.val }

section
variable {X:Pr} {r:R}
theorem c5k (s:B3) (c:Operand) (b:Bool):o7 (ev.refV s c b)=(o7 s).ref c b:=by
 cases c with
 | tmp t=>have:=a3p s (some t) (.known b);simp only [toD] at this;exact this
 | _=>rfl
theorem d7k {body:(List V→List Bx→Om)→List V→List Bx→Om} {vs:List V} {bs:List Bx} (h:CU.lp body vs bs=some r):∃ n,Nat.rec (motive:=fun _=>List V→List Bx→Om) (fun _ _=>none) (fun _ ih=>body ih) n vs bs=some r:=⟨C2,h⟩

theorem Q9 {fn:FuncId→E5} {cr:U7} (htab:X.tab=[]) (hfn:∀ g,O2 X g (fn g)) (hcr:a40 cr) {n0:Nat} {AL AJ:Nat→Option Ann}:∀ (c:Code) {p q:Nat} {s:B3} {K:B3→Om} {Kx:Nat→B3→Om} {Kr:B3→Om} {Kp:V→Om},
  ev CU X fn cr n0 AL AJ c p q s K Kx Kr Kp=some r→∀ {K':St→Prop} {Kx':Nat→St→Prop} {Kr':St→Prop} {Kp':D→Prop},(∀ s,K s=some r→K' (o7 s))→(∀ j s,Kx j s=some r→Kx' j (o7 s))→(∀ s,Kr s=some r→Kr' (o7 s))→(∀ v,Kp v=some r→Kp' (toD v)) →
  vc X n0 (fun _ body s=>a2r n0 body s) (fun q=>(AJ q).map b3k) c p q (o7 s) K' Kx' Kr' Kp'
 | .skip,p,q,s,K,Kx,Kr,Kp,h,K',Kx',Kr',Kp',hK,hx,hr,hp=>hK s h
 | .region id ops draw,p,q,s,K,Kx,Kr,Kp,h,K',Kx',Kr',Kp',hK,hx,hr,hp=>c75 htab hfn hcr h hK hp
 | .seq a b,p,q,s,K,Kx,Kr,Kp,h,K',Kx',Kr',Kp',hK,hx,hr,hp=>by
  simp only [ev] at h
  simp only [vc]
  have el:(o7 s).tmps.length=s.tmps.length:=by simp [o7]
  split at h
  ·rename_i hj
   rw [hj]
   exact Q9 htab hfn hcr a h (fun s' h=>Q9 htab hfn hcr b h hK hx hr hp) hx hr hp
  ·rename_i A hj
   rw [hj]
   simp only [Option.map_some,b3k]
   have h:jn _ _=some r:=h
   unfold jn at h
   refine ⟨fun v=>vc X n0 (fun _ body s=>a2r n0 body s) (fun q=>(AJ q).map b3k) b (p+P4 a) (q+1+U3 a) (a8p (o7 s).tmps.length A.ks v) K' Kx' Kr' Kp',?_,fun ix=>ix.property⟩
   refine Q9 htab hfn hcr a h (fun s' h=>?_) hx hr hp
   rw [el,← b5q]
   cases hok:a6d n0 s.tmps.length A.ks s' with
   | false=>rw [hok] at h;cases h
   | true =>
    rw [hok] at h
    simp only [cond_true] at h ⊢
    obtain ⟨vs',e1,h⟩:=L2 h
    obtain ⟨bs',e2,h⟩:=Z3 h
    refine .mk ⟨gcV n0 A.ks (o7 s'),?_⟩ rfl
    rw [c0k,← e1,← e2,← c5d]
    exact Q9 htab hfn hcr b h hK hx hr hp
 | .cond c t e,p,q,s,K,Kx,Kr,Kp,h,K',Kx',Kr',Kp',hK,hx,hr,hp=>by
  simp only [ev] at h
  simp only [vc]
  rw [n9]
  split at h
  ·rename_i b hc
   rw [hc]
   simp only [toD]
   have e0:(o7 s).eval c=.bool b:=by rw [n9,hc];simp only [toD]
   cases b
   ·simp only [cond_false] at h ⊢;rw [b04 e0];exact Q9 htab hfn hcr e h hK hx hr hp
   ·simp only [cond_true] at h ⊢;rw [b04 e0];exact Q9 htab hfn hcr t h hK hx hr hp
  ·obtain ⟨b,hv,h⟩:=a0z h
   rw [hv]
   simp only []
   have h:cnd b _ _=some r:=h
   rw [a9p] at h
   cases b
   ·simp only [cond_false] at h ⊢;rw [← c5k];exact Q9 htab hfn hcr e h hK hx hr hp
   ·simp only [cond_true] at h ⊢;rw [← c5k];exact Q9 htab hfn hcr t h hK hx hr hp
 | .block id c,p,q,s,K,Kx,Kr,Kp,h,K',Kx',Kr',Kp',hK,hx,hr,hp=>by
  simp only [ev] at h
  simp only [vc]
  refine Q9 htab hfn hcr c h hK (fun j s h=>?_) hr hp
  cases hj:Nat.beq j id with
  | true=>rw [hj] at h;exact hK s h
  | false=>rw [hj] at h;exact hx j s h
 | .loop c,p,q,s,K,Kx,Kr,Kp,h,K',Kx',Kr',Kp',hK,hx,hr,hp=>by
  simp only [ev] at h
  simp only [vc]
  have el:(o7 s).tmps.length=s.tmps.length:=by simp [o7]
  split at h
  ·cases h
  ·rename_i A hA
   cases hok:a6d n0 s.tmps.length A.ks s with
   | false=>rw [hok] at h;cases h
   | true =>
    rw [hok] at h
    simp only [cond_true] at h
    obtain ⟨n,h⟩:=d7k h
    generalize hbody:(fun (self:List V→List Bx→Om) (vs:List V) (bs:List Bx)=>a1s CU A.vs vs fun vs=>a1f CU A.bs bs fun bs =>
     ev CU X fn cr n0 AL AJ c (p+1) q (b36 s.tmps.length A.ks vs bs) (fun s'=>cond (a6d n0 s.tmps.length A.ks s') (self (a6x n0 A.ks s').1 (a6x n0 A.ks s').2) none) Kx Kr Kp)=body at h
    refine a2r.mk { x:(List D × List u7) × Nat // ∃ vs bs,x.1=(vs.map toD,bs.map C3)∧Nat.rec (motive:=fun _=>List V→List Bx→Om) (fun _ _=>none) (fun _ ih=>body ih) x.2 vs bs=some r } (fun i=>i.val.1) (fun i=>i.val.2)
     ⟨(gcV n0 A.ks (o7 s),n),_,_,c0k n0 A.ks s,h⟩ A.ks (by rw [el,← b5q];exact hok) rfl ?_
    rintro ⟨⟨v,m⟩,vs,bs,hv,hrun⟩
    simp only at hv hrun ⊢
    cases m with
    | zero=>cases hrun
    | succ m =>
     have hrun:body (Nat.rec (motive:=fun _=>List V→List Bx→Om) (fun _ _=>none) (fun _ ih=>body ih) m) vs bs=some r:=hrun
     rw [← hbody] at hrun
     obtain ⟨vs',e1,hrun⟩:=L2 hrun
     obtain ⟨bs',e2,hrun⟩:=Z3 hrun
     subst hv
     rw [el]
     have e3:o7 (b36 s.tmps.length A.ks vs' bs')=a8p s.tmps.length A.ks (vs.map toD,bs.map C3):=by rw [c5d,e1,e2]
     rw [← e3]
     refine Q9 htab hfn hcr c hrun (fun s' h'=>?_) hx hr hp
     rw [← b5q]
     cases hok':a6d n0 s.tmps.length A.ks s' with
     | false=>rw [hok'] at h';cases h'
     | true =>
      rw [hok'] at h'
      simp only [cond_true] at h' ⊢
      rw [hbody] at h'
      exact .mk ⟨(gcV n0 A.ks (o7 s'),m),_,_,c0k n0 A.ks s',h'⟩ (Nat.lt_succ_self m) rfl
 | .exit j,p,q,s,K,Kx,Kr,Kp,h,K',Kx',Kr',Kp',hK,hx,hr,hp=>hx j s h
 | .ret,p,q,s,K,Kx,Kr,Kp,h,K',Kx',Kr',Kp',hK,hx,hr,hp=>hr s h
 | .rangeFunc ..,_,_,_,_,_,_,_,h,_,_,_,_,_,_,_,_=>by cases h
 | .scope _,_,_,_,_,_,_,_,h,_,_,_,_,_,_,_,_=>by cases h
 | .label _,_,_,_,_,_,_,_,h,_,_,_,_,_,_,_,_=>by cases h
 | .goto _,_,_,_,_,_,_,_,h,_,_,_,_,_,_,_,_=>by cases h
 | .refuse _,_,_,_,_,_,_,_,h,_,_,_,_,_,_,_,_=>by cases h
end

def b1b (C:Comb) (P:Program) (s:B3):List ResultVar→(List V→Om)→Om
 | [],K=>K []
 | .tmp t :: rs,K=>b1b C P s rs fun vs=>K (P1 s.tmps t :: vs)
 | .cell x t :: rs,K=>match P1 s.tmps x with
  | .ptr id off=>match Q3 s.heap id with
   | .cells cs=>b73 C P t cs off fun v=>b1b C P s rs fun vs=>K (v :: vs)
   | .opa y m=>b34 C P t y off m fun v=>b1b C P s rs fun vs=>K (v :: vs)
   | _=>none
  | _=>none
def c5x:List V→V
 | [v]=>v
 | vs=>.tuple vs
def b38 (n:Nat) (v:V):V:=a6r (X3 (a1q n) v)
theorem b8q (n:Nat) (v:V):toD (b38 n v)=T0 n (toD v):=by unfold b38 T0;rw [b8j,a14]
def c7y (C:Comb) (n:Nat) (h:List Bx) (g:Option Nat) (v:V) (K:V→Om):Om:=match g,v with
 | some z,.slice t m off len (.tok id)=>match Q3 h id with
  | .tok l z'=>bif Nat.ble n id && (Nat.beq z' z && Nat.beq m z) then C.chk (C.nEq l len) (K (.slice t m off len (.fr z))) else none
  | _=>none
 | some z,.slice t m off len .exact=>bif Nat.beq m z then K (.slice t m off len (.fr z)) else bif Nat.beq m 0 then C.chk (C.nEq len 0) (K (.slice .nil z 0 0 (.fr z))) else none
 | _,v=>K (b38 n v)
def a9n (C:Comb) (n:Nat) (h:List Bx):List (Option Nat)→List V→(List V→Om)→Om
 | _,[],K=>K []
 | [],v :: vs,K=>a9n C n h [] vs fun r=>K (b38 n v :: r)
 | g :: gv,v :: vs,K=>c7y C n h g v fun v=>a9n C n h gv vs fun r=>K (v :: r)
def c0m (C:Comb) (P:Program) (rs:List ResultVar) (n:Nat) (gv:List (Option Nat)) (s:B3):Om :=
 b1b C P s rs fun vs=>match a9s s.heap (List.range n) with
  | some bs=>a9n C n s.heap gv vs fun vs=>some (.ret (c5x vs),bs.map (a16 (a1q n)))
  | none=>none
def b71 (ntmps:Nat) (vs:List V) (bs:List Bx):B3:={ tmps:=vs ++ List.replicate (ntmps - vs.length) (.tuple []),heap:=bs }
def e4f (U:x5) (X:Pr) (fn:FuncId→E5) (cr:U7) (AL AJ:Nat→Option Ann) (gv:List (Option Nat)) (f:Func):E5:=fun vs bs =>
 ev U X fn cr bs.length AL AJ (f.body.getD .skip) 0 0 (b71 f.ntmps vs bs) (c0m U.toComb X.P f.results.toList bs.length gv) (fun _ _=>none) (c0m U.toComb X.P f.results.toList bs.length gv) (fun v=>some (.pan v,bs))

section
variable {X:Pr} {r:R}
theorem a58 {P:Program} {s:B3}:∀ {rs:List ResultVar} {K:List V→Om},b1b CR P s rs K=some r→∃ vs,K vs=some r∧a43 P (o7 s) rs=some (vs.map toD)
 | [],K,h=>⟨[],h,rfl⟩
 | .tmp t :: rs,K,h=>by
  simp only [b1b] at h
  obtain ⟨vs,h,e⟩:=a58 h
  exact ⟨_,h,by simp only [a43,e,Option.map_some,List.map_cons,a4r]⟩
 | .cell x t :: rs,K,h=>by
  simp only [b1b] at h
  split at h
  ·rename_i id off hx
   split at h
   ·rename_i cs hb
    obtain ⟨v,h,hr⟩:=b0i h
    obtain ⟨vs,h,e⟩:=a58 h
    have hh:=V2 hb (by simp)
    refine ⟨_,h,?_⟩
    simp only [a43,a4r,hx,toD,hh,C3,hr,Option.bind_some,e,Option.map_some,List.map_cons]
   ·rename_i y m hb
    obtain ⟨v,h,hr⟩:=a5m h
    obtain ⟨vs,h,e⟩:=a58 h
    have hh:=V2 hb (by simp)
    have:=hr 0 (Nat.zero_le _)
    rw [Nat.sub_zero,Nat.sub_zero] at this
    refine ⟨_,h,?_⟩
    simp only [a43,a4r,hx,toD,hh,C3,this,Option.bind_some,e,Option.map_some,List.map_cons]
   ·cases h
  ·cases h
theorem d65 (vs:List V):toD (c5x vs)=b0v (vs.map toD):=by
 unfold c5x
 split
 ·rfl
 ·rename_i h
  match vs,h with
  | [],_=>simp only [toD,U8,List.map_nil,b0v]
  | [v],h=>exact absurd rfl (h v)
  | v :: w :: vs,_=>simp only [toD,C9,List.map_cons,b0v]
theorem c9h {n:Nat} {s:B3} {g:Option Nat} {v:V} {K:V→Om} (h:c7y CR n s.heap g v K=some r):∃ v',K v'=some r∧a4a n (o7 s).heap g (toD v)=toD v':=by
 unfold c7y at h
 split at h
 ·rename_i z t m off len id
  split at h
  ·rename_i l z' hb
   have hh:=V2 hb (by simp)
   simp only [C3] at hh
   cases hg:Nat.ble n id && (Nat.beq z' z && Nat.beq m z) with
   | false=>rw [hg] at h;cases h
   | true =>
    rw [hg] at h
    simp only [cond_true] at h
    obtain ⟨h0,h⟩:=D0 h
    have h0:Nat.beq l len=true:=h0
    simp only [Bool.and_eq_true] at hg
    obtain ⟨g1,g2,g3⟩:=hg
    have:=Nat.eq_of_beq_eq_true g3
    subst this
    refine ⟨_,h,?_⟩
    simp only [toD,a4a,hh,g1,g2,h0,G1,Nat.beq_refl,Bool.and_self,cond_true]
  ·cases h
 ·rename_i z t m off len
  cases hm:Nat.beq m z with
  | true =>
   rw [hm] at h
   have:=Nat.eq_of_beq_eq_true hm
   subst this
   exact ⟨_,h,by simp only [toD,a4a,G1,Nat.beq_refl,cond_true]⟩
  | false =>
   rw [hm] at h
   simp only [cond_false] at h
   cases h0:Nat.beq m 0 with
   | false=>rw [h0] at h;cases h
   | true =>
    rw [h0] at h
    simp only [cond_true] at h
    obtain ⟨h1,h⟩:=D0 h
    have h1:Nat.beq len 0=true:=h1
    have:=Nat.eq_of_beq_eq_true h1
    subst this
    exact ⟨_,h,by simp only [toD,a4a,rows,List.length_nil,Nat.zero_mul,Nat.beq_refl,cond_true]⟩
 ·rename_i hn1 hn2
  refine ⟨_,h,?_⟩
  rw [b8q]
  unfold a4a
  split
  ·rename_i z len c id hd
   exfalso
   cases v <;> simp only [toD] at hd <;> first | (cases hd;done) | skip
   ·injection hd with _ _ hd;subst hd;exact hn1 _ _ _ _ _ _ rfl rfl
   ·cases a04 _ _ _ _ _ hd
  ·rename_i z len c hd
   exfalso
   cases v <;> simp only [toD] at hd <;> first | (cases hd;done) | skip
   ·injection hd with _ _ hd;subst hd;exact hn2 _ _ _ _ _ rfl rfl
   ·cases a04 _ _ _ _ _ hd
  ·rfl
theorem a8x {n:Nat} {s:B3}:∀ {gv:List (Option Nat)} {vs:List V} {K:List V→Om},a9n CR n s.heap gv vs K=some r→∃ vs',K vs'=some r∧a0b n (o7 s).heap gv (vs.map toD)=vs'.map toD
 | gv,[],K,h=>by cases gv <;> exact ⟨[],h,by simp [a0b]⟩
 | [],v :: vs,K,h=>by
  simp only [a9n] at h
  obtain ⟨vs',h,e⟩:=a8x h
  exact ⟨_,h,by simp only [List.map_cons,a0b,b8q,e]⟩
 | g :: gv,v :: vs,K,h=>by
  simp only [a9n] at h
  obtain ⟨v',h,e1⟩:=c9h h
  obtain ⟨vs',h,e⟩:=a8x h
  exact ⟨_,h,by simp only [List.map_cons,a0b,e1,e]⟩
theorem a4m {P:Program} {rs:List ResultVar} {n:Nat} {gv:List (Option Nat)} {s:B3} {x:L3} {bs':List Bx} (h:c0m CR P rs n gv s=some (x,bs')):fin P rs n gv (a8w x) (bs'.map J3) (o7 s):=by
 obtain ⟨vs,h,e⟩:=a58 h
 split at h
 ·rename_i bs hb
  obtain ⟨vs',h,eg⟩:=a8x h
  injection h with h
  injection h with h1 h2
  subst h1 h2
  obtain ⟨q1,q2,q3⟩:=a89 hb
  have q1:S4 (o7 s).heap (List.range n)=some (bs.map J3):=q1
  unfold fin
  rw [e,q1]
  refine ⟨?_,?_⟩
  ·simp only [a8w,d65,eg]
  ·rw [List.map_map,List.map_map];exact List.map_congr_left fun b _=>(b37 (a1q n)).symm
 ·cases h
theorem b8g (n:Nat) (vs:List V) {bs:List Bx} (h:bs.all P7=true):o7 (b71 n vs bs)=start n (vs.map toD) (bs.map J3):=by
 unfold b71 start o7
 simp only [List.map_append,List.map_replicate,List.length_map,List.map_map,toD,U8]
 congr 1
 exact List.map_congr_left fun b hb=>a3q (List.all_eq_true.1 h b hb)

theorem e89 {fn:FuncId→E5} {cr:U7} (htab:X.tab=[]) (hfn:∀ g,O2 X g (fn g)) (hcr:a40 cr) {AL AJ:Nat→Option Ann} {gv:List (Option Nat)} {f:FuncId} {F:Func} (hf:X.P.funcs[f]?=some F) (hb:F.body.isSome=true)
  (hcall:∀ args w,(callFunc f args).run X.P w=.ok (.enter f args) w):O2 X f (e4f CU X fn cr AL AJ gv F):=by
 intro vs bs x bs' h hok
 obtain ⟨c,hc⟩:=Option.isSome_iff_exists.1 hb
 unfold e4f at h
 rw [hc] at h
 have:=Q9 (X:=X) htab hfn hcr c h (K':=fin X.P F.results.toList bs.length gv (a8w x) (bs'.map J3)) (Kx':=fun _ _=>False) (Kr':=fin X.P F.results.toList bs.length gv (a8w x) (bs'.map J3)) (Kp':=fun d=>a8w x=.pan d)
  (fun s h=>a4m h) (fun _ _ h=>by cases h) (fun s h=>a4m h) (fun v h=>by injection h with h;injection h with h1 h2;rw [← h1];rfl)
 rw [b8g _ _ hok] at this
 have e:(bs.map J3).length=bs.length:=by simp
 refine a13 (X:=X) (gv:=gv) (L:=fun _ body s=>a2r bs.length body s) (J:=fun q=>(AJ q).map b3k) hf hc hcall (fun _ _ _ h=>by rw [e];exact h) ?_
 rw [e]
 exact this

end
def d4p (U:x5) (X:Pr) (fn:FuncId→E5) (cr:U7) (AL AJ:Nat→Option Ann) (gv:List (Option Nat)) (f:Func):E5:=fun vs bs=>match f.body with
 | some (.seq A (.seq R C))=>match a95 R with
  | some (_,t)=>ev U X fn cr bs.length AL AJ A 0 0 (b71 f.ntmps vs bs) (fun s=>match P1 s.tmps t with
    | .ptr _ _=>ev U X fn cr bs.length AL AJ C (P4 A) (U3 A) s (c0m U.toComb X.P f.results.toList bs.length gv) (fun _ _=>none) (c0m U.toComb X.P f.results.toList bs.length gv) (fun _=>none)
    | _=>none) (fun _ _=>none) (c0m U.toComb X.P f.results.toList bs.length gv) (fun _=>none)
  | none=>none
 | _=>none
def d4r (f:Func):Option FuncId:=match f.body with
 | some (.seq _ (.seq R _))=>(a95 R).map (·.1)
 | _=>none
section
variable {X:Pr} {r:R}
theorem e3u {fn:FuncId→E5} {cr:U7} (htab:X.tab=[]) (hfn:∀ g,O2 X g (fn g)) (hcr:a40 cr) {AL AJ:Nat→Option Ann} {gv:List (Option Nat)} {f g:FuncId} {F:Func} (hf:X.P.funcs[f]?=some F) (hd:d4r F=some g)
  (hcall:∀ args w,(callFunc f args).run X.P w=.ok (.enter f args) w) (hg:∀ args w,(callFunc g args).run X.P w=.ok (.enter g args) w) (hidle:d5z X.P g):O2 X f (d4p CU X fn cr AL AJ gv F):=by
 intro vs bs x bs' h hok
 unfold d4p at h
 unfold d4r at hd
 split at h
 ·rename_i A R C hb
  rw [hb] at hd
  simp only [] at hd
  split at h
  ·rename_i g' t hR
   rw [hR] at hd
   injection hd with hd
   subst hd
   have e:(bs.map J3).length=bs.length:=by simp
   refine c0u (X:=X) (gv:=gv) (L:=fun _ body s=>a2r bs.length body s) (J:=fun q=>(AJ q).map b3k) hf hb hR hcall hg hidle (fun _ _ _ h=>by rw [e];exact h) ?_
   rw [e,← b8g _ _ hok]
   refine Q9 (X:=X) htab hfn hcr A h (fun s h=>?_) (fun _ _ h=>by cases h) (fun s h=>a4m h) (fun v h=>by cases h)
   split at h
   ·rename_i id off hp
    refine ⟨⟨id,off,?_⟩,Q9 (X:=X) htab hfn hcr C h (fun s h=>a4m h) (fun _ _ h=>by cases h) (fun s h=>a4m h) (fun v h=>by cases h)⟩
    have:=n9 s (.tmp t)
    have e2:(o7 s).eval (.tmp t)=(o7 s).tmps.getD t .junk:=rfl
    rw [← e2,this]
    show toD (P1 s.tmps t)=_
    rw [hp]
    simp only [toD]
   ·cases h
  ·cases h
 ·cases h
end
end
end Go.Abs
