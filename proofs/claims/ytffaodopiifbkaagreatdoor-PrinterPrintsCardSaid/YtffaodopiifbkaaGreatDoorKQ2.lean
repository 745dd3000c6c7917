/- What the operations say, run: second part. -/
import Derived.Test.YtffaodopiifbkaaGreatDoorKQ1
set_option linter.all false
namespace Go.Abs
noncomputable section

theorem a9f:∀ (vs ds:List D) (off:Nat),off+vs.length≤ds.length→J7 ds off vs=ds.take off ++ vs ++ ds.drop (off+vs.length)
 | [],ds,off,h=>by simp [J7]
 | v :: vs,ds,off,h=>by
  simp only [List.length_cons] at h
  simp only [J7]
  rw [a9f vs _ _ (by simp;omega)]
  have e1:(ds.set off v).take (off+1)=ds.take off ++ [v]:=by
   apply List.ext_getElem?
   intro i
   rcases Nat.lt_or_ge i off with hi | hi
   ·rw [List.getElem?_take_of_lt oM,List.getElem?_set_ne oM,List.getElem?_append_left (by simp;omega),List.getElem?_take_of_lt hi]
   ·rcases Nat.eq_or_lt_of_le hi with hi | hi
    ·subst hi
     rw [List.getElem?_take_of_lt oM,List.getElem?_set_self oM,List.getElem?_append_right (by simp;omega)]
     simp [Nat.min_eq_left (show off≤ds.length by omega)]
    ·rw [List.getElem?_eq_none (by simp;omega),List.getElem?_eq_none (by simp;omega)]
  have e2:(ds.set off v).drop (off+1+vs.length)=ds.drop (off+1+vs.length):=by
   apply List.ext_getElem?
   intro i
   rw [List.getElem?_drop,List.getElem?_drop,List.getElem?_set_ne oM]
  rw [e1,e2]
  simp only [List.append_assoc,List.cons_append,List.nil_append,List.length_cons]
  rw [show off+1+vs.length=off+(vs.length+1) by omega]

section
variable {X:Pr} {s:u5} {nid:Nat} {r:R}

theorem b92 {n:Nat}:∀ {ps:List (Nat × V)} {i:Nat} {ds:List D} {qs:List Q},a2p n i ps=some qs→ds.length=(i+ps.length) * n →
  ∃ out,a2e (fun i=>some (i * n,n)) ds (ps.map fun p=>(p.1,toD p.2))=some out∧out.map (renI U8)=(ds.take (i * n)).map (renI U8) ++ qs.flatMap fun q=>n6 (den q) 0 n
 | [],i,ds,qs,h,hl=>by
  simp only [a2p] at h
  injection h with h
  subst h
  refine ⟨ds,rfl,?_⟩
  simp only [List.flatMap_nil,List.append_nil]
  rw [List.take_of_length_le (by rw [hl];simp)]
 | (j,v) :: ps,i,ds,qs,h,hl=>by
  simp only [a2p] at h
  split at h
  ·rename_i q qs' hj hq hqs
   injection h with h
   subst h
   have:=Nat.eq_of_beq_eq_true hj
   subst this
   obtain ⟨h1,h2,h3⟩:=c9u hq
   simp only [List.length_cons] at hl
   have hle:i * n+n≤ds.length:=by
    rw [hl]
    have:(i+1) * n≤(i+(ps.length+1)) * n:=Nat.mul_le_mul_right n oM
    rw [Nat.succ_mul] at this
    exact this
   have hw:J7 ds (i * n) (toD v).cells=ds.take (i * n) ++ (toD v).cells ++ ds.drop (i * n+n):=by
    rw [a9f _ _ _ (by rw [h2];exact hle),h2]
   have hlen:(J7 ds (i * n) (toD v).cells).length=(i+1+ps.length) * n:=by
    rw [hw]
    simp only [List.length_append,List.length_take,List.length_drop,h2]
    have:(i+1+ps.length) * n=ds.length:=by rw [hl];congr 1;omega
    omega
   obtain ⟨out,ho,hm⟩:=b92 hqs hlen
   refine ⟨out,?_,?_⟩
   ·simp only [List.map_cons,a2e,h1,h2]
    have e1:Nat.ble (i * n+n) ds.length=true:=by rw [Nat.ble_eq];exact hle
    rw [e1]
    simp only [beq_self_eq_true,Bool.and_self,cond_true]
    exact ho
   ·rw [hm,hw,Nat.succ_mul]
    have e2:(ds.take (i * n) ++ (toD v).cells ++ ds.drop (i * n+n)).take (i * n+n)=ds.take (i * n) ++ (toD v).cells :=
     List.take_left' (by simp only [List.length_append,List.length_take,h2];omega)
    rw [e2,List.map_append,h3,List.flatMap_cons,List.append_assoc]
  ·cases h
theorem a9k {n:Nat}:∀ {ps:List (Nat × V)} {i:Nat} {qs:List Q},a2p n i ps=some qs→qs.length=ps.length
 | [],i,qs,h=>by simp only [a2p] at h;injection h with h;subst h;rfl
 | (j,v) :: ps,i,qs,h=>by
  simp only [a2p] at h
  split at h
  ·rename_i q qs' hj hq hqs
   injection h with h
   subst h
   simp [a9k hqs]
  ·cases h
theorem d3l:∀ (qs:List Q) (i:Nat) (t:j0 Q),i+qs.length+2≤2 ^ K0→(∀ k,k < i→G4 (t6 (mkT qs i t)) k=G4 (t6 t) k)∧∀ k q,qs[k]?=some q→G4 (t6 (mkT qs i t)) (i+k)=den q
 | [],i,t,_=>⟨fun _ _=>rfl,fun k q h=>by simp at h⟩
 | q :: qs,i,t,hb=>by
  simp only [List.length_cons] at hb
  obtain ⟨h1,h2⟩:=d3l qs (i+1) (t.set .no q K0 i) oM
  refine ⟨fun k hk=>?_,fun k x hx=>?_⟩
  ·simp only [mkT];rw [h1 k oM,a30 _ _ _ oM]
  ·simp only [mkT]
   cases k with
   | zero =>
    simp at hx;subst hx
    show G4 (t6 (mkT qs (i+1) (j0.set Q.no q K0 t i))) i=den q
    rw [h1 i oM,b15 _ _ oM]
   | succ k =>
    simp only [List.getElem?_cons_succ] at hx
    have:=h2 k x hx
    rw [show i+1+k=i+(k+1) by omega] at this
    exact this
theorem b86 {T:j0 Den} {n:Nat}:∀ (qs:List Q) (off:Nat),(∀ k q,qs[k]?=some q→G4 T (off+k)=den q)→rows T n off qs.length=qs.flatMap fun q=>n6 (den q) 0 n
 | [],off,h=>rfl
 | q :: qs,off,h=>by
  simp only [List.length_cons,rows,List.flatMap_cons]
  rw [b86 qs (off+1) (fun k x hx=>by have:=h (k+1) x (by simpa using hx);rw [show off+1+k=off+(k+1) by omega];exact this)]
  have:=h 0 q rfl
  rw [Nat.add_zero] at this
  rw [this]

theorem c1l (z:List D) (n:Nat):(a2i z n).length=n:=by simp [a2i]

theorem c4a {P:Program} {t:TypeId} {x y:V} {K:KV} (h:b69 CR P s nid t x y K=some r):∃ v ws rs,K v ws rs=some r∧a13 P (l9 s) nid t (toD x) (toD y)=some ⟨true,toD v,B3 ws,rs⟩:=by
 unfold b69 at h
 split at h
 ·rename_i e hu
  split at h
  ·rename_i n b z hn hb hz
   cases hg:Nat.beq z.length n && Nat.blt 0 n && a0t s nid with
   | false=>rw [hg] at h;cases h
   | true =>
    rw [hg] at h
    simp only [cond_true] at h
    simp only [Bool.and_eq_true] at hg
    obtain ⟨⟨g1,g2⟩,g3⟩:=hg
    obtain ⟨tr,off,len,c,hx,h⟩:=a0h h
    obtain ⟨t2,off2,m,_,hy,h⟩:=a0h h
    obtain ⟨h0,h⟩:=A7 h
    have h0:(band (Nat.ble ((len+m) * b) 140737488355328) (Nat.ble (len+m) 140737488355328))=true:=h0
    rw [CfN] at h
    rw [J2,Bool.and_eq_true,Nat.ble_eq,Nat.ble_eq] at h0
    obtain ⟨t',h,hold,hnew⟩:=c7a m (t:=tr) (i:=off+len) (j:=off2) h
    have hrows:rows (t6 t') n off (len+m)=rows (t6 tr) n off len ++ rows (t6 t2) n off2 m:=by
     rw [b2u]
     congr 1
     ·exact a8x len off off fun k hk=>hold _ oM
     ·exact a8x m (off+len) off2 fun k hk=>hnew k hk
    have hz':=a1b hz
    have hzl:Nat.beq (z.map toD).length n=true:=by rw [List.length_map];exact g1
    have hneed:(decide ((len+m) * b≤F8∧len+m≤F8∧(rows (t6 tr) n off len).length=len * n∧(rows (t6 t2) n off2 m).length=m * n) && (rows (t6 t2) n off2 m).all D.one)=true:=by
     rw [c1m,Bool.and_true,decide_eq_true_iff]
     exact ⟨h0.1,h0.2,D6 _ _,D6 _ _⟩
    split at h
    ·refine ⟨_,_,_,h,?_⟩
     simp only [p8,nAdd,Nat.add_eq,a13,hu,hx,hy,hn,hb,hz',hzl,g2,a5l g3,Bool.and_self,cond_true,hneed,toD,hrows,B3,List.map_cons,List.map_nil,x9]
    ·rename_i id
     split at h
     ·rename_i l k hbx
      obtain ⟨h1,h⟩:=A7 h
      have h1:(band (Nat.beq l len) (Nat.beq k n))=true:=h1
      rw [J2,Bool.and_eq_true] at h1
      refine ⟨_,_,_,h,?_⟩
      have hh:=R2 hbx (by simp)
      simp only [x9] at hh
      simp only [p8,nAdd,Nat.add_eq,a13,hu,hx,hy,hn,hb,hz',hzl,g2,a5l g3,Bool.and_self,cond_true,hneed,toD,hrows,B3,List.map_cons,List.map_nil,x9,hh,h1.1,h1.2]
     ·cases h
    ·cases h
  ·cases h
 ·cases h

theorem a5y {v:V} {x:Q} (h:b7i v=some x):toD v=den x 0:=by
 unfold b7i at h
 split at h <;> first
  | (injection h with h;subst h;simp only [toD,den];rfl)
  | (injection h with h;subst h;simp only [toD])
  | cases h
theorem c87 {b:Bx} {cs:List V} (h:c8p CR b=some cs):x9 b=.cells (cs.map toD)∧b ≠ .dead:=by
 unfold c8p at h
 split at h
 ·injection h with h;subst h;exact ⟨rfl,by simp⟩
 ·rename_i x m
  injection h with h
  subst h
  refine ⟨?_,by simp⟩
  simp only [x9,H1,List.map_map]
  congr 1
  exact List.map_congr_left fun i _=>by simp only [Function.comp,toD];exact (a17 x i).symm
 ·cases h
theorem d81 {tr:j0 Q} {y:Q} {off len:Nat} (h1:off < len) (h2:off+2≤2 ^ K0):rows (t6 (tr.set .no y K0 off)) 1 0 len=(rows (t6 tr) 1 0 len).set off (den y 0):=by
 have key:∀ (T:j0 Den) (m o i:Nat),i < m→(rows T 1 o m)[i]?=some (G4 T (o+i) 0):=by
  intro T m
  induction m with
  | zero=>intro o i hi;omega
  | succ m ih =>
   intro o i hi
   simp only [rows,n6,List.cons_append,List.nil_append]
   cases i with
   | zero=>rfl
   | succ i =>
    rw [List.getElem?_cons_succ,ih (o+1) i oM]
    rw [show o+1+i=o+(i+1) by omega]
 apply List.ext_getElem?
 intro i
 rcases Nat.lt_or_ge i len with hi | hi
 ·rw [key _ _ _ _ hi,Nat.zero_add]
  by_cases he:off=i
  ·subst he
   rw [List.getElem?_set_self (by rw [D6,Nat.mul_one];exact hi),b15 _ _ h2]
  ·rw [List.getElem?_set_ne he,key _ _ _ _ hi,Nat.zero_add,a30 _ _ _ (fun e=>he e.symm)]
 ·rw [List.getElem?_eq_none (by rw [D6,Nat.mul_one];exact hi),List.getElem?_eq_none (by rw [List.length_set,D6,Nat.mul_one];exact hi)]
end

section
variable {X:Pr} {s:u5} {nid:Nat} {r:R}

theorem c1r (l:List Operand):l.map (l9 s).eval=(l.map s.eval).map toD:=by
 rw [List.map_map];exact List.map_congr_left fun x _=>l8 s x

theorem d16 {t:TypeId} {parts:Array (Nat × Operand)} {K:KV} (h:O2 CR X s nid (.build t parts) K=some r):∃ v ws rs,K v ws rs=some r∧m9 X (l9 s) nid (.build t parts)=some ⟨true,toD v,B3 ws,rs⟩:=by
 simp only [O2] at h
 split at h
 ·rename_i fs z hu hz
  split at h
  ·rename_i cs hf
   cases ha:(fs.all fun f=>(B0 X.P f.type).isSome) with
   | false=>rw [ha] at h;cases h
   | true =>
    rw [ha] at h
    refine ⟨_,_,_,h,?_⟩
    have:=b6r hf
    simp only [List.map_map] at this
    have e:(parts.toList.map fun p=>(p.1,(l9 s).eval p.2))=parts.toList.map ((fun p:Nat × V=>(p.1,toD p.2)) ∘ fun p=>(p.1,s.eval p.2)) :=
     List.map_congr_left fun p _=>by simp only [Function.comp,l8]
    rw [← e] at this
    simp only [p8,m9,hu,a1b hz,this,C3,ha,toD,A4]
    rfl
  ·cases h
 ·cases h
theorem b7x {t:TypeId} {len:Nat} {parts:Array (Nat × Operand)} {K:KV} (h:O2 CR X s nid (.buildSlice t len parts) K=some r):∃ v ws rs,K v ws rs=some r∧m9 X (l9 s) nid (.buildSlice t len parts)=some ⟨true,toD v,B3 ws,rs⟩:=by
 simp only [O2] at h
 split at h
 ·rename_i e hu
  split at h
  ·rename_i n z hn hz
   split at h
   ·rename_i qs hq
    cases hg:Nat.beq qs.length len && (Nat.ble (len * n) 16777216 && Nat.ble len 16777216) with
    | false=>rw [hg] at h;cases h
    | true =>
     rw [hg] at h
     simp only [Bool.and_eq_true] at hg
     obtain ⟨g1,g2,g3⟩:=hg
     have hql:=Nat.eq_of_beq_eq_true g1
     refine ⟨_,_,_,h,?_⟩
     have hpl:=a9k hq
     simp only [List.length_map] at hpl
     obtain ⟨out,ho,hm⟩:=b92 hq (ds:=a2i (z.map toD) (len * n)) (by rw [c1l,Nat.zero_add,List.length_map,← hpl,hql])
     simp only [List.map_map] at ho
     have e:(parts.toList.map fun p=>(p.1,(l9 s).eval p.2))=parts.toList.map ((fun p:Nat × V=>(p.1,toD p.2)) ∘ fun p=>(p.1,s.eval p.2)) :=
      List.map_congr_left fun p _=>by simp only [Function.comp,l8]
     rw [← e] at ho
     simp only [p8,m9,hu,hn,a1b hz,ho,C3,g2,toD,hm,Nat.zero_mul,List.take_zero,List.map_nil,List.nil_append]
     have hb:0+qs.length+2≤2 ^ K0:=by
      rw [Nat.ble_eq] at g3
      show 0+qs.length+2≤2 ^ 48
      omega
     obtain ⟨_,h2⟩:=d3l qs 0 .nil hb
     rw [← hql,b86 qs 0 h2]
     rfl
   ·cases h
  ·cases h
 ·cases h
theorem d5x {t:TypeId} {a:Operand} {K:KV} (h:O2 CR X s nid (.load t a) K=some r):∃ v ws rs,K v ws rs=some r∧m9 X (l9 s) nid (.load t a)=some ⟨true,toD v,B3 ws,rs⟩:=by
 simp only [O2] at h
 split at h
 ·rename_i id off ha
  split at h
  ·rename_i cs hb
   obtain ⟨v,h,hr⟩:=a85 h
   have hh:=R2 hb (by simp)
   refine ⟨_,_,_,h,?_⟩
   simp only [p8,m9,l8,ha,toD,hh,x9,hr,Option.map_some]
   rfl
  ·rename_i x m hb
   obtain ⟨v,h,hr⟩:=a3r h
   have hh:=R2 hb (by simp)
   have:=hr 0 (Nat.zero_le _)
   rw [Nat.sub_zero,Nat.sub_zero] at this
   refine ⟨_,_,_,h,?_⟩
   simp only [p8,m9,l8,ha,toD,hh,x9,this,Option.map_some]
   rfl
  ·rename_i tr len hb
   split at h
   ·rename_i hag
    obtain ⟨h0,h⟩:=A7 h
    have h0:(Nat.ble (off+1) len)=true:=h0
    rw [CfQ] at h
    rw [Nat.ble_eq] at h0
    have hh:=R2 hb (by simp)
    refine ⟨_,_,_,h,?_⟩
    have key:(rows (t6 tr) 1 0 len)[off]?=some (den (tQ tr off) 0):=by
     have h1:=b9v (T:=t6 tr) (n:=1) (off:=0) (show off < len by omega)
     rw [Nat.mul_one,Nat.zero_add] at h1
     have h2:=congrArg (·[0]?) h1
     simp only [List.getElem?_take_of_lt (show 0 < 1 by omega),List.getElem?_drop,Nat.add_zero] at h2
     rw [h2,b4p]
     rfl
    simp only [p8,m9,l8,ha,toD,hh,x9,P2,hag,key,Option.map_some]
    rfl
   ·cases h
  ·cases h
 ·rename_i x off m ha
  obtain ⟨v,h,hr⟩:=a3r h
  have:=hr off (Nat.le_refl _)
  rw [Nat.add_sub_cancel_left,Nat.sub_self] at this
  refine ⟨_,_,_,h,?_⟩
  simp only [p8,m9,l8,ha,toD,this,Option.map_some]
  rfl
 ·cases h
theorem d4m {t:TypeId} {a x:Operand} {K:KV} (h:O2 CR X s nid (.store t a x) K=some r):∃ v ws rs,K v ws rs=some r∧m9 X (l9 s) nid (.store t a x)=some ⟨true,toD v,B3 ws,rs⟩:=by
 simp only [O2] at h
 split at h
 ·rename_i id off ha
  split at h
  ·rename_i tr len hb hn
   split at h
   ·rename_i y hy
    obtain ⟨h0,h⟩:=A7 h
    have h0:(band (Nat.ble (off+1) len) (Nat.ble (off+2) 281474976710656))=true:=h0
    rw [J2,Bool.and_eq_true,Nat.ble_eq,Nat.ble_eq] at h0
    rw [show CR.sT=fun t i x K=>a00 x K0 t i K from rfl] at h
    simp only [U5] at h
    have hh:=R2 hb (by simp)
    have hv:=a5y hy
    have ho:=J3 y 0
    refine ⟨_,_,_,h,?_⟩
    have hc:(den y 0).cells=[den y 0]:=by cases hd:den y 0 <;> rw [hd] at ho <;> first | rfl | cases ho
    have hok:(den y 0).ok=true:=by simp [D.ok,ho]
    have e1:Nat.ble (off+1) (rows (t6 tr) 1 0 len).length=true:=by rw [D6,Nat.mul_one,Nat.ble_eq];exact h0.1
    simp only [p8,m9,l8,ha,toD,hh,x9,hn,hv,hok,hc,List.all_cons,List.all_nil,ho,e1,Bool.and_self,List.length_cons,List.length_nil,Nat.zero_add,J7,B3,List.map_cons,List.map_nil,Q1]
    rw [d81 oM (by show off+2≤2 ^ 48;exact h0.2)]
    rfl
   ·cases h
  ·rename_i n hn hnr
   split at h
   ·rename_i cs hcs
    obtain ⟨hB,hd⟩:=c87 hcs
    have hh:=R2 (s:=s) (i:=id) rfl hd
    rw [hB] at hh
    split at h
    ·rename_i y m hx
     have hal:(n6 (den y) 0 m).all D.one=true:=a8v (J3 y) m 0
     cases hg:Nat.beq m n && (Nat.beq off 0 && Nat.beq m cs.length) with
     | true =>
      rw [hg] at h
      simp only [Bool.and_eq_true] at hg
      obtain ⟨g1,g2,g3⟩:=hg
      have e1:=Nat.eq_of_beq_eq_true g1
      have e2:=Nat.eq_of_beq_eq_true g2
      have e3:=Nat.eq_of_beq_eq_true g3
      subst e1 e2
      refine ⟨_,_,_,h,?_⟩
      have e4:Nat.ble (0+m) (cs.map toD).length=true:=by rw [List.length_map,Nat.ble_eq];omega
      have e5:J7 (cs.map toD) 0 (n6 (den y) 0 m)=n6 (den y) 0 m:=by
       rw [a9f _ _ _ (by rw [B5,List.length_map];omega),B5,List.take_zero,List.nil_append,List.drop_of_length_le (by rw [List.length_map];omega),List.append_nil]
      simp only [p8,m9,l8,ha,hx,toD,hh,hn,D.ok,D.isAgg,D.cells,B5,g1,hal,e4,Bool.or_true,Bool.and_self,cond_true,e5,B3,List.map_cons,List.map_nil,x9,Q1]
     | false =>
      rw [hg] at h
      simp only [cond_false] at h
      cases hg2:Nat.beq m n && Nat.ble (off+n) cs.length with
      | false=>rw [hg2] at h;cases h
      | true =>
       rw [hg2] at h
       simp only [Bool.and_eq_true] at hg2
       obtain ⟨g1,g2⟩:=hg2
       have e1:=Nat.eq_of_beq_eq_true g1
       subst e1
       refine ⟨_,_,_,h,?_⟩
       have e4:Nat.ble (off+m) (cs.map toD).length=true:=by rw [List.length_map];exact g2
       have e6:((a8r 0 m).map fun i=>V.q (celQ y i)).map toD=n6 (den y) 0 m:=by
        rw [H1,List.map_map]
        exact List.map_congr_left fun i _=>by simp only [Function.comp,toD];exact a17 y i
       simp only [p8,m9,l8,ha,hx,toD,hh,hn,D.ok,D.isAgg,D.cells,B5,g1,hal,e4,Bool.or_true,Bool.and_self,cond_true,B3,List.map_cons,List.map_nil,x9,Q1,a5n]
       rw [e6]
    ·rename_i hna
     split at h
     ·rename_i vs hvs
      obtain ⟨hok,hcl⟩:=a2j hvs
      cases hg:Nat.beq vs.length n && (vs.all b7a && Nat.ble (off+n) cs.length) with
      | false=>rw [hg] at h;cases h
      | true =>
       rw [hg] at h
       simp only [Bool.and_eq_true] at hg
       obtain ⟨g1,g2,g3⟩:=hg
       refine ⟨_,_,_,h,?_⟩
       have e1:Nat.beq (vs.map toD).length n=true:=by rw [List.length_map];exact g1
       have e4:Nat.ble (off+n) (cs.map toD).length=true:=by rw [List.length_map];exact g3
       simp only [p8,m9,l8,ha,toD,hh,hn,hok,hcl,e1,e4x g2,e4,Bool.and_self,cond_true,B3,List.map_cons,List.map_nil,x9,Q1,a5n]
     ·cases h
   ·cases h
  ·cases h
 ·cases h
theorem d3f {t:TypeId} {x:Operand} {f:Nat} {K:KV} (h:O2 CR X s nid (.field t x f) K=some r):∃ v ws rs,K v ws rs=some r∧m9 X (l9 s) nid (.field t x f)=some ⟨true,toD v,B3 ws,rs⟩:=by
 simp only [O2] at h
 split at h
 ·rename_i fs hu
  split at h
  ·rename_i fd cs hf hx
   obtain ⟨v,h,hr⟩:=a85 h
   refine ⟨_,_,_,h,?_⟩
   simp only [p8,m9,hu,hf,l8,hx,toD,A4,hr,Option.bind_some,r7]
   rfl
  ·rename_i fd y m hf hx
   obtain ⟨v,h,hr⟩:=a3r h
   have:=hr 0 (Nat.zero_le _)
   rw [Nat.sub_zero,Nat.sub_zero] at this
   refine ⟨_,_,_,h,?_⟩
   simp only [p8,m9,hu,hf,l8,hx,toD,this,Option.bind_some,r7]
   rfl
  ·cases h
 ·cases h
theorem b97 {t:TypeId} {x:Operand} {f:Nat} {K:KV} (h:O2 CR X s nid (.fieldAddr t x f) K=some r):∃ v ws rs,K v ws rs=some r∧m9 X (l9 s) nid (.fieldAddr t x f)=some ⟨true,toD v,B3 ws,rs⟩:=by
 simp only [O2] at h
 split at h
 ·rename_i fs hu
  split at h
  ·rename_i fd hf
   split at h
   ·rename_i k hs
    split at h
    ·rename_i id off hx
     exact ⟨_,_,_,h,by simp only [p8,m9,hu,hf,hs,l8,hx,toD,r7];rfl⟩
    ·rename_i y off m hx
     exact ⟨_,_,_,h,by simp only [p8,m9,hu,hf,hs,l8,hx,toD,r7,a6w];rfl⟩
    ·cases h
   ·cases h
  ·cases h
 ·cases h
theorem c0a {t:TypeId} {x i:Operand} {K:KV} (h:O2 CR X s nid (.indexAddr t x i) K=some r):∃ v ws rs,K v ws rs=some r∧m9 X (l9 s) nid (.indexAddr t x i)=some ⟨true,toD v,B3 ws,rs⟩:=by
 simp only [O2] at h
 split at h
 ·rename_i e hu
  split at h
  ·rename_i n hn
   split at h
   ·rename_i id len hx
    obtain ⟨_,k,hi,h⟩:=L3 h
    obtain ⟨h0,h⟩:=A7 h
    have h0:(band (iLe 0 k) (iLt k (len:Int)))=true:=h0
    rw [CfN] at h
    have g:0≤k∧k < (len:Int):=by simpa [J2,T8,Z1] using h0
    refine ⟨_,_,_,h,?_⟩
    simp only [p8,m9,hu,l8,hx,hi,toD,hn,Option.bind_some,C3,decide_eq_true g,nMul,C5]
    rfl
   ·obtain ⟨tr,off,len,c,hx,h⟩:=a0h h
    obtain ⟨_,k,hi,h⟩:=L3 h
    obtain ⟨h0,h⟩:=A7 h
    have h0:(band (iLe 0 k) (iLt k (len:Int)))=true:=h0
    rw [CfQ] at h
    have g:0≤k∧k < (len:Int):=by simpa [J2,T8,Z1] using h0
    refine ⟨_,_,_,h,?_⟩
    have g2:0≤k∧k < (len:Int)∧len * (n+1)≤(rows (t6 tr) (n+1) off len).length∧0 < n+1:=⟨g.1,g.2,by rw [D6];exact Nat.le_refl _,oM⟩
    simp only [p8,m9,hu,l8,hx,hi,toD,hn,Option.bind_some,C3,decide_eq_true g2,C5]
    rw [b9v (show k.toNat < len by omega),b4p]
    rfl
  ·cases h
 ·cases h
theorem c5d {b:Builtin} {args:Array Operand} {ts:Array TypeId} {K:KV} (h:O2 CR X s nid (.call { callee:=.builtin b,args,argTypes:=ts }) K=some r) :
  ∃ v ws rs,K v ws rs=some r∧m9 X (l9 s) nid (.call { callee:=.builtin b,args,argTypes:=ts })=some ⟨true,toD v,B3 ws,rs⟩:=by
 simp only [O2] at h
 split at h
 ·rename_i x t ha ht
  split at h
  ·rename_i hu
   obtain ⟨l,c,hx,h⟩:=X5 h
   rw [CfI] at h
   exact ⟨_,_,_,h,by simp only [p8,m9,ha,ht,hu,l8,hx,r7,toD,O8];rfl⟩
  ·rename_i e hu
   split at h
   ·rename_i id n hx
    rw [CfI] at h
    exact ⟨_,_,_,h,by simp only [p8,m9,ha,ht,hu,l8,hx,r7,toD];rfl⟩
   ·split at h
    ·obtain ⟨tr,off,len,c,hx,h⟩:=a0h h
     rw [CfI] at h
     exact ⟨_,_,_,h,by simp only [p8,m9,ha,ht,hu,l8,hx,r7,toD];rfl⟩
    ·cases h
  ·cases h
 ·rename_i x y t ts' ha ht
  split at h
  ·rename_i k hu
   obtain ⟨a,hx,h⟩:=T9 h
   obtain ⟨b,hy,h⟩:=T9 h
   rw [CfI] at h
   refine ⟨_,_,_,h,?_⟩
   simp only [p8,m9,ha,l8,hx,hy,r7,toD,b8b,Z1]
   by_cases hab:a < b
   ·simp [hab,B3]
   ·simp [hab,B3]
  ·cases h
 ·rename_i x y t ts' ha ht
  split at h
  ·rename_i k hu
   obtain ⟨a,hx,h⟩:=T9 h
   obtain ⟨b,hy,h⟩:=T9 h
   rw [CfI] at h
   refine ⟨_,_,_,h,?_⟩
   simp only [p8,m9,ha,l8,hx,hy,r7,toD,b8b,Z1]
   by_cases hab:b < a
   ·simp [hab,B3]
   ·simp [hab,B3]
  ·cases h
 ·rename_i x y t u ha ht
  cases hb:Nat.beq t u with
  | false=>rw [hb] at h;cases h
  | true =>
   rw [hb] at h
   obtain ⟨v,ws,rs,h,hd⟩:=c4a h
   exact ⟨v,ws,rs,h,by simp only [p8,m9,ha,ht,hb,cond_true,l8,hd]⟩
 ·cases h

theorem c9s {P:Program} {t:TypeId} {same:Bool} {l c:V} {K:KV} (h:c8k CR P s nid t same l c K=some r):∃ v ws rs,K v ws rs=some r∧b2c P (l9 s) nid t same (toD l) (toD c)=some ⟨true,toD v,B3 ws,rs⟩:=by
 unfold c8k at h
 split at h
 ·rename_i e hu
  split at h
  ·rename_i n b z hn hb hz
   cases hg:Nat.beq z.length n && Nat.blt 0 n with
   | false=>rw [hg] at h;cases h
   | true =>
    rw [hg] at h
    simp only [cond_true] at h
    have hz':=a1b hz
    have hg':(Nat.beq (z.map toD).length n && Nat.blt 0 n)=true:=by rw [List.length_map];exact hg
    split at h
    ·obtain ⟨_,a,hl,h⟩:=L3 h
     obtain ⟨_,m,hc,h⟩:=L3 h
     obtain ⟨h0,h⟩:=A7 h
     have h0:band (iEq a 0) (band (iLe 0 m) (band (Nat.ble (iNat m * b) 140737488355328) (Nat.ble (iNat m) 140737488355328)))=true:=h0
     obtain ⟨hf,h⟩:=Y7 h
     refine ⟨_,_,_,h,?_⟩
     have hq:a=0∧0≤m∧m.toNat * b≤F8∧m.toNat≤F8:=by
      simp only [J2,P0,T8,C5,Bool.and_eq_true,beq_iff_eq,decide_eq_true_eq,Nat.ble_eq] at h0
      exact h0
     simp only [b2c,hu,hl,hc,hn,hb,hz',hg',cond_true,decide_eq_true hq,a5b hf,toD,rows,B3,List.map_cons,List.map_nil,x9]
    ·split at h
     ·rename_i z0
      split at h
      ·rename_i x hx
       obtain ⟨_,a,hl,h⟩:=L3 h
       obtain ⟨_,m,hc,h⟩:=L3 h
       obtain ⟨h0,h⟩:=A7 h
       have h0:band (iLe 0 a) (band (iEq a m) (band (Nat.ble (iNat a * b) 140737488355328) (Nat.ble (iNat a) 140737488355328)))=true:=h0
       rw [CfN] at h
       obtain ⟨tr,h,_,hnew⟩:=c63 (CR.iNat a) (t:=.nil) (i:=0) h
       obtain ⟨hf,h⟩:=Y7 h
       refine ⟨_,_,_,h,?_⟩
       have hq:0≤a∧a=m∧a.toNat * b≤F8∧a.toNat≤F8:=by
        simp only [J2,P0,T8,C5,Bool.and_eq_true,beq_iff_eq,decide_eq_true_eq,Nat.ble_eq] at h0
        exact h0
       have hn1:n=1:=by
        simp only [Bool.and_eq_true,List.length_cons,List.length_nil] at hg
        exact (Nat.eq_of_beq_eq_true hg.1).symm
       subst hn1
       have hia:CR.iNat a=a.toNat:=C5 a
       rw [hia] at hnew ⊢
       have hrows:rows (t6 tr) 1 0 a.toNat=a2i [toD z0] (a.toNat * 1):=by
        rw [a5y hx]
        have key:∀ (m off:Nat),(∀ k,k < m→G4 (t6 tr) (off+k)=den x)→rows (t6 tr) 1 off m=List.replicate m (den x 0):=by
         intro m
         induction m with
         | zero=>intro _ _;rfl
         | succ m ih =>
          intro off hk
          simp only [rows,n6,List.replicate_succ,List.cons_append,List.nil_append]
          have e0:=hk 0 oM
          rw [Nat.add_zero] at e0
          rw [e0,ih (off+1) (fun k hk'=>by have:=hk (k+1) oM;rw [show off+1+k=off+(k+1) by omega];exact this)]
        rw [key _ 0 hnew,Nat.mul_one]
        unfold a2i
        apply List.ext_getElem?
        intro i
        rcases Nat.lt_or_ge i a.toNat with hi | hi
        ·rw [List.getElem?_replicate,if_pos hi,List.getElem?_map,List.getElem?_range hi]
         simp [Nat.mod_one]
        ·rw [List.getElem?_eq_none (by simpa using hi),List.getElem?_eq_none (by simpa using hi)]
       simp only [b2c,hu,hl,hc,hn,hb,hz',hg',cond_true,decide_eq_true hq,a5b hf,toD,B3,List.map_cons,List.map_nil,x9,hrows]
       rfl
      ·cases h
     ·cases h
  ·cases h
 ·cases h
theorem d5i {o:Op} {K:KV} (h:O2 CR X s nid o K=some r):∃ v ws rs,K v ws rs=some r∧m9 X (l9 s) nid o=some ⟨true,toD v,B3 ws,rs⟩:=by
 cases o
 case move x=>exact ⟨_,_,_,h,by simp only [p8,m9,l8,r7];rfl⟩
 case assign x=>exact ⟨_,_,_,h,by simp only [p8,m9,l8,r7];rfl⟩
 case alloc t =>
  simp only [O2] at h
  split at h
  ·rename_i z hz
   obtain ⟨hf,h⟩:=Y7 h
   exact ⟨_,_,_,h,by simp only [p8,m9,a1b hz,a5b hf,toD,B3,List.map_cons,List.map_nil,x9]⟩
  ·cases h
 case box t x =>
  simp only [O2] at h
  split at h
  ·rename_i y m hx
   obtain ⟨hf,h⟩:=Y7 h
   exact ⟨_,_,_,h,by simp only [p8,m9,l8,hx,toD,D.ok,D.isAgg,Bool.or_true,cond_true,a5b hf,D.cells,B3,List.map_cons,List.map_nil,x9]⟩
  ·split at h
   ·rename_i cs hcs
    obtain ⟨hf,h⟩:=Y7 h
    obtain ⟨h1,h2⟩:=a2j hcs
    exact ⟨_,_,_,h,by simp only [p8,m9,l8,h1,cond_true,a5b hf,h2,toD,B3,List.map_cons,List.map_nil,x9]⟩
   ·cases h
 case build t parts=>exact d16 h
 case buildSlice t len parts=>exact b7x h
 case load t a=>exact d5x h
 case store t a x=>exact d4m h
 case nilCheck x =>
  simp only [O2] at h
  split at h
  ·rename_i hx;exact ⟨_,_,_,h,by simp only [p8,m9,l8,hx,toD,r7];rfl⟩
  ·rename_i hx;exact ⟨_,_,_,h,by simp only [p8,m9,l8,hx,toD,r7];rfl⟩
  ·rename_i hx;exact ⟨_,_,_,h,by simp only [p8,m9,l8,hx,toD,r7];rfl⟩
  ·cases h
 case binOp op t x y u =>
  simp only [O2] at h
  obtain ⟨v,h,hd⟩:=d3b h
  exact ⟨_,_,_,h,by simp only [p8,m9,l8,hd];rfl⟩
 case unOp op t x =>
  simp only [O2] at h
  split at h
  ·obtain ⟨b,hx,h⟩:=X2 h
   rw [CfB] at h
   exact ⟨_,_,_,h,by simp only [p8,m9,l8,hx,r7,toD,a12];rfl⟩
  ·rename_i k hu
   obtain ⟨n,hx,h⟩:=T9 h
   rw [CfI] at h
   exact ⟨_,_,_,h,by simp only [p8,m9,l8,hx,r7,toD,a1i,b1o];rfl⟩
  ·cases h
 case convert src dst x =>
  simp only [O2] at h
  obtain ⟨v,h,hd⟩:=c9m h
  exact ⟨_,_,_,h,by simp only [p8,m9,l8,hd];rfl⟩
 case makeInterface t x =>
  simp only [O2] at h
  split at h
  ·cases h
  ·rename_i u h1 hu
   refine ⟨_,_,_,h,?_⟩
   simp only [m9,l8,hu,r7,toD]
   cases u <;> first | rfl | exact (h1 _ rfl).elim
  ·cases h
 case makeFunc fn first captured =>
  simp only [O2] at h
  exact ⟨_,_,_,h,by simp only [p8,m9,c1r,r7,toD,A4];rfl⟩
 case makeSlice t l c =>
  simp only [O2] at h
  obtain ⟨v,ws,rs,h,hd⟩:=c9s h
  exact ⟨v,ws,rs,h,by simp only [m9,l8,hd]⟩
 case slice t x lo hi mx =>
  simp only [O2] at h
  obtain ⟨v,h,hd⟩:=c40 h
  exact ⟨_,_,_,h,by simp only [p8,m9,l8,hd];rfl⟩
 case fieldAddr t x f=>exact b97 h
 case field t x f=>exact d3f h
 case indexAddr t x i=>exact c0a h
 case index t x i =>
  simp only [O2] at h
  split at h
  ·rename_i hu
   obtain ⟨l,c,hx,h⟩:=X5 h
   obtain ⟨_,k,hi,h⟩:=L3 h
   obtain ⟨h0,h⟩:=A7 h
   have h0:(band (iLe 0 k) (iLt k (l:Int)))=true:=h0
   rw [CfI] at h
   have g:0≤k∧k < (l:Int):=by simpa [J2,T8,Z1] using h0
   have g2:0≤k∧k < ((k7 l c).length:Int):=by rw [O8];exact g
   refine ⟨_,_,_,h,?_⟩
   simp only [p8,m9,hu,l8,hx,hi,C3,decide_eq_true g2,toD,C5]
   rw [c7b (show k.toNat < l by omega)]
   rfl
  ·cases h
 case extract x i =>
  simp only [O2] at h
  split at h
  ·rename_i vs hx
   cases hb:Nat.blt i vs.length with
   | false=>rw [hb] at h;cases h
   | true =>
    rw [hb] at h
    have hl:i < vs.length:=by simpa [Nat.blt_eq] using hb
    refine ⟨_,_,_,h,?_⟩
    rw [a1z,List.getD_eq_getElem?_getD,List.getElem?_eq_getElem hl]
    simp only [p8,m9,l8,hx,toD,A4,List.getElem?_map,List.getElem?_eq_getElem hl,Option.map_some,r7,Option.getD_some]
    rfl
  ·cases h
 case call c =>
  obtain ⟨callee,args,ts⟩:=c
  cases callee with
  | builtin b=>exact c5d h
  | value f=>cases h
  | invoke x m=>cases h
 all_goals cases h
end

section
variable {f:Nat→Option Nat}
theorem map_toD {g:V→V} {h:D→D} (e:∀ v,toD (g v)=h (toD v)) (l:List V):(l.map g).map toD=(l.map toD).map h:=by
 rw [List.map_map,List.map_map];exact List.map_congr_left fun v _=>e v
theorem c1k (v:V):toD (T5 f v)=O1 f (toD v):=by
 cases v
 case slice t n off len c=>cases c <;> simp only [T5,toD,O1]
 case q x=>simp only [T5,toD];exact (U4 f x 0).symm
 case ptr id off=>simp only [T5,toD,O1];cases f id <;> simp only [toD]
 all_goals simp only [T5,toD,O1]
theorem b32 (x:Q) (i:Nat):a6o f (den x i)=den x i:=by
 have h1:=J3 x i
 have h2:=U4 f x i
 cases hd:den x i <;> rw [hd] at h1 h2 <;> first | exact h2 | (cases h1;done) | (exfalso;simp [O1] at h2;done)
theorem c29 (v:V):toD (X7 f v)=a6o f (toD v):=by
 cases v
 case func fn fs cs=>simp only [X7,toD,a6o,A4,map_toD (fun v=>c1k (f:=f) v)]
 case q x=>simp only [X7,T5,toD];exact (b32 x 0).symm
 all_goals (simp only [X7];rw [c1k];simp only [toD,a6o])
theorem a79 (v:V):toD (T4 f v)=a4t f (toD v):=by
 cases v
 case agg cs=>simp only [T4,toD,a4t,A4,map_toD (fun v=>c29 (f:=f) v)]
 case a x m =>
  simp only [T4,toD,a4t]
  congr 1
  rw [H1,List.map_map]
  exact List.map_congr_left fun i _=>(b32 x i).symm
 case q x =>
  simp only [T4,X7,T5,toD]
  have h1:=J3 x 0
  have h2:=b32 (f:=f) x 0
  cases hd:den x 0 <;> rw [hd] at h1 h2 <;> first | exact h2.symm | cases h1
 all_goals (simp only [T4];rw [c29];simp only [toD,a4t])
theorem a0j (v:V):toD (T2 f v)=renI f (toD v):=by
 cases v
 case iface t v=>simp only [T2,toD,renI,a79]
 case q x=>simp only [T2,T4,X7,T5,toD];exact (a19 f x 0).symm
 all_goals (simp only [T2];rw [a79];simp only [toD,renI])
theorem a63 (v:V):toD (a0a f v)=ren f (toD v):=by
 cases v
 case tuple vs=>simp only [a0a,toD,ren,A4,map_toD (fun v=>a0j (f:=f) v)]
 case q x =>
  simp only [a0a,T2,T4,X7,T5,toD]
  have h1:=J3 x 0
  have h2:=a19 f x 0
  cases hd:den x 0 <;> rw [hd] at h1 h2 <;> first | exact h2.symm | cases h1
 all_goals (simp only [a0a];rw [a0j];simp only [toD,ren])
end

def L9:Bx→Bool
 | .cells _ | .opa _ _ | .row _ _=>true
 | _=>false
def G0:Bx→List D
 | .cells cs=>cs.map toD
 | .opa x m=>n6 (den x) 0 m
 | .row t len=>rows (t6 t) 1 0 len
 | _=>[]
theorem a2b {b:Bx} (h:L9 b=true):x9 b=.cells (G0 b):=by cases b <;> first | rfl | cases h
def Z8 (f:Nat→Option Nat):Bx→Bx
 | .cells cs=>.cells (cs.map (T2 f))
 | b=>b
theorem b3u (f:Nat→Option Nat) (t:j0 Q):∀ (n m off:Nat),(rows (t6 t) n off m).map (renI f)=rows (t6 t) n off m
 | _,0,_=>rfl
 | n,m+1,off=>by
  simp only [rows,List.map_append,b3u f t n m]
  congr 1
  rw [U3]
  exact X8 f _ n 0
theorem b1x (f:Nat→Option Nat) {b:Bx}:G0 (Z8 f b)=(G0 b).map (renI f):=by
 cases b <;> simp only [Z8,G0]
 ·exact map_toD (fun v=>a0j v) _
 ·exact (X8 f _ _ 0).symm
 ·rfl
 ·exact (b3u f _ 1 _ 0).symm
 ·rfl
 ·rfl
theorem c7x (f:Nat→Option Nat) {b:Bx}:L9 (Z8 f b)=L9 b:=by cases b <;> rfl

/- What is kept of a state. -/
def T3 (f:Nat→Option Nat):V→V
 | .slice t n off len (.tok id)=>match f id with
  | some j=>.slice t n off len (.tok j)
  | none=>.slice t n off len .no
 | .slice t n off len .exact=>.slice t n off len .exact
 | .bslice id l=>match f id with
  | some j=>.bslice j l
  | none=>.junk
 | .agg cs=>T4 f (.agg cs)
 | .a x m=>.a x m
 | .tuple ds=>.tuple (ds.map (T2 f))
 | d=>T2 f d
theorem b3k (f:Nat→Option Nat) (v:V):toD (T3 f v)=N8 f (toD v):=by
 cases v
 case slice t n off len c =>
  cases c with
  | no=>simp only [T3,T2,T4,X7,T5,toD,N8,renI,a4t,a6o,O1]
  | exact=>simp only [T3,toD,N8]
  | tok id=>simp only [T3,toD,N8];cases f id <;> simp only [toD]
  | fr z=>simp only [T3,T2,T4,X7,T5,toD,N8,renI,a4t,a6o,O1]
 case bslice id l=>simp only [T3,toD,N8];cases f id <;> simp only [toD]
 case agg cs=>simp only [T3];rw [a79];simp only [toD,N8]
 case a x m =>
  have:=a79 (f:=f) (.a x m)
  simp only [T4,toD] at this
  simp only [T3,toD,N8]
  exact this
 case tuple ds=>simp only [T3,toD,N8,A4,map_toD (fun v=>a0j (f:=f) v)]
 case q x =>
  simp only [T3,T2,T4,X7,T5,toD]
  have h1:=J3 x 0
  have h2:=a19 f x 0
  have h3:=U4 f x 0
  cases hd:den x 0 <;> rw [hd] at h1 h2 h3 <;> first | exact h2.symm | cases h1 | skip
  all_goals (rename_i c;cases c <;> first | rfl | (simp only [O1] at h3;cases h3))
 all_goals (simp only [T3];rw [a0j];simp only [toD,N8])
def b3h (f:Nat→Option Nat):Bx→Bx
 | .cells cs=>.cells (cs.map (T3 f))
 | b=>b
theorem c3s (f:Nat→Option Nat) (x:Q) (i:Nat):N8 f (den x i)=den x i:=by
 have h1:=J3 x i
 have h2:=a19 f x i
 have h3:=U4 f x i
 cases hd:den x i <;> rw [hd] at h1 h2 h3 <;> first | exact h2 | cases h1 | skip
 all_goals (rename_i c;cases c <;> first | rfl | (simp only [O1] at h3;cases h3))
theorem c4z (f:Nat→Option Nat) (b:Bx):x9 (b3h f b)=a4g f (x9 b):=by
 cases b <;> simp only [b3h,x9,a4g]
 ·rw [map_toD (fun v=>b3k f v)]
 ·congr 1;rw [H1,List.map_map];exact List.map_congr_left fun i _=>(c3s f _ i).symm
 ·congr 1
  rename_i t len
  have:∀ (m off:Nat),(rows (t6 t) 1 off m).map (N8 f)=rows (t6 t) 1 off m:=by
   intro m
   induction m with
   | zero=>intro _;rfl
   | succ m ih =>
    intro off
    simp only [rows,List.map_append,ih]
    congr 1
    rw [U3,H1,List.map_map]
    exact List.map_congr_left fun i _=>c3s f _ i
  exact (this len 0).symm
def b3m:V→Option Nat
 | .ptr id _=>some id
 | _=>none
theorem a7g (x:Q) (i:Nat):pid (den x i)=none∧a8p (den x i)=[]∧a5z (den x i)=[]:=by
 have h1:=J3 x i
 have h3:=U4 U8 x i
 cases hd:den x i <;> rw [hd] at h1 h3 <;> first | exact ⟨rfl,rfl,rfl⟩ | cases h1 | (simp only [O1,U8] at h3;cases h3) | skip
 all_goals (rename_i c;cases c <;> first | exact ⟨rfl,rfl,rfl⟩ | (simp only [O1] at h3;cases h3))
theorem e11 (v:V):b3m v=pid (toD v):=by
 cases v <;> simp only [b3m,toD,pid]
 exact (a7g _ 0).1.symm
theorem a54 (l:List V):l.filterMap b3m=(l.map toD).filterMap pid:=by
 rw [List.filterMap_map];congr 1;funext v;exact e11 v
def b4h:V→List Nat
 | .ptr id _=>[id]
 | .func _ fs cs=>fs.filterMap b3m ++ cs.filterMap b3m
 | _=>[]
theorem d4z (v:V):b4h v=a8p (toD v):=by
 cases v <;> simp only [b4h,toD,a8p]
 ·exact (a7g _ 0).2.1.symm
 ·rw [A4,A4,a54,a54]
def b1u:V→List Nat
 | .ptr id _=>[id]
 | .slice _ _ _ _ (.tok id)=>[id]
 | .bslice id _=>[id]
 | .func _ fs cs=>fs.filterMap b3m ++ cs.filterMap b3m
 | _=>[]
theorem c1h (v:V):b1u v=a5z (toD v):=by
 cases v <;> simp only [b1u,toD,a5z]
 ·rename_i c;cases c <;> rfl
 ·exact (a7g _ 0).2.2.symm
 ·rw [A4,A4,a54,a54]
def a78 (n0:Nat) (ks:List Nat) (s:u5):List Nat :=
 let a:=b1e (List.range n0) (ks.flatMap fun i=>b1u (L4 s.tmps i))
 b1e a (a.flatMap fun id=>match M7 s.heap id with
  | .cells ds=>ds.flatMap b1u
  | _=>[])
theorem a14 {α β:Type} {f:α→List β}:∀ (l:List α),(∀ x ∈ l,f x=[])→l.flatMap f=[]
 | [],_=>rfl
 | x :: l,h=>by rw [List.flatMap_cons,h x List.mem_cons_self,a14 l fun y hy=>h y (List.mem_cons_of_mem _ hy)];rfl
theorem a2q (s:u5) (i:Nat):(l9 s).tmps.getD i .junk=toD (L4 s.tmps i):=l8 s (.tmp i)
theorem b87 (s:u5) (i:Nat):(l9 s).heap.getD i .dead=x9 (M7 s.heap i):=by
 rw [a11,List.getD_eq_getElem?_getD,List.getD_eq_getElem?_getD,b8f]
 cases s.heap[i]? <;> rfl
theorem b2q (n0:Nat) (ks:List Nat) (s:u5):a78 n0 ks s=a7c n0 ks (l9 s):=by
 unfold a78 a7c
 have e1:(ks.flatMap fun i=>b1u (L4 s.tmps i))=ks.flatMap fun i=>a5z ((l9 s).tmps.getD i .junk):=by
  congr 1;funext i;rw [a2q,c1h]
 have e2:(fun id=>match M7 s.heap id with | .cells ds=>ds.flatMap b1u | _=>[])=fun id=>match (l9 s).heap.getD id .dead with | .cells ds=>ds.flatMap a5z | _=>[]:=by
  funext id
  rw [b87]
  cases M7 s.heap id <;> simp only [x9]
  ·rw [List.flatMap_map];congr 1;funext v;exact c1h v
  ·rw [H1,List.flatMap_map];exact (a14 _ fun i _=>(a7g _ i).2.2).symm
  ·rename_i t len
   have:∀ (m off:Nat),(rows (t6 t) 1 off m).flatMap a5z=[]:=by
    intro m
    induction m with
    | zero=>intro _;rfl
    | succ m ih=>intro off;simp only [rows,List.flatMap_append,ih,List.append_nil];rw [U3,H1,List.flatMap_map];exact a14 _ fun i _=>(a7g _ i).2.2
   exact (this len 0).symm
 simp only [e1,e2]
 rfl
def a8l:V→V
 | .slice t n off len _=>.slice t n off len .no
 | v=>v
theorem b25 (v:V):toD (a8l v)=a0x (toD v):=by
 cases v <;> simp only [a8l,toD,a0x]
 rename_i x
 cases hd:den x 0 <;> first | rfl | skip
 rename_i l c k
 cases Y0 x 0 l c k hd
 rfl
def T7 (ids:List Nat):List (Nat × Nat)→u5→Nat→List V × List Bx
 | [],_,_=>([],[])
 | (i,z) :: ks,s,n=>bif Nat.beq z W0 then (a8l (T3 (pos · ids) (L4 s.tmps i)) :: (T7 ids ks s n).1,(T7 ids ks s n).2) else match L4 s.tmps i,z with
  | .slice t m off l .exact,z+1=>(.slice t m off l (.tok n) :: (T7 ids ks s (n+1)).1,.tok l (z+1) :: (T7 ids ks s (n+1)).2)
  | d,_=>(T3 (pos · ids) d :: (T7 ids ks s n).1,(T7 ids ks s n).2)
theorem a5o {ids:List Nat}:∀ (ks:List (Nat × Nat)) (s:u5) (n:Nat),(T7 ids ks s n).1.map toD=(I6 ids ks (l9 s) n).1∧(T7 ids ks s n).2.map x9=(I6 ids ks (l9 s) n).2
 | [],_,_=>⟨rfl,rfl⟩
 | (i,z) :: ks,s,n=>by
  obtain ⟨h1,h2⟩:=a5o (ids:=ids) ks s n
  obtain ⟨h3,h4⟩:=a5o (ids:=ids) ks s (n+1)
  simp only [T7,I6,a2q]
  cases hf:Nat.beq z W0 with
  | true=>simp only [cond_true,List.map_cons,b25,b3k,h1,h2,and_self]
  | false =>
  simp only [cond_false]
  generalize L4 s.tmps i=v
  have hplain:(T3 (pos · ids) v :: (T7 ids ks s n).1).map toD=N8 (pos · ids) (toD v) :: (I6 ids ks (l9 s) n).1:=by simp only [List.map_cons,b3k,h1]
  cases v
  case slice t m off l c =>
   cases c <;> cases z <;> first
    | exact ⟨hplain,h2⟩
    | (simp only [toD,List.map_cons,h3,h4,x9,and_self])
  case q x =>
   have hn:∀ l c,den x 0 ≠ .slice l c .exact:=fun l c hd=>by cases Y0 x 0 l c _ hd
   simp only [toD] at hplain ⊢
   generalize den x 0=d at hplain hn
   cases d with
   | slice l c k=>cases k <;> cases z <;> first | exact ⟨hplain,h2⟩ | exact (hn _ _ rfl).elim
   | _=>exact ⟨hplain,h2⟩
  all_goals exact ⟨hplain,h2⟩
def a9g (j c z:Nat) (h:List Bx):List Bx:=match M7 h j with
 | .cells cs=>bif Nat.blt c cs.length then bif Nat.beq z W0 then h.set j (.cells (cs.set c (a8l (L4 cs c)))) else match L4 cs c with
  | .slice t n off len .exact=>(h.set j (.cells (cs.set c (.slice t n off len (.tok h.length))))) ++ [.tok len z]
  | _=>h
  else h
 | _=>h
def b4r:List (Nat × Nat)→List Bx→List Bx
 | [],h=>h
 | (i,z) :: ks,h=>bif Nat.ble 1000000 i then b4r ks (a9g ((i - 1000000) / 1000) ((i - 1000000) % 1000) z h) else b4r ks h
theorem b0u {t:j0 Q}:∀ (m off i l:Nat) (c:List D) (k:W5),(rows (t6 t) 1 off m)[i]?=some (.slice l c k)→k=.no
 | 0,off,i,l,c,k,h=>by simp [rows] at h
 | m+1,off,0,l,c,k,h=>by
  simp only [rows,n6,List.cons_append,List.nil_append,List.getElem?_cons_zero] at h
  injection h with h
  exact b1z t off 0 l c k h
 | m+1,off,i+1,l,c,k,h=>by
  simp only [rows,n6,List.cons_append,List.nil_append,List.getElem?_cons_succ] at h
  exact b0u m (off+1) i l c k h
theorem c0c {x:Q} {m i l:Nat} {c:List D} {k:W5} (h:(n6 (den x) 0 m)[i]?=some (.slice l c k)):k=.no:=by
 rcases Nat.lt_or_ge i m with hi | hi
 ·rw [a32 _ _ _ hi] at h
  injection h with h
  exact Y0 x _ l c k h
 ·rw [List.getElem?_eq_none (by rw [B5];exact hi)] at h;cases h
theorem d6h {h:List Bx} {j:Nat}:(h.map x9)[j]?=if j < h.length then some (x9 (M7 h j)) else none:=by
 rw [a11,List.getD_eq_getElem?_getD,List.getElem?_map]
 split
 ·rename_i hj;rw [List.getElem?_eq_getElem hj];rfl
 ·rename_i hj;rw [List.getElem?_eq_none oM];rfl
theorem b8n {α:Type} {l:List α} {i:Nat} {x:α} (h:l[i]?=some x):l.set i x=l:=by
 apply List.ext_getElem?
 intro k
 by_cases hk:i=k
 ·subst hk;rw [List.getElem?_set_self (List.getElem?_eq_some_iff.1 h).1,h]
 ·rw [List.getElem?_set_ne hk]
theorem a9s {j c z:Nat} {h:List o9} {ds:List D} (hj:h[j]?=some (.cells ds)) (hd:∀ (i l:Nat) (x:List D) (k:W5),ds[i]?=some (D.slice l x k)→k=W5.no):tokCell j c z h=h:=by
 unfold tokCell
 rw [hj]
 simp only []
 split
 ·rename_i d hc
  have e:a0x d=d:=by
   cases d with
   | slice l x k=>cases hd c l x k hc;rfl
   | _=>rfl
  cases Nat.beq z W0 with
  | true =>
   simp only [cond_true]
   rw [e,b8n hc,b8n hj]
  | false =>
   simp only [cond_false]
   split
   ·cases hd c _ _ _ hc
   ·rfl
 ·rfl
theorem c5y (j c z:Nat) (h:List Bx):(a9g j c z h).map x9=tokCell j c z (h.map x9):=by
 rcases Nat.lt_or_ge j h.length with hj | hj
 ·have hg:(h.map x9)[j]?=some (x9 (M7 h j)):=by rw [d6h,if_pos hj]
  unfold a9g
  generalize hb:M7 h j=b at hg
  cases b with
  | cells cs =>
   unfold tokCell
   rw [hg]
   simp only [x9]
   cases hc:Nat.blt c cs.length with
   | true =>
    have hc':c < cs.length:=by rw [Nat.blt_eq] at hc;exact hc
    have e1:(cs.map toD)[c]?=some (toD (L4 cs c)):=by
     rw [a1z,List.getD_eq_getElem?_getD,List.getElem?_map,List.getElem?_eq_getElem hc'];rfl
    rw [e1]
    simp only [cond_true]
    cases hz:Nat.beq z W0 with
    | true=>simp only [cond_true,List.map_set,x9,b25]
    | false =>
     simp only [cond_false]
     generalize L4 cs c=v
     cases v
     case slice t n off len k =>
      cases k <;> simp only [toD,List.map_append,List.map_set,x9,List.map_cons,List.map_nil,List.length_map]
     case q x =>
      simp only [toD]
      cases hd:den x 0 <;> first | rfl | skip
      rename_i l d k
      cases Y0 x 0 l d k hd
      rfl
     all_goals simp only [toD]
   | false =>
    have hc':cs.length≤c:=by
     rcases Nat.lt_or_ge c cs.length with h1 | h1
     ·have:Nat.blt c cs.length=true:=by rw [Nat.blt_eq];exact h1
      rw [hc] at this;cases this
     ·exact h1
    have e1:(cs.map toD)[c]?=none:=List.getElem?_eq_none (by simpa using hc')
    rw [e1]
    rfl
  | opa x m=>exact (a9s hg (fun i l d k hd=>c0c hd)).symm
  | row t len=>exact (a9s hg (fun i l d k hd=>b0u _ _ _ _ _ _ hd)).symm
  | _=>unfold tokCell;rw [hg];rfl
 ·have e2:M7 h j=.dead:=by rw [a11,List.getD_eq_getElem?_getD,List.getElem?_eq_none hj];rfl
  have hg:(h.map x9)[j]?=none:=List.getElem?_eq_none (by simpa using hj)
  unfold a9g tokCell
  rw [e2,hg]
theorem b3j:∀ (ks:List (Nat × Nat)) (h:List Bx),(b4r ks h).map x9=tokB ks (h.map x9)
 | [],h=>rfl
 | (i,z) :: ks,h=>by
  simp only [b4r,tokB]
  cases Nat.ble 1000000 i with
  | true=>simp only [cond_true];rw [b3j,c5y]
  | false=>simp only [cond_false];rw [b3j]
def a45 (n0:Nat) (ks:List (Nat × Nat)) (s:u5):List V × List Bx :=
 let ids:=a78 n0 (a95 ks) s
 ((T7 ids ks s ids.length).1,b4r ks ((ids.map fun id=>b3h (pos · ids) (M7 s.heap id)) ++ (T7 ids ks s ids.length).2))
theorem b7f (n0:Nat) (ks:List (Nat × Nat)) (s:u5):gcV n0 ks (l9 s)=((a45 n0 ks s).1.map toD,(a45 n0 ks s).2.map x9):=by
 unfold gcV a45
 simp only [b2q,b3j,List.map_append,(a5o _ _ _).1,(a5o _ _ _).2,List.map_map]
 congr 3
 exact List.map_congr_left fun id _=>by simp only [Function.comp,c4z,b87]
def a3v (n0 n:Nat) (ks:List (Nat × Nat)) (s:u5):Bool:=b6u n0 (a78 n0 (a95 ks) s) && Nat.beq s.tmps.length n && decide (ks.map (·.1)).Nodup
theorem b3v (n0 n:Nat) (ks:List (Nat × Nat)) (s:u5):a3v n0 n ks s=a87 n0 n ks (l9 s):=by
 unfold a3v a87;rw [b2q];simp only [l9,List.length_map]
def c78 (n:Nat) (ks:List Nat) (vs:List V):List V:=(List.range n).map fun i=>match pos i ks with
 | some j=>L4 vs j
 | none=>.junk
def b16 (n:Nat) (ks:List (Nat × Nat)) (vs:List V) (bs:List Bx):u5:={ tmps:=c78 n (ks.map (·.1)) vs,heap:=bs }
theorem c2x (n:Nat) (ks:List (Nat × Nat)) (vs:List V) (bs:List Bx):l9 (b16 n ks vs bs)=a6t n ks (vs.map toD,bs.map x9):=by
 unfold b16 a6t l9 c78 c4v
 simp only [List.map_map]
 congr 1
 refine List.map_congr_left fun i _=>?_
 simp only [Function.comp]
 cases pos i (ks.map (·.1)) with
 | none=>simp only [toD]
 | some j =>
  simp only []
  rw [a1z,List.getD_eq_getElem?_getD,List.getD_eq_getElem?_getD,List.getElem?_map]
  cases vs[j]? <;> simp [toD]

abbrev B7:=List V→List Bx→Om
def b0m:H6→T6
 | .ret v=>.ret (toD v)
 | .pan v=>.pan (toD v)
def K4 (X:Pr) (g:FuncId) (F:B7):Prop:=∀ (vs:List V) (bs:List Bx) (x:H6) (bs':List Bx),F vs bs=some (x,bs')→bs.all L9=true →
 CM X.P X.G g (vs.map toD) (bs.map G0) (b0m x) (bs'.map G0)
theorem CM.pan_any {P:Program} {G:b0h} {f:FuncId} {ds:List D} {hs hs' hs2:List (List D)} {d:D} (h:CM P G f ds hs (.pan d) hs'):CM P G f ds hs (.pan d) hs2:=h
def c72:o9→Bool
 | .cells _=>true
 | _=>false
theorem d7q (b:Bx):L9 b=c72 (x9 b):=by cases b <;> rfl
theorem b8g {a b:List Bx} (h:a.map x9=b.map x9) (ha:a.all L9=true):b.all L9=true:=by
 have e:∀ l:List Bx,l.all L9=(l.map x9).all c72:=fun l=>by rw [List.all_map];congr 1;funext b;exact d7q b
 rw [e,← h,← e];exact ha
mutual
def eqQ:Q→Q→Bool
 | .bool a,.bool b=>bsel a b (bnot b)
 | .int k a,.int k' b=>cond (ikEq k k') (iEq a b) false
 | .str l c,.str l' c'=>cond (Nat.beq l l') (Nat.beq c c') false
 | .slice t n o l,.slice t' n' o' l'=>cond (Nat.beq n n') (cond (Nat.beq o o') (cond (Nat.beq l l') (eqT t t') false) false) false
 | .nilp,.nilp=>true
 | .nilIface,.nilIface=>true
 | .agg cs o,.agg cs' o'=>cond (Nat.beq o o') (c3k cs cs') false
 | .aggt t o,.aggt t' o'=>cond (Nat.beq o o') (eqT t t') false
 | .no,.no=>true
 | _,_=>false
def eqT:j0 Q→j0 Q→Bool
 | .nil,.nil=>true
 | .node v l r,.node v' l' r'=>cond (eqQ v v') (cond (eqT l l') (eqT r r') false) false
 | _,_=>false
def c3k:List Q→List Q→Bool
 | [],[]=>true
 | x :: xs,y :: ys=>cond (eqQ x y) (c3k xs ys) false
 | _,_=>false
end
theorem s8 {a b:Bool} (h:cond a b false=true):a=true∧b=true:=by cases a <;> simp_all
theorem b95 {a b:Bool} (h:bsel a b (bnot b)=true):a=b:=by cases a <;> cases b <;> first | rfl | cases h
theorem c1v {a b:Int} (h:iEq a b=true):a=b:=by rw [P0] at h;simpa using h
mutual
theorem b4o:∀ {a b:Q},eqQ a b=true→a=b
 | .bool a,b,h=>by cases b <;> simp only [eqQ] at h <;> first | (rw [b95 h]) | cases h
 | .int k a,b,h=>by
  cases b <;> simp only [eqQ] at h <;> first | cases h | skip
  obtain ⟨h1,h2⟩:=s8 h
  rw [a68 h1,c1v h2]
 | .str l c,b,h=>by
  cases b <;> simp only [eqQ] at h <;> first | cases h | skip
  obtain ⟨h1,h2⟩:=s8 h
  rw [Nat.eq_of_beq_eq_true h1,Nat.eq_of_beq_eq_true h2]
 | .slice t n o l,b,h=>by
  cases b <;> simp only [eqQ] at h <;> first | cases h | skip
  obtain ⟨h1,h⟩:=s8 h
  obtain ⟨h2,h⟩:=s8 h
  obtain ⟨h3,h⟩:=s8 h
  rw [Nat.eq_of_beq_eq_true h1,Nat.eq_of_beq_eq_true h2,Nat.eq_of_beq_eq_true h3,b1j h]
 | .nilp,b,h=>by cases b <;> simp only [eqQ] at h <;> first | rfl | cases h
 | .nilIface,b,h=>by cases b <;> simp only [eqQ] at h <;> first | rfl | cases h
 | .agg cs o,b,h=>by
  cases b <;> simp only [eqQ] at h <;> first | cases h | skip
  obtain ⟨h1,h⟩:=s8 h
  rw [Nat.eq_of_beq_eq_true h1,c79 h]
 | .aggt t o,b,h=>by
  cases b <;> simp only [eqQ] at h <;> first | cases h | skip
  obtain ⟨h1,h⟩:=s8 h
  rw [Nat.eq_of_beq_eq_true h1,b1j h]
 | .no,b,h=>by cases b <;> simp only [eqQ] at h <;> first | rfl | cases h
theorem b1j:∀ {a b:j0 Q},eqT a b=true→a=b
 | .nil,b,h=>by cases b <;> simp only [eqT] at h <;> first | rfl | cases h
 | .node v l r,b,h=>by
  cases b <;> simp only [eqT] at h <;> first | cases h | skip
  obtain ⟨h1,h⟩:=s8 h
  obtain ⟨h2,h⟩:=s8 h
  rw [b4o h1,b1j h2,b1j h]
theorem c79:∀ {a b:List Q},c3k a b=true→a=b
 | [],b,h=>by cases b <;> simp only [c3k] at h <;> first | rfl | cases h
 | x :: xs,b,h=>by
  cases b <;> simp only [c3k] at h <;> first | cases h | skip
  obtain ⟨h1,h⟩:=s8 h
  rw [b4o h1,c79 h]
end
def c08:W5→Bool
 | .no=>true
 | _=>false
def d2z:V→Bool
 | .bool _ | .known _ | .int _ _ | .str _ _ | .q _ | .nilp | .nilIface=>true
 | .slice _ _ _ _ c=>c08 c
 | _=>false
def c9p:V→V→Bool
 | .bool a,.bool b=>bsel a b (bnot b)
 | .int k a,.int k' b=>cond (ikEq k k') (iEq a b) false
 | .str l c,.str l' c'=>cond (Nat.beq l l') (Nat.beq c c') false
 | .slice t n o l c,.slice t' n' o' l' c'=>cond (c08 c) (cond (c08 c') (cond (Nat.beq n n') (cond (Nat.beq o o') (cond (Nat.beq l l') (eqT t t') false) false) false) false) false
 | .q x,.q y=>eqQ x y
 | .nilp,.nilp=>true
 | .nilIface,.nilIface=>true
 | _,_=>false
theorem c17 {c:W5} (h:c08 c=true):c=.no:=by cases c <;> first | rfl | cases h
theorem d55 {a b:V} (h:c9p a b=true):a=b:=by
 unfold c9p at h
 split at h <;> first | rfl | cases h | skip
 ·rw [b95 h]
 ·obtain ⟨h1,h2⟩:=s8 h;rw [a68 h1,c1v h2]
 ·obtain ⟨h1,h2⟩:=s8 h;rw [Nat.eq_of_beq_eq_true h1,Nat.eq_of_beq_eq_true h2]
 ·obtain ⟨g1,h⟩:=s8 h
  obtain ⟨g2,h⟩:=s8 h
  obtain ⟨h1,h⟩:=s8 h
  obtain ⟨h2,h⟩:=s8 h
  obtain ⟨h3,h⟩:=s8 h
  rw [c17 g1,c17 g2,Nat.eq_of_beq_eq_true h1,Nat.eq_of_beq_eq_true h2,Nat.eq_of_beq_eq_true h3,b1j h]
 ·rw [b4o h]
def b07:List V→List V→Bool
 | [],[]=>true
 | x :: xs,y :: ys=>cond (c9p x y) (b07 xs ys) false
 | _,_=>false
theorem b94:∀ {a b:List V},b07 a b=true→a=b
 | [],b,h=>by cases b <;> simp only [b07] at h <;> first | rfl | cases h
 | x :: xs,b,h=>by
  cases b <;> simp only [b07] at h <;> first | cases h | skip
  obtain ⟨h1,h⟩:=s8 h
  rw [d55 h1,b94 h]
def eqB:Bx→Bx→Bool
 | .cells a,.cells b=>b07 a b
 | .opa x m,.opa y n=>cond (Nat.beq m n) (eqQ x y) false
 | _,_=>false
theorem f0g {a b:Bx} (h:eqB a b=true):a=b:=by
 unfold eqB at h
 split at h <;> first | cases h | skip
 ·rw [b94 h]
 ·obtain ⟨h1,h⟩:=s8 h;rw [Nat.eq_of_beq_eq_true h1,b4o h]
def b4g:List Bx→List Bx→Bool
 | [],[]=>true
 | x :: xs,y :: ys=>cond (eqB x y) (b4g xs ys) false
 | _,_=>false
theorem c6t:∀ {a b:List Bx},b4g a b=true→a=b
 | [],b,h=>by cases b <;> simp only [b4g] at h <;> first | rfl | cases h
 | x :: xs,b,h=>by
  cases b <;> simp only [b4g] at h <;> first | cases h | skip
  obtain ⟨h1,h⟩:=s8 h
  rw [f0g h1,c6t h]
def same (a b:List Bx) (x:Om):Om:=cond (b4g a b) x none
def c4j:Bx→Bool
 | .cells cs=>cs.all d2z
 | .opa _ _=>true
 | _=>false
theorem c9v (f:Nat→Option Nat) {v:V} (h:d2z v=true):renI f (toD v)=toD v:=by
 rw [← a0j]
 cases v <;> first | rfl | cases h | skip
 rename_i c
 cases c <;> first | rfl | cases h
theorem b5n (f:Nat→Option Nat) {b:Bx} (h:c4j b=true):(G0 b).map (renI f)=G0 b:=by
 cases b <;> first | cases h | skip
 ·rename_i cs
  simp only [G0,List.map_map]
  refine List.map_congr_left fun v hv=>c9v f (List.all_eq_true.1 h v hv)
 ·exact X8 f _ _ 0
abbrev Q6:=FuncId→List Bx→V→List Bx→(V→Option (List Bx)→Om)→Om
def a2u (cr:Q6):Prop:=∀ (g:FuncId) (bs0:List Bx) (v:V) (bs:List Bx) (K:V→Option (List Bx)→Om) (r:R),cr g bs0 v bs K=some r →
 (∃ v' bs',toD v'=toD v∧bs'.map x9=bs.map x9∧K v' (some bs')=some r)∨(∃ v',toD v'=toD v∧bs=bs0∧K v' none=some r)
def u5.lay (s:u5) (ws:List (Nat × Bx)):u5:={ s with heap:=ws.foldl (fun h x=>h.set x.1 x.2) s.heap }
def u5.put (s:u5) (dst:Option Tmp) (v:V):u5:=match dst with
 | some t=>{ s with tmps:=s.tmps.set t v }
 | none=>s
theorem a1y (s:u5) (dst:Option Tmp) (v:V):l9 (s.put dst v)=(l9 s).put dst (toD v):=by
 cases dst with
 | none=>rfl
 | some t=>simp only [u5.put,l9,St.put,List.map_set]
theorem b3y (s:u5) (ws:List (Nat × Bx)):l9 (s.lay ws)=(l9 s).lay (B3 ws):=by
 unfold u5.lay St.lay B3 l9
 simp only []
 congr 1
 rw [List.foldl_map]
 generalize s.heap=h
 induction ws generalizing h with
 | nil=>rfl
 | cons x ws ih=>simp only [List.foldl_cons];rw [ih,List.map_set]

def b7o (C:Comb):u5→List V→(List V→List Nat→Om)→Om
 | _,[],K=>K [] []
 | s,.bslice id len :: vs,K=>match M7 s.heap id with
  | .row t len'=>C.chk (C.nEq len len') (b7o C { s with heap:=s.heap.set id .dead } vs fun vs' ks=>K (.slice t 1 0 len .no :: vs') (id :: ks))
  | _=>none
 | s,v :: vs,K=>b7o C s vs fun vs' ks=>K (v :: vs') ks
def a7d (h:List Bx):List Nat→Option (List Bx)
 | []=>some []
 | id :: ids=>bif L9 (M7 h id) then (a7d h ids).map (M7 h id :: ·) else none
def b1v (ids:List Nat) (bs:List Bx):List (Nat × Bx):=(ids.zip bs).map fun p=>(p.1,Z8 (ids[·]?) p.2)
def a4m:V→V
 | .slice t n off len (.fr _)=>.slice t n off len .no
 | v=>v
def b6c (nid:Nat):List V→Option (List V × List (Nat × Bx))
 | []=>some ([],[])
 | v :: vs=>match v with
  | .slice t n off len (.fr z)=>bif Nat.beq n z then some (.slice t n off len (.tok nid) :: vs.map a4m,[(nid,.tok len z)]) else none
  | v=>(b6c nid vs).map fun p=>(v :: p.1,p.2)
def d77 (nid:Nat):V→Option (V × List (Nat × Bx))
 | .tuple vs=>(b6c nid vs).map fun p=>(.tuple p.1,p.2)
 | .slice t n off len (.fr z)=>bif Nat.beq n z then some (.slice t n off len (.tok nid),[(nid,.tok len z)]) else none
 | v=>some (v,[])
def c07 (s:u5) (nid:Nat) (v:V) (ws:List (Nat × Bx)) (rs:List Nat) (K:KV):Om :=
 match d77 nid v with
 | some (v',[])=>K v' ws rs
 | some (v',x :: xs)=>cond (a0t (s.lay ws) nid) (K v' (ws ++ x :: xs) (nid :: rs)) none
 | none=>none
def e1f (C:Comb) (fn:FuncId→B7) (cr:Q6) (s:u5) (nid:Nat) (g:FuncId) (vs:List V) (K:KV) (Kp:V→List Nat→Om):Om :=
 b7o C s vs fun vs' ks =>
  let ids:=T1 (vs'.flatMap b4h)
  match a7d (s.lay (ks.map fun k=>(k,.dead))).heap ids with
  | some bs=>C.bind (fn g (vs'.map (a0a (pos · ids))) (bs.map (Z8 (pos · ids))))
    (fun v bs'=>cr g (bs.map (Z8 (pos · ids))) v bs' fun v o=>match o with
     | some bs'=>bif Nat.beq bs'.length ids.length && bs'.all L9 then c07 s nid (a0a (ids[·]?) v) ((ks.map fun k=>(k,Bx.dead)) ++ b1v ids bs') (ids ++ ks) K else none
     | none=>bif bs.all c4j then c07 s nid (a0a (ids[·]?) v) (ks.map fun k=>(k,Bx.dead)) (ids ++ ks) K else none) (fun v=>Kp (C.rn0 v) (ids ++ ks))
  | none=>none

section
variable {X:Pr} {r:R}
theorem a6f {h:List Bx}:∀ {ids:List Nat} {bs:List Bx},a7d h ids=some bs→O3 (h.map x9) ids=some (bs.map G0)∧bs.all L9=true∧bs.length=ids.length
 | [],bs,hb=>by simp only [a7d] at hb;injection hb with hb;subst hb;exact ⟨rfl,rfl,rfl⟩
 | id :: ids,bs,hb=>by
  simp only [a7d] at hb
  cases ho:L9 (M7 h id) with
  | false=>rw [ho] at hb;cases hb
  | true =>
   rw [ho] at hb
   obtain ⟨bs',h1,rfl⟩:=Option.map_eq_some_iff.1 hb
   obtain ⟨h2,h3,h4⟩:=a6f h1
   have e:(h.map x9)[id]?=some (.cells (G0 (M7 h id))):=by
    rw [← a2b ho,List.getElem?_map,a11,List.getD_eq_getElem?_getD]
    cases hi:h[id]? with
    | none=>rw [a11,List.getD_eq_getElem?_getD,hi] at ho;cases ho
    | some x=>rfl
   refine ⟨?_,by simp only [List.all_cons,ho,h3,Bool.and_self],by simp [h4]⟩
   simp only [O3,e,h2,Option.map_some,List.map_cons]
theorem b05:∀ {vs:List V} {s:u5} {K:List V→List Nat→Om},b7o CR s vs K=some r→∃ vs' ks,K vs' ks=some r∧frz (l9 s) (vs.map toD)=some (vs'.map toD,ks)
 | [],s,K,h=>⟨[],[],h,rfl⟩
 | v :: vs,s,K,h=>by
  by_cases hb:∃ id len,v=.bslice id len
  ·obtain ⟨id,len,rfl⟩:=hb
   simp only [b7o] at h
   split at h
   ·rename_i t len' hbx
    obtain ⟨h0,h'⟩:=A7 h
    have h0:(Nat.beq len len')=true:=h0
    have he:=Nat.eq_of_beq_eq_true h0
    subst he
    obtain ⟨vs',ks,h,hf⟩:=b05 h'
    have hh:=R2 hbx (by simp)
    refine ⟨_,_,h,?_⟩
    have e:l9 { s with heap:=s.heap.set id .dead }={ l9 s with heap:=(l9 s).heap.set id .dead }:=by simp only [l9,List.map_set,x9]
    rw [e] at hf
    simp only [List.map_cons,toD,frz,hh,x9,hf,Option.map_some,b3u]
   ·cases h
  ·have h':b7o CR s vs (fun vs' ks=>K (v :: vs') ks)=some r:=by
    rw [← h]
    cases v <;> first | rfl | exact absurd ⟨_,_,rfl⟩ hb
   obtain ⟨vs',ks,h',hf⟩:=b05 h'
   refine ⟨_,_,h',?_⟩
   have hd:¬∃ id len,toD v=.bslice id len:=by
    rintro ⟨id,len,hd⟩
    cases v <;> simp only [toD] at hd <;> first | (cases hd;done) | skip
    ·have h3:=congrArg (O1 U8) hd;rw [U4,hd] at h3;simp only [O1] at h3;cases h3
    ·exact hb ⟨_,_,rfl⟩
   simp only [List.map_cons]
   have e:frz (l9 s) (toD v :: vs.map toD)=(frz (l9 s) (vs.map toD)).map fun p=>(toD v :: p.1,p.2):=by
    cases hv:toD v <;> first | rfl | exact absurd ⟨_,_,hv⟩ hd
   rw [e,hf]
   rfl
theorem d0j {ids:List Nat} {bs:List Bx} (h:bs.all L9=true):B3 (b1v ids bs)=a5j ids (bs.map G0):=by
 unfold b1v a5j B3
 rw [List.map_map,List.zip_map_right,List.map_map]
 refine List.map_congr_left fun p hp=>?_
 have hm:p.2 ∈ bs:=(List.of_mem_zip hp).2
 have ho:=List.all_eq_true.1 h _ hm
 simp only [Function.comp,Prod.map,id]
 rw [a2b (by rw [c7x];exact ho),b1x]
theorem b42 (v:V):toD (a4m v)=Z2 (toD v):=by
 cases v
 case slice t n off len c=>cases c <;> simp only [a4m,toD,Z2]
 case q x =>
  simp only [a4m,toD]
  have h:=U4 U8 x 0
  have h1:=J3 x 0
  cases hd:den x 0 <;> first | rfl | skip
  rename_i l c k
  cases k <;> first | rfl | skip
  exfalso
  exact c3d hd
 all_goals simp only [a4m,toD,Z2]
theorem b6s {nid:Nat}:∀ {vs vs':List V} {ws:List (Nat × Bx)},b6c nid vs=some (vs',ws)→Z9 nid (vs.map toD)=(vs'.map toD,B3 ws)
 | [],vs',ws,h=>by simp only [b6c] at h;injection h with h;injection h with h1 h2;subst h1 h2;rfl
 | v :: vs,vs',ws,h=>by
  simp only [b6c] at h
  split at h
  ·rename_i t n off len z
   cases hz:Nat.beq n z with
   | false=>rw [hz] at h;cases h
   | true =>
    rw [hz] at h
    injection h with h;injection h with h1 h2;subst h1 h2
    have:=Nat.eq_of_beq_eq_true hz
    subst this
    simp only [List.map_cons,toD,Z9,D6,Nat.beq_refl,cond_true,B3,x9,List.map_nil,map_toD (fun v=>b42 v)]
  ·rename_i hnf
   obtain ⟨p,hp,he⟩:=Option.map_eq_some_iff.1 h
   obtain ⟨p1,p2⟩:=p
   injection he with h1 h2;subst h1 h2
   have ih:=b6s hp
   have hnd:∀ l c z,toD v ≠ .slice l c (.fr z):=fun l c z hd=>by
    cases v <;> simp only [toD] at hd <;> first | (cases hd;done) | skip
    ·injection hd with _ _ hd;subst hd;exact hnf _ _ _ _ _ rfl
    ·exact c3d hd
   rw [List.map_cons,List.map_cons]
   unfold Z9
   split
   ·rename_i hd;exact absurd hd (hnd _ _ _)
   ·rw [ih]
theorem b9l {nid:Nat} {v v':V} {ws:List (Nat × Bx)} (h:d77 nid v=some (v',ws)):own nid (toD v)=(toD v',B3 ws):=by
 unfold d77 at h
 split at h
 ·obtain ⟨p,hp,he⟩:=Option.map_eq_some_iff.1 h
  obtain ⟨p1,p2⟩:=p
  injection he with h1 h2;subst h1 h2
  simp only [toD,own,A4,b6s hp]
 ·rename_i t n off len z
  cases hz:Nat.beq n z with
  | false=>rw [hz] at h;cases h
  | true =>
   rw [hz] at h
   injection h with h;injection h with h1 h2;subst h1 h2
   have:=Nat.eq_of_beq_eq_true hz
   subst this
   simp only [toD,own,D6,Nat.beq_refl,cond_true,B3,x9,List.map_cons,List.map_nil]
 ·rename_i h1 h2
  injection h with h;injection h with q1 q2;subst q1 q2
  unfold own
  split
  ·rename_i ds hd
   exfalso
   cases v <;> simp only [toD] at hd <;> first | (cases hd;done) | skip
   ·rename_i x;have:=J3 x 0;rw [hd] at this;cases this
   ·exact h1 _ rfl
  ·rename_i hd
   exfalso
   cases v <;> simp only [toD] at hd <;> first | (cases hd;done) | skip
   ·injection hd with _ _ hd;subst hd;exact h2 _ _ _ _ _ rfl
   ·exact c3d hd
  ·rfl
theorem b5m {s:u5} {nid:Nat} {v:V} {ws:List (Nat × Bx)} {rs:List Nat} {K:KV} (h:c07 s nid v ws rs K=some r) {K':D→List (Nat × o9)→List Nat→Prop} (hK:∀ v ws rs,K v ws rs=some r→K' (toD v) (B3 ws) rs) :
  a0g (l9 s) nid (toD v) (B3 ws) rs K':=by
 unfold c07 at h
 unfold a0g
 split at h
 ·rename_i v' ho
  rw [b9l ho]
  exact hK _ _ _ h
 ·rename_i v' x xs ho
  rw [b9l ho]
  simp only [B3,List.map_cons]
  cases hf:a0t (s.lay ws) nid with
  | false=>rw [hf] at h;cases h
  | true =>
   rw [hf] at h
   have e:B4 ((l9 s).lay (ws.map fun p=>(p.1,x9 p.2))) nid=true:=by
    have:=a5l hf
    rw [b3y] at this
    exact this
   rw [e]
   have:=hK _ _ _ h
   simp only [B3,List.map_append,List.map_cons] at this
   exact this
 ·cases h
theorem d0t {fn:FuncId→B7} {cr:Q6} (htab:X.tab=[]) (hfn:∀ g,K4 X g (fn g)) (hcr:a2u cr) {s:u5} {nid:Nat} {g:FuncId} {vs:List V} {K:KV} {Kp:V→List Nat→Om} (h:e1f CR fn cr s nid g vs K Kp=some r)
  {K':D→List (Nat × o9)→List Nat→Prop} {Kp':D→List Nat→Prop} (hK:∀ v ws rs,K v ws rs=some r→K' (toD v) (B3 ws) rs) (hKp:∀ v rs,Kp v rs=some r→Kp' (toD v) rs):Z4 X (l9 s) nid g (vs.map toD) K' Kp':=by
 obtain ⟨vs',ks,h,hf⟩:=b05 h
 unfold Z4
 rw [hf]
 simp only [] at h ⊢
 have eids:T1 ((vs'.map toD).flatMap a8p)=T1 (vs'.flatMap b4h):=by
  rw [List.flatMap_map];congr 2;funext v;exact (d4z v).symm
 rw [eids]
 generalize T1 (vs'.flatMap b4h)=ids at h ⊢
 have elay:(l9 s).lay (ks.map fun k=>(k,o9.dead))=l9 (s.lay (ks.map fun k=>(k,Bx.dead))):=by
  rw [b3y];congr 1;unfold B3;rw [List.map_map];rfl
 rw [elay]
 split at h
 ·rename_i bs hb
  obtain ⟨h1,h2,h3⟩:=a6f hb
  have h1':O3 (l9 (s.lay (ks.map fun k=>(k,Bx.dead)))).heap ids=some (bs.map G0):=h1
  rw [h1']
  simp only []
  have hall:(bs.map (Z8 (pos · ids))).all L9=true:=by
   rw [List.all_map];rw [List.all_eq_true] at h2 ⊢;intro b hbm;simp only [Function.comp,c7x];exact h2 b hbm
  have e1:(vs'.map toD).map (ren (pos · ids))=(vs'.map (a0a (pos · ids))).map toD:=(map_toD (fun v=>a63 v) vs').symm
  have e2:(bs.map G0).map (fun x=>x.map (renI (pos · ids)))=(bs.map (Z8 (pos · ids))).map G0:=by
   rw [List.map_map,List.map_map];exact List.map_congr_left fun b _=>(b1x (pos · ids)).symm
  rw [e1,e2]
  unfold b2d
  rw [htab]
  simp only [a4l]
  have h:bind (fn g (vs'.map (a0a (pos · ids))) (bs.map (Z8 (pos · ids)))) _ _=some r:=h
  unfold bind at h
  split at h
  ·rename_i v bs' hcall
   have hcm:=hfn g _ _ _ _ hcall hall
   rcases hcr _ _ _ _ _ _ h with ⟨v2,bs2,ev,eb,hk⟩ | ⟨v2,ev,eb,hk⟩
   ·simp only [] at hk
    cases hg:Nat.beq bs2.length ids.length && bs2.all L9 with
    | false=>rw [hg] at hk;cases hk
    | true =>
     rw [hg] at hk
     rw [Bool.and_eq_true] at hg
     have hl2:=Nat.eq_of_beq_eq_true hg.1
     have hok:=b8g eb hg.2
     have ebD:bs2.map G0=bs'.map G0:=by
      have hl:bs2.length=bs'.length:=by have:=congrArg List.length eb;simpa using this
      apply List.ext_getElem
      ·simpa using hl
      ·intro i hi1 hi2
       simp only [List.length_map] at hi1 hi2
       simp only [List.getElem_map]
       have q1:=List.all_eq_true.1 hg.2 _ (List.getElem_mem hi1)
       have q2:=List.all_eq_true.1 hok _ (List.getElem_mem hi2)
       have q3:(bs2.map x9)[i]?=(bs'.map x9)[i]?:=by rw [eb]
       rw [List.getElem?_map,List.getElem?_map,List.getElem?_eq_getElem hi1,List.getElem?_eq_getElem hi2] at q3
       simp only [Option.map_some] at q3
       injection q3 with q3
       rw [a2b q1,a2b q2] at q3
       injection q3
     refine .ret (toD v) (bs'.map G0) hcm (by rw [← ebD,List.length_map];exact hl2) ?_
     have:=b5m hk hK
     rw [a63,ev] at this
     have e3:B3 ((ks.map fun k=>(k,Bx.dead)) ++ b1v ids bs2)=(ks.map fun k=>(k,o9.dead)) ++ a5j ids (bs'.map G0):=by
      rw [← ebD,← d0j hg.2];unfold B3;rw [List.map_append,List.map_map];rfl
     rw [e3] at this
     exact .inl this
   ·simp only [] at hk
    cases hg:bs.all c4j with
    | false=>rw [hg] at hk;cases hk
    | true =>
     rw [hg] at hk
     subst eb
     refine .ret (toD v) _ hcm (by simp [h3]) (.inr ⟨?_,?_⟩)
     ·rw [List.map_map,List.map_map]
      refine List.map_congr_left fun b hb=>?_
      have hp:=List.all_eq_true.1 hg b hb
      simp only [Function.comp]
      rw [b1x,b5n _ hp,b5n _ hp]
     ·have:=b5m hk hK
      rw [a63,ev] at this
      have e3:B3 (ks.map fun k=>(k,Bx.dead))=ks.map fun k=>(k,o9.dead):=by unfold B3;rw [List.map_map];rfl
      rw [e3] at this
      exact this
  ·rename_i v bs' hcall
   have hcm:=hfn g _ _ _ _ hcall hall
   refine .pan (toD v) (bs.map G0) (CM.pan_any hcm) (by simp [h3]) ?_
   have:=hKp _ _ h
   rw [show CR.rn0 v=a0a U8 v from rfl,a63] at this
   exact this
  ·cases h
 ·cases h

def d7b (C:Comb) (X:Pr) (fn:FuncId→B7) (cr:Q6) (s:u5) (nid:Nat) (o:Op) (K:KV) (Kp:V→List Nat→Om):Om :=
 match o with
 | .call { callee:=.value f,args,.. }=>match s.eval f with
  | .func (.func g) fs cs=>e1f C fn cr s nid g (fs ++ args.toList.map s.eval ++ cs) K Kp
  | _=>none
 | .panic x=>match s.eval x with
  | .iface t d=>Kp (a0a U8 (.iface t d)) []
  | _=>none
 | .pick c a b=>match s.eval c with
  | .known t=>cond t (K (s.eval a) [] []) (K (s.eval b) [] [])
  | v=>vB C v fun t=>C.cnd t (K (s.eval a) [] []) (K (s.eval b) [] [])
 | o=>O2 C X s nid o K
theorem d4g {fn:FuncId→B7} {cr:Q6} (htab:X.tab=[]) (hfn:∀ g,K4 X g (fn g)) (hcr:a2u cr) {s:u5} {nid:Nat} {o:Op} {K:KV} {Kp:V→List Nat→Om} (h:d7b CR X fn cr s nid o K Kp=some r)
  {K':D→List (Nat × o9)→List Nat→Prop} {Kp':D→List Nat→Prop} (hK:∀ v ws rs,K v ws rs=some r→K' (toD v) (B3 ws) rs) (hKp:∀ v rs,Kp v rs=some r→Kp' (toD v) rs):L8 X (l9 s) nid o K' Kp':=by
 have hrest:∀ o:Op,O2 CR X s nid o K=some r→(match m9 X (l9 s) nid o with | some out=>cond out.need (K' out.val out.ws out.rs) False | none=>False):=by
  intro o h
  obtain ⟨v,ws,rs,h,hd⟩:=d5i h
  rw [hd]
  exact hK _ _ _ h
 unfold d7b at h
 unfold L8
 split at h
 ·rename_i f args ts
  simp only []
  split at h
  ·rename_i g fs cs hf
   rw [l8,hf]
   simp only [toD]
   have:=d0t htab hfn hcr h hK hKp
   rw [List.map_append,List.map_append] at this
   rw [A4,A4,c1r]
   exact this
  ·cases h
 ·rename_i x
  simp only []
  split at h
  ·rename_i t d hx
   rw [l8,hx]
   have:=hKp _ _ h
   rw [a63] at this
   simp only [toD] at this ⊢
   exact this
  ·cases h
 ·rename_i c a b
  simp only [l8]
  split at h
  ·rename_i t hc
   rw [hc]
   simp only [toD]
   cases t
   ·exact hK _ _ _ h
   ·exact hK _ _ _ h
  ·obtain ⟨t,hc,h⟩:=X2 h
   rw [hc]
   simp only []
   have h:cnd t _ _=some r:=h
   rw [a7s] at h
   cases t
   ·exact hK _ _ _ h
   ·exact hK _ _ _ h
 ·rename_i h1 h2 h3
  split
  ·exact absurd rfl (h1 _ _ _)
  ·exact absurd rfl (h2 _)
  ·exact absurd rfl (h3 _ _ _)
  ·exact hrest o h

def c4x (C:Comb) (ops:Array Oper) (s:u5) (o:Oper) (Ky Kn:u5→Om):Om :=
 match o.guard with
 | none=>Ky s
 | some (j,want)=>match b1i ops j with
  | none=>Kn s
  | some t=>bif Nat.blt t s.tmps.length then
    match L4 s.tmps t with
    | .known b=>cond (cond want b (!b)) (Ky s) (Kn s)
    | .tuple _=>Kn s
    | v=>vB C v fun b=>match want with
     | true=>C.cnd b (Ky (s.put (some t) (.known true))) (Kn (s.put (some t) (.known false)))
     | false=>C.cnd b (Kn (s.put (some t) (.known true))) (Ky (s.put (some t) (.known false)))
   else Kn s
theorem c5z {ops:Array Oper} {s:u5} {o:Oper} {Ky Kn:u5→Om} (h:c4x CR ops s o Ky Kn=some r) {Ky' Kn':St→Prop} (hy:∀ s,Ky s=some r→Ky' (l9 s)) (hn:∀ s,Kn s=some r→Kn' (l9 s)):a4x ops (l9 s) o Ky' Kn':=by
 unfold c4x at h
 unfold a4x
 split at h
 ·rename_i hg;rw [hg];exact hy _ h
 ·rename_i j want hg
  rw [hg]
  simp only []
  split at h
  ·rename_i ht;rw [ht];exact hn _ h
  ·rename_i t ht
   rw [ht]
   simp only []
   cases hb:Nat.blt t s.tmps.length with
   | false =>
    rw [hb] at h
    have hl:s.tmps.length≤t:=by
     rcases Nat.lt_or_ge t s.tmps.length with h1 | h1
     ·have:Nat.blt t s.tmps.length=true:=by rw [Nat.blt_eq];exact h1
      rw [hb] at this;cases this
     ·exact h1
    have e:(l9 s).tmps[t]?=none:=by simp only [l9,List.getElem?_map,List.getElem?_eq_none hl,Option.map_none]
    rw [e]
    exact hn _ h
   | true =>
    rw [hb] at h
    have hl:t < s.tmps.length:=by rw [Nat.blt_eq] at hb;exact hb
    have e:(l9 s).tmps[t]?=some (toD (L4 s.tmps t)):=by
     rw [a1z,List.getD_eq_getElem?_getD,List.getElem?_eq_getElem hl]
     simp only [l9,List.getElem?_map,List.getElem?_eq_getElem hl,Option.map_some,Option.getD_some]
    rw [e]
    simp only [cond_true] at h
    have key:∀ b,toD (L4 s.tmps t)=.bool b→(l9 s).put (some t) (.bool b)=l9 s:=fun b hb=>b3w (by rw [e,hb])
    split at h
    ·rename_i b hv
     rw [hv]
     have k1:=key b (by rw [hv];simp only [toD])
     simp only [toD]
     cases want <;> cases b <;> simp only [cond_true,cond_false,Bool.not_true,Bool.not_false] at h ⊢ <;> rw [k1] <;> first | exact hy _ h | exact hn _ h
    ·rename_i hv
     rw [hv]
     simp only [toD]
     exact hn _ h
    ·obtain ⟨b,hv,h⟩:=X2 h
     rw [hv]
     simp only []
     have p1:=a1y s (some t) (.known true)
     have p2:=a1y s (some t) (.known false)
     simp only [toD] at p1 p2
     cases want
     ·have h:cnd b _ _=some r:=h
      rw [a7s] at h
      cases b <;> simp only [cond_true,cond_false] at h ⊢
      ·rw [← p2];exact hy _ h
      ·rw [← p1];exact hn _ h
     ·have h:cnd b _ _=some r:=h
      rw [a7s] at h
      cases b <;> simp only [cond_true,cond_false] at h ⊢
      ·rw [← p2];exact hn _ h
      ·rw [← p1];exact hy _ h

def fLV (l:List V):(List V→Om)→Om:=List.rec (motive:=fun _=>(List V→Om)→Om) (fun K=>K []) (fun x _ ih K=>ih fun l=>K (x :: l)) l
def fLB (l:List Bx):(List Bx→Om)→Om:=List.rec (motive:=fun _=>(List Bx→Om)→Om) (fun K=>K []) (fun x _ ih K=>ih fun l=>K (x :: l)) l
def fSt (s:u5) (K:u5→Om):Om:=fLV s.tmps fun t=>fLB s.heap fun h=>K ⟨t,h⟩
theorem d1p:∀ (l:List V) (K:List V→Om),fLV l K=K l
 | [],_=>rfl
 | x :: l,K=>d1p l fun l=>K (x :: l)
theorem d17:∀ (l:List Bx) (K:List Bx→Om),fLB l K=K l
 | [],_=>rfl
 | x :: l,K=>d17 l fun l=>K (x :: l)
theorem b0p (s:u5) (K:u5→Om):fSt s K=K s:=by unfold fSt;rw [d1p,d17]
def b0b (C:Comb) (X:Pr) (fn:FuncId→B7) (cr:Q6) (ops:Array Oper) (nid:Nat→Nat):List Nat→u5→List Tr→(u5→List Tr→Om)→(Nat→V→List Nat→List Tr→Om)→Om
 | [],s,tr,K,_=>K s tr
 | i :: l,s,tr,K,Kp=>match ops[i]? with
  | none=>b0b C X fn cr ops nid l s tr K Kp
  | some o=>c4x C ops s o
    (fun s=>d7b C X fn cr s (nid i) o.op (fun d ws rs=>fSt ((s.lay ws).put o.dst d) fun s=>b0b C X fn cr ops nid l s (⟨i,o.dst,.junk,ws.map fun p=>(p.1,.dead),rs⟩ :: tr) K Kp) (fun d rs=>Kp i d rs tr))
    (fun s=>fSt (s.put o.dst (.tuple [])) fun s=>b0b C X fn cr ops nid l s (⟨i,o.dst,.junk,[],[]⟩ :: tr) K Kp)
def Tr.face (t:Tr):Nat × Option Tmp × List Nat × List Nat:=(t.i,t.dst,t.ids,t.rs)
theorem d0o {ops:Array Oper} {x y x' y':Tr} (hx:x.face=x'.face) (hy:y.face=y'.face):M6 ops x y=M6 ops x' y':=by
 unfold Tr.face at hx hy
 injection hx with h1 hx;injection hx with h2 hx;injection hx with h3 h4
 injection hy with g1 hy;injection hy with g2 hy;injection hy with g3 g4
 unfold M6
 rw [h1,h2,h3,h4,g1,g2,g3,g4]
theorem a8t {ops:Array Oper}:∀ {a b:List Tr},a.map Tr.face=b.map Tr.face→O9 ops a=O9 ops b
 | [],[],_=>rfl
 | [],_ :: _,h=>by simp at h
 | _ :: _,[],h=>by simp at h
 | x :: a,y :: b,h=>by
  simp only [List.map_cons,List.cons.injEq] at h
  simp only [O9]
  rw [a8t h.2]
  congr 1
  have:∀ {a b:List Tr},a.map Tr.face=b.map Tr.face→(a.all fun z=>!M6 ops z x || Q7 ops z.i ops.size x.i)=b.all fun z=>!M6 ops z y || Q7 ops z.i ops.size y.i:=by
   intro a
   induction a with
   | nil=>intro b hab;cases b with
    | nil=>rfl
    | cons=>simp at hab
   | cons z a ih=>intro b hab;cases b with
    | nil=>simp at hab
    | cons u b =>
     simp only [List.map_cons,List.cons.injEq] at hab
     simp only [List.all_cons]
     rw [ih hab.2,d0o hab.1 h.1]
     have e1:z.i=u.i:=congrArg Prod.fst hab.1
     have e2:x.i=y.i:=congrArg Prod.fst h.1
     rw [e1,e2]
  exact this h.2
theorem a0v {fn:FuncId→B7} {cr:Q6} (htab:X.tab=[]) (hfn:∀ g,K4 X g (fn g)) (hcr:a2u cr) {ops:Array Oper} {nid:Nat→Nat}:∀ {l:List Nat} {s:u5} {tr:List Tr} {K:u5→List Tr→Om} {Kp:Nat→V→List Nat→List Tr→Om},b0b CR X fn cr ops nid l s tr K Kp=some r →
  ∀ {tr':List Tr} {K':St→List Tr→Prop} {Kp':Nat→D→List Nat→List Tr→Prop},tr.map Tr.face=tr'.map Tr.face→(∀ s t t',t.map Tr.face=t'.map Tr.face→K s t=some r→K' (l9 s) t')→(∀ i v rs t t',t.map Tr.face=t'.map Tr.face→Kp i v rs t=some r→Kp' i (toD v) rs t')→V1 X ops nid l (l9 s) tr' K' Kp'
 | [],s,tr,K,Kp,h,tr',K',Kp',htr,hK,hKp=>hK _ _ _ htr h
 | i :: l,s,tr,K,Kp,h,tr',K',Kp',htr,hK,hKp=>by
  simp only [b0b] at h
  simp only [V1]
  split at h
  ·rename_i ho;rw [ho];exact a0v htab hfn hcr h htr hK hKp
  ·rename_i o ho
   rw [ho]
   refine c5z h (fun s h=>?_) (fun s h=>?_)
   ·refine d4g htab hfn hcr h (fun v ws rs h=>?_) (fun v rs h=>hKp _ _ _ _ _ htr h)
    rw [b0p] at h
    rw [← b3y,← a1y]
    refine a0v htab hfn hcr h ?_ hK hKp
    simp only [List.map_cons,List.cons.injEq,htr,and_true]
    simp only [Tr.face,Tr.ids,B3,List.map_map]
    rfl
   ·rw [b0p] at h
    have:=a1y s o.dst (.tuple [])
    simp only [toD,Q1] at this
    rw [← this]
    refine a0v htab hfn hcr h ?_ hK hKp
    simp only [List.map_cons,List.cons.injEq,htr,and_true]
    rfl

def u5.more (s:u5) (n:Nat):u5:={ s with heap:=s.heap ++ List.replicate n .free }
theorem d4p (s:u5) (n:Nat):l9 (s.more n)=(l9 s).more n:=by simp only [l9,u5.more,St.more,List.map_append,List.map_replicate,x9]
def d6m (C:Comb) (m:E1) (c:Int):Bool:=C.bnot (C.band (C.bnot (C.iEq c m.k0)) (C.band (C.bnot (C.iEq c m.k1)) (C.bnot (C.iEq c m.k2))))
def d6k (C:Comb) (m:E1) (c:Int):Int:=C.isel (C.iEq c m.k0) m.v0 (C.isel (C.iEq c m.k1) m.v1 m.v2)
def d53 (m:E1) (s:u5) (c x:Int):u5:=(((s.put (some m.t0) .junk).put (some m.t1) .junk).put (some m.t2) (.int .u8 c)).put (some m.t3) (.int .i64 x)
theorem e3w (m:E1) (c:Int):d6m CR m c=m.has c:=by
 unfold d6m E1.has
 simp only [e97,e9w,e0e,a12,J2,P0]
theorem e10 (m:E1) (c:Int):d6k CR m c=m.val c:=by
 unfold d6k E1.val
 simp only [e92,e0e,b8b,P0]
theorem d4i (m:E1) (s:u5) (c:Int):l9 (d53 m s c (m.val c))=m.put (l9 s) c:=by
 unfold d53 E1.put
 simp only [a1y,toD]
def b7s (C:Comb) (X:Pr) (fn:FuncId→B7) (cr:Q6) (ops:Array Oper) (draw:Bool) (s:u5) (K:u5→Om) (Kp:V→Om):Om :=
 match draw with
 | false=>match a91 ops.toList with
  | none=>fSt (s.more (a27 ops.toList)) fun s'=>b0b C X fn cr ops (fun i=>s.heap.length+a6a ops.toList i) (List.range ops.size) s' [] (fun s _=>K s) (fun _ d _ _=>Kp d)
  | some m=>cond (a4p X.P m.mt && m.ok s.tmps.length) (vI C .u8 (L4 s.tmps m.src) fun c=>C.chk (d6m C m c) (C.fI (d6k C m c) fun x=>fSt (d53 m (s.more (a27 ops.toList)) c x) fun s' =>
   b0b C X fn cr ops (fun i=>s.heap.length+a6a ops.toList i) (List.range' 7 (ops.size - 7)) s' [] (fun s _=>K s) (fun _ d _ _=>Kp d))) none
 | true=>cond (a4d ops)
   (fSt (s.more (a27 ops.toList)) fun s'=>b0b C X fn cr ops (fun i=>s.heap.length+a6a ops.toList i) (List.range ops.size) s' [] (fun s tr=>cond (O9 ops tr) (K s) none)
    (fun i d rs tr=>cond (O9 ops (⟨i,none,.junk,[],rs⟩ :: tr) && (List.range ops.size).all fun j=>Nat.ble j i || Q7 ops i ops.size j) (Kp d) none)) none
theorem c1q {fn:FuncId→B7} {cr:Q6} (htab:X.tab=[]) (hfn:∀ g,K4 X g (fn g)) (hcr:a2u cr) {ops:Array Oper} {draw:Bool} {s:u5} {K:u5→Om} {Kp:V→Om} (h:b7s CR X fn cr ops draw s K Kp=some r)
  {K':St→Prop} {Kp':D→Prop} (hK:∀ s,K s=some r→K' (l9 s)) (hKp:∀ v,Kp v=some r→Kp' (toD v)):a18 X ops draw (l9 s) K' Kp':=by
 have el:(l9 s).heap.length=s.heap.length:=by simp [l9]
 unfold b7s at h
 unfold a18
 rw [el,← d4p]
 split at h
 ·simp only []
  split at h
  ·rename_i hm
   rw [hm]
   rw [b0p] at h
   exact a0v htab hfn hcr h rfl (fun s t t' _ h=>hK s h) (fun i v rs t t' _ h=>hKp v h)
  ·rename_i m hm
   rw [hm]
   have et:(l9 s).tmps.length=s.tmps.length:=by simp [l9]
   simp only [et]
   generalize (a4p X.P m.mt && m.ok s.tmps.length)=b at h ⊢
   cases b with
   | false=>cases h
   | true =>
    simp only [cond_true] at h ⊢
    obtain ⟨c,hc,h⟩:=T9 h
    obtain ⟨h0,h⟩:=A7 h
    rw [e3w] at h0
    rw [CfI,e10,b0p] at h
    have e1:(l9 s).tmps.getD m.src .junk=.int .u8 c:=by
     have:=l8 s (.tmp m.src)
     have e2:(l9 s).eval (.tmp m.src)=(l9 s).tmps.getD m.src .junk:=rfl
     rw [← e2,this];exact hc
    rw [e1]
    simp only [h0,cond_true]
    rw [← d4i]
    exact a0v htab hfn hcr h rfl (fun s t t' _ h=>hK s h) (fun i v rs t t' _ h=>hKp v h)
 ·simp only []
  cases he:a4d ops with
  | false=>rw [he] at h;cases h
  | true =>
   rw [he] at h
   simp only [cond_true] at h ⊢
   rw [b0p] at h
   refine a0v htab hfn hcr h rfl (fun s t t' ht h=>?_) (fun i v rs t t' ht h=>?_)
   ·rw [← a8t ht]
    cases hr:O9 ops t with
    | false=>rw [hr] at h;cases h
    | true=>rw [hr] at h;exact hK s h
   ·rw [← a8t (a:=⟨i,none,.junk,[],rs⟩ :: t) (by simp only [List.map_cons,ht])]
    generalize (O9 ops (⟨i,none,.junk,[],rs⟩ :: t) && (List.range ops.size).all fun j=>Nat.ble j i || Q7 ops i ops.size j)=b at h ⊢
    cases b with
    | false=>cases h
    | true=>exact hKp v h
end

inductive Sh where
 | int (k:IntKind)
 | bool
 | str
 | slice (n:Nat) (c:W5)
 | q
 | a (m:Nat)
 | agg (l:List Sh)
 | tuple (l:List Sh)
 | ptr (id off:Nat)
 | cref (m:Nat)
 | bslice (id:Nat)
 | nilp
 | nilIface
 | iface (t:TypeId) (s:Sh)
 | func (fn:Fn) (fs cs:List Sh)
 | any
inductive ShB where
 | cells (l:List Sh)
 | opa (m:Nat)
 | tok (size:Nat)
 | row
 | any

mutual
def c66:V→Sh
 | .bool _ | .known _=>.bool
 | .int k _=>.int k
 | .str _ _=>.str
 | .slice _ n _ _ c=>.slice n c
 | .q _=>.q
 | .a _ m=>.a m
 | .agg cs=>.agg (a2c cs)
 | .tuple cs=>.tuple (a2c cs)
 | .ptr id off=>.ptr id off
 | .cref _ _ m=>.cref m
 | .bslice id _=>.bslice id
 | .nilp=>.nilp
 | .nilIface=>.nilIface
 | .iface t v=>.iface t (c66 v)
 | .func fn a b=>.func fn (a2c a) (a2c b)
 | .junk=>.any
def a2c:List V→List Sh
 | []=>[]
 | v :: vs=>c66 v :: a2c vs
end
def c4m:Bx→ShB
 | .cells cs=>.cells (a2c cs)
 | .opa _ m=>.opa m
 | .tok _ z=>.tok z
 | .row _ _=>.row
 | _=>.any
def uI (k:IntKind) (v:V) (K:Int→Om):Om:=match v with
 | .int k' n=>cond (ikEq k k') (K n) none
 | .q x=>cI k x K
 | _=>none
def uB (v:V) (K:Bool→Om):Om:=match v with
 | .bool b=>K b
 | .known b=>K b
 | .q x=>cB x K
 | _=>none
def uS (v:V) (K:Nat→Nat→Om):Om:=match v with
 | .str l c=>K l c
 | .q x=>cS x K
 | _=>none
def uSl (n cN:Nat) (v:V) (K:j0 Q→Nat→Nat→Om):Om:=match v with
 | .slice t n' off len c=>cond (Nat.beq (W3 c) cN) (Nat.rec (motive:=fun _=>Om) (chk (nEq len 0) (K .nil 0 0)) (fun _ _=>cond (Nat.beq n n') (K t off len) (chk (nEq len 0) (K .nil 0 0))) n') none
 | .q x=>cond (Nat.beq cN 0) (cSl n x K) none
 | _=>none
def uQ (v:V) (K:Q→Om):Om:=match b7i v with
 | some x=>K x
 | none=>match v with
  | .slice t n off len .no=>K (.slice t n off len)
  | _=>none
def uA (m:Nat) (v:V) (K:Q→Om):Om:=match v with
 | .a x m'=>cond (Nat.beq m m') (K x) none
 | .agg cs=>cond (Nat.beq cs.length m) (match exQs cs with
  | some qs=>K (.agg qs 0)
  | none=>none) none
 | _=>none
where
 exQ (v:V):Option Q:=match b7i v with
  | some x=>some x
  | none=>match v with
   | .slice t n off len .no=>some (.slice t n off len)
   | _=>none
 exQs:List V→Option (List Q)
  | []=>some []
  | v :: vs=>match exQ v,exQs vs with
   | some q,some qs=>some (q :: qs)
   | _,_=>none
def uL (v:V) (K:List V→Om):Om:=match v with
 | .agg cs=>K cs
 | _=>none
def uTu (v:V) (K:List V→Om):Om:=match v with
 | .tuple cs=>K cs
 | _=>none
def uP (id off:Nat) (v:V) (K:Om):Om:=match v with
 | .ptr i o=>cond (Nat.beq id i) (cond (Nat.beq off o) K none) none
 | _=>none
def uCref (m:Nat) (v:V) (K:Q→Om):Om:=match v with
 | .cref x off m'=>cond (Nat.beq m m') (fQ (subQ x off) K) none
 | _=>none
def uBs (id:Nat) (v:V) (K:Nat→Om):Om:=match v with
 | .bslice i len=>cond (Nat.beq id i) (K len) none
 | _=>none
def uNilp (v:V) (K:Om):Om:=match v with
 | .nilp=>K
 | .q x=>c96 x K
 | _=>none
def uNilI (v:V) (K:Om):Om:=match v with
 | .nilIface=>K
 | _=>none
def uIf (t:TypeId) (v:V) (K:V→Om):Om:=match v with
 | .iface t' v=>cond (Nat.beq t t') (K v) none
 | _=>none
def uFn (f:Nat) (v:V) (K:List V→List V→Om):Om:=match v with
 | .func (.func f') fs cs=>cond (Nat.beq f f') (K fs cs) none
 | _=>none
def uCons (l:List V) (K:V→List V→Om):Om:=match l with
 | v :: l=>K v l
 | []=>none
def uNil (l:List V) (K:Om):Om:=match l with
 | []=>K
 | _=>none
def uConsB (l:List Bx) (K:Bx→List Bx→Om):Om:=match l with
 | v :: l=>K v l
 | []=>none
def uNilB (l:List Bx) (K:Om):Om:=match l with
 | []=>K
 | _=>none
def uBc (b:Bx) (K:List V→Om):Om:=match b with
 | .cells cs=>K cs
 | .opa x m=>K ((a8r 0 m).map fun i=>.q (celQ x i))
 | _=>none
def uBo (m:Nat) (b:Bx) (K:Q→Om):Om:=match b with
 | .opa x m'=>cond (Nat.beq m m') (K x) none
 | .cells cs=>cond (Nat.beq cs.length m) (match uA.exQs cs with
  | some qs=>K (.agg qs 0)
  | none=>none) none
 | _=>none
def uBt (z:Nat) (b:Bx) (K:Nat→Om):Om:=match b with
 | .tok l z'=>cond (Nat.beq z z') (K l) none
 | _=>none
def uBr (b:Bx) (K:j0 Q→Nat→Om):Om:=match b with
 | .row t len=>K t len
 | _=>none
structure q8 extends Comb where
 uI:IntKind→V→(Int→Om)→Om
 uB:V→(Bool→Om)→Om
 uS:V→(Nat→Nat→Om)→Om
 uSl:Nat→Nat→V→(j0 Q→Nat→Nat→Om)→Om
 uQ:V→(Q→Om)→Om
 uA:Nat→V→(Q→Om)→Om
 uL:V→(List V→Om)→Om
 uTu:V→(List V→Om)→Om
 uP:Nat→Nat→V→Om→Om
 uCref:Nat→V→(Q→Om)→Om
 uBs:Nat→V→(Nat→Om)→Om
 uNilp:V→Om→Om
 uNilI:V→Om→Om
 uIf:Nat→V→(V→Om)→Om
 uFn:Nat→V→(List V→List V→Om)→Om
 uCons:List V→(V→List V→Om)→Om
 uNil:List V→Om→Om
 uConsB:List Bx→(Bx→List Bx→Om)→Om
 uNilB:List Bx→Om→Om
 uBc:Bx→(List V→Om)→Om
 uBo:Nat→Bx→(Q→Om)→Om
 uBt:Nat→Bx→(Nat→Om)→Om
 uBr:Bx→(j0 Q→Nat→Om)→Om
 lp:((List V→List Bx→Om)→List V→List Bx→Om)→List V→List Bx→Om
 jn:((List V→List Bx→Om)→Om)→(List V→List Bx→Om)→Om
 same:List Bx→List Bx→Om→Om
def v8:Nat:=100000
def lp (body:(List V→List Bx→Om)→List V→List Bx→Om):List V→List Bx→Om :=
 Nat.rec (motive:=fun _=>List V→List Bx→Om) (fun _ _=>none) (fun _ ih=>body ih) v8
def jn (f:(List V→List Bx→Om)→Om) (g:List V→List Bx→Om):Om:=f g
def CU:q8:={ CR with
 uI:=uI,uB:=uB,uS:=uS,uSl:=uSl,uQ:=uQ,uA:=uA,uL:=uL,uTu:=uTu,uP:=uP,uCref:=uCref,uBs:=uBs,uNilp:=uNilp,uNilI:=uNilI,uIf:=uIf,uFn:=uFn,uCons:=uCons,uNil:=uNil,
 uConsB:=uConsB,uNilB:=uNilB,uBc:=uBc,uBo:=uBo,uBt:=uBt,uBr:=uBr,lp:=lp,jn:=jn,same:=same }
mutual
def d08 (U:q8):Sh→V→(V→Om)→Om
 | .int k,v,K=>U.uI k v fun n=>K (.int k n)
 | .bool,v,K=>U.uB v fun b=>K (.bool b)
 | .str,v,K=>U.uS v fun l c=>K (.str l c)
 | .slice n c,v,K=>U.uSl n (W3 c) v fun t off len=>K (.slice t n off len c)
 | .q,v,K=>U.uQ v fun x=>K (.q x)
 | .a m,v,K=>U.uA m v fun x=>K (.a x m)
 | .agg l,v,K=>U.uL v fun cs=>Z6 U l cs fun cs=>K (.agg cs)
 | .tuple l,v,K=>U.uTu v fun cs=>Z6 U l cs fun cs=>K (.tuple cs)
 | .ptr id off,v,K=>U.uP id off v (K (.ptr id off))
 | .cref m,v,K=>U.uCref m v fun x=>K (.cref x 0 m)
 | .bslice id,v,K=>U.uBs id v fun len=>K (.bslice id len)
 | .nilp,v,K=>U.uNilp v (K .nilp)
 | .nilIface,v,K=>U.uNilI v (K .nilIface)
 | .iface t s,v,K=>U.uIf t v fun v=>d08 U s v fun v=>K (.iface t v)
 | .func (.func f) fs cs,v,K=>U.uFn f v fun a b=>Z6 U fs a fun a=>Z6 U cs b fun b=>K (.func (.func f) a b)
 | .func _ _ _,_,_=>none
 | .any,v,K=>K v
def Z6 (U:q8):List Sh→List V→(List V→Om)→Om
 | [],l,K=>U.uNil l (K [])
 | s :: ss,l,K=>U.uCons l fun v l=>d08 U s v fun v=>Z6 U ss l fun l=>K (v :: l)
end
def e1c (U:q8):ShB→Bx→(Bx→Om)→Om
 | .cells l,b,K=>U.uBc b fun cs=>Z6 U l cs fun cs=>K (.cells cs)
 | .opa m,b,K=>U.uBo m b fun x=>K (.opa x m)
 | .tok z,b,K=>U.uBt z b fun l=>K (.tok l z)
 | .row,b,K=>U.uBr b fun t len=>K (.row t len)
 | .any,b,K=>K b
def Z0 (U:q8):List ShB→List Bx→(List Bx→Om)→Om
 | [],l,K=>U.uNilB l (K [])
 | s :: ss,l,K=>U.uConsB l fun b l=>e1c U s b fun b=>Z0 U ss l fun l=>K (b :: l)

section
variable {r:R}
theorem e4u {k:IntKind} {v:V} {K:Int→Om} (h:uI k v K=some r):∃ n,toD v=.int k n∧K n=some r:=T9 (k:=k) (v:=v) (by unfold vI;exact h)
theorem e4t {v:V} {K:Bool→Om} (h:uB v K=some r):∃ b,toD v=.bool b∧K b=some r:=X2 (v:=v) (by unfold vB;exact h)
theorem e1z {v:V} {K:Nat→Nat→Om} (h:uS v K=some r):∃ l c,toD v=.str (k7 l c)∧K l c=some r:=X5 (v:=v) (by unfold vS;exact h)
theorem d6q {n:Nat} {c:W5} {v:V} {K:j0 Q→Nat→Nat→Om} (h:uSl n (W3 c) v K=some r):∃ t off len,toD v=.slice len (rows (t6 t) n off len) c∧K t off len=some r:=by
 unfold uSl at h
 split at h
 ·rename_i t n' off len c'
  cases hc:Nat.beq (W3 c') (W3 c) with
  | false=>rw [hc] at h;cases h
  | true =>
   rw [hc] at h
   have:=c4q (Nat.eq_of_beq_eq_true hc)
   subst this
   simp only [cond_true] at h
   cases n' with
   | zero =>
    obtain ⟨h1,h⟩:=a71 (show chk (nEq len 0) (K .nil 0 0)=some r from h)
    have:=Nat.eq_of_beq_eq_true h1
    subst this
    exact ⟨.nil,0,0,by simp only [toD,rows],h⟩
   | succ n' =>
    have h:cond (Nat.beq n (n'+1)) (K t off len) (chk (nEq len 0) (K .nil 0 0))=some r:=h
    cases hn:Nat.beq n (n'+1) with
    | false =>
     rw [hn] at h
     obtain ⟨h1,h⟩:=a71 (show chk (nEq len 0) (K .nil 0 0)=some r from h)
     have:=Nat.eq_of_beq_eq_true h1
     subst this
     exact ⟨.nil,0,0,by simp only [toD,rows],h⟩
    | true=>rw [hn] at h;rw [Nat.eq_of_beq_eq_true hn];exact ⟨t,off,len,by simp only [toD],h⟩
 ·cases hc:Nat.beq (W3 c) 0 with
  | false=>rw [hc] at h;cases h
  | true =>
   rw [hc] at h
   have:c=.no:=c4q (Nat.eq_of_beq_eq_true hc)
   subst this
   obtain ⟨t,off,len,hx,h'⟩:=c25 h
   exact ⟨t,off,len,by simp only [toD,hx],h'⟩
 ·cases h
theorem d7s {v:V} {x:Q} (h:uA.exQ v=some x):toD v=den x 0:=by
 unfold uA.exQ at h
 split at h
 ·rename_i hx;injection h with h;subst h;exact a5y hx
 ·split at h
  ·injection h with h;subst h;simp only [toD,den];rfl
  ·cases h
theorem b03:∀ {vs:List V} {qs:List Q},uA.exQs vs=some qs→vs.map toD=qs.map (fun x=>den x 0)
 | [],qs,h=>by simp only [uA.exQs] at h;injection h with h;subst h;rfl
 | v :: vs,qs,h=>by
  simp only [uA.exQs] at h
  split at h
  ·rename_i q qs' hq hqs
   injection h with h;subst h
   simp only [List.map_cons,d7s hq,b03 hqs]
  ·cases h
theorem e2r {v:V} {K:Q→Om} (h:uQ v K=some r):∃ x,toD v=den x 0∧K x=some r:=by
 unfold uQ at h
 split at h
 ·rename_i x hx;exact ⟨x,a5y hx,h⟩
 ·split at h
  ·exact ⟨_,by simp only [toD,den];rfl,h⟩
  ·cases h
theorem e2o {m:Nat} {v:V} {K:Q→Om} (h:uA m v K=some r):∃ x,toD v=.agg (n6 (den x) 0 m)∧K x=some r:=by
 unfold uA at h
 split at h
 ·rename_i x m'
  cases hm:Nat.beq m m' with
  | false=>rw [hm] at h;cases h
  | true=>rw [hm] at h;rw [Nat.eq_of_beq_eq_true hm];exact ⟨x,by simp only [toD],h⟩
 ·rename_i cs
  cases hm:Nat.beq cs.length m with
  | false=>rw [hm] at h;cases h
  | true =>
   rw [hm] at h
   simp only [cond_true] at h
   split at h
   ·rename_i qs hqs
    have e:=b03 hqs
    have hl:qs.length=m:=by have:=congrArg List.length e;simp at this;rw [← this];exact Nat.eq_of_beq_eq_true hm
    exact ⟨_,by simp only [toD,A4,e];rw [← hl,b04],h⟩
   ·cases h
 ·cases h
mutual
theorem a90:∀ {s:Sh} {v:V} {K:V→Om},d08 CU s v K=some r→∃ v',toD v'=toD v∧K v'=some r
 | .int k,v,K,h=>by
  obtain ⟨n,hv,h⟩:=e4u (show uI k v _=some r from h);exact ⟨_,by rw [hv];simp only [toD],h⟩
 | .bool,v,K,h=>by
  obtain ⟨n,hv,h⟩:=e4t (show uB v _=some r from h);exact ⟨_,by rw [hv];simp only [toD],h⟩
 | .str,v,K,h=>by
  obtain ⟨l,c,hv,h⟩:=e1z (show uS v _=some r from h);exact ⟨_,by rw [hv];simp only [toD],h⟩
 | .slice n c,v,K,h=>by
  obtain ⟨t,off,len,hv,h⟩:=d6q (show uSl n (W3 c) v (fun t off len=>K (.slice t n off len c))=some r from h);exact ⟨_,by rw [hv];simp only [toD],h⟩
 | .q,v,K,h=>by
  obtain ⟨x,hv,h⟩:=e2r (show uQ v _=some r from h);exact ⟨_,by rw [hv];simp only [toD],h⟩
 | .a m,v,K,h=>by
  obtain ⟨x,hv,h⟩:=e2o (show uA m v _=some r from h);exact ⟨_,by rw [hv];simp only [toD],h⟩
 | .agg l,v,K,h=>by
  replace h:uL v _=some r:=h
  unfold uL at h
  split at h
  ·obtain ⟨cs',e,h⟩:=H2 h;exact ⟨_,by simp only [toD,A4,e],h⟩
  ·cases h
 | .tuple l,v,K,h=>by
  replace h:uTu v _=some r:=h
  unfold uTu at h
  split at h
  ·obtain ⟨cs',e,h⟩:=H2 h;exact ⟨_,by simp only [toD,A4,e],h⟩
  ·cases h
 | .ptr id off,v,K,h=>by
  replace h:uP id off v _=some r:=h
  unfold uP at h
  split at h
  ·rename_i i o
   cases h1:Nat.beq id i with
   | false=>rw [h1] at h;cases h
   | true =>
    rw [h1] at h
    cases h2:Nat.beq off o with
    | false=>rw [h2] at h;cases h
    | true=>rw [h2] at h;exact ⟨_,by rw [Nat.eq_of_beq_eq_true h1,Nat.eq_of_beq_eq_true h2],h⟩
  ·cases h
 | .cref m,v,K,h=>by
  replace h:uCref m v _=some r:=h
  unfold uCref at h
  split at h
  ·rename_i x off m'
   cases h1:Nat.beq m m' with
   | false=>rw [h1] at h;cases h
   | true =>
    rw [h1] at h
    simp only [cond_true,b6h] at h
    exact ⟨_,by rw [Nat.eq_of_beq_eq_true h1];simp only [toD,b4u,Nat.add_zero],h⟩
  ·cases h
 | .bslice id,v,K,h=>by
  replace h:uBs id v _=some r:=h
  unfold uBs at h
  split at h
  ·rename_i i len
   cases h1:Nat.beq id i with
   | false=>rw [h1] at h;cases h
   | true=>rw [h1] at h;exact ⟨_,by rw [Nat.eq_of_beq_eq_true h1],h⟩
  ·cases h
 | .nilp,v,K,h=>by
  replace h:uNilp v _=some r:=h
  unfold uNilp at h
  split at h
  ·exact ⟨_,rfl,h⟩
  ·obtain ⟨hx,h'⟩:=d0p h;subst hx;exact ⟨_,by simp only [toD,den];rfl,h'⟩
  ·cases h
 | .nilIface,v,K,h=>by
  replace h:uNilI v _=some r:=h
  unfold uNilI at h
  split at h
  ·exact ⟨_,rfl,h⟩
  ·cases h
 | .iface t s,v,K,h=>by
  replace h:uIf t v _=some r:=h
  unfold uIf at h
  split at h
  ·rename_i t' v0
   cases h1:Nat.beq t t' with
   | false=>rw [h1] at h;cases h
   | true =>
    rw [h1] at h
    obtain ⟨v',e,h⟩:=a90 h
    exact ⟨_,by rw [Nat.eq_of_beq_eq_true h1];simp only [toD,e],h⟩
  ·cases h
 | .func (.func f) fs cs,v,K,h=>by
  replace h:uFn f v _=some r:=h
  unfold uFn at h
  split at h
  ·rename_i f' a b
   cases h1:Nat.beq f f' with
   | false=>rw [h1] at h;cases h
   | true =>
    rw [h1] at h
    obtain ⟨a',ea,h⟩:=H2 h
    obtain ⟨b',eb,h⟩:=H2 h
    exact ⟨_,by rw [Nat.eq_of_beq_eq_true h1];simp only [toD,A4,ea,eb],h⟩
  ·cases h
 | .any,v,K,h=>⟨v,rfl,h⟩
theorem H2:∀ {ss:List Sh} {l:List V} {K:List V→Om},Z6 CU ss l K=some r→∃ l',l'.map toD=l.map toD∧K l'=some r
 | [],l,K,h=>by
  replace h:uNil l _=some r:=h
  unfold uNil at h
  split at h
  ·exact ⟨[],rfl,h⟩
  ·cases h
 | s :: ss,l,K,h=>by
  replace h:uCons l _=some r:=h
  unfold uCons at h
  split at h
  ·obtain ⟨v',e1,h⟩:=a90 h
   obtain ⟨l',e2,h⟩:=H2 h
   exact ⟨_,by simp only [List.map_cons,e1,e2],h⟩
  ·cases h
end
theorem d0f {s:ShB} {b:Bx} {K:Bx→Om} (h:e1c CU s b K=some r):∃ b',x9 b'=x9 b∧K b'=some r:=by
 cases s with
 | cells l =>
  replace h:uBc b _=some r:=h
  unfold uBc at h
  split at h
  ·obtain ⟨cs',e,h⟩:=H2 h;exact ⟨_,by simp only [x9,e],h⟩
  ·rename_i x m
   obtain ⟨cs',e,h⟩:=H2 h
   refine ⟨_,?_,h⟩
   simp only [x9,e,H1,List.map_map]
   congr 1
   exact List.map_congr_left fun i _=>by simp only [Function.comp,toD];exact a17 x i
  ·cases h
 | opa m =>
  replace h:uBo m b _=some r:=h
  unfold uBo at h
  split at h
  ·rename_i x m'
   cases hm:Nat.beq m m' with
   | false=>rw [hm] at h;cases h
   | true=>rw [hm] at h;exact ⟨_,by rw [Nat.eq_of_beq_eq_true hm],h⟩
  ·rename_i cs
   cases hm:Nat.beq cs.length m with
   | false=>rw [hm] at h;cases h
   | true =>
    rw [hm] at h
    simp only [cond_true] at h
    split at h
    ·rename_i qs hqs
     have e:=b03 hqs
     have hl:qs.length=m:=by have:=congrArg List.length e;simp at this;rw [← this];exact Nat.eq_of_beq_eq_true hm
     exact ⟨_,by simp only [x9,e];rw [← hl,b04],h⟩
    ·cases h
  ·cases h
 | tok z =>
  replace h:uBt z b _=some r:=h
  unfold uBt at h
  split at h
  ·rename_i l z'
   cases hm:Nat.beq z z' with
   | false=>rw [hm] at h;cases h
   | true=>rw [hm] at h;exact ⟨_,by rw [Nat.eq_of_beq_eq_true hm],h⟩
  ·cases h
 | row =>
  replace h:uBr b _=some r:=h
  unfold uBr at h
  split at h
  ·exact ⟨_,rfl,h⟩
  ·cases h
 | any=>exact ⟨b,rfl,h⟩
theorem U6:∀ {ss:List ShB} {l:List Bx} {K:List Bx→Om},Z0 CU ss l K=some r→∃ l',l'.map x9=l.map x9∧K l'=some r
 | [],l,K,h=>by
  replace h:uNilB l _=some r:=h
  unfold uNilB at h
  split at h
  ·exact ⟨[],rfl,h⟩
  ·cases h
 | s :: ss,l,K,h=>by
  replace h:uConsB l _=some r:=h
  unfold uConsB at h
  split at h
  ·obtain ⟨v',e1,h⟩:=d0f h
   obtain ⟨l',e2,h⟩:=U6 h
   exact ⟨_,by simp only [List.map_cons,e1,e2],h⟩
  ·cases h
end

structure Ann where
 ks:List (Nat × Nat)
 vs:List Sh
 bs:List ShB

def ev (U:q8) (X:Pr) (fn:FuncId→B7) (cr:Q6) (n0:Nat) (AL AJ:Nat→Option Ann):Code→Nat→Nat→u5→(u5→Om)→(Nat→u5→Om)→(u5→Om)→(V→Om)→Om
 | .skip,_,_,s,K,_,_,_=>K s
 | .region _ ops draw,_,_,s,K,_,_,Kp=>b7s U.toComb X fn cr ops draw s K Kp
 | .seq a b,p,q,s,K,Kx,Kr,Kp=>match AJ q with
  | none=>ev U X fn cr n0 AL AJ a p (q+1) s (fun s'=>ev U X fn cr n0 AL AJ b (p+L7 a) (q+1+R1 a) s' K Kx Kr Kp) Kx Kr Kp
  | some A=>U.jn (fun j=>ev U X fn cr n0 AL AJ a p (q+1) s (fun s'=>cond (a3v n0 s.tmps.length A.ks s') (j (a45 n0 A.ks s').1 (a45 n0 A.ks s').2) none) Kx Kr Kp)
    (fun vs bs=>Z6 U A.vs vs fun vs=>Z0 U A.bs bs fun bs=>ev U X fn cr n0 AL AJ b (p+L7 a) (q+1+R1 a) (b16 s.tmps.length A.ks vs bs) K Kx Kr Kp)
 | .cond c t e,p,q,s,K,Kx,Kr,Kp=>match s.eval c with
  | .known b=>cond b (ev U X fn cr n0 AL AJ t p q s K Kx Kr Kp) (ev U X fn cr n0 AL AJ e (p+L7 t) (q+R1 t) s K Kx Kr Kp)
  | v=>vB U.toComb v fun b=>U.cnd b (ev U X fn cr n0 AL AJ t p q (refV s c true) K Kx Kr Kp) (ev U X fn cr n0 AL AJ e (p+L7 t) (q+R1 t) (refV s c false) K Kx Kr Kp)
 | .block id c,p,q,s,K,Kx,Kr,Kp=>ev U X fn cr n0 AL AJ c p q s K (fun j s'=>cond (Nat.beq j id) (K s') (Kx j s')) Kr Kp
 | .loop c,p,q,s,_,Kx,Kr,Kp=>match AL p with
  | none=>none
  | some A=>cond (a3v n0 s.tmps.length A.ks s) (U.lp (fun self vs bs=>Z6 U A.vs vs fun vs=>Z0 U A.bs bs fun bs =>
    ev U X fn cr n0 AL AJ c (p+1) q (b16 s.tmps.length A.ks vs bs) (fun s'=>cond (a3v n0 s.tmps.length A.ks s') (self (a45 n0 A.ks s').1 (a45 n0 A.ks s').2) none) Kx Kr Kp) (a45 n0 A.ks s).1 (a45 n0 A.ks s).2) none
 | .exit j,_,_,s,_,Kx,_,_=>Kx j s
 | .ret,_,_,s,_,_,Kr,_=>Kr s
 | _,_,_,_,_,_,_,_=>none
where refV (s:u5) (c:Operand) (b:Bool):u5:=match c with
 | .tmp t=>s.put (some t) (.known b)
 | _=>s

def b1m (A:Ann):Cut:={ π:=List D × List o9→Prop,ι:=fun p=>{ v // p v },ks:=A.ks,V:=fun _ ix=>ix.val }

section
variable {X:Pr} {r:R}
theorem c1x (s:u5) (c:Operand) (b:Bool):l9 (ev.refV s c b)=(l9 s).ref c b:=by
 cases c with
 | tmp t=>have:=a1y s (some t) (.known b);simp only [toD] at this;exact this
 | _=>rfl
theorem d3n {body:(List V→List Bx→Om)→List V→List Bx→Om} {vs:List V} {bs:List Bx} (h:CU.lp body vs bs=some r):∃ n,Nat.rec (motive:=fun _=>List V→List Bx→Om) (fun _ _=>none) (fun _ ih=>body ih) n vs bs=some r:=⟨v8,h⟩

theorem N3 {fn:FuncId→B7} {cr:Q6} (htab:X.tab=[]) (hfn:∀ g,K4 X g (fn g)) (hcr:a2u cr) {n0:Nat} {AL AJ:Nat→Option Ann}:∀ (c:Code) {p q:Nat} {s:u5} {K:u5→Om} {Kx:Nat→u5→Om} {Kr:u5→Om} {Kp:V→Om},
  ev CU X fn cr n0 AL AJ c p q s K Kx Kr Kp=some r→∀ {K':St→Prop} {Kx':Nat→St→Prop} {Kr':St→Prop} {Kp':D→Prop},(∀ s,K s=some r→K' (l9 s))→(∀ j s,Kx j s=some r→Kx' j (l9 s))→(∀ s,Kr s=some r→Kr' (l9 s))→(∀ v,Kp v=some r→Kp' (toD v)) →
  vc X n0 (fun _ body s=>a1d n0 body s) (fun q=>(AJ q).map b1m) c p q (l9 s) K' Kx' Kr' Kp'
 | .skip,p,q,s,K,Kx,Kr,Kp,h,K',Kx',Kr',Kp',hK,hx,hr,hp=>hK s h
 | .region id ops draw,p,q,s,K,Kx,Kr,Kp,h,K',Kx',Kr',Kp',hK,hx,hr,hp=>c1q htab hfn hcr h hK hp
 | .seq a b,p,q,s,K,Kx,Kr,Kp,h,K',Kx',Kr',Kp',hK,hx,hr,hp=>by
  simp only [ev] at h
  simp only [vc]
  have el:(l9 s).tmps.length=s.tmps.length:=by simp [l9]
  split at h
  ·rename_i hj
   rw [hj]
   exact N3 htab hfn hcr a h (fun s' h=>N3 htab hfn hcr b h hK hx hr hp) hx hr hp
  ·rename_i A hj
   rw [hj]
   simp only [Option.map_some,b1m]
   have h:jn _ _=some r:=h
   unfold jn at h
   refine ⟨fun v=>vc X n0 (fun _ body s=>a1d n0 body s) (fun q=>(AJ q).map b1m) b (p+L7 a) (q+1+R1 a) (a6t (l9 s).tmps.length A.ks v) K' Kx' Kr' Kp',?_,fun ix=>ix.property⟩
   refine N3 htab hfn hcr a h (fun s' h=>?_) hx hr hp
   rw [el,← b3v]
   cases hok:a3v n0 s.tmps.length A.ks s' with
   | false=>rw [hok] at h;cases h
   | true =>
    rw [hok] at h
    simp only [cond_true] at h ⊢
    obtain ⟨vs',e1,h⟩:=H2 h
    obtain ⟨bs',e2,h⟩:=U6 h
    refine .mk ⟨gcV n0 A.ks (l9 s'),?_⟩ rfl
    rw [b7f,← e1,← e2,← c2x]
    exact N3 htab hfn hcr b h hK hx hr hp
 | .cond c t e,p,q,s,K,Kx,Kr,Kp,h,K',Kx',Kr',Kp',hK,hx,hr,hp=>by
  simp only [ev] at h
  simp only [vc]
  rw [l8]
  split at h
  ·rename_i b hc
   rw [hc]
   simp only [toD]
   have e0:(l9 s).eval c=.bool b:=by rw [l8,hc];simp only [toD]
   cases b
   ·simp only [cond_false] at h ⊢;rw [a8u e0];exact N3 htab hfn hcr e h hK hx hr hp
   ·simp only [cond_true] at h ⊢;rw [a8u e0];exact N3 htab hfn hcr t h hK hx hr hp
  ·obtain ⟨b,hv,h⟩:=X2 h
   rw [hv]
   simp only []
   have h:cnd b _ _=some r:=h
   rw [a7s] at h
   cases b
   ·simp only [cond_false] at h ⊢;rw [← c1x];exact N3 htab hfn hcr e h hK hx hr hp
   ·simp only [cond_true] at h ⊢;rw [← c1x];exact N3 htab hfn hcr t h hK hx hr hp
 | .block id c,p,q,s,K,Kx,Kr,Kp,h,K',Kx',Kr',Kp',hK,hx,hr,hp=>by
  simp only [ev] at h
  simp only [vc]
  refine N3 htab hfn hcr c h hK (fun j s h=>?_) hr hp
  cases hj:Nat.beq j id with
  | true=>rw [hj] at h;exact hK s h
  | false=>rw [hj] at h;exact hx j s h
 | .loop c,p,q,s,K,Kx,Kr,Kp,h,K',Kx',Kr',Kp',hK,hx,hr,hp=>by
  simp only [ev] at h
  simp only [vc]
  have el:(l9 s).tmps.length=s.tmps.length:=by simp [l9]
  split at h
  ·cases h
  ·rename_i A hA
   cases hok:a3v n0 s.tmps.length A.ks s with
   | false=>rw [hok] at h;cases h
   | true =>
    rw [hok] at h
    simp only [cond_true] at h
    obtain ⟨n,h⟩:=d3n h
    generalize hbody:(fun (self:List V→List Bx→Om) (vs:List V) (bs:List Bx)=>Z6 CU A.vs vs fun vs=>Z0 CU A.bs bs fun bs =>
     ev CU X fn cr n0 AL AJ c (p+1) q (b16 s.tmps.length A.ks vs bs) (fun s'=>cond (a3v n0 s.tmps.length A.ks s') (self (a45 n0 A.ks s').1 (a45 n0 A.ks s').2) none) Kx Kr Kp)=body at h
    refine a1d.mk { x:(List D × List o9) × Nat // ∃ vs bs,x.1=(vs.map toD,bs.map x9)∧Nat.rec (motive:=fun _=>List V→List Bx→Om) (fun _ _=>none) (fun _ ih=>body ih) x.2 vs bs=some r } (fun i=>i.val.1) (fun i=>i.val.2)
     ⟨(gcV n0 A.ks (l9 s),n),_,_,b7f n0 A.ks s,h⟩ A.ks (by rw [el,← b3v];exact hok) rfl ?_
    rintro ⟨⟨v,m⟩,vs,bs,hv,hrun⟩
    simp only at hv hrun ⊢
    cases m with
    | zero=>cases hrun
    | succ m =>
     have hrun:body (Nat.rec (motive:=fun _=>List V→List Bx→Om) (fun _ _=>none) (fun _ ih=>body ih) m) vs bs=some r:=hrun
     rw [← hbody] at hrun
     obtain ⟨vs',e1,hrun⟩:=H2 hrun
     obtain ⟨bs',e2,hrun⟩:=U6 hrun
     subst hv
     rw [el]
     have e3:l9 (b16 s.tmps.length A.ks vs' bs')=a6t s.tmps.length A.ks (vs.map toD,bs.map x9):=by rw [c2x,e1,e2]
     rw [← e3]
     refine N3 htab hfn hcr c hrun (fun s' h'=>?_) hx hr hp
     rw [← b3v]
     cases hok':a3v n0 s.tmps.length A.ks s' with
     | false=>rw [hok'] at h';cases h'
     | true =>
      rw [hok'] at h'
      simp only [cond_true] at h' ⊢
      rw [hbody] at h'
      exact .mk ⟨(gcV n0 A.ks (l9 s'),m),_,_,b7f n0 A.ks s',h'⟩ (Nat.lt_succ_self m) rfl
 | .exit j,p,q,s,K,Kx,Kr,Kp,h,K',Kx',Kr',Kp',hK,hx,hr,hp=>hx j s h
 | .ret,p,q,s,K,Kx,Kr,Kp,h,K',Kx',Kr',Kp',hK,hx,hr,hp=>hr s h
 | .rangeFunc ..,_,_,_,_,_,_,_,h,_,_,_,_,_,_,_,_=>by cases h
 | .scope _,_,_,_,_,_,_,_,h,_,_,_,_,_,_,_,_=>by cases h
 | .label _,_,_,_,_,_,_,_,h,_,_,_,_,_,_,_,_=>by cases h
 | .goto _,_,_,_,_,_,_,_,h,_,_,_,_,_,_,_,_=>by cases h
 | .refuse _,_,_,_,_,_,_,_,h,_,_,_,_,_,_,_,_=>by cases h
end

def a8h (C:Comb) (P:Program) (s:u5):List ResultVar→(List V→Om)→Om
 | [],K=>K []
 | .tmp t :: rs,K=>a8h C P s rs fun vs=>K (L4 s.tmps t :: vs)
 | .cell x t :: rs,K=>match L4 s.tmps x with
  | .ptr id off=>match M7 s.heap id with
   | .cells cs=>b5d C P t cs off fun v=>a8h C P s rs fun vs=>K (v :: vs)
   | .opa y m=>b17 C P t y off m fun v=>a8h C P s rs fun vs=>K (v :: vs)
   | _=>none
  | _=>none
def c1w:List V→V
 | [v]=>v
 | vs=>.tuple vs
def b12 (n:Nat) (v:V):V:=a4m (T2 (Z5 n) v)
theorem b6l (n:Nat) (v:V):toD (b12 n v)=P4 n (toD v):=by unfold b12 P4;rw [b42,a0j]
def c1f (C:Comb) (n:Nat) (h:List Bx) (g:Option Nat) (v:V) (K:V→Om):Om:=match g,v with
 | some z,.slice t m off len (.tok id)=>match M7 h id with
  | .tok l z'=>bif Nat.ble n id && (Nat.beq z' z && Nat.beq m z) then C.chk (C.nEq l len) (K (.slice t m off len (.fr z))) else none
  | _=>none
 | some z,.slice t m off len .exact=>bif Nat.beq m z then K (.slice t m off len (.fr z)) else bif Nat.beq m 0 then C.chk (C.nEq len 0) (K (.slice .nil z 0 0 (.fr z))) else none
 | _,v=>K (b12 n v)
def a7z (C:Comb) (n:Nat) (h:List Bx):List (Option Nat)→List V→(List V→Om)→Om
 | _,[],K=>K []
 | [],v :: vs,K=>a7z C n h [] vs fun r=>K (b12 n v :: r)
 | g :: gv,v :: vs,K=>c1f C n h g v fun v=>a7z C n h gv vs fun r=>K (v :: r)
def b7n (C:Comb) (P:Program) (rs:List ResultVar) (n:Nat) (gv:List (Option Nat)) (s:u5):Om :=
 a8h C P s rs fun vs=>match a7d s.heap (List.range n) with
  | some bs=>a7z C n s.heap gv vs fun vs=>some (.ret (c1w vs),bs.map (Z8 (Z5 n)))
  | none=>none
def b44 (ntmps:Nat) (vs:List V) (bs:List Bx):u5:={ tmps:=vs ++ List.replicate (ntmps - vs.length) (.tuple []),heap:=bs }
def d7x (U:q8) (X:Pr) (fn:FuncId→B7) (cr:Q6) (AL AJ:Nat→Option Ann) (gv:List (Option Nat)) (f:Func):B7:=fun vs bs =>
 ev U X fn cr bs.length AL AJ (f.body.getD .skip) 0 0 (b44 f.ntmps vs bs) (b7n U.toComb X.P f.results.toList bs.length gv) (fun _ _=>none) (b7n U.toComb X.P f.results.toList bs.length gv) (fun v=>some (.pan v,bs))

section
variable {X:Pr} {r:R}
theorem a3q {P:Program} {s:u5}:∀ {rs:List ResultVar} {K:List V→Om},a8h CR P s rs K=some r→∃ vs,K vs=some r∧a29 P (l9 s) rs=some (vs.map toD)
 | [],K,h=>⟨[],h,rfl⟩
 | .tmp t :: rs,K,h=>by
  simp only [a8h] at h
  obtain ⟨vs,h,e⟩:=a3q h
  exact ⟨_,h,by simp only [a29,e,Option.map_some,List.map_cons,a2q]⟩
 | .cell x t :: rs,K,h=>by
  simp only [a8h] at h
  split at h
  ·rename_i id off hx
   split at h
   ·rename_i cs hb
    obtain ⟨v,h,hr⟩:=a85 h
    obtain ⟨vs,h,e⟩:=a3q h
    have hh:=R2 hb (by simp)
    refine ⟨_,h,?_⟩
    simp only [a29,a2q,hx,toD,hh,x9,hr,Option.bind_some,e,Option.map_some,List.map_cons]
   ·rename_i y m hb
    obtain ⟨v,h,hr⟩:=a3r h
    obtain ⟨vs,h,e⟩:=a3q h
    have hh:=R2 hb (by simp)
    have:=hr 0 (Nat.zero_le _)
    rw [Nat.sub_zero,Nat.sub_zero] at this
    refine ⟨_,h,?_⟩
    simp only [a29,a2q,hx,toD,hh,x9,this,Option.bind_some,e,Option.map_some,List.map_cons]
   ·cases h
  ·cases h
theorem d1w (vs:List V):toD (c1w vs)=a9a (vs.map toD):=by
 unfold c1w
 split
 ·rfl
 ·rename_i h
  match vs,h with
  | [],_=>simp only [toD,Q1,List.map_nil,a9a]
  | [v],h=>exact absurd rfl (h v)
  | v :: w :: vs,_=>simp only [toD,A4,List.map_cons,a9a]
theorem c45 {n:Nat} {s:u5} {g:Option Nat} {v:V} {K:V→Om} (h:c1f CR n s.heap g v K=some r):∃ v',K v'=some r∧a2l n (l9 s).heap g (toD v)=toD v':=by
 unfold c1f at h
 split at h
 ·rename_i z t m off len id
  split at h
  ·rename_i l z' hb
   have hh:=R2 hb (by simp)
   simp only [x9] at hh
   cases hg:Nat.ble n id && (Nat.beq z' z && Nat.beq m z) with
   | false=>rw [hg] at h;cases h
   | true =>
    rw [hg] at h
    simp only [cond_true] at h
    obtain ⟨h0,h⟩:=A7 h
    have h0:Nat.beq l len=true:=h0
    simp only [Bool.and_eq_true] at hg
    obtain ⟨g1,g2,g3⟩:=hg
    have:=Nat.eq_of_beq_eq_true g3
    subst this
    refine ⟨_,h,?_⟩
    simp only [toD,a2l,hh,g1,g2,h0,D6,Nat.beq_refl,Bool.and_self,cond_true]
  ·cases h
 ·rename_i z t m off len
  cases hm:Nat.beq m z with
  | true =>
   rw [hm] at h
   have:=Nat.eq_of_beq_eq_true hm
   subst this
   exact ⟨_,h,by simp only [toD,a2l,D6,Nat.beq_refl,cond_true]⟩
  | false =>
   rw [hm] at h
   simp only [cond_false] at h
   cases h0:Nat.beq m 0 with
   | false=>rw [h0] at h;cases h
   | true =>
    rw [h0] at h
    simp only [cond_true] at h
    obtain ⟨h1,h⟩:=A7 h
    have h1:Nat.beq len 0=true:=h1
    have:=Nat.eq_of_beq_eq_true h1
    subst this
    exact ⟨_,h,by simp only [toD,a2l,rows,List.length_nil,Nat.zero_mul,Nat.beq_refl,cond_true]⟩
 ·rename_i hn1 hn2
  refine ⟨_,h,?_⟩
  rw [b6l]
  unfold a2l
  split
  ·rename_i z len c id hd
   exfalso
   cases v <;> simp only [toD] at hd <;> first | (cases hd;done) | skip
   ·injection hd with _ _ hd;subst hd;exact hn1 _ _ _ _ _ _ rfl rfl
   ·cases Y0 _ _ _ _ _ hd
  ·rename_i z len c hd
   exfalso
   cases v <;> simp only [toD] at hd <;> first | (cases hd;done) | skip
   ·injection hd with _ _ hd;subst hd;exact hn2 _ _ _ _ _ rfl rfl
   ·cases Y0 _ _ _ _ _ hd
  ·rfl
theorem a6b {n:Nat} {s:u5}:∀ {gv:List (Option Nat)} {vs:List V} {K:List V→Om},a7z CR n s.heap gv vs K=some r→∃ vs',K vs'=some r∧V0 n (l9 s).heap gv (vs.map toD)=vs'.map toD
 | gv,[],K,h=>by cases gv <;> exact ⟨[],h,by simp [V0]⟩
 | [],v :: vs,K,h=>by
  simp only [a7z] at h
  obtain ⟨vs',h,e⟩:=a6b h
  exact ⟨_,h,by simp only [List.map_cons,V0,b6l,e]⟩
 | g :: gv,v :: vs,K,h=>by
  simp only [a7z] at h
  obtain ⟨v',h,e1⟩:=c45 h
  obtain ⟨vs',h,e⟩:=a6b h
  exact ⟨_,h,by simp only [List.map_cons,V0,e1,e]⟩
theorem a2w {P:Program} {rs:List ResultVar} {n:Nat} {gv:List (Option Nat)} {s:u5} {x:H6} {bs':List Bx} (h:b7n CR P rs n gv s=some (x,bs')):fin P rs n gv (b0m x) (bs'.map G0) (l9 s):=by
 obtain ⟨vs,h,e⟩:=a3q h
 split at h
 ·rename_i bs hb
  obtain ⟨vs',h,eg⟩:=a6b h
  injection h with h
  injection h with h1 h2
  subst h1 h2
  obtain ⟨q1,q2,q3⟩:=a6f hb
  have q1:O3 (l9 s).heap (List.range n)=some (bs.map G0):=q1
  unfold fin
  rw [e,q1]
  refine ⟨?_,?_⟩
  ·simp only [b0m,d1w,eg]
  ·rw [List.map_map,List.map_map];exact List.map_congr_left fun b _=>(b1x (Z5 n)).symm
 ·cases h
theorem b4q (n:Nat) (vs:List V) {bs:List Bx} (h:bs.all L9=true):l9 (b44 n vs bs)=start n (vs.map toD) (bs.map G0):=by
 unfold b44 start l9
 simp only [List.map_append,List.map_replicate,List.length_map,List.map_map,toD,Q1]
 congr 1
 exact List.map_congr_left fun b hb=>a2b (List.all_eq_true.1 h b hb)

theorem e30 {fn:FuncId→B7} {cr:Q6} (htab:X.tab=[]) (hfn:∀ g,K4 X g (fn g)) (hcr:a2u cr) {AL AJ:Nat→Option Ann} {gv:List (Option Nat)} {f:FuncId} {F:Func} (hf:X.P.funcs[f]?=some F) (hb:F.body.isSome=true)
  (hcall:∀ args w,(callFunc f args).run X.P w=.ok (.enter f args) w):K4 X f (d7x CU X fn cr AL AJ gv F):=by
 intro vs bs x bs' h hok
 obtain ⟨c,hc⟩:=Option.isSome_iff_exists.1 hb
 unfold d7x at h
 rw [hc] at h
 have:=N3 (X:=X) htab hfn hcr c h (K':=fin X.P F.results.toList bs.length gv (b0m x) (bs'.map G0)) (Kx':=fun _ _=>False) (Kr':=fin X.P F.results.toList bs.length gv (b0m x) (bs'.map G0)) (Kp':=fun d=>b0m x=.pan d)
  (fun s h=>a2w h) (fun _ _ h=>by cases h) (fun s h=>a2w h) (fun v h=>by injection h with h;injection h with h1 h2;rw [← h1];rfl)
 rw [b4q _ _ hok] at this
 have e:(bs.map G0).length=bs.length:=by simp
 refine a0n (X:=X) (gv:=gv) (L:=fun _ body s=>a1d bs.length body s) (J:=fun q=>(AJ q).map b1m) hf hc hcall (fun _ _ _ h=>by rw [e];exact h) ?_
 rw [e]
 exact this

end
def c81 (U:q8) (X:Pr) (fn:FuncId→B7) (cr:Q6) (AL AJ:Nat→Option Ann) (gv:List (Option Nat)) (f:Func):B7:=fun vs bs=>match f.body with
 | some (.seq A (.seq R C))=>match a7a R with
  | some (_,t)=>ev U X fn cr bs.length AL AJ A 0 0 (b44 f.ntmps vs bs) (fun s=>match L4 s.tmps t with
    | .ptr _ _=>ev U X fn cr bs.length AL AJ C (L7 A) (R1 A) s (b7n U.toComb X.P f.results.toList bs.length gv) (fun _ _=>none) (b7n U.toComb X.P f.results.toList bs.length gv) (fun _=>none)
    | _=>none) (fun _ _=>none) (b7n U.toComb X.P f.results.toList bs.length gv) (fun _=>none)
  | none=>none
 | _=>none
def c9a (f:Func):Option FuncId:=match f.body with
 | some (.seq _ (.seq R _))=>(a7a R).map (·.1)
 | _=>none
section
variable {X:Pr} {r:R}
theorem d9m {fn:FuncId→B7} {cr:Q6} (htab:X.tab=[]) (hfn:∀ g,K4 X g (fn g)) (hcr:a2u cr) {AL AJ:Nat→Option Ann} {gv:List (Option Nat)} {f g:FuncId} {F:Func} (hf:X.P.funcs[f]?=some F) (hd:c9a F=some g)
  (hcall:∀ args w,(callFunc f args).run X.P w=.ok (.enter f args) w) (hg:∀ args w,(callFunc g args).run X.P w=.ok (.enter g args) w) (hidle:c9t X.P g):K4 X f (c81 CU X fn cr AL AJ gv F):=by
 intro vs bs x bs' h hok
 unfold c81 at h
 unfold c9a at hd
 split at h
 ·rename_i A R C hb
  rw [hb] at hd
  simp only [] at hd
  split at h
  ·rename_i g' t hR
   rw [hR] at hd
   injection hd with hd
   subst hd
   have e:(bs.map G0).length=bs.length:=by simp
   refine b7p (X:=X) (gv:=gv) (L:=fun _ body s=>a1d bs.length body s) (J:=fun q=>(AJ q).map b1m) hf hb hR hcall hg hidle (fun _ _ _ h=>by rw [e];exact h) ?_
   rw [e,← b4q _ _ hok]
   refine N3 (X:=X) htab hfn hcr A h (fun s h=>?_) (fun _ _ h=>by cases h) (fun s h=>a2w h) (fun v h=>by cases h)
   split at h
   ·rename_i id off hp
    refine ⟨⟨id,off,?_⟩,N3 (X:=X) htab hfn hcr C h (fun s h=>a2w h) (fun _ _ h=>by cases h) (fun s h=>a2w h) (fun v h=>by cases h)⟩
    have:=l8 s (.tmp t)
    have e2:(l9 s).eval (.tmp t)=(l9 s).tmps.getD t .junk:=rfl
    rw [← e2,this]
    show toD (L4 s.tmps t)=_
    rw [hp]
    simp only [toD]
   ·cases h
  ·cases h
 ·cases h
end
end
end Go.Abs
