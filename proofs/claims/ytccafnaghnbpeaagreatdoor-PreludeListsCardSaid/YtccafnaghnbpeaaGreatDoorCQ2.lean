/- What the operations say, run: second part. -/
import Derived.Test.YtccafnaghnbpeaaGreatDoorCQ1
set_option linter.all false
namespace Go.Abs
noncomputable section

theorem writeAt_eq : ∀ (vs ds : List D) (off : Nat), off + vs.length ≤ ds.length → writeAt ds off vs = ds.take off ++ vs ++ ds.drop (off + vs.length)
 | [], ds, off, h => by simp [writeAt]
 | v :: vs, ds, off, h => by
  simp only [List.length_cons] at h
  simp only [writeAt]
  rw [writeAt_eq vs _ _ (by simp; omega)]
  have e1 : (ds.set off v).take (off + 1) = ds.take off ++ [v] := by
   apply List.ext_getElem?
   intro i
   rcases Nat.lt_or_ge i off with hi | hi
   ·rw [List.getElem?_take_of_lt (by omega), List.getElem?_set_ne (by omega), List.getElem?_append_left (by simp; omega), List.getElem?_take_of_lt hi]
   ·rcases Nat.eq_or_lt_of_le hi with hi | hi
    ·subst hi
     rw [List.getElem?_take_of_lt (by omega), List.getElem?_set_self (by omega), List.getElem?_append_right (by simp; omega)]
     simp [Nat.min_eq_left (show off ≤ ds.length by omega)]
    ·rw [List.getElem?_eq_none (by simp; omega), List.getElem?_eq_none (by simp; omega)]
  have e2 : (ds.set off v).drop (off + 1 + vs.length) = ds.drop (off + 1 + vs.length) := by
   apply List.ext_getElem?
   intro i
   rw [List.getElem?_drop, List.getElem?_drop, List.getElem?_set_ne (by omega)]
  rw [e1, e2]
  simp only [List.append_assoc, List.cons_append, List.nil_append, List.length_cons]
  rw [show off + 1 + vs.length = off + (vs.length + 1) by omega]

section
variable {X : Pr} {s : Vst} {nid : Nat} {r : R}

theorem fill_rows {n : Nat} : ∀ {ps : List (Nat × V)} {i : Nat} {ds : List D} {qs : List Q}, elemsV n i ps = some qs → ds.length = (i + ps.length) * n →
  ∃ out, fillD (fun i => some (i * n, n)) ds (ps.map fun p => (p.1, toD p.2)) = some out ∧ out.map (renI noId) = (ds.take (i * n)).map (renI noId) ++ qs.flatMap fun q => cellsF (den q) 0 n
 | [], i, ds, qs, h, hl => by
  simp only [elemsV] at h
  injection h with h
  subst h
  refine ⟨ds, rfl, ?_⟩
  simp only [List.flatMap_nil, List.append_nil]
  rw [List.take_of_length_le (by rw [hl]; simp)]
 | (j, v) :: ps, i, ds, qs, h, hl => by
  simp only [elemsV] at h
  split at h
  ·rename_i q qs' hj hq hqs
   injection h with h
   subst h
   have := Nat.eq_of_beq_eq_true hj
   subst this
   obtain ⟨h1, h2, h3⟩ := elemQ_some hq
   simp only [List.length_cons] at hl
   have hle : i * n + n ≤ ds.length := by
    rw [hl]
    have : (i + 1) * n ≤ (i + (ps.length + 1)) * n := Nat.mul_le_mul_right n (by omega)
    rw [Nat.succ_mul] at this
    exact this
   have hw : writeAt ds (i * n) (toD v).cells = ds.take (i * n) ++ (toD v).cells ++ ds.drop (i * n + n) := by
    rw [writeAt_eq _ _ _ (by rw [h2]; exact hle), h2]
   have hlen : (writeAt ds (i * n) (toD v).cells).length = (i + 1 + ps.length) * n := by
    rw [hw]
    simp only [List.length_append, List.length_take, List.length_drop, h2]
    have : (i + 1 + ps.length) * n = ds.length := by rw [hl]; congr 1; omega
    omega
   obtain ⟨out, ho, hm⟩ := fill_rows hqs hlen
   refine ⟨out, ?_, ?_⟩
   ·simp only [List.map_cons, fillD, h1, h2]
    have e1 : Nat.ble (i * n + n) ds.length = true := by rw [Nat.ble_eq]; exact hle
    rw [e1]
    simp only [beq_self_eq_true, Bool.and_self, cond_true]
    exact ho
   ·rw [hm, hw, Nat.succ_mul]
    have e2 : (ds.take (i * n) ++ (toD v).cells ++ ds.drop (i * n + n)).take (i * n + n) = ds.take (i * n) ++ (toD v).cells :=
     List.take_left' (by simp only [List.length_append, List.length_take, h2]; omega)
    rw [e2, List.map_append, h3, List.flatMap_cons, List.append_assoc]
  ·cases h
theorem elemsV_length {n : Nat} : ∀ {ps : List (Nat × V)} {i : Nat} {qs : List Q}, elemsV n i ps = some qs → qs.length = ps.length
 | [], i, qs, h => by simp only [elemsV] at h; injection h with h; subst h; rfl
 | (j, v) :: ps, i, qs, h => by
  simp only [elemsV] at h
  split at h
  ·rename_i q qs' hj hq hqs
   injection h with h
   subst h
   simp [elemsV_length hqs]
  ·cases h
theorem mkT_at : ∀ (qs : List Q) (i : Nat) (t : Tre Q), i + qs.length + 2 ≤ 2 ^ deep → (∀ k, k < i → atT (denT (mkT qs i t)) k = atT (denT t) k) ∧ ∀ k q, qs[k]? = some q → atT (denT (mkT qs i t)) (i + k) = den q
 | [], i, t, _ => ⟨fun _ _ => rfl, fun k q h => by simp at h⟩
 | q :: qs, i, t, hb => by
  simp only [List.length_cons] at hb
  obtain ⟨h1, h2⟩ := mkT_at qs (i + 1) (t.set .no q deep i) (by omega)
  refine ⟨fun k hk => ?_, fun k x hx => ?_⟩
  ·simp only [mkT]; rw [h1 k (by omega), atT_set_ne _ _ _ (by omega)]
  ·simp only [mkT]
   cases k with
   | zero =>
    simp at hx; subst hx
    show atT (denT (mkT qs (i + 1) (Tre.set Q.no q deep t i))) i = den q
    rw [h1 i (by omega), atT_set _ _ (by omega)]
   | succ k =>
    simp only [List.getElem?_cons_succ] at hx
    have := h2 k x hx
    rw [show i + 1 + k = i + (k + 1) by omega] at this
    exact this
theorem rows_list {T : Tre Den} {n : Nat} : ∀ (qs : List Q) (off : Nat), (∀ k q, qs[k]? = some q → atT T (off + k) = den q) → rows T n off qs.length = qs.flatMap fun q => cellsF (den q) 0 n
 | [], off, h => rfl
 | q :: qs, off, h => by
  simp only [List.length_cons, rows, List.flatMap_cons]
  rw [rows_list qs (off + 1) (fun k x hx => by have := h (k + 1) x (by simpa using hx); rw [show off + 1 + k = off + (k + 1) by omega]; exact this)]
  have := h 0 q rfl
  rw [Nat.add_zero] at this
  rw [this]

theorem zeros_length (z : List D) (n : Nat) : (zeros z n).length = n := by simp [zeros]

theorem vAppend_some {P : Program} {t : TypeId} {x y : V} {K : KV} (h : vAppend CR P s nid t x y K = some r) : ∃ v ws rs, K v ws rs = some r ∧ dAppend P (toSt s) nid t (toD x) (toD y) = some ⟨true, toD v, toWs ws, rs⟩ := by
 unfold vAppend at h
 split at h
 ·rename_i e hu
  split at h
  ·rename_i n b z hn hb hz
   cases hg : Nat.beq z.length n && Nat.blt 0 n && isFreeV s nid with
   | false => rw [hg] at h; cases h
   | true =>
    rw [hg] at h
    simp only [cond_true] at h
    simp only [Bool.and_eq_true] at hg
    obtain ⟨⟨g1, g2⟩, g3⟩ := hg
    obtain ⟨tr, off, len, c, hx, h⟩ := vSl_some h
    obtain ⟨t2, off2, m, _, hy, h⟩ := vSl_some h
    obtain ⟨h0, h⟩ := Cchk_some h
    have h0 : (band (Nat.ble ((len + m) * b) 140737488355328) (Nat.ble (len + m) 140737488355328)) = true := h0
    rw [CfN] at h
    rw [band_eq, Bool.and_eq_true, Nat.ble_eq, Nat.ble_eq] at h0
    obtain ⟨t', h, hold, hnew⟩ := aT_some m (t := tr) (i := off + len) (j := off2) h
    have hrows : rows (denT t') n off (len + m) = rows (denT tr) n off len ++ rows (denT t2) n off2 m := by
     rw [rows_append]
     congr 1
     ·exact rows_congr len off off fun k hk => hold _ (by omega)
     ·exact rows_congr m (off + len) off2 fun k hk => hnew k hk
    have hz' := zeroV_some hz
    have hzl : Nat.beq (z.map toD).length n = true := by rw [List.length_map]; exact g1
    have hneed : (decide ((len + m) * b ≤ roomy ∧ len + m ≤ roomy ∧ (rows (denT tr) n off len).length = len * n ∧ (rows (denT t2) n off2 m).length = m * n) && (rows (denT t2) n off2 m).all D.one) = true := by
     rw [rows_one, Bool.and_true, decide_eq_true_iff]
     exact ⟨h0.1, h0.2, rows_length _ _, rows_length _ _⟩
    split at h
    ·refine ⟨_, _, _, h, ?_⟩
     simp only [C_wr, C_iAdd, C_iSub, C_iMul, C_iQuo, C_iRem, C_iEq, C_iLt, C_iLe, C_bnot, C_band, C_bsel, C_isel, C_sEq, C_sLt, C_sCat, C_sSub, C_sIdx, C_nAdd, C_nSub, C_nMul, C_nEq, C_nLe, C_iNat, C_iOfN, C_celQ, C_subQ, C_tQ, nAdd, Nat.add_eq, dAppend, hu, hx, hy, hn, hb, hz', hzl, g2, isFree_of g3, Bool.and_self, cond_true, hneed, toD, hrows, toWs, List.map_cons, List.map_nil, toB]
    ·rename_i id
     split at h
     ·rename_i l k hbx
      obtain ⟨h1, h⟩ := Cchk_some h
      have h1 : (band (Nat.beq l len) (Nat.beq k n)) = true := h1
      rw [band_eq, Bool.and_eq_true] at h1
      refine ⟨_, _, _, h, ?_⟩
      have hh := heap_of hbx (by simp)
      simp only [toB] at hh
      simp only [C_wr, C_iAdd, C_iSub, C_iMul, C_iQuo, C_iRem, C_iEq, C_iLt, C_iLe, C_bnot, C_band, C_bsel, C_isel, C_sEq, C_sLt, C_sCat, C_sSub, C_sIdx, C_nAdd, C_nSub, C_nMul, C_nEq, C_nLe, C_iNat, C_iOfN, C_celQ, C_subQ, C_tQ, nAdd, Nat.add_eq, dAppend, hu, hx, hy, hn, hb, hz', hzl, g2, isFree_of g3, Bool.and_self, cond_true, hneed, toD, hrows, toWs, List.map_cons, List.map_nil, toB, hh, h1.1, h1.2]
     ·cases h
    ·cases h
  ·cases h
 ·cases h

theorem vOwn_some {P : Program} {t : TypeId} {x y : V} {K : KV} (h : vOwn CR P s nid t x y K = some r) : ∃ v ws rs, K v ws rs = some r ∧ dOwn P (toSt s) nid t (toD x) (toD y) = some ⟨true, toD v, toWs ws, rs⟩ := by
 unfold vOwn at h
 split at h
 ·rename_i e hu
  split at h
  ·rename_i n b z hn hb hz
   cases hg : Nat.beq z.length n && Nat.blt 0 n && isFreeV s nid with
   | false => rw [hg] at h; cases h
   | true =>
    rw [hg] at h
    simp only [cond_true] at h
    simp only [Bool.and_eq_true] at hg
    obtain ⟨⟨g1, g2⟩, g3⟩ := hg
    obtain ⟨tr, off, len, c, hx, h⟩ := vSl_some h
    obtain ⟨t2, off2, m, _, hy, h⟩ := vSl_some h
    obtain ⟨h0, hq⟩ := Cchk_some h
    clear h
    have h0 : (band (Nat.beq len 0) (band (Nat.ble 1 m) (band (Nat.ble (m * b) 140737488355328) (Nat.ble m 140737488355328)))) = true := h0
    rw [band_eq, band_eq, band_eq, Bool.and_eq_true, Bool.and_eq_true, Bool.and_eq_true, Nat.ble_eq, Nat.ble_eq, Nat.ble_eq] at h0
    obtain ⟨h1, h2, h3, h4⟩ := h0
    have h1 := Nat.eq_of_beq_eq_true h1
    subst h1
    obtain ⟨t', h, hold, hnew⟩ := aT_some m (t := .nil) (i := 0) (j := off2) hq
    have hrows : rows (denT t') n 0 m = rows (denT t2) n off2 m := rows_congr m 0 off2 fun k hk => hnew k hk
    have hz' := zeroV_some hz
    have hzl : Nat.beq (z.map toD).length n = true := by rw [List.length_map]; exact g1
    have hneed : decide ((rows (denT tr) n off 0).length = 0 ∧ 0 < m ∧ m * b ≤ roomy ∧ m ≤ roomy ∧ (rows (denT t2) n off2 m).length = m * n) = true := by
     rw [decide_eq_true_iff]
     exact ⟨rfl, h2, h3, h4, rows_length _ _⟩
    split at h
    ·refine ⟨_, _, _, h, ?_⟩
     simp only [C_wr, C_iAdd, C_iSub, C_iMul, C_iQuo, C_iRem, C_iEq, C_iLt, C_iLe, C_bnot, C_band, C_bsel, C_isel, C_sEq, C_sLt, C_sCat, C_sSub, C_sIdx, C_nAdd, C_nSub, C_nMul, C_nEq, C_nLe, C_iNat, C_iOfN, C_celQ, C_subQ, C_tQ, dOwn, true_and, hu, hx, hy, hn, hb, hz', hzl, g2, isFree_of g3, Bool.and_self, cond_true, hneed, toD, hrows, toWs, List.map_cons, List.map_nil, toB]
    ·cases h
  ·cases h
 ·cases h

theorem toQ0_some {v : V} {x : Q} (h : toQ0 v = some x) : toD v = den x 0 := by
 unfold toQ0 at h
 split at h <;> first
  | (injection h with h; subst h; simp only [toD, den]; rfl)
  | (injection h with h; subst h; simp only [toD])
  | cases h
theorem openB_some {b : Bx} {cs : List V} (h : openB CR b = some cs) : toB b = .cells (cs.map toD) ∧ b ≠ .dead := by
 unfold openB at h
 split at h
 ·injection h with h; subst h; exact ⟨rfl, by simp⟩
 ·rename_i x m
  injection h with h
  subst h
  refine ⟨?_, by simp⟩
  simp only [toB, upTo_cells, List.map_map]
  congr 1
  exact List.map_congr_left fun i _ => by simp only [Function.comp, toD]; exact (celQ_den x i).symm
 ·cases h
theorem writeAt_left (xs : List D) : ∀ (es ys : List D) (off : Nat), writeAt (xs ++ ys) (xs.length + off) es = xs ++ writeAt ys off es
 | [], _, _ => rfl
 | e :: es, ys, off => by
  simp only [writeAt]
  rw [List.set_append_right _ _ (by omega), Nat.add_sub_cancel_left, Nat.add_assoc, writeAt_left xs es]
theorem writeAt_head {es xs ys : List D} (h : es.length = xs.length) : writeAt (xs ++ ys) 0 es = es ++ ys := by
 rw [writeAt_eq _ _ _ (by rw [List.length_append]; omega), Nat.zero_add, h, List.drop_left]
 simp
theorem rowsN_set {T T' : Tre Den} {n : Nat} {y : Den} : ∀ {k len off : Nat}, k < len → atT T' (off + k) = y → (∀ i, i ≠ off + k → atT T' i = atT T i) → rows T' n off len = writeAt (rows T n off len) (k * n) (cellsF y 0 n)
 | 0, len + 1, off, _, h1, h2 => by
  simp only [rows, Nat.zero_mul]
  rw [writeAt_head (by rw [cellsF_length, cellsF_length]), ← h1, Nat.add_zero]
  congr 1
  exact rows_congr len _ _ fun i _ => h2 _ (by omega)
 | k + 1, len + 1, off, h, h1, h2 => by
  simp only [rows]
  have e := writeAt_left (cellsF (atT T off) 0 n) (cellsF y 0 n) (rows T n (off + 1) len) (k * n)
  rw [cellsF_length] at e
  rw [show (k + 1) * n = n + k * n by rw [Nat.add_mul, Nat.one_mul]; omega, e, h2 off (by omega)]
  congr 1
  exact rowsN_set (by omega) (by rw [← h1]; congr 1; omega) fun i hi => h2 i (by omega)
theorem rows_set {tr : Tre Q} {y : Q} {off len : Nat} (h1 : off < len) (h2 : off + 2 ≤ 2 ^ deep) : rows (denT (tr.set .no y deep off)) 1 0 len = (rows (denT tr) 1 0 len).set off (den y 0) := by
 have key : ∀ (T : Tre Den) (m o i : Nat), i < m → (rows T 1 o m)[i]? = some (atT T (o + i) 0) := by
  intro T m
  induction m with
  | zero => intro o i hi; omega
  | succ m ih =>
   intro o i hi
   simp only [rows, cellsF, List.cons_append, List.nil_append]
   cases i with
   | zero => rfl
   | succ i =>
    rw [List.getElem?_cons_succ, ih (o + 1) i (by omega)]
    rw [show o + 1 + i = o + (i + 1) by omega]
 apply List.ext_getElem?
 intro i
 rcases Nat.lt_or_ge i len with hi | hi
 ·rw [key _ _ _ _ hi, Nat.zero_add]
  by_cases he : off = i
  ·subst he
   rw [List.getElem?_set_self (by rw [rows_length, Nat.mul_one]; exact hi), atT_set _ _ h2]
  ·rw [List.getElem?_set_ne he, key _ _ _ _ hi, Nat.zero_add, atT_set_ne _ _ _ (fun e => he e.symm)]
 ·rw [List.getElem?_eq_none (by rw [rows_length, Nat.mul_one]; exact hi), List.getElem?_eq_none (by rw [List.length_set, rows_length, Nat.mul_one]; exact hi)]
end
end
end Go.Abs
namespace Go.Abs
noncomputable section

section
variable {X : Pr} {s : Vst} {nid : Nat} {r : R}

theorem op_evals (l : List Operand) : l.map (toSt s).eval = (l.map s.eval).map toD := by
 rw [List.map_map]; exact List.map_congr_left fun x _ => toSt_eval s x

theorem vOp_build {t : TypeId} {parts : Array (Nat × Operand)} {K : KV} (h : vOp CR X s nid (.build t parts) K = some r) : ∃ v ws rs, K v ws rs = some r ∧ dOp X (toSt s) nid (.build t parts) = some ⟨true, toD v, toWs ws, rs⟩ := by
 simp only [vOp] at h
 split at h
 ·rename_i fs z hu hz
  split at h
  ·rename_i cs hf
   cases ha : (fs.all fun f => (szOf X.P f.type).isSome) with
   | false => rw [ha] at h; cases h
   | true =>
    rw [ha] at h
    refine ⟨_, _, _, h, ?_⟩
    have := fillV_some hf
    simp only [List.map_map] at this
    have e : (parts.toList.map fun p => (p.1, (toSt s).eval p.2)) = parts.toList.map ((fun p : Nat × V => (p.1, toD p.2)) ∘ fun p => (p.1, s.eval p.2)) :=
     List.map_congr_left fun p _ => by simp only [Function.comp, toSt_eval]
    rw [← e] at this
    simp only [C_wr, C_iAdd, C_iSub, C_iMul, C_iQuo, C_iRem, C_iEq, C_iLt, C_iLe, C_bnot, C_band, C_bsel, C_isel, C_sEq, C_sLt, C_sCat, C_sSub, C_sIdx, C_nAdd, C_nSub, C_nMul, C_nEq, C_nLe, C_iNat, C_iOfN, C_celQ, C_subQ, C_tQ, dOp, hu, zeroV_some hz, this, calmIf, ha, toD, toDL_eq]
    rfl
  ·cases h
 ·cases h
theorem vOp_buildSlice {t : TypeId} {len : Nat} {parts : Array (Nat × Operand)} {K : KV} (h : vOp CR X s nid (.buildSlice t len parts) K = some r) : ∃ v ws rs, K v ws rs = some r ∧ dOp X (toSt s) nid (.buildSlice t len parts) = some ⟨true, toD v, toWs ws, rs⟩ := by
 simp only [vOp] at h
 split at h
 ·rename_i e hu
  split at h
  ·rename_i n z hn hz
   split at h
   ·rename_i qs hq
    cases hg : Nat.beq qs.length len && (Nat.ble (len * n) 16777216 && Nat.ble len 16777216) with
    | false => rw [hg] at h; cases h
    | true =>
     rw [hg] at h
     simp only [Bool.and_eq_true] at hg
     obtain ⟨g1, g2, g3⟩ := hg
     have hql := Nat.eq_of_beq_eq_true g1
     refine ⟨_, _, _, h, ?_⟩
     have hpl := elemsV_length hq
     simp only [List.length_map] at hpl
     obtain ⟨out, ho, hm⟩ := fill_rows hq (ds := zeros (z.map toD) (len * n)) (by rw [zeros_length, Nat.zero_add, List.length_map, ← hpl, hql])
     simp only [List.map_map] at ho
     have e : (parts.toList.map fun p => (p.1, (toSt s).eval p.2)) = parts.toList.map ((fun p : Nat × V => (p.1, toD p.2)) ∘ fun p => (p.1, s.eval p.2)) :=
      List.map_congr_left fun p _ => by simp only [Function.comp, toSt_eval]
     rw [← e] at ho
     simp only [C_wr, C_iAdd, C_iSub, C_iMul, C_iQuo, C_iRem, C_iEq, C_iLt, C_iLe, C_bnot, C_band, C_bsel, C_isel, C_sEq, C_sLt, C_sCat, C_sSub, C_sIdx, C_nAdd, C_nSub, C_nMul, C_nEq, C_nLe, C_iNat, C_iOfN, C_celQ, C_subQ, C_tQ, dOp, hu, hn, zeroV_some hz, ho, calmIf, g2, toD, hm, Nat.zero_mul, List.take_zero, List.map_nil, List.nil_append]
     have hb : 0 + qs.length + 2 ≤ 2 ^ deep := by
      rw [Nat.ble_eq] at g3
      show 0 + qs.length + 2 ≤ 2 ^ 48
      omega
     obtain ⟨_, h2⟩ := mkT_at qs 0 .nil hb
     rw [← hql, rows_list qs 0 h2]
     rfl
   ·cases h
  ·cases h
 ·cases h
theorem vOp_load {t : TypeId} {a : Operand} {K : KV} (h : vOp CR X s nid (.load t a) K = some r) : ∃ v ws rs, K v ws rs = some r ∧ dOp X (toSt s) nid (.load t a) = some ⟨true, toD v, toWs ws, rs⟩ := by
 simp only [vOp] at h
 split at h
 ·rename_i id off ha
  split at h
  ·rename_i cs hb
   obtain ⟨v, h, hr⟩ := readV_some h
   have hh := heap_of hb (by simp)
   refine ⟨_, _, _, h, ?_⟩
   simp only [C_wr, C_iAdd, C_iSub, C_iMul, C_iQuo, C_iRem, C_iEq, C_iLt, C_iLe, C_bnot, C_band, C_bsel, C_isel, C_sEq, C_sLt, C_sCat, C_sSub, C_sIdx, C_nAdd, C_nSub, C_nMul, C_nEq, C_nLe, C_iNat, C_iOfN, C_celQ, C_subQ, C_tQ, dOp, toSt_eval, ha, toD, hh, toB, hr, Option.map_some]
   rfl
  ·rename_i x m hb
   obtain ⟨v, h, hr⟩ := readQ_some h
   have hh := heap_of hb (by simp)
   have := hr 0 (Nat.zero_le _)
   rw [Nat.sub_zero, Nat.sub_zero] at this
   refine ⟨_, _, _, h, ?_⟩
   simp only [C_wr, C_iAdd, C_iSub, C_iMul, C_iQuo, C_iRem, C_iEq, C_iLt, C_iLe, C_bnot, C_band, C_bsel, C_isel, C_sEq, C_sLt, C_sCat, C_sSub, C_sIdx, C_nAdd, C_nSub, C_nMul, C_nEq, C_nLe, C_iNat, C_iOfN, C_celQ, C_subQ, C_tQ, dOp, toSt_eval, ha, toD, hh, toB, this, Option.map_some]
   rfl
  ·rename_i tr len hb
   split at h
   ·rename_i hag
    obtain ⟨h0, h⟩ := Cchk_some h
    have h0 : (Nat.ble (off + 1) len) = true := h0
    rw [CfQ] at h
    rw [Nat.ble_eq] at h0
    have hh := heap_of hb (by simp)
    refine ⟨_, _, _, h, ?_⟩
    have key : (rows (denT tr) 1 0 len)[off]? = some (den (tQ tr off) 0) := by
     have h1 := rows_elem (T := denT tr) (n := 1) (off := 0) (show off < len by omega)
     rw [Nat.mul_one, Nat.zero_add] at h1
     have h2 := congrArg (·[0]?) h1
     simp only [List.getElem?_take_of_lt (show 0 < 1 by omega), List.getElem?_drop, Nat.add_zero] at h2
     rw [h2, tQ_den]
     rfl
    simp only [C_wr, C_iAdd, C_iSub, C_iMul, C_iQuo, C_iRem, C_iEq, C_iLt, C_iLe, C_bnot, C_band, C_bsel, C_isel, C_sEq, C_sLt, C_sCat, C_sSub, C_sIdx, C_nAdd, C_nSub, C_nMul, C_nEq, C_nLe, C_iNat, C_iOfN, C_celQ, C_subQ, C_tQ, dOp, toSt_eval, ha, toD, hh, toB, readAt, hag, key, Option.map_some]
    rfl
   ·cases h
  ·cases h
 ·rename_i x off m ha
  obtain ⟨v, h, hr⟩ := readQ_some h
  have := hr off (Nat.le_refl _)
  rw [Nat.add_sub_cancel_left, Nat.sub_self] at this
  refine ⟨_, _, _, h, ?_⟩
  simp only [C_wr, C_iAdd, C_iSub, C_iMul, C_iQuo, C_iRem, C_iEq, C_iLt, C_iLe, C_bnot, C_band, C_bsel, C_isel, C_sEq, C_sLt, C_sCat, C_sSub, C_sIdx, C_nAdd, C_nSub, C_nMul, C_nEq, C_nLe, C_iNat, C_iOfN, C_celQ, C_subQ, C_tQ, dOp, toSt_eval, ha, toD, this, Option.map_some]
  rfl
 ·cases h
theorem vOp_store {t : TypeId} {a x : Operand} {K : KV} (h : vOp CR X s nid (.store t a x) K = some r) : ∃ v ws rs, K v ws rs = some r ∧ dOp X (toSt s) nid (.store t a x) = some ⟨true, toD v, toWs ws, rs⟩ := by
 simp only [vOp] at h
 split at h
 ·rename_i id off ha
  split at h
  ·rename_i tr len hb hn
   split at h
   ·rename_i y hy
    obtain ⟨h0, h⟩ := Cchk_some h
    have h0 : (band (Nat.ble (off + 1) len) (Nat.ble (off + 2) 281474976710656)) = true := h0
    rw [band_eq, Bool.and_eq_true, Nat.ble_eq, Nat.ble_eq] at h0
    rw [show CR.sT = fun t i x K => setK x deep t i K from rfl] at h
    simp only [setK_eq] at h
    have hh := heap_of hb (by simp)
    have hv := toQ0_some hy
    have ho := den_one y 0
    refine ⟨_, _, _, h, ?_⟩
    have hc : (den y 0).cells = [den y 0] := by cases hd : den y 0 <;> rw [hd] at ho <;> first | rfl | cases ho
    have hok : (den y 0).ok = true := by simp [D.ok, ho]
    have e1 : Nat.ble (off + 1) (rows (denT tr) 1 0 len).length = true := by rw [rows_length, Nat.mul_one, Nat.ble_eq]; exact h0.1
    simp only [C_wr, C_iAdd, C_iSub, C_iMul, C_iQuo, C_iRem, C_iEq, C_iLt, C_iLe, C_bnot, C_band, C_bsel, C_isel, C_sEq, C_sLt, C_sCat, C_sSub, C_sIdx, C_nAdd, C_nSub, C_nMul, C_nEq, C_nLe, C_iNat, C_iOfN, C_celQ, C_subQ, C_tQ, dOp, toSt_eval, ha, toD, hh, toB, hn, hv, hok, hc, List.all_cons, List.all_nil, ho, e1, Bool.and_self, List.length_cons, List.length_nil, Nat.zero_add, writeAt, toWs, List.map_cons, List.map_nil, toDL]
    rw [rows_set (by omega) (by show off + 2 ≤ 2 ^ 48; exact h0.2)]
    rfl
   ·cases h
  ·rename_i n tr len m hb hn
   split at h
   ·rename_i y m' hx
    cases hg : Nat.beq m n && (Nat.beq m' n && Nat.blt 0 n) with
    | false => rw [hg] at h; cases h
    | true =>
     rw [hg] at h
     simp only [Bool.and_eq_true] at hg
     obtain ⟨g1, g2, g3⟩ := hg
     have e1 := Nat.eq_of_beq_eq_true g1
     have e2 := Nat.eq_of_beq_eq_true g2
     subst e1 e2
     simp only [cond_true] at h
     rw [CfN] at h
     obtain ⟨h0, h⟩ := Cchk_some h
     have h0 : (band (Nat.beq (off / m' * m') off) (band (Nat.ble (off / m' + 1) len) (Nat.ble (off / m' + 2) 281474976710656))) = true := h0
     rw [band_eq, band_eq, Bool.and_eq_true, Bool.and_eq_true, Nat.ble_eq, Nat.ble_eq] at h0
     obtain ⟨k1, k2, k3⟩ := h0
     have k1 := Nat.eq_of_beq_eq_true k1
     rw [show CR.sT = fun t i x K => setK x deep t i K from rfl] at h
     simp only [setK_eq] at h
     have hh := heap_of hb (by simp)
     have hal : (cellsF (den y) 0 m').all D.one = true := cellsF_one (den_one y) m' 0
     refine ⟨_, _, _, h, ?_⟩
     have e4 : Nat.ble (off + m') (rows (denT tr) m' 0 len).length = true := by
      rw [rows_length, Nat.ble_eq, ← k1]
      have : (off / m' + 1) * m' ≤ len * m' := Nat.mul_le_mul_right _ k2
      rw [Nat.add_mul, Nat.one_mul] at this
      exact this
     have e5 : rows (denT (tr.set .no y deep (off / m'))) m' 0 len = writeAt (rows (denT tr) m' 0 len) off (cellsF (den y) 0 m') := by
      rw [rowsN_set (T := denT tr) (k := off / m') (y := den y) (by omega) (by rw [Nat.zero_add]; exact atT_set y tr (by show off / m' + 2 ≤ 2 ^ 48; exact k3)) fun i hi => atT_set_ne y deep tr (by omega), k1]
     have e6 : CR.nDiv off m' = off / m' := rfl
     simp only [C_wr, C_iAdd, C_iSub, C_iMul, C_iQuo, C_iRem, C_iEq, C_iLt, C_iLe, C_bnot, C_band, C_bsel, C_isel, C_sEq, C_sLt, C_sCat, C_sSub, C_sIdx, C_nAdd, C_nSub, C_nMul, C_nEq, C_nLe, C_iNat, C_iOfN, C_celQ, C_subQ, C_tQ, dOp, toSt_eval, ha, hx, toD, hh, hn, D.ok, D.isAgg, D.cells, cellsF_length, g1, hal, e4, Bool.or_true, Bool.and_self, cond_true, toWs, List.map_cons, List.map_nil, toB, toDL, e6, e5]
   ·cases h
  ·rename_i n hn hnr hnr2
   split at h
   ·rename_i cs hcs
    obtain ⟨hB, hd⟩ := openB_some hcs
    have hh := heap_of (s := s) (i := id) rfl hd
    rw [hB] at hh
    split at h
    ·rename_i y m hx
     have hal : (cellsF (den y) 0 m).all D.one = true := cellsF_one (den_one y) m 0
     cases hg : Nat.beq m n && (Nat.beq off 0 && Nat.beq m cs.length) with
     | true =>
      rw [hg] at h
      simp only [Bool.and_eq_true] at hg
      obtain ⟨g1, g2, g3⟩ := hg
      have e1 := Nat.eq_of_beq_eq_true g1
      have e2 := Nat.eq_of_beq_eq_true g2
      have e3 := Nat.eq_of_beq_eq_true g3
      subst e1 e2
      refine ⟨_, _, _, h, ?_⟩
      have e4 : Nat.ble (0 + m) (cs.map toD).length = true := by rw [List.length_map, Nat.ble_eq]; omega
      have e5 : writeAt (cs.map toD) 0 (cellsF (den y) 0 m) = cellsF (den y) 0 m := by
       rw [writeAt_eq _ _ _ (by rw [cellsF_length, List.length_map]; omega), cellsF_length, List.take_zero, List.nil_append, List.drop_of_length_le (by rw [List.length_map]; omega), List.append_nil]
      simp only [C_wr, C_iAdd, C_iSub, C_iMul, C_iQuo, C_iRem, C_iEq, C_iLt, C_iLe, C_bnot, C_band, C_bsel, C_isel, C_sEq, C_sLt, C_sCat, C_sSub, C_sIdx, C_nAdd, C_nSub, C_nMul, C_nEq, C_nLe, C_iNat, C_iOfN, C_celQ, C_subQ, C_tQ, dOp, toSt_eval, ha, hx, toD, hh, hn, D.ok, D.isAgg, D.cells, cellsF_length, g1, hal, e4, Bool.or_true, Bool.and_self, cond_true, e5, toWs, List.map_cons, List.map_nil, toB, toDL]
     | false =>
      rw [hg] at h
      simp only [cond_false] at h
      cases hg2 : Nat.beq m n && Nat.ble (off + n) cs.length with
      | false => rw [hg2] at h; cases h
      | true =>
       rw [hg2] at h
       simp only [Bool.and_eq_true] at hg2
       obtain ⟨g1, g2⟩ := hg2
       have e1 := Nat.eq_of_beq_eq_true g1
       subst e1
       refine ⟨_, _, _, h, ?_⟩
       have e4 : Nat.ble (off + m) (cs.map toD).length = true := by rw [List.length_map]; exact g2
       have e6 : ((upTo 0 m).map fun i => V.q (celQ y i)).map toD = cellsF (den y) 0 m := by
        rw [upTo_cells, List.map_map]
        exact List.map_congr_left fun i _ => by simp only [Function.comp, toD]; exact celQ_den y i
       simp only [C_wr, C_iAdd, C_iSub, C_iMul, C_iQuo, C_iRem, C_iEq, C_iLt, C_iLe, C_bnot, C_band, C_bsel, C_isel, C_sEq, C_sLt, C_sCat, C_sSub, C_sIdx, C_nAdd, C_nSub, C_nMul, C_nEq, C_nLe, C_iNat, C_iOfN, C_celQ, C_subQ, C_tQ, dOp, toSt_eval, ha, hx, toD, hh, hn, D.ok, D.isAgg, D.cells, cellsF_length, g1, hal, e4, Bool.or_true, Bool.and_self, cond_true, toWs, List.map_cons, List.map_nil, toB, toDL, writeV_eq]
       rw [e6]
    ·rename_i hna
     split at h
     ·rename_i vs hvs
      obtain ⟨hok, hcl⟩ := cellsV_some hvs
      cases hg : Nat.beq vs.length n && (vs.all oneV && Nat.ble (off + n) cs.length) with
      | false => rw [hg] at h; cases h
      | true =>
       rw [hg] at h
       simp only [Bool.and_eq_true] at hg
       obtain ⟨g1, g2, g3⟩ := hg
       refine ⟨_, _, _, h, ?_⟩
       have e1 : Nat.beq (vs.map toD).length n = true := by rw [List.length_map]; exact g1
       have e4 : Nat.ble (off + n) (cs.map toD).length = true := by rw [List.length_map]; exact g3
       simp only [C_wr, C_iAdd, C_iSub, C_iMul, C_iQuo, C_iRem, C_iEq, C_iLt, C_iLe, C_bnot, C_band, C_bsel, C_isel, C_sEq, C_sLt, C_sCat, C_sSub, C_sIdx, C_nAdd, C_nSub, C_nMul, C_nEq, C_nLe, C_iNat, C_iOfN, C_celQ, C_subQ, C_tQ, dOp, toSt_eval, ha, toD, hh, hn, hok, hcl, e1, all_one g2, e4, Bool.and_self, cond_true, toWs, List.map_cons, List.map_nil, toB, toDL, writeV_eq]
     ·cases h
   ·cases h
  ·cases h
 ·cases h
theorem vOp_field {t : TypeId} {x : Operand} {f : Nat} {K : KV} (h : vOp CR X s nid (.field t x f) K = some r) : ∃ v ws rs, K v ws rs = some r ∧ dOp X (toSt s) nid (.field t x f) = some ⟨true, toD v, toWs ws, rs⟩ := by
 simp only [vOp] at h
 split at h
 ·rename_i fs hu
  split at h
  ·rename_i fd cs hf hx
   obtain ⟨v, h, hr⟩ := readV_some h
   refine ⟨_, _, _, h, ?_⟩
   simp only [C_wr, C_iAdd, C_iSub, C_iMul, C_iQuo, C_iRem, C_iEq, C_iLt, C_iLe, C_bnot, C_band, C_bsel, C_isel, C_sEq, C_sLt, C_sCat, C_sSub, C_sIdx, C_nAdd, C_nSub, C_nMul, C_nEq, C_nLe, C_iNat, C_iOfN, C_celQ, C_subQ, C_tQ, dOp, hu, hf, toSt_eval, hx, toD, toDL_eq, hr, Option.bind_some, calm]
   rfl
  ·rename_i fd y m hf hx
   obtain ⟨v, h, hr⟩ := readQ_some h
   have := hr 0 (Nat.zero_le _)
   rw [Nat.sub_zero, Nat.sub_zero] at this
   refine ⟨_, _, _, h, ?_⟩
   simp only [C_wr, C_iAdd, C_iSub, C_iMul, C_iQuo, C_iRem, C_iEq, C_iLt, C_iLe, C_bnot, C_band, C_bsel, C_isel, C_sEq, C_sLt, C_sCat, C_sSub, C_sIdx, C_nAdd, C_nSub, C_nMul, C_nEq, C_nLe, C_iNat, C_iOfN, C_celQ, C_subQ, C_tQ, dOp, hu, hf, toSt_eval, hx, toD, this, Option.bind_some, calm]
   rfl
  ·cases h
 ·cases h
theorem vOp_fieldAddr {t : TypeId} {x : Operand} {f : Nat} {K : KV} (h : vOp CR X s nid (.fieldAddr t x f) K = some r) : ∃ v ws rs, K v ws rs = some r ∧ dOp X (toSt s) nid (.fieldAddr t x f) = some ⟨true, toD v, toWs ws, rs⟩ := by
 simp only [vOp] at h
 split at h
 ·rename_i fs hu
  split at h
  ·rename_i fd hf
   split at h
   ·rename_i k hs
    split at h
    ·rename_i id off hx
     exact ⟨_, _, _, h, by simp only [C_wr, C_iAdd, C_iSub, C_iMul, C_iQuo, C_iRem, C_iEq, C_iLt, C_iLe, C_bnot, C_band, C_bsel, C_isel, C_sEq, C_sLt, C_sCat, C_sSub, C_sIdx, C_nAdd, C_nSub, C_nMul, C_nEq, C_nLe, C_iNat, C_iOfN, C_celQ, C_subQ, C_tQ, dOp, hu, hf, hs, toSt_eval, hx, toD, calm]; rfl⟩
    ·rename_i y off m hx
     exact ⟨_, _, _, h, by simp only [C_wr, C_iAdd, C_iSub, C_iMul, C_iQuo, C_iRem, C_iEq, C_iLt, C_iLe, C_bnot, C_band, C_bsel, C_isel, C_sEq, C_sLt, C_sCat, C_sSub, C_sIdx, C_nAdd, C_nSub, C_nMul, C_nEq, C_nLe, C_iNat, C_iOfN, C_celQ, C_subQ, C_tQ, dOp, hu, hf, hs, toSt_eval, hx, toD, calm, cellsF_drop]; rfl⟩
    ·cases h
   ·cases h
  ·cases h
 ·cases h
theorem vOp_indexAddr {t : TypeId} {x i : Operand} {K : KV} (h : vOp CR X s nid (.indexAddr t x i) K = some r) : ∃ v ws rs, K v ws rs = some r ∧ dOp X (toSt s) nid (.indexAddr t x i) = some ⟨true, toD v, toWs ws, rs⟩ := by
 simp only [vOp] at h
 split at h
 ·rename_i e hu
  split at h
  ·rename_i n hn
   split at h
   ·rename_i id len hx
    obtain ⟨_, k, hi, h⟩ := vI0_some h
    obtain ⟨h0, h⟩ := Cchk_some h
    have h0 : (band (iLe 0 k) (iLt k (len : Int))) = true := h0
    rw [CfN] at h
    have g : 0 ≤ k ∧ k < (len : Int) := by simpa [band_eq, iLe_eq, iLt_eq] using h0
    refine ⟨_, _, _, h, ?_⟩
    simp only [C_wr, C_iAdd, C_iSub, C_iMul, C_iQuo, C_iRem, C_iEq, C_iLt, C_iLe, C_bnot, C_band, C_bsel, C_isel, C_sEq, C_sLt, C_sCat, C_sSub, C_sIdx, C_nAdd, C_nSub, C_nMul, C_nEq, C_nLe, C_iNat, C_iOfN, C_celQ, C_subQ, C_tQ, dOp, hu, toSt_eval, hx, hi, toD, hn, Option.bind_some, calmIf, decide_eq_true g, nMul, iNat_eq]
    rfl
   ·obtain ⟨tr, off, len, c, hx, h⟩ := vSl_some h
    obtain ⟨_, k, hi, h⟩ := vI0_some h
    obtain ⟨h0, h⟩ := Cchk_some h
    have h0 : (band (iLe 0 k) (iLt k (len : Int))) = true := h0
    rw [CfQ] at h
    have g : 0 ≤ k ∧ k < (len : Int) := by simpa [band_eq, iLe_eq, iLt_eq] using h0
    refine ⟨_, _, _, h, ?_⟩
    have g2 : 0 ≤ k ∧ k < (len : Int) ∧ len * (n + 1) ≤ (rows (denT tr) (n + 1) off len).length ∧ 0 < n + 1 := ⟨g.1, g.2, by rw [rows_length]; exact Nat.le_refl _, by omega⟩
    simp only [C_wr, C_iAdd, C_iSub, C_iMul, C_iQuo, C_iRem, C_iEq, C_iLt, C_iLe, C_bnot, C_band, C_bsel, C_isel, C_sEq, C_sLt, C_sCat, C_sSub, C_sIdx, C_nAdd, C_nSub, C_nMul, C_nEq, C_nLe, C_iNat, C_iOfN, C_celQ, C_subQ, C_tQ, dOp, hu, toSt_eval, hx, hi, toD, hn, Option.bind_some, calmIf, decide_eq_true g2, iNat_eq]
    rw [rows_elem (show k.toNat < len by omega), tQ_den]
    rfl
  ·cases h
 ·cases h
theorem vOp_builtin {b : Builtin} {args : Array Operand} {ts : Array TypeId} {K : KV} (h : vOp CR X s nid (.call { callee := .builtin b, args, argTypes := ts }) K = some r) :
  ∃ v ws rs, K v ws rs = some r ∧ dOp X (toSt s) nid (.call { callee := .builtin b, args, argTypes := ts }) = some ⟨true, toD v, toWs ws, rs⟩ := by
 simp only [vOp] at h
 split at h
 ·rename_i x t ha ht
  split at h
  ·rename_i hu
   obtain ⟨l, c, hx, h⟩ := vS_some h
   rw [CfI] at h
   exact ⟨_, _, _, h, by simp only [C_wr, C_iAdd, C_iSub, C_iMul, C_iQuo, C_iRem, C_iEq, C_iLt, C_iLe, C_bnot, C_band, C_bsel, C_isel, C_sEq, C_sLt, C_sCat, C_sSub, C_sIdx, C_nAdd, C_nSub, C_nMul, C_nEq, C_nLe, C_iNat, C_iOfN, C_celQ, C_subQ, C_tQ, dOp, ha, ht, hu, toSt_eval, hx, calm, toD, dec_length]; rfl⟩
  ·rename_i e hu
   split at h
   ·rename_i id n hx
    rw [CfI] at h
    exact ⟨_, _, _, h, by simp only [C_wr, C_iAdd, C_iSub, C_iMul, C_iQuo, C_iRem, C_iEq, C_iLt, C_iLe, C_bnot, C_band, C_bsel, C_isel, C_sEq, C_sLt, C_sCat, C_sSub, C_sIdx, C_nAdd, C_nSub, C_nMul, C_nEq, C_nLe, C_iNat, C_iOfN, C_celQ, C_subQ, C_tQ, dOp, ha, ht, hu, toSt_eval, hx, calm, toD]; rfl⟩
   ·split at h
    ·obtain ⟨tr, off, len, c, hx, h⟩ := vSl_some h
     rw [CfI] at h
     exact ⟨_, _, _, h, by simp only [C_wr, C_iAdd, C_iSub, C_iMul, C_iQuo, C_iRem, C_iEq, C_iLt, C_iLe, C_bnot, C_band, C_bsel, C_isel, C_sEq, C_sLt, C_sCat, C_sSub, C_sIdx, C_nAdd, C_nSub, C_nMul, C_nEq, C_nLe, C_iNat, C_iOfN, C_celQ, C_subQ, C_tQ, dOp, ha, ht, hu, toSt_eval, hx, calm, toD]; rfl⟩
    ·cases h
  ·cases h
 ·rename_i x y t ts' ha ht
  split at h
  ·rename_i k hu
   obtain ⟨a, hx, h⟩ := vI_some h
   obtain ⟨b, hy, h⟩ := vI_some h
   rw [CfI] at h
   refine ⟨_, _, _, h, ?_⟩
   simp only [C_wr, C_iAdd, C_iSub, C_iMul, C_iQuo, C_iRem, C_iEq, C_iLt, C_iLe, C_bnot, C_band, C_bsel, C_isel, C_sEq, C_sLt, C_sCat, C_sSub, C_sIdx, C_nAdd, C_nSub, C_nMul, C_nEq, C_nLe, C_iNat, C_iOfN, C_celQ, C_subQ, C_tQ, dOp, ha, toSt_eval, hx, hy, calm, toD, isel_eq, iLt_eq]
   by_cases hab : a < b
   ·simp [hab, toWs]
   ·simp [hab, toWs]
  ·cases h
 ·rename_i x y t ts' ha ht
  split at h
  ·rename_i k hu
   obtain ⟨a, hx, h⟩ := vI_some h
   obtain ⟨b, hy, h⟩ := vI_some h
   rw [CfI] at h
   refine ⟨_, _, _, h, ?_⟩
   simp only [C_wr, C_iAdd, C_iSub, C_iMul, C_iQuo, C_iRem, C_iEq, C_iLt, C_iLe, C_bnot, C_band, C_bsel, C_isel, C_sEq, C_sLt, C_sCat, C_sSub, C_sIdx, C_nAdd, C_nSub, C_nMul, C_nEq, C_nLe, C_iNat, C_iOfN, C_celQ, C_subQ, C_tQ, dOp, ha, toSt_eval, hx, hy, calm, toD, isel_eq, iLt_eq]
   by_cases hab : b < a
   ·simp [hab, toWs]
   ·simp [hab, toWs]
  ·cases h
 ·rename_i x y t u ha ht
  cases hb : Nat.beq t u with
  | false => rw [hb] at h; cases h
  | true =>
   rw [hb] at h
   cases hw : X.own x y with
   | true =>
    rw [hw] at h
    obtain ⟨v, ws, rs, h, hd⟩ := vOwn_some h
    exact ⟨v, ws, rs, h, by simp only [C_wr, C_iAdd, C_iSub, C_iMul, C_iQuo, C_iRem, C_iEq, C_iLt, C_iLe, C_bnot, C_band, C_bsel, C_isel, C_sEq, C_sLt, C_sCat, C_sSub, C_sIdx, C_nAdd, C_nSub, C_nMul, C_nEq, C_nLe, C_iNat, C_iOfN, C_celQ, C_subQ, C_tQ, dOp, ha, ht, hb, hw, cond_true, toSt_eval, hd]⟩
   | false =>
    rw [hw] at h
    obtain ⟨v, ws, rs, h, hd⟩ := vAppend_some h
    exact ⟨v, ws, rs, h, by simp only [C_wr, C_iAdd, C_iSub, C_iMul, C_iQuo, C_iRem, C_iEq, C_iLt, C_iLe, C_bnot, C_band, C_bsel, C_isel, C_sEq, C_sLt, C_sCat, C_sSub, C_sIdx, C_nAdd, C_nSub, C_nMul, C_nEq, C_nLe, C_iNat, C_iOfN, C_celQ, C_subQ, C_tQ, dOp, ha, ht, hb, hw, cond_true, cond_false, toSt_eval, hd]⟩
 ·cases h

theorem vMake_some {P : Program} {t : TypeId} {same : Bool} {l c : V} {K : KV} (h : vMake CR P s nid t same l c K = some r) : ∃ v ws rs, K v ws rs = some r ∧ dMake P (toSt s) nid t same (toD l) (toD c) = some ⟨true, toD v, toWs ws, rs⟩ := by
 unfold vMake at h
 split at h
 ·rename_i e hu
  split at h
  ·rename_i n b z hn hb hz
   cases hg : Nat.beq z.length n && Nat.blt 0 n with
   | false => rw [hg] at h; cases h
   | true =>
    rw [hg] at h
    simp only [cond_true] at h
    have hz' := zeroV_some hz
    have hg' : (Nat.beq (z.map toD).length n && Nat.blt 0 n) = true := by rw [List.length_map]; exact hg
    split at h
    ·obtain ⟨_, a, hl, h⟩ := vI0_some h
     obtain ⟨_, m, hc, h⟩ := vI0_some h
     obtain ⟨h0, h⟩ := Cchk_some h
     have h0 : band (iEq a 0) (band (iLe 0 m) (band (Nat.ble (iNat m * b) 140737488355328) (Nat.ble (iNat m) 140737488355328))) = true := h0
     obtain ⟨hf, h⟩ := freshV_some h
     refine ⟨_, _, _, h, ?_⟩
     have hq : a = 0 ∧ 0 ≤ m ∧ m.toNat * b ≤ roomy ∧ m.toNat ≤ roomy := by
      simp only [band_eq, iEq_eq, iLe_eq, iNat_eq, Bool.and_eq_true, beq_iff_eq, decide_eq_true_eq, Nat.ble_eq] at h0
      exact h0
     simp only [dMake, hu, hl, hc, hn, hb, hz', hg', cond_true, decide_eq_true hq, fresh_of hf, toD, rows, toWs, List.map_cons, List.map_nil, toB]
    ·split at h
     ·rename_i z0
      split at h
      ·rename_i x hx
       obtain ⟨_, a, hl, h⟩ := vI0_some h
       obtain ⟨_, m, hc, h⟩ := vI0_some h
       obtain ⟨h0, h⟩ := Cchk_some h
       have h0 : band (iLe 0 a) (band (iEq a m) (band (Nat.ble (iNat a * b) 140737488355328) (Nat.ble (iNat a) 140737488355328))) = true := h0
       rw [CfN] at h
       obtain ⟨tr, h, _, hnew⟩ := zT_some (CR.iNat a) (t := .nil) (i := 0) h
       obtain ⟨hf, h⟩ := freshV_some h
       refine ⟨_, _, _, h, ?_⟩
       have hq : 0 ≤ a ∧ a = m ∧ a.toNat * b ≤ roomy ∧ a.toNat ≤ roomy := by
        simp only [band_eq, iEq_eq, iLe_eq, iNat_eq, Bool.and_eq_true, beq_iff_eq, decide_eq_true_eq, Nat.ble_eq] at h0
        exact h0
       have hn1 : n = 1 := by
        simp only [Bool.and_eq_true, List.length_cons, List.length_nil] at hg
        exact (Nat.eq_of_beq_eq_true hg.1).symm
       subst hn1
       have hia : CR.iNat a = a.toNat := iNat_eq a
       rw [hia] at hnew ⊢
       have hrows : rows (denT tr) 1 0 a.toNat = zeros [toD z0] (a.toNat * 1) := by
        rw [toQ0_some hx]
        have key : ∀ (m off : Nat), (∀ k, k < m → atT (denT tr) (off + k) = den x) → rows (denT tr) 1 off m = List.replicate m (den x 0) := by
         intro m
         induction m with
         | zero => intro _ _; rfl
         | succ m ih =>
          intro off hk
          simp only [rows, cellsF, List.replicate_succ, List.cons_append, List.nil_append]
          have e0 := hk 0 (by omega)
          rw [Nat.add_zero] at e0
          rw [e0, ih (off + 1) (fun k hk' => by have := hk (k + 1) (by omega); rw [show off + 1 + k = off + (k + 1) by omega]; exact this)]
        rw [key _ 0 hnew, Nat.mul_one]
        unfold zeros
        apply List.ext_getElem?
        intro i
        rcases Nat.lt_or_ge i a.toNat with hi | hi
        ·rw [List.getElem?_replicate, if_pos hi, List.getElem?_map, List.getElem?_range hi]
         simp [Nat.mod_one]
        ·rw [List.getElem?_eq_none (by simpa using hi), List.getElem?_eq_none (by simpa using hi)]
       simp only [dMake, hu, hl, hc, hn, hb, hz', hg', cond_true, decide_eq_true hq, fresh_of hf, toD, toWs, List.map_cons, List.map_nil, toB, hrows]
       rfl
      ·cases h
     ·cases h
  ·cases h
 ·cases h
theorem vOp_some {o : Op} {K : KV} (h : vOp CR X s nid o K = some r) : ∃ v ws rs, K v ws rs = some r ∧ dOp X (toSt s) nid o = some ⟨true, toD v, toWs ws, rs⟩ := by
 cases o
 case move x => exact ⟨_, _, _, h, by simp only [C_wr, C_iAdd, C_iSub, C_iMul, C_iQuo, C_iRem, C_iEq, C_iLt, C_iLe, C_bnot, C_band, C_bsel, C_isel, C_sEq, C_sLt, C_sCat, C_sSub, C_sIdx, C_nAdd, C_nSub, C_nMul, C_nEq, C_nLe, C_iNat, C_iOfN, C_celQ, C_subQ, C_tQ, dOp, toSt_eval, calm]; rfl⟩
 case assign x => exact ⟨_, _, _, h, by simp only [C_wr, C_iAdd, C_iSub, C_iMul, C_iQuo, C_iRem, C_iEq, C_iLt, C_iLe, C_bnot, C_band, C_bsel, C_isel, C_sEq, C_sLt, C_sCat, C_sSub, C_sIdx, C_nAdd, C_nSub, C_nMul, C_nEq, C_nLe, C_iNat, C_iOfN, C_celQ, C_subQ, C_tQ, dOp, toSt_eval, calm]; rfl⟩
 case alloc t =>
  simp only [vOp] at h
  split at h
  ·rename_i z hz
   obtain ⟨hf, h⟩ := freshV_some h
   exact ⟨_, _, _, h, by simp only [C_wr, C_iAdd, C_iSub, C_iMul, C_iQuo, C_iRem, C_iEq, C_iLt, C_iLe, C_bnot, C_band, C_bsel, C_isel, C_sEq, C_sLt, C_sCat, C_sSub, C_sIdx, C_nAdd, C_nSub, C_nMul, C_nEq, C_nLe, C_iNat, C_iOfN, C_celQ, C_subQ, C_tQ, dOp, zeroV_some hz, fresh_of hf, toD, toWs, List.map_cons, List.map_nil, toB]⟩
  ·cases h
 case box t x =>
  simp only [vOp] at h
  split at h
  ·rename_i y m hx
   obtain ⟨hf, h⟩ := freshV_some h
   exact ⟨_, _, _, h, by simp only [C_wr, C_iAdd, C_iSub, C_iMul, C_iQuo, C_iRem, C_iEq, C_iLt, C_iLe, C_bnot, C_band, C_bsel, C_isel, C_sEq, C_sLt, C_sCat, C_sSub, C_sIdx, C_nAdd, C_nSub, C_nMul, C_nEq, C_nLe, C_iNat, C_iOfN, C_celQ, C_subQ, C_tQ, dOp, toSt_eval, hx, toD, D.ok, D.isAgg, Bool.or_true, cond_true, fresh_of hf, D.cells, toWs, List.map_cons, List.map_nil, toB]⟩
  ·split at h
   ·rename_i cs hcs
    obtain ⟨hf, h⟩ := freshV_some h
    obtain ⟨h1, h2⟩ := cellsV_some hcs
    exact ⟨_, _, _, h, by simp only [C_wr, C_iAdd, C_iSub, C_iMul, C_iQuo, C_iRem, C_iEq, C_iLt, C_iLe, C_bnot, C_band, C_bsel, C_isel, C_sEq, C_sLt, C_sCat, C_sSub, C_sIdx, C_nAdd, C_nSub, C_nMul, C_nEq, C_nLe, C_iNat, C_iOfN, C_celQ, C_subQ, C_tQ, dOp, toSt_eval, h1, cond_true, fresh_of hf, h2, toD, toWs, List.map_cons, List.map_nil, toB]⟩
   ·cases h
 case build t parts => exact vOp_build h
 case buildSlice t len parts => exact vOp_buildSlice h
 case load t a => exact vOp_load h
 case store t a x => exact vOp_store h
 case nilCheck x =>
  simp only [vOp] at h
  split at h
  ·rename_i hx; exact ⟨_, _, _, h, by simp only [C_wr, C_iAdd, C_iSub, C_iMul, C_iQuo, C_iRem, C_iEq, C_iLt, C_iLe, C_bnot, C_band, C_bsel, C_isel, C_sEq, C_sLt, C_sCat, C_sSub, C_sIdx, C_nAdd, C_nSub, C_nMul, C_nEq, C_nLe, C_iNat, C_iOfN, C_celQ, C_subQ, C_tQ, dOp, toSt_eval, hx, toD, calm]; rfl⟩
  ·rename_i hx; exact ⟨_, _, _, h, by simp only [C_wr, C_iAdd, C_iSub, C_iMul, C_iQuo, C_iRem, C_iEq, C_iLt, C_iLe, C_bnot, C_band, C_bsel, C_isel, C_sEq, C_sLt, C_sCat, C_sSub, C_sIdx, C_nAdd, C_nSub, C_nMul, C_nEq, C_nLe, C_iNat, C_iOfN, C_celQ, C_subQ, C_tQ, dOp, toSt_eval, hx, toD, calm]; rfl⟩
  ·rename_i hx; exact ⟨_, _, _, h, by simp only [C_wr, C_iAdd, C_iSub, C_iMul, C_iQuo, C_iRem, C_iEq, C_iLt, C_iLe, C_bnot, C_band, C_bsel, C_isel, C_sEq, C_sLt, C_sCat, C_sSub, C_sIdx, C_nAdd, C_nSub, C_nMul, C_nEq, C_nLe, C_iNat, C_iOfN, C_celQ, C_subQ, C_tQ, dOp, toSt_eval, hx, toD, calm]; rfl⟩
  ·cases h
 case binOp op t x y u =>
  simp only [vOp] at h
  obtain ⟨v, h, hd⟩ := vBin_some h
  exact ⟨_, _, _, h, by simp only [C_wr, C_iAdd, C_iSub, C_iMul, C_iQuo, C_iRem, C_iEq, C_iLt, C_iLe, C_bnot, C_band, C_bsel, C_isel, C_sEq, C_sLt, C_sCat, C_sSub, C_sIdx, C_nAdd, C_nSub, C_nMul, C_nEq, C_nLe, C_iNat, C_iOfN, C_celQ, C_subQ, C_tQ, dOp, toSt_eval, hd]; rfl⟩
 case unOp op t x =>
  simp only [vOp] at h
  split at h
  ·obtain ⟨b, hx, h⟩ := vB_some h
   rw [CfB] at h
   exact ⟨_, _, _, h, by simp only [C_wr, C_iAdd, C_iSub, C_iMul, C_iQuo, C_iRem, C_iEq, C_iLt, C_iLe, C_bnot, C_band, C_bsel, C_isel, C_sEq, C_sLt, C_sCat, C_sSub, C_sIdx, C_nAdd, C_nSub, C_nMul, C_nEq, C_nLe, C_iNat, C_iOfN, C_celQ, C_subQ, C_tQ, dOp, toSt_eval, hx, calm, toD, bnot_eq]; rfl⟩
  ·rename_i k hu
   obtain ⟨n, hx, h⟩ := vI_some h
   rw [CfI] at h
   exact ⟨_, _, _, h, by simp only [C_wr, C_iAdd, C_iSub, C_iMul, C_iQuo, C_iRem, C_iEq, C_iLt, C_iLe, C_bnot, C_band, C_bsel, C_isel, C_sEq, C_sLt, C_sCat, C_sSub, C_sIdx, C_nAdd, C_nSub, C_nMul, C_nEq, C_nLe, C_iNat, C_iOfN, C_celQ, C_subQ, C_tQ, dOp, toSt_eval, hx, calm, toD, wr_eq, iSub_eq]; rfl⟩
  ·cases h
 case convert src dst x =>
  simp only [vOp] at h
  obtain ⟨v, h, hd⟩ := vConv_some h
  exact ⟨_, _, _, h, by simp only [C_wr, C_iAdd, C_iSub, C_iMul, C_iQuo, C_iRem, C_iEq, C_iLt, C_iLe, C_bnot, C_band, C_bsel, C_isel, C_sEq, C_sLt, C_sCat, C_sSub, C_sIdx, C_nAdd, C_nSub, C_nMul, C_nEq, C_nLe, C_iNat, C_iOfN, C_celQ, C_subQ, C_tQ, dOp, toSt_eval, hd]; rfl⟩
 case makeInterface t x =>
  simp only [vOp] at h
  split at h
  ·cases h
  ·rename_i u h1 hu
   refine ⟨_, _, _, h, ?_⟩
   simp only [dOp, toSt_eval, hu, calm, toD]
   cases u <;> first | rfl | exact (h1 _ rfl).elim
  ·cases h
 case makeFunc fn first captured =>
  simp only [vOp] at h
  exact ⟨_, _, _, h, by simp only [C_wr, C_iAdd, C_iSub, C_iMul, C_iQuo, C_iRem, C_iEq, C_iLt, C_iLe, C_bnot, C_band, C_bsel, C_isel, C_sEq, C_sLt, C_sCat, C_sSub, C_sIdx, C_nAdd, C_nSub, C_nMul, C_nEq, C_nLe, C_iNat, C_iOfN, C_celQ, C_subQ, C_tQ, dOp, op_evals, calm, toD, toDL_eq]; rfl⟩
 case makeSlice t l c =>
  simp only [vOp] at h
  obtain ⟨v, ws, rs, h, hd⟩ := vMake_some h
  exact ⟨v, ws, rs, h, by simp only [dOp, toSt_eval, hd]⟩
 case slice t x lo hi mx =>
  simp only [vOp] at h
  obtain ⟨v, h, hd⟩ := vSlice_some h
  exact ⟨_, _, _, h, by simp only [C_wr, C_iAdd, C_iSub, C_iMul, C_iQuo, C_iRem, C_iEq, C_iLt, C_iLe, C_bnot, C_band, C_bsel, C_isel, C_sEq, C_sLt, C_sCat, C_sSub, C_sIdx, C_nAdd, C_nSub, C_nMul, C_nEq, C_nLe, C_iNat, C_iOfN, C_celQ, C_subQ, C_tQ, dOp, toSt_eval, hd]; rfl⟩
 case fieldAddr t x f => exact vOp_fieldAddr h
 case field t x f => exact vOp_field h
 case indexAddr t x i => exact vOp_indexAddr h
 case index t x i =>
  simp only [vOp] at h
  split at h
  ·rename_i hu
   obtain ⟨l, c, hx, h⟩ := vS_some h
   obtain ⟨_, k, hi, h⟩ := vI0_some h
   obtain ⟨h0, h⟩ := Cchk_some h
   have h0 : (band (iLe 0 k) (iLt k (l : Int))) = true := h0
   rw [CfI] at h
   have g : 0 ≤ k ∧ k < (l : Int) := by simpa [band_eq, iLe_eq, iLt_eq] using h0
   have g2 : 0 ≤ k ∧ k < ((dec l c).length : Int) := by rw [dec_length]; exact g
   refine ⟨_, _, _, h, ?_⟩
   simp only [C_wr, C_iAdd, C_iSub, C_iMul, C_iQuo, C_iRem, C_iEq, C_iLt, C_iLe, C_bnot, C_band, C_bsel, C_isel, C_sEq, C_sLt, C_sCat, C_sSub, C_sIdx, C_nAdd, C_nSub, C_nMul, C_nEq, C_nLe, C_iNat, C_iOfN, C_celQ, C_subQ, C_tQ, dOp, hu, toSt_eval, hx, hi, calmIf, decide_eq_true g2, toD, iNat_eq]
   rw [sIdx_eq (show k.toNat < l by omega)]
   rfl
  ·cases h
 case extract x i =>
  simp only [vOp] at h
  split at h
  ·rename_i vs hx
   cases hb : Nat.blt i vs.length with
   | false => rw [hb] at h; cases h
   | true =>
    rw [hb] at h
    have hl : i < vs.length := by simpa [Nat.blt_eq] using hb
    refine ⟨_, _, _, h, ?_⟩
    rw [nthV_eq, List.getD_eq_getElem?_getD, List.getElem?_eq_getElem hl]
    simp only [C_wr, C_iAdd, C_iSub, C_iMul, C_iQuo, C_iRem, C_iEq, C_iLt, C_iLe, C_bnot, C_band, C_bsel, C_isel, C_sEq, C_sLt, C_sCat, C_sSub, C_sIdx, C_nAdd, C_nSub, C_nMul, C_nEq, C_nLe, C_iNat, C_iOfN, C_celQ, C_subQ, C_tQ, dOp, toSt_eval, hx, toD, toDL_eq, List.getElem?_map, List.getElem?_eq_getElem hl, Option.map_some, calm, Option.getD_some]
    rfl
  ·cases h
 case call c =>
  obtain ⟨callee, args, ts⟩ := c
  cases callee with
  | builtin b => exact vOp_builtin h
  | value f => cases h
  | invoke x m => cases h
 all_goals cases h
end
end
end Go.Abs
namespace Go.Abs
noncomputable section

section
variable {f : Nat → Option Nat}
theorem map_toD {g : V → V} {h : D → D} (e : ∀ v, toD (g v) = h (toD v)) (l : List V) : (l.map g).map toD = (l.map toD).map h := by
 rw [List.map_map, List.map_map]; exact List.map_congr_left fun v _ => e v
theorem ren0V_eq (v : V) : toD (ren0V f v) = ren0 f (toD v) := by
 cases v
 case slice t n off len c => cases c <;> simp only [ren0V, toD, ren0]
 case q x => simp only [ren0V, toD]; exact (den_ren f x 0).symm
 case ptr id off => simp only [ren0V, toD, ren0]; cases f id <;> simp only [toD]
 all_goals simp only [ren0V, toD, ren0]
theorem renF_den (x : Q) (i : Nat) : renF f (den x i) = den x i := by
 have h1 := den_one x i
 have h2 := den_ren f x i
 cases hd : den x i <;> rw [hd] at h1 h2 <;> first | exact h2 | (cases h1; done) | (exfalso; simp [ren0] at h2; done)
theorem renFV_eq (v : V) : toD (renFV f v) = renF f (toD v) := by
 cases v
 case func fn fs cs => simp only [renFV, toD, renF, toDL_eq, map_toD (fun v => ren0V_eq (f := f) v)]
 case q x => simp only [renFV, ren0V, toD]; exact (renF_den x 0).symm
 all_goals (simp only [renFV]; rw [ren0V_eq]; simp only [toD, renF])
theorem renAV_eq (v : V) : toD (renAV f v) = renA f (toD v) := by
 cases v
 case agg cs => simp only [renAV, toD, renA, toDL_eq, map_toD (fun v => renFV_eq (f := f) v)]
 case a x m =>
  simp only [renAV, toD, renA]
  congr 1
  rw [upTo_cells, List.map_map]
  exact List.map_congr_left fun i _ => (renF_den x i).symm
 case q x =>
  simp only [renAV, renFV, ren0V, toD]
  have h1 := den_one x 0
  have h2 := renF_den (f := f) x 0
  cases hd : den x 0 <;> rw [hd] at h1 h2 <;> first | exact h2.symm | cases h1
 all_goals (simp only [renAV]; rw [renFV_eq]; simp only [toD, renA])
theorem renIV_eq (v : V) : toD (renIV f v) = renI f (toD v) := by
 cases v
 case iface t v => simp only [renIV, toD, renI, renAV_eq]
 case q x => simp only [renIV, renAV, renFV, ren0V, toD]; exact (renI_den f x 0).symm
 all_goals (simp only [renIV]; rw [renAV_eq]; simp only [toD, renI])
theorem renV_eq (v : V) : toD (renV f v) = ren f (toD v) := by
 cases v
 case tuple vs => simp only [renV, toD, ren, toDL_eq, map_toD (fun v => renIV_eq (f := f) v)]
 case q x =>
  simp only [renV, renIV, renAV, renFV, ren0V, toD]
  have h1 := den_one x 0
  have h2 := renI_den f x 0
  cases hd : den x 0 <;> rw [hd] at h1 h2 <;> first | exact h2.symm | cases h1
 all_goals (simp only [renV]; rw [renIV_eq]; simp only [toD, ren])
end

def boxOk : Bx → Bool
 | .cells _ | .opa _ _ | .row _ _ | .rowN _ _ _ => true
 | _ => false
def boxD : Bx → List D
 | .cells cs => cs.map toD
 | .opa x m => cellsF (den x) 0 m
 | .row t len => rows (denT t) 1 0 len
 | .rowN n t len => rows (denT t) n 0 len
 | _ => []
theorem boxD_eq {b : Bx} (h : boxOk b = true) : toB b = .cells (boxD b) := by cases b <;> first | rfl | cases h
def renB (f : Nat → Option Nat) : Bx → Bx
 | .cells cs => .cells (cs.map (renIV f))
 | b => b
theorem rows_ren (f : Nat → Option Nat) (t : Tre Q) : ∀ (n m off : Nat), (rows (denT t) n off m).map (renI f) = rows (denT t) n off m
 | _, 0, _ => rfl
 | n, m + 1, off => by
  simp only [rows, List.map_append, rows_ren f t n m]
  congr 1
  rw [atT_den]
  exact map_renI_cells f _ n 0
theorem renB_eq (f : Nat → Option Nat) {b : Bx} : boxD (renB f b) = (boxD b).map (renI f) := by
 cases b <;> simp only [renB, boxD]
 ·exact map_toD (fun v => renIV_eq v) _
 ·exact (map_renI_cells f _ _ 0).symm
 ·rfl
 ·exact (rows_ren f _ 1 _ 0).symm
 ·exact (rows_ren f _ _ _ 0).symm
 ·rfl
 ·rfl
theorem renB_ok (f : Nat → Option Nat) {b : Bx} : boxOk (renB f b) = boxOk b := by cases b <;> rfl

/- What is kept of a state. -/
def renTV (f : Nat → Option Nat) : V → V
 | .slice t n off len (.tok id) => match f id with
  | some j => .slice t n off len (.tok j)
  | none => .slice t n off len .no
 | .slice t n off len .exact => .slice t n off len .exact
 | .bslice id l => match f id with
  | some j => .bslice j l
  | none => .junk
 | .agg cs => renAV f (.agg cs)
 | .a x m => .a x m
 | .tuple ds => .tuple (ds.map (renIV f))
 | d => renIV f d
theorem renTV_eq (f : Nat → Option Nat) (v : V) : toD (renTV f v) = renT f (toD v) := by
 cases v
 case slice t n off len c =>
  cases c with
  | no => simp only [renTV, renIV, renAV, renFV, ren0V, toD, renT, renI, renA, renF, ren0]
  | exact => simp only [renTV, toD, renT]
  | tok id => simp only [renTV, toD, renT]; cases f id <;> simp only [toD]
  | fr z => simp only [renTV, renIV, renAV, renFV, ren0V, toD, renT, renI, renA, renF, ren0]
 case bslice id l => simp only [renTV, toD, renT]; cases f id <;> simp only [toD]
 case agg cs => simp only [renTV]; rw [renAV_eq]; simp only [toD, renT]
 case a x m =>
  have := renAV_eq (f := f) (.a x m)
  simp only [renAV, toD] at this
  simp only [renTV, toD, renT]
  exact this
 case tuple ds => simp only [renTV, toD, renT, toDL_eq, map_toD (fun v => renIV_eq (f := f) v)]
 case q x =>
  simp only [renTV, renIV, renAV, renFV, ren0V, toD]
  have h1 := den_one x 0
  have h2 := renI_den f x 0
  have h3 := den_ren f x 0
  cases hd : den x 0 <;> rw [hd] at h1 h2 h3 <;> first | exact h2.symm | cases h1 | skip
  all_goals (rename_i c; cases c <;> first | rfl | (simp only [ren0] at h3; cases h3))
 all_goals (simp only [renTV]; rw [renIV_eq]; simp only [toD, renT])
def keepBoxV (f : Nat → Option Nat) : Bx → Bx
 | .cells cs => .cells (cs.map (renTV f))
 | b => b
theorem renT_den (f : Nat → Option Nat) (x : Q) (i : Nat) : renT f (den x i) = den x i := by
 have h1 := den_one x i
 have h2 := renI_den f x i
 have h3 := den_ren f x i
 cases hd : den x i <;> rw [hd] at h1 h2 h3 <;> first | exact h2 | cases h1 | skip
 all_goals (rename_i c; cases c <;> first | rfl | (simp only [ren0] at h3; cases h3))
theorem keepBoxV_eq (f : Nat → Option Nat) (b : Bx) : toB (keepBoxV f b) = keepBox f (toB b) := by
 cases b <;> simp only [keepBoxV, toB, keepBox]
 ·rw [map_toD (fun v => renTV_eq f v)]
 ·congr 1; rw [upTo_cells, List.map_map]; exact List.map_congr_left fun i _ => (renT_den f _ i).symm
 ·congr 1
  rename_i t len
  have : ∀ (m off : Nat), (rows (denT t) 1 off m).map (renT f) = rows (denT t) 1 off m := by
   intro m
   induction m with
   | zero => intro _; rfl
   | succ m ih =>
    intro off
    simp only [rows, List.map_append, ih]
    congr 1
    rw [atT_den, upTo_cells, List.map_map]
    exact List.map_congr_left fun i _ => renT_den f _ i
  exact (this len 0).symm
 ·congr 1
  rename_i n t len
  have : ∀ (m off : Nat), (rows (denT t) n off m).map (renT f) = rows (denT t) n off m := by
   intro m
   induction m with
   | zero => intro _; rfl
   | succ m ih =>
    intro off
    simp only [rows, List.map_append, ih]
    congr 1
    rw [atT_den, upTo_cells, List.map_map]
    exact List.map_congr_left fun i _ => renT_den f _ i
  exact (this len 0).symm
def pidV : V → Option Nat
 | .ptr id _ => some id
 | _ => none
theorem pid_den (x : Q) (i : Nat) : pid (den x i) = none ∧ pids (den x i) = [] ∧ refs1 (den x i) = [] := by
 have h1 := den_one x i
 have h3 := den_ren noId x i
 cases hd : den x i <;> rw [hd] at h1 h3 <;> first | exact ⟨rfl, rfl, rfl⟩ | cases h1 | (simp only [ren0, noId] at h3; cases h3) | skip
 all_goals (rename_i c; cases c <;> first | exact ⟨rfl, rfl, rfl⟩ | (simp only [ren0] at h3; cases h3))
theorem pidV_eq (v : V) : pidV v = pid (toD v) := by
 cases v <;> simp only [pidV, toD, pid]
 exact (pid_den _ 0).1.symm
theorem pidV_list (l : List V) : l.filterMap pidV = (l.map toD).filterMap pid := by
 rw [List.filterMap_map]; congr 1; funext v; exact pidV_eq v
def pidsV : V → List Nat
 | .ptr id _ => [id]
 | .func _ fs cs => fs.filterMap pidV ++ cs.filterMap pidV
 | _ => []
theorem pidsV_eq (v : V) : pidsV v = pids (toD v) := by
 cases v <;> simp only [pidsV, toD, pids]
 ·exact (pid_den _ 0).2.1.symm
 ·rw [toDL_eq, toDL_eq, pidV_list, pidV_list]
def refsV : V → List Nat
 | .ptr id _ => [id]
 | .slice _ _ _ _ (.tok id) => [id]
 | .bslice id _ => [id]
 | .func _ fs cs => fs.filterMap pidV ++ cs.filterMap pidV
 | _ => []
theorem refsV_eq (v : V) : refsV v = refs1 (toD v) := by
 cases v <;> simp only [refsV, toD, refs1]
 ·rename_i c; cases c <;> rfl
 ·exact (pid_den _ 0).2.2.symm
 ·rw [toDL_eq, toDL_eq, pidV_list, pidV_list]
def rootIdsV (n0 : Nat) (ks : List Nat) (s : Vst) : List Nat :=
 let a := addIds (List.range n0) (ks.flatMap fun i => refsV (nthV s.tmps i))
 addIds a (a.flatMap fun id => match nthB s.heap id with
  | .cells ds => ds.flatMap refsV
  | _ => [])
theorem flatMap_nil_of {α β : Type} {f : α → List β} : ∀ (l : List α), (∀ x ∈ l, f x = []) → l.flatMap f = []
 | [], _ => rfl
 | x :: l, h => by rw [List.flatMap_cons, h x List.mem_cons_self, flatMap_nil_of l fun y hy => h y (List.mem_cons_of_mem _ hy)]; rfl
theorem getD_tmps (s : Vst) (i : Nat) : (toSt s).tmps.getD i .junk = toD (nthV s.tmps i) := toSt_eval s (.tmp i)
theorem getD_heap (s : Vst) (i : Nat) : (toSt s).heap.getD i .dead = toB (nthB s.heap i) := by
 rw [nthB_eq, List.getD_eq_getElem?_getD, List.getD_eq_getElem?_getD, toSt_heap]
 cases s.heap[i]? <;> rfl
theorem rootIdsV_eq (n0 : Nat) (ks : List Nat) (s : Vst) : rootIdsV n0 ks s = rootIds n0 ks (toSt s) := by
 unfold rootIdsV rootIds
 have e1 : (ks.flatMap fun i => refsV (nthV s.tmps i)) = ks.flatMap fun i => refs1 ((toSt s).tmps.getD i .junk) := by
  congr 1; funext i; rw [getD_tmps, refsV_eq]
 have e2 : (fun id => match nthB s.heap id with | .cells ds => ds.flatMap refsV | _ => []) = fun id => match (toSt s).heap.getD id .dead with | .cells ds => ds.flatMap refs1 | _ => [] := by
  funext id
  rw [getD_heap]
  cases nthB s.heap id <;> simp only [toB]
  ·rw [List.flatMap_map]; congr 1; funext v; exact refsV_eq v
  ·rw [upTo_cells, List.flatMap_map]; exact (flatMap_nil_of _ fun i _ => (pid_den _ i).2.2).symm
  ·rename_i t len
   have : ∀ (m off : Nat), (rows (denT t) 1 off m).flatMap refs1 = [] := by
    intro m
    induction m with
    | zero => intro _; rfl
    | succ m ih => intro off; simp only [rows, List.flatMap_append, ih, List.append_nil]; rw [atT_den, upTo_cells, List.flatMap_map]; exact flatMap_nil_of _ fun i _ => (pid_den _ i).2.2
   exact (this len 0).symm
  ·rename_i n t len
   have : ∀ (m off : Nat), (rows (denT t) n off m).flatMap refs1 = [] := by
    intro m
    induction m with
    | zero => intro _; rfl
    | succ m ih => intro off; simp only [rows, List.flatMap_append, ih, List.append_nil]; rw [atT_den, upTo_cells, List.flatMap_map]; exact flatMap_nil_of _ fun i _ => (pid_den _ i).2.2
   exact (this len 0).symm
 simp only [e1, e2]
 rfl
def dropCapV : V → V
 | .slice t n off len _ => .slice t n off len .no
 | v => v
theorem dropCapV_eq (v : V) : toD (dropCapV v) = dropCap (toD v) := by
 cases v <;> simp only [dropCapV, toD, dropCap]
 rename_i x
 cases hd : den x 0 <;> first | rfl | skip
 rename_i l c k
 cases den_fr' x 0 l c k hd
 rfl
def keepVV (ids : List Nat) : List (Nat × Nat) → Vst → Nat → List V × List Bx
 | [], _, _ => ([], [])
 | (i, z) :: ks, s, n => bif Nat.beq z FORGET then (dropCapV (renTV (pos · ids) (nthV s.tmps i)) :: (keepVV ids ks s n).1, (keepVV ids ks s n).2) else match nthV s.tmps i, z with
  | .slice t m off l .exact, z + 1 => (.slice t m off l (.tok n) :: (keepVV ids ks s (n + 1)).1, .tok l (z + 1) :: (keepVV ids ks s (n + 1)).2)
  | d, _ => (renTV (pos · ids) d :: (keepVV ids ks s n).1, (keepVV ids ks s n).2)
theorem keepVV_eq {ids : List Nat} : ∀ (ks : List (Nat × Nat)) (s : Vst) (n : Nat), (keepVV ids ks s n).1.map toD = (keepV ids ks (toSt s) n).1 ∧ (keepVV ids ks s n).2.map toB = (keepV ids ks (toSt s) n).2
 | [], _, _ => ⟨rfl, rfl⟩
 | (i, z) :: ks, s, n => by
  obtain ⟨h1, h2⟩ := keepVV_eq (ids := ids) ks s n
  obtain ⟨h3, h4⟩ := keepVV_eq (ids := ids) ks s (n + 1)
  simp only [keepVV, keepV, getD_tmps]
  cases hf : Nat.beq z FORGET with
  | true => simp only [cond_true, List.map_cons, dropCapV_eq, renTV_eq, h1, h2, and_self]
  | false =>
  simp only [cond_false]
  generalize nthV s.tmps i = v
  have hplain : (renTV (pos · ids) v :: (keepVV ids ks s n).1).map toD = renT (pos · ids) (toD v) :: (keepV ids ks (toSt s) n).1 := by simp only [List.map_cons, renTV_eq, h1]
  cases v
  case slice t m off l c =>
   cases c <;> cases z <;> first
    | exact ⟨hplain, h2⟩
    | (simp only [toD, List.map_cons, h3, h4, toB, and_self])
  case q x =>
   have hn : ∀ l c, den x 0 ≠ .slice l c .exact := fun l c hd => by cases den_fr' x 0 l c _ hd
   simp only [toD] at hplain ⊢
   generalize den x 0 = d at hplain hn
   cases d with
   | slice l c k => cases k <;> cases z <;> first | exact ⟨hplain, h2⟩ | exact (hn _ _ rfl).elim
   | _ => exact ⟨hplain, h2⟩
  all_goals exact ⟨hplain, h2⟩
def tokCellV (j c z : Nat) (h : List Bx) : List Bx := match nthB h j with
 | .cells cs => bif Nat.blt c cs.length then bif Nat.beq z FORGET then h.set j (.cells (cs.set c (dropCapV (nthV cs c)))) else match nthV cs c with
  | .slice t n off len .exact => (h.set j (.cells (cs.set c (.slice t n off len (.tok h.length))))) ++ [.tok len z]
  | _ => h
  else h
 | _ => h
def tokBV : List (Nat × Nat) → List Bx → List Bx
 | [], h => h
 | (i, z) :: ks, h => bif Nat.ble 1000000 i then tokBV ks (tokCellV ((i - 1000000) / 1000) ((i - 1000000) % 1000) z h) else tokBV ks h
theorem rows_get_cap {t : Tre Q} : ∀ (m off i l : Nat) (c : List D) (k : Cap), (rows (denT t) 1 off m)[i]? = some (.slice l c k) → k = .no
 | 0, off, i, l, c, k, h => by simp [rows] at h
 | m + 1, off, 0, l, c, k, h => by
  simp only [rows, cellsF, List.cons_append, List.nil_append, List.getElem?_cons_zero] at h
  injection h with h
  exact denT_fr t off 0 l c k h
 | m + 1, off, i + 1, l, c, k, h => by
  simp only [rows, cellsF, List.cons_append, List.nil_append, List.getElem?_cons_succ] at h
  exact rows_get_cap m (off + 1) i l c k h
theorem rowsN_get_cap {t : Tre Q} {n : Nat} : ∀ (m off i l : Nat) (c : List D) (k : Cap), (rows (denT t) n off m)[i]? = some (.slice l c k) → k = .no
 | 0, off, i, l, c, k, h => by simp [rows] at h
 | m + 1, off, i, l, c, k, h => by
  simp only [rows] at h
  rcases Nat.lt_or_ge i n with hi | hi
  ·rw [List.getElem?_append_left (by rw [cellsF_length]; exact hi), cellsF_get _ _ _ hi, atT_den] at h
   injection h with h
   exact den_fr' _ _ l c k h
  ·rw [List.getElem?_append_right (by rw [cellsF_length]; exact hi)] at h
   exact rowsN_get_cap m (off + 1) _ l c k h
theorem cells_get_cap {x : Q} {m i l : Nat} {c : List D} {k : Cap} (h : (cellsF (den x) 0 m)[i]? = some (.slice l c k)) : k = .no := by
 rcases Nat.lt_or_ge i m with hi | hi
 ·rw [cellsF_get _ _ _ hi] at h
  injection h with h
  exact den_fr' x _ l c k h
 ·rw [List.getElem?_eq_none (by rw [cellsF_length]; exact hi)] at h; cases h
theorem map_nthB {h : List Bx} {j : Nat} : (h.map toB)[j]? = if j < h.length then some (toB (nthB h j)) else none := by
 rw [nthB_eq, List.getD_eq_getElem?_getD, List.getElem?_map]
 split
 ·rename_i hj; rw [List.getElem?_eq_getElem hj]; rfl
 ·rename_i hj; rw [List.getElem?_eq_none (by omega)]; rfl
theorem set_same' {α : Type} {l : List α} {i : Nat} {x : α} (h : l[i]? = some x) : l.set i x = l := by
 apply List.ext_getElem?
 intro k
 by_cases hk : i = k
 ·subst hk; rw [List.getElem?_set_self (List.getElem?_eq_some_iff.1 h).1, h]
 ·rw [List.getElem?_set_ne hk]
theorem tokCell_plain {j c z : Nat} {h : List Box} {ds : List D} (hj : h[j]? = some (.cells ds)) (hd : ∀ (i l : Nat) (x : List D) (k : Cap), ds[i]? = some (D.slice l x k) → k = Cap.no) : tokCell j c z h = h := by
 unfold tokCell
 rw [hj]
 simp only []
 split
 ·rename_i d hc
  have e : dropCap d = d := by
   cases d with
   | slice l x k => cases hd c l x k hc; rfl
   | _ => rfl
  cases Nat.beq z FORGET with
  | true =>
   simp only [cond_true]
   rw [e, set_same' hc, set_same' hj]
  | false =>
   simp only [cond_false]
   split
   ·cases hd c _ _ _ hc
   ·rfl
 ·rfl
theorem tokCellV_eq (j c z : Nat) (h : List Bx) : (tokCellV j c z h).map toB = tokCell j c z (h.map toB) := by
 rcases Nat.lt_or_ge j h.length with hj | hj
 ·have hg : (h.map toB)[j]? = some (toB (nthB h j)) := by rw [map_nthB, if_pos hj]
  unfold tokCellV
  generalize hb : nthB h j = b at hg
  cases b with
  | cells cs =>
   unfold tokCell
   rw [hg]
   simp only [toB]
   cases hc : Nat.blt c cs.length with
   | true =>
    have hc' : c < cs.length := by rw [Nat.blt_eq] at hc; exact hc
    have e1 : (cs.map toD)[c]? = some (toD (nthV cs c)) := by
     rw [nthV_eq, List.getD_eq_getElem?_getD, List.getElem?_map, List.getElem?_eq_getElem hc']; rfl
    rw [e1]
    simp only [cond_true]
    cases hz : Nat.beq z FORGET with
    | true => simp only [cond_true, List.map_set, toB, dropCapV_eq]
    | false =>
     simp only [cond_false]
     generalize nthV cs c = v
     cases v
     case slice t n off len k =>
      cases k <;> simp only [toD, List.map_append, List.map_set, toB, List.map_cons, List.map_nil, List.length_map]
     case q x =>
      simp only [toD]
      cases hd : den x 0 <;> first | rfl | skip
      rename_i l d k
      cases den_fr' x 0 l d k hd
      rfl
     all_goals simp only [toD]
   | false =>
    have hc' : cs.length ≤ c := by
     rcases Nat.lt_or_ge c cs.length with h1 | h1
     ·have : Nat.blt c cs.length = true := by rw [Nat.blt_eq]; exact h1
      rw [hc] at this; cases this
     ·exact h1
    have e1 : (cs.map toD)[c]? = none := List.getElem?_eq_none (by simpa using hc')
    rw [e1]
    rfl
  | opa x m => exact (tokCell_plain hg (fun i l d k hd => cells_get_cap hd)).symm
  | row t len => exact (tokCell_plain hg (fun i l d k hd => rows_get_cap _ _ _ _ _ _ hd)).symm
  | rowN n t len => exact (tokCell_plain hg (fun i l d k hd => rowsN_get_cap _ _ _ _ _ _ hd)).symm
  | _ => unfold tokCell; rw [hg]; rfl
 ·have e2 : nthB h j = .dead := by rw [nthB_eq, List.getD_eq_getElem?_getD, List.getElem?_eq_none hj]; rfl
  have hg : (h.map toB)[j]? = none := List.getElem?_eq_none (by simpa using hj)
  unfold tokCellV tokCell
  rw [e2, hg]
theorem tokBV_eq : ∀ (ks : List (Nat × Nat)) (h : List Bx), (tokBV ks h).map toB = tokB ks (h.map toB)
 | [], h => rfl
 | (i, z) :: ks, h => by
  simp only [tokBV, tokB]
  cases Nat.ble 1000000 i with
  | true => simp only [cond_true]; rw [tokBV_eq, tokCellV_eq]
  | false => simp only [cond_false]; rw [tokBV_eq]
def gcVV (n0 : Nat) (ks : List (Nat × Nat)) (s : Vst) : List V × List Bx :=
 let ids := rootIdsV n0 (rootKs ks) s
 ((keepVV ids ks s ids.length).1, tokBV ks ((ids.map fun id => keepBoxV (pos · ids) (nthB s.heap id)) ++ (keepVV ids ks s ids.length).2))
theorem gcVV_eq (n0 : Nat) (ks : List (Nat × Nat)) (s : Vst) : gcV n0 ks (toSt s) = ((gcVV n0 ks s).1.map toD, (gcVV n0 ks s).2.map toB) := by
 unfold gcV gcVV
 simp only [rootIdsV_eq, tokBV_eq, List.map_append, (keepVV_eq _ _ _).1, (keepVV_eq _ _ _).2, List.map_map]
 congr 3
 exact List.map_congr_left fun id _ => by simp only [Function.comp, keepBoxV_eq, getD_heap]
def okGcV (n0 n : Nat) (ks : List (Nat × Nat)) (s : Vst) : Bool := okIds n0 (rootIdsV n0 (rootKs ks) s) && Nat.beq s.tmps.length n && decide (ks.map (·.1)).Nodup
theorem okGcV_eq (n0 n : Nat) (ks : List (Nat × Nat)) (s : Vst) : okGcV n0 n ks s = okGc n0 n ks (toSt s) := by
 unfold okGcV okGc; rw [rootIdsV_eq]; simp only [toSt, List.length_map]
def expandV (n : Nat) (ks : List Nat) (vs : List V) : List V := (List.range n).map fun i => match pos i ks with
 | some j => nthV vs j
 | none => .junk
def stOfV (n : Nat) (ks : List (Nat × Nat)) (vs : List V) (bs : List Bx) : Vst := { tmps := expandV n (ks.map (·.1)) vs, heap := bs }
theorem stOfV_eq (n : Nat) (ks : List (Nat × Nat)) (vs : List V) (bs : List Bx) : toSt (stOfV n ks vs bs) = stOf n ks (vs.map toD, bs.map toB) := by
 unfold stOfV stOf toSt expandV expand
 simp only [List.map_map]
 congr 1
 refine List.map_congr_left fun i _ => ?_
 simp only [Function.comp]
 cases pos i (ks.map (·.1)) with
 | none => simp only [toD]
 | some j =>
  simp only []
  rw [nthV_eq, List.getD_eq_getElem?_getD, List.getD_eq_getElem?_getD, List.getElem?_map]
  cases vs[j]? <;> simp [toD]
end
end Go.Abs
namespace Go.Abs
noncomputable section

abbrev FunT := List V → List Bx → Om
def resD : VRes → Res
 | .ret v => .ret (toD v)
 | .pan v => .pan (toD v)
def FnOk (X : Pr) (g : FuncId) (F : FunT) : Prop := ∀ (vs : List V) (bs : List Bx) (x : VRes) (bs' : List Bx), F vs bs = some (x, bs') → bs.all boxOk = true →
 CM X.P X.G g (vs.map toD) (bs.map boxD) (resD x) (bs'.map boxD)
theorem CM.pan_any {P : Program} {G : Glob} {f : FuncId} {ds : List D} {hs hs' hs2 : List (List D)} {d : D} (h : CM P G f ds hs (.pan d) hs') : CM P G f ds hs (.pan d) hs2 := h
def isCells : Box → Bool
 | .cells _ => true
 | _ => false
theorem boxOk_eq (b : Bx) : boxOk b = isCells (toB b) := by cases b <;> rfl
theorem all_boxOk {a b : List Bx} (h : a.map toB = b.map toB) (ha : a.all boxOk = true) : b.all boxOk = true := by
 have e : ∀ l : List Bx, l.all boxOk = (l.map toB).all isCells := fun l => by rw [List.all_map]; congr 1; funext b; exact boxOk_eq b
 rw [e, ← h, ← e]; exact ha
mutual
def eqQ : Q → Q → Bool
 | .bool a, .bool b => bsel a b (bnot b)
 | .int k a, .int k' b => cond (ikEq k k') (iEq a b) false
 | .str l c, .str l' c' => cond (Nat.beq l l') (Nat.beq c c') false
 | .slice t n o l, .slice t' n' o' l' => cond (Nat.beq n n') (cond (Nat.beq o o') (cond (Nat.beq l l') (eqT t t') false) false) false
 | .nilp, .nilp => true
 | .nilIface, .nilIface => true
 | .agg cs o, .agg cs' o' => cond (Nat.beq o o') (eqQL cs cs') false
 | .aggt t o, .aggt t' o' => cond (Nat.beq o o') (eqT t t') false
 | .no, .no => true
 | _, _ => false
def eqT : Tre Q → Tre Q → Bool
 | .nil, .nil => true
 | .node v l r, .node v' l' r' => cond (eqQ v v') (cond (eqT l l') (eqT r r') false) false
 | _, _ => false
def eqQL : List Q → List Q → Bool
 | [], [] => true
 | x :: xs, y :: ys => cond (eqQ x y) (eqQL xs ys) false
 | _, _ => false
end
theorem cond_false_true {a b : Bool} (h : cond a b false = true) : a = true ∧ b = true := by cases a <;> simp_all
theorem bsel_true {a b : Bool} (h : bsel a b (bnot b) = true) : a = b := by cases a <;> cases b <;> first | rfl | cases h
theorem iEq_true {a b : Int} (h : iEq a b = true) : a = b := by rw [iEq_eq] at h; simpa using h
mutual
theorem eqQ_eq : ∀ {a b : Q}, eqQ a b = true → a = b
 | .bool a, b, h => by cases b <;> simp only [eqQ] at h <;> first | (rw [bsel_true h]) | cases h
 | .int k a, b, h => by
  cases b <;> simp only [eqQ] at h <;> first | cases h | skip
  obtain ⟨h1, h2⟩ := cond_false_true h
  rw [ikEq_eq h1, iEq_true h2]
 | .str l c, b, h => by
  cases b <;> simp only [eqQ] at h <;> first | cases h | skip
  obtain ⟨h1, h2⟩ := cond_false_true h
  rw [Nat.eq_of_beq_eq_true h1, Nat.eq_of_beq_eq_true h2]
 | .slice t n o l, b, h => by
  cases b <;> simp only [eqQ] at h <;> first | cases h | skip
  obtain ⟨h1, h⟩ := cond_false_true h
  obtain ⟨h2, h⟩ := cond_false_true h
  obtain ⟨h3, h⟩ := cond_false_true h
  rw [Nat.eq_of_beq_eq_true h1, Nat.eq_of_beq_eq_true h2, Nat.eq_of_beq_eq_true h3, eqT_eq h]
 | .nilp, b, h => by cases b <;> simp only [eqQ] at h <;> first | rfl | cases h
 | .nilIface, b, h => by cases b <;> simp only [eqQ] at h <;> first | rfl | cases h
 | .agg cs o, b, h => by
  cases b <;> simp only [eqQ] at h <;> first | cases h | skip
  obtain ⟨h1, h⟩ := cond_false_true h
  rw [Nat.eq_of_beq_eq_true h1, eqQL_eq h]
 | .aggt t o, b, h => by
  cases b <;> simp only [eqQ] at h <;> first | cases h | skip
  obtain ⟨h1, h⟩ := cond_false_true h
  rw [Nat.eq_of_beq_eq_true h1, eqT_eq h]
 | .no, b, h => by cases b <;> simp only [eqQ] at h <;> first | rfl | cases h
theorem eqT_eq : ∀ {a b : Tre Q}, eqT a b = true → a = b
 | .nil, b, h => by cases b <;> simp only [eqT] at h <;> first | rfl | cases h
 | .node v l r, b, h => by
  cases b <;> simp only [eqT] at h <;> first | cases h | skip
  obtain ⟨h1, h⟩ := cond_false_true h
  obtain ⟨h2, h⟩ := cond_false_true h
  rw [eqQ_eq h1, eqT_eq h2, eqT_eq h]
theorem eqQL_eq : ∀ {a b : List Q}, eqQL a b = true → a = b
 | [], b, h => by cases b <;> simp only [eqQL] at h <;> first | rfl | cases h
 | x :: xs, b, h => by
  cases b <;> simp only [eqQL] at h <;> first | cases h | skip
  obtain ⟨h1, h⟩ := cond_false_true h
  rw [eqQ_eq h1, eqQL_eq h]
end
def capNo : Cap → Bool
 | .no => true
 | _ => false
def plainV : V → Bool
 | .bool _ | .known _ | .int _ _ | .str _ _ | .q _ | .nilp | .nilIface => true
 | .slice _ _ _ _ c => capNo c
 | _ => false
def sameV : V → V → Bool
 | .bool a, .bool b => bsel a b (bnot b)
 | .int k a, .int k' b => cond (ikEq k k') (iEq a b) false
 | .str l c, .str l' c' => cond (Nat.beq l l') (Nat.beq c c') false
 | .slice t n o l c, .slice t' n' o' l' c' => cond (capNo c) (cond (capNo c') (cond (Nat.beq n n') (cond (Nat.beq o o') (cond (Nat.beq l l') (eqT t t') false) false) false) false) false
 | .q x, .q y => eqQ x y
 | .nilp, .nilp => true
 | .nilIface, .nilIface => true
 | _, _ => false
theorem capNo_eq {c : Cap} (h : capNo c = true) : c = .no := by cases c <;> first | rfl | cases h
theorem sameV_eq {a b : V} (h : sameV a b = true) : a = b := by
 unfold sameV at h
 split at h <;> first | rfl | cases h | skip
 ·rw [bsel_true h]
 ·obtain ⟨h1, h2⟩ := cond_false_true h; rw [ikEq_eq h1, iEq_true h2]
 ·obtain ⟨h1, h2⟩ := cond_false_true h; rw [Nat.eq_of_beq_eq_true h1, Nat.eq_of_beq_eq_true h2]
 ·obtain ⟨g1, h⟩ := cond_false_true h
  obtain ⟨g2, h⟩ := cond_false_true h
  obtain ⟨h1, h⟩ := cond_false_true h
  obtain ⟨h2, h⟩ := cond_false_true h
  obtain ⟨h3, h⟩ := cond_false_true h
  rw [capNo_eq g1, capNo_eq g2, Nat.eq_of_beq_eq_true h1, Nat.eq_of_beq_eq_true h2, Nat.eq_of_beq_eq_true h3, eqT_eq h]
 ·rw [eqQ_eq h]
def sameVL : List V → List V → Bool
 | [], [] => true
 | x :: xs, y :: ys => cond (sameV x y) (sameVL xs ys) false
 | _, _ => false
theorem sameVL_eq : ∀ {a b : List V}, sameVL a b = true → a = b
 | [], b, h => by cases b <;> simp only [sameVL] at h <;> first | rfl | cases h
 | x :: xs, b, h => by
  cases b <;> simp only [sameVL] at h <;> first | cases h | skip
  obtain ⟨h1, h⟩ := cond_false_true h
  rw [sameV_eq h1, sameVL_eq h]
def eqB : Bx → Bx → Bool
 | .cells a, .cells b => sameVL a b
 | .opa x m, .opa y n => cond (Nat.beq m n) (eqQ x y) false
 | _, _ => false
theorem eqB_eq {a b : Bx} (h : eqB a b = true) : a = b := by
 unfold eqB at h
 split at h <;> first | cases h | skip
 ·rw [sameVL_eq h]
 ·obtain ⟨h1, h⟩ := cond_false_true h; rw [Nat.eq_of_beq_eq_true h1, eqQ_eq h]
def eqBs : List Bx → List Bx → Bool
 | [], [] => true
 | x :: xs, y :: ys => cond (eqB x y) (eqBs xs ys) false
 | _, _ => false
theorem eqBs_eq : ∀ {a b : List Bx}, eqBs a b = true → a = b
 | [], b, h => by cases b <;> simp only [eqBs] at h <;> first | rfl | cases h
 | x :: xs, b, h => by
  cases b <;> simp only [eqBs] at h <;> first | cases h | skip
  obtain ⟨h1, h⟩ := cond_false_true h
  rw [eqB_eq h1, eqBs_eq h]
def same (a b : List Bx) (x : Om) : Om := cond (eqBs a b) x none
def plainB : Bx → Bool
 | .cells cs => cs.all plainV
 | .opa _ _ => true
 | _ => false
theorem plainV_ren (f : Nat → Option Nat) {v : V} (h : plainV v = true) : renI f (toD v) = toD v := by
 rw [← renIV_eq]
 cases v <;> first | rfl | cases h | skip
 rename_i c
 cases c <;> first | rfl | cases h
theorem plainB_ren (f : Nat → Option Nat) {b : Bx} (h : plainB b = true) : (boxD b).map (renI f) = boxD b := by
 cases b <;> first | cases h | skip
 ·rename_i cs
  simp only [boxD, List.map_map]
  refine List.map_congr_left fun v hv => plainV_ren f (List.all_eq_true.1 h v hv)
 ·exact map_renI_cells f _ _ 0
abbrev CastT := FuncId → List Bx → V → List Bx → (V → Option (List Bx) → Om) → Om
def CastOk (cr : CastT) : Prop := ∀ (g : FuncId) (bs0 : List Bx) (v : V) (bs : List Bx) (K : V → Option (List Bx) → Om) (r : R), cr g bs0 v bs K = some r →
 (∃ v' bs', toD v' = toD v ∧ bs'.map toB = bs.map toB ∧ K v' (some bs') = some r) ∨ (∃ v', toD v' = toD v ∧ bs = bs0 ∧ K v' none = some r)
def Vst.lay (s : Vst) (ws : List (Nat × Bx)) : Vst := { s with heap := ws.foldl (fun h x => h.set x.1 x.2) s.heap }
def Vst.put (s : Vst) (dst : Option Tmp) (v : V) : Vst := match dst with
 | some t => { s with tmps := s.tmps.set t v }
 | none => s
theorem toSt_put (s : Vst) (dst : Option Tmp) (v : V) : toSt (s.put dst v) = (toSt s).put dst (toD v) := by
 cases dst with
 | none => rfl
 | some t => simp only [Vst.put, toSt, St.put, List.map_set]
theorem toSt_lay (s : Vst) (ws : List (Nat × Bx)) : toSt (s.lay ws) = (toSt s).lay (toWs ws) := by
 unfold Vst.lay St.lay toWs toSt
 simp only []
 congr 1
 rw [List.foldl_map]
 generalize s.heap = h
 induction ws generalizing h with
 | nil => rfl
 | cons x ws ih => simp only [List.foldl_cons]; rw [ih, List.map_set]

def frzV (C : Comb) : Vst → List V → (List V → List Nat → Om) → Om
 | _, [], K => K [] []
 | s, .bslice id len :: vs, K => match nthB s.heap id with
  | .row t len' => C.chk (C.nEq len len') (frzV C { s with heap := s.heap.set id .dead } vs fun vs' ks => K (.slice t 1 0 len .no :: vs') (id :: ks))
  | .rowN n t len' => C.chk (C.nEq len len') (frzV C { s with heap := s.heap.set id .dead } vs fun vs' ks => K (.slice t n 0 len .no :: vs') (id :: ks))
  | _ => none
 | s, v :: vs, K => frzV C s vs fun vs' ks => K (v :: vs') ks
def boxesV (h : List Bx) : List Nat → Option (List Bx)
 | [] => some []
 | id :: ids => bif boxOk (nthB h id) then (boxesV h ids).map (nthB h id :: ·) else none
def putAllV (ids : List Nat) (bs : List Bx) : List (Nat × Bx) := (ids.zip bs).map fun p => (p.1, renB (ids[·]?) p.2)
def stripFV : V → V
 | .slice t n off len (.fr _) => .slice t n off len .no
 | v => v
def ownLV (nid : Nat) : List V → Option (List V × List (Nat × Bx))
 | [] => some ([], [])
 | v :: vs => match v with
  | .slice t n off len (.fr z) => bif Nat.beq n z then some (.slice t n off len (.tok nid) :: vs.map stripFV, [(nid, .tok len z)]) else none
  | v => (ownLV nid vs).map fun p => (v :: p.1, p.2)
def ownV (nid : Nat) : V → Option (V × List (Nat × Bx))
 | .tuple vs => (ownLV nid vs).map fun p => (.tuple p.1, p.2)
 | .slice t n off len (.fr z) => bif Nat.beq n z then some (.slice t n off len (.tok nid), [(nid, .tok len z)]) else none
 | v => some (v, [])
def ownKV (s : Vst) (nid : Nat) (v : V) (ws : List (Nat × Bx)) (rs : List Nat) (K : KV) : Om :=
 match ownV nid v with
 | some (v', []) => K v' ws rs
 | some (v', x :: xs) => cond (isFreeV (s.lay ws) nid) (K v' (ws ++ x :: xs) (nid :: rs)) none
 | none => none
def vCall (C : Comb) (fn : FuncId → FunT) (cr : CastT) (s : Vst) (nid : Nat) (g : FuncId) (vs : List V) (K : KV) (Kp : V → List Nat → Om) : Om :=
 frzV C s vs fun vs' ks =>
  let ids := dedup (vs'.flatMap pidsV)
  match boxesV (s.lay (ks.map fun k => (k, .dead))).heap ids with
  | some bs => C.bind (fn g (vs'.map (renV (pos · ids))) (bs.map (renB (pos · ids))))
    (fun v bs' => cr g (bs.map (renB (pos · ids))) v bs' fun v o => match o with
     | some bs' => bif Nat.beq bs'.length ids.length && bs'.all boxOk then ownKV s nid (renV (ids[·]?) v) ((ks.map fun k => (k, Bx.dead)) ++ putAllV ids bs') (ids ++ ks) K else none
     | none => bif bs.all plainB then ownKV s nid (renV (ids[·]?) v) (ks.map fun k => (k, Bx.dead)) (ids ++ ks) K else none) (fun v => Kp (C.rn0 v) (ids ++ ks))
  | none => none

section
variable {X : Pr} {r : R}
theorem boxesV_some {h : List Bx} : ∀ {ids : List Nat} {bs : List Bx}, boxesV h ids = some bs → boxes (h.map toB) ids = some (bs.map boxD) ∧ bs.all boxOk = true ∧ bs.length = ids.length
 | [], bs, hb => by simp only [boxesV] at hb; injection hb with hb; subst hb; exact ⟨rfl, rfl, rfl⟩
 | id :: ids, bs, hb => by
  simp only [boxesV] at hb
  cases ho : boxOk (nthB h id) with
  | false => rw [ho] at hb; cases hb
  | true =>
   rw [ho] at hb
   obtain ⟨bs', h1, rfl⟩ := Option.map_eq_some_iff.1 hb
   obtain ⟨h2, h3, h4⟩ := boxesV_some h1
   have e : (h.map toB)[id]? = some (.cells (boxD (nthB h id))) := by
    rw [← boxD_eq ho, List.getElem?_map, nthB_eq, List.getD_eq_getElem?_getD]
    cases hi : h[id]? with
    | none => rw [nthB_eq, List.getD_eq_getElem?_getD, hi] at ho; cases ho
    | some x => rfl
   refine ⟨?_, by simp only [List.all_cons, ho, h3, Bool.and_self], by simp [h4]⟩
   simp only [boxes, e, h2, Option.map_some, List.map_cons]
theorem frzV_some : ∀ {vs : List V} {s : Vst} {K : List V → List Nat → Om}, frzV CR s vs K = some r → ∃ vs' ks, K vs' ks = some r ∧ frz (toSt s) (vs.map toD) = some (vs'.map toD, ks)
 | [], s, K, h => ⟨[], [], h, rfl⟩
 | v :: vs, s, K, h => by
  by_cases hb : ∃ id len, v = .bslice id len
  ·obtain ⟨id, len, rfl⟩ := hb
   simp only [frzV] at h
   split at h
   ·rename_i t len' hbx
    obtain ⟨h0, h'⟩ := Cchk_some h
    have h0 : (Nat.beq len len') = true := h0
    have he := Nat.eq_of_beq_eq_true h0
    subst he
    obtain ⟨vs', ks, h, hf⟩ := frzV_some h'
    have hh := heap_of hbx (by simp)
    refine ⟨_, _, h, ?_⟩
    have e : toSt { s with heap := s.heap.set id .dead } = { toSt s with heap := (toSt s).heap.set id .dead } := by simp only [toSt, List.map_set, toB]
    rw [e] at hf
    simp only [List.map_cons, toD, frz, hh, toB, hf, Option.map_some, rows_ren]
   ·rename_i n t len' hbx
    obtain ⟨h0, h'⟩ := Cchk_some h
    have h0 : (Nat.beq len len') = true := h0
    have he := Nat.eq_of_beq_eq_true h0
    subst he
    obtain ⟨vs', ks, h, hf⟩ := frzV_some h'
    have hh := heap_of hbx (by simp)
    refine ⟨_, _, h, ?_⟩
    have e : toSt { s with heap := s.heap.set id .dead } = { toSt s with heap := (toSt s).heap.set id .dead } := by simp only [toSt, List.map_set, toB]
    rw [e] at hf
    simp only [List.map_cons, toD, frz, hh, toB, hf, Option.map_some, rows_ren]
   ·cases h
  ·have h' : frzV CR s vs (fun vs' ks => K (v :: vs') ks) = some r := by
    rw [← h]
    cases v <;> first | rfl | exact absurd ⟨_, _, rfl⟩ hb
   obtain ⟨vs', ks, h', hf⟩ := frzV_some h'
   refine ⟨_, _, h', ?_⟩
   have hd : ¬ ∃ id len, toD v = .bslice id len := by
    rintro ⟨id, len, hd⟩
    cases v <;> simp only [toD] at hd <;> first | (cases hd; done) | skip
    ·have h3 := congrArg (ren0 noId) hd; rw [den_ren, hd] at h3; simp only [ren0] at h3; cases h3
    ·exact hb ⟨_, _, rfl⟩
   simp only [List.map_cons]
   have e : frz (toSt s) (toD v :: vs.map toD) = (frz (toSt s) (vs.map toD)).map fun p => (toD v :: p.1, p.2) := by
    cases hv : toD v <;> first | rfl | exact absurd ⟨_, _, hv⟩ hd
   rw [e, hf]
   rfl
theorem putAllV_eq {ids : List Nat} {bs : List Bx} (h : bs.all boxOk = true) : toWs (putAllV ids bs) = putAll ids (bs.map boxD) := by
 unfold putAllV putAll toWs
 rw [List.map_map, List.zip_map_right, List.map_map]
 refine List.map_congr_left fun p hp => ?_
 have hm : p.2 ∈ bs := (List.of_mem_zip hp).2
 have ho := List.all_eq_true.1 h _ hm
 simp only [Function.comp, Prod.map, id]
 rw [boxD_eq (by rw [renB_ok]; exact ho), renB_eq]
theorem stripFV_eq (v : V) : toD (stripFV v) = stripF (toD v) := by
 cases v
 case slice t n off len c => cases c <;> simp only [stripFV, toD, stripF]
 case q x =>
  simp only [stripFV, toD]
  have h := den_ren noId x 0
  have h1 := den_one x 0
  cases hd : den x 0 <;> first | rfl | skip
  rename_i l c k
  cases k <;> first | rfl | skip
  exfalso
  exact den_fr hd
 all_goals simp only [stripFV, toD, stripF]
theorem ownLV_some {nid : Nat} : ∀ {vs vs' : List V} {ws : List (Nat × Bx)}, ownLV nid vs = some (vs', ws) → ownL nid (vs.map toD) = (vs'.map toD, toWs ws)
 | [], vs', ws, h => by simp only [ownLV] at h; injection h with h; injection h with h1 h2; subst h1 h2; rfl
 | v :: vs, vs', ws, h => by
  simp only [ownLV] at h
  split at h
  ·rename_i t n off len z
   cases hz : Nat.beq n z with
   | false => rw [hz] at h; cases h
   | true =>
    rw [hz] at h
    injection h with h; injection h with h1 h2; subst h1 h2
    have := Nat.eq_of_beq_eq_true hz
    subst this
    simp only [List.map_cons, toD, ownL, rows_length, Nat.beq_refl, cond_true, toWs, toB, List.map_nil, map_toD (fun v => stripFV_eq v)]
  ·rename_i hnf
   obtain ⟨p, hp, he⟩ := Option.map_eq_some_iff.1 h
   obtain ⟨p1, p2⟩ := p
   injection he with h1 h2; subst h1 h2
   have ih := ownLV_some hp
   have hnd : ∀ l c z, toD v ≠ .slice l c (.fr z) := fun l c z hd => by
    cases v <;> simp only [toD] at hd <;> first | (cases hd; done) | skip
    ·injection hd with _ _ hd; subst hd; exact hnf _ _ _ _ _ rfl
    ·exact den_fr hd
   rw [List.map_cons, List.map_cons]
   unfold ownL
   split
   ·rename_i hd; exact absurd hd (hnd _ _ _)
   ·rw [ih]
theorem ownV_some {nid : Nat} {v v' : V} {ws : List (Nat × Bx)} (h : ownV nid v = some (v', ws)) : own nid (toD v) = (toD v', toWs ws) := by
 unfold ownV at h
 split at h
 ·obtain ⟨p, hp, he⟩ := Option.map_eq_some_iff.1 h
  obtain ⟨p1, p2⟩ := p
  injection he with h1 h2; subst h1 h2
  simp only [toD, own, toDL_eq, ownLV_some hp]
 ·rename_i t n off len z
  cases hz : Nat.beq n z with
  | false => rw [hz] at h; cases h
  | true =>
   rw [hz] at h
   injection h with h; injection h with h1 h2; subst h1 h2
   have := Nat.eq_of_beq_eq_true hz
   subst this
   simp only [toD, own, rows_length, Nat.beq_refl, cond_true, toWs, toB, List.map_cons, List.map_nil]
 ·rename_i h1 h2
  injection h with h; injection h with q1 q2; subst q1 q2
  unfold own
  split
  ·rename_i ds hd
   exfalso
   cases v <;> simp only [toD] at hd <;> first | (cases hd; done) | skip
   ·rename_i x; have := den_one x 0; rw [hd] at this; cases this
   ·exact h1 _ rfl
  ·rename_i hd
   exfalso
   cases v <;> simp only [toD] at hd <;> first | (cases hd; done) | skip
   ·injection hd with _ _ hd; subst hd; exact h2 _ _ _ _ _ rfl
   ·exact den_fr hd
  ·rfl
theorem ownKV_some {s : Vst} {nid : Nat} {v : V} {ws : List (Nat × Bx)} {rs : List Nat} {K : KV} (h : ownKV s nid v ws rs K = some r) {K' : D → List (Nat × Box) → List Nat → Prop} (hK : ∀ v ws rs, K v ws rs = some r → K' (toD v) (toWs ws) rs) :
  ownK (toSt s) nid (toD v) (toWs ws) rs K' := by
 unfold ownKV at h
 unfold ownK
 split at h
 ·rename_i v' ho
  rw [ownV_some ho]
  exact hK _ _ _ h
 ·rename_i v' x xs ho
  rw [ownV_some ho]
  simp only [toWs, List.map_cons]
  cases hf : isFreeV (s.lay ws) nid with
  | false => rw [hf] at h; cases h
  | true =>
   rw [hf] at h
   have e : isFree ((toSt s).lay (ws.map fun p => (p.1, toB p.2))) nid = true := by
    have := isFree_of hf
    rw [toSt_lay] at this
    exact this
   rw [e]
   have := hK _ _ _ h
   simp only [toWs, List.map_append, List.map_cons] at this
   exact this
 ·cases h
theorem vCall_some {fn : FuncId → FunT} {cr : CastT} (htab : X.tab = []) (hfn : ∀ g, FnOk X g (fn g)) (hcr : CastOk cr) {s : Vst} {nid : Nat} {g : FuncId} {vs : List V} {K : KV} {Kp : V → List Nat → Om} (h : vCall CR fn cr s nid g vs K Kp = some r)
  {K' : D → List (Nat × Box) → List Nat → Prop} {Kp' : D → List Nat → Prop} (hK : ∀ v ws rs, K v ws rs = some r → K' (toD v) (toWs ws) rs) (hKp : ∀ v rs, Kp v rs = some r → Kp' (toD v) rs) : vcCall X (toSt s) nid g (vs.map toD) K' Kp' := by
 obtain ⟨vs', ks, h, hf⟩ := frzV_some h
 unfold vcCall
 rw [hf]
 simp only [] at h ⊢
 have eids : dedup ((vs'.map toD).flatMap pids) = dedup (vs'.flatMap pidsV) := by
  rw [List.flatMap_map]; congr 2; funext v; exact (pidsV_eq v).symm
 rw [eids]
 generalize dedup (vs'.flatMap pidsV) = ids at h ⊢
 have elay : (toSt s).lay (ks.map fun k => (k, Box.dead)) = toSt (s.lay (ks.map fun k => (k, Bx.dead))) := by
  rw [toSt_lay]; congr 1; unfold toWs; rw [List.map_map]; rfl
 rw [elay]
 split at h
 ·rename_i bs hb
  obtain ⟨h1, h2, h3⟩ := boxesV_some hb
  have h1' : boxes (toSt (s.lay (ks.map fun k => (k, Bx.dead)))).heap ids = some (bs.map boxD) := h1
  rw [h1']
  simp only []
  have hall : (bs.map (renB (pos · ids))).all boxOk = true := by
   rw [List.all_map]; rw [List.all_eq_true] at h2 ⊢; intro b hbm; simp only [Function.comp, renB_ok]; exact h2 b hbm
  have e1 : (vs'.map toD).map (ren (pos · ids)) = (vs'.map (renV (pos · ids))).map toD := (map_toD (fun v => renV_eq v) vs').symm
  have e2 : (bs.map boxD).map (fun x => x.map (renI (pos · ids))) = (bs.map (renB (pos · ids))).map boxD := by
   rw [List.map_map, List.map_map]; exact List.map_congr_left fun b _ => (renB_eq (pos · ids)).symm
  rw [e1, e2]
  unfold callK
  rw [htab]
  simp only [findTab]
  have h : bind (fn g (vs'.map (renV (pos · ids))) (bs.map (renB (pos · ids)))) _ _ = some r := h
  unfold bind at h
  split at h
  ·rename_i v bs' hcall
   have hcm := hfn g _ _ _ _ hcall hall
   rcases hcr _ _ _ _ _ _ h with ⟨v2, bs2, ev, eb, hk⟩ | ⟨v2, ev, eb, hk⟩
   ·simp only [] at hk
    cases hg : Nat.beq bs2.length ids.length && bs2.all boxOk with
    | false => rw [hg] at hk; cases hk
    | true =>
     rw [hg] at hk
     rw [Bool.and_eq_true] at hg
     have hl2 := Nat.eq_of_beq_eq_true hg.1
     have hok := all_boxOk eb hg.2
     have ebD : bs2.map boxD = bs'.map boxD := by
      have hl : bs2.length = bs'.length := by have := congrArg List.length eb; simpa using this
      apply List.ext_getElem
      ·simpa using hl
      ·intro i hi1 hi2
       simp only [List.length_map] at hi1 hi2
       simp only [List.getElem_map]
       have q1 := List.all_eq_true.1 hg.2 _ (List.getElem_mem hi1)
       have q2 := List.all_eq_true.1 hok _ (List.getElem_mem hi2)
       have q3 : (bs2.map toB)[i]? = (bs'.map toB)[i]? := by rw [eb]
       rw [List.getElem?_map, List.getElem?_map, List.getElem?_eq_getElem hi1, List.getElem?_eq_getElem hi2] at q3
       simp only [Option.map_some] at q3
       injection q3 with q3
       rw [boxD_eq q1, boxD_eq q2] at q3
       injection q3
     refine .ret (toD v) (bs'.map boxD) hcm (by rw [← ebD, List.length_map]; exact hl2) ?_
     have := ownKV_some hk hK
     rw [renV_eq, ev] at this
     have e3 : toWs ((ks.map fun k => (k, Bx.dead)) ++ putAllV ids bs2) = (ks.map fun k => (k, Box.dead)) ++ putAll ids (bs'.map boxD) := by
      rw [← ebD, ← putAllV_eq hg.2]; unfold toWs; rw [List.map_append, List.map_map]; rfl
     rw [e3] at this
     exact .inl this
   ·simp only [] at hk
    cases hg : bs.all plainB with
    | false => rw [hg] at hk; cases hk
    | true =>
     rw [hg] at hk
     subst eb
     refine .ret (toD v) _ hcm (by simp [h3]) (.inr ⟨?_, ?_⟩)
     ·rw [List.map_map, List.map_map]
      refine List.map_congr_left fun b hb => ?_
      have hp := List.all_eq_true.1 hg b hb
      simp only [Function.comp]
      rw [renB_eq, plainB_ren _ hp, plainB_ren _ hp]
     ·have := ownKV_some hk hK
      rw [renV_eq, ev] at this
      have e3 : toWs (ks.map fun k => (k, Bx.dead)) = ks.map fun k => (k, Box.dead) := by unfold toWs; rw [List.map_map]; rfl
      rw [e3] at this
      exact this
  ·rename_i v bs' hcall
   have hcm := hfn g _ _ _ _ hcall hall
   refine .pan (toD v) (bs.map boxD) (CM.pan_any hcm) (by simp [h3]) ?_
   have := hKp _ _ h
   rw [show CR.rn0 v = renV noId v from rfl, renV_eq] at this
   exact this
  ·cases h
 ·cases h

def vOpC (C : Comb) (X : Pr) (fn : FuncId → FunT) (cr : CastT) (s : Vst) (nid : Nat) (o : Op) (K : KV) (Kp : V → List Nat → Om) : Om :=
 match o with
 | .call { callee := .value f, args, .. } => match s.eval f with
  | .func (.func g) fs cs => vCall C fn cr s nid g (fs ++ args.toList.map s.eval ++ cs) K Kp
  | _ => none
 | .panic x => match s.eval x with
  | .iface t d => Kp (renV noId (.iface t d)) []
  | _ => none
 | .pick c a b => match s.eval c with
  | .known t => cond t (K (s.eval a) [] []) (K (s.eval b) [] [])
  | v => vB C v fun t => C.cnd t (K (s.eval a) [] []) (K (s.eval b) [] [])
 | o => vOp C X s nid o K
theorem vOpC_some {fn : FuncId → FunT} {cr : CastT} (htab : X.tab = []) (hfn : ∀ g, FnOk X g (fn g)) (hcr : CastOk cr) {s : Vst} {nid : Nat} {o : Op} {K : KV} {Kp : V → List Nat → Om} (h : vOpC CR X fn cr s nid o K Kp = some r)
  {K' : D → List (Nat × Box) → List Nat → Prop} {Kp' : D → List Nat → Prop} (hK : ∀ v ws rs, K v ws rs = some r → K' (toD v) (toWs ws) rs) (hKp : ∀ v rs, Kp v rs = some r → Kp' (toD v) rs) : vcOp X (toSt s) nid o K' Kp' := by
 have hrest : ∀ o : Op, vOp CR X s nid o K = some r → (match dOp X (toSt s) nid o with | some out => cond out.need (K' out.val out.ws out.rs) False | none => False) := by
  intro o h
  obtain ⟨v, ws, rs, h, hd⟩ := vOp_some h
  rw [hd]
  exact hK _ _ _ h
 unfold vOpC at h
 unfold vcOp
 split at h
 ·rename_i f args ts
  simp only []
  split at h
  ·rename_i g fs cs hf
   rw [toSt_eval, hf]
   simp only [toD]
   have := vCall_some htab hfn hcr h hK hKp
   rw [List.map_append, List.map_append] at this
   rw [toDL_eq, toDL_eq, op_evals]
   exact this
  ·cases h
 ·rename_i x
  simp only []
  split at h
  ·rename_i t d hx
   rw [toSt_eval, hx]
   have := hKp _ _ h
   rw [renV_eq] at this
   simp only [toD] at this ⊢
   exact this
  ·cases h
 ·rename_i c a b
  simp only [toSt_eval]
  split at h
  ·rename_i t hc
   rw [hc]
   simp only [toD]
   cases t
   ·exact hK _ _ _ h
   ·exact hK _ _ _ h
  ·obtain ⟨t, hc, h⟩ := vB_some h
   rw [hc]
   simp only []
   have h : cnd t _ _ = some r := h
   rw [cnd_eq] at h
   cases t
   ·exact hK _ _ _ h
   ·exact hK _ _ _ h
 ·rename_i h1 h2 h3
  split
  ·exact absurd rfl (h1 _ _ _)
  ·exact absurd rfl (h2 _)
  ·exact absurd rfl (h3 _ _ _)
  ·exact hrest o h

def vGuard (C : Comb) (ops : Array Oper) (s : Vst) (o : Oper) (Ky Kn : Vst → Om) : Om :=
 match o.guard with
 | none => Ky s
 | some (j, want) => match gtmp ops j with
  | none => Kn s
  | some t => bif Nat.blt t s.tmps.length then
    match nthV s.tmps t with
    | .known b => cond (cond want b (!b)) (Ky s) (Kn s)
    | .tuple _ => Kn s
    | v => vB C v fun b => match want with
     | true => C.cnd b (Ky (s.put (some t) (.known true))) (Kn (s.put (some t) (.known false)))
     | false => C.cnd b (Kn (s.put (some t) (.known true))) (Ky (s.put (some t) (.known false)))
   else Kn s
theorem vGuard_some {ops : Array Oper} {s : Vst} {o : Oper} {Ky Kn : Vst → Om} (h : vGuard CR ops s o Ky Kn = some r) {Ky' Kn' : St → Prop} (hy : ∀ s, Ky s = some r → Ky' (toSt s)) (hn : ∀ s, Kn s = some r → Kn' (toSt s)) : vcGuardS ops (toSt s) o Ky' Kn' := by
 unfold vGuard at h
 unfold vcGuardS
 split at h
 ·rename_i hg; rw [hg]; exact hy _ h
 ·rename_i j want hg
  rw [hg]
  simp only []
  split at h
  ·rename_i ht; rw [ht]; exact hn _ h
  ·rename_i t ht
   rw [ht]
   simp only []
   cases hb : Nat.blt t s.tmps.length with
   | false =>
    rw [hb] at h
    have hl : s.tmps.length ≤ t := by
     rcases Nat.lt_or_ge t s.tmps.length with h1 | h1
     ·have : Nat.blt t s.tmps.length = true := by rw [Nat.blt_eq]; exact h1
      rw [hb] at this; cases this
     ·exact h1
    have e : (toSt s).tmps[t]? = none := by simp only [toSt, List.getElem?_map, List.getElem?_eq_none hl, Option.map_none]
    rw [e]
    exact hn _ h
   | true =>
    rw [hb] at h
    have hl : t < s.tmps.length := by rw [Nat.blt_eq] at hb; exact hb
    have e : (toSt s).tmps[t]? = some (toD (nthV s.tmps t)) := by
     rw [nthV_eq, List.getD_eq_getElem?_getD, List.getElem?_eq_getElem hl]
     simp only [toSt, List.getElem?_map, List.getElem?_eq_getElem hl, Option.map_some, Option.getD_some]
    rw [e]
    simp only [cond_true] at h
    have key : ∀ b, toD (nthV s.tmps t) = .bool b → (toSt s).put (some t) (.bool b) = toSt s := fun b hb => put_same (by rw [e, hb])
    split at h
    ·rename_i b hv
     rw [hv]
     have k1 := key b (by rw [hv]; simp only [toD])
     simp only [toD]
     cases want <;> cases b <;> simp only [cond_true, cond_false, Bool.not_true, Bool.not_false] at h ⊢ <;> rw [k1] <;> first | exact hy _ h | exact hn _ h
    ·rename_i hv
     rw [hv]
     simp only [toD]
     exact hn _ h
    ·obtain ⟨b, hv, h⟩ := vB_some h
     rw [hv]
     simp only []
     have p1 := toSt_put s (some t) (.known true)
     have p2 := toSt_put s (some t) (.known false)
     simp only [toD] at p1 p2
     cases want
     ·have h : cnd b _ _ = some r := h
      rw [cnd_eq] at h
      cases b <;> simp only [cond_true, cond_false] at h ⊢
      ·rw [← p2]; exact hy _ h
      ·rw [← p1]; exact hn _ h
     ·have h : cnd b _ _ = some r := h
      rw [cnd_eq] at h
      cases b <;> simp only [cond_true, cond_false] at h ⊢
      ·rw [← p2]; exact hn _ h
      ·rw [← p1]; exact hy _ h

def fLV (l : List V) : (List V → Om) → Om := List.rec (motive := fun _ => (List V → Om) → Om) (fun K => K []) (fun x _ ih K => ih fun l => K (x :: l)) l
def fLB (l : List Bx) : (List Bx → Om) → Om := List.rec (motive := fun _ => (List Bx → Om) → Om) (fun K => K []) (fun x _ ih K => ih fun l => K (x :: l)) l
def fSt (s : Vst) (K : Vst → Om) : Om := fLV s.tmps fun t => fLB s.heap fun h => K ⟨t, h⟩
theorem fLV_eq : ∀ (l : List V) (K : List V → Om), fLV l K = K l
 | [], _ => rfl
 | x :: l, K => fLV_eq l fun l => K (x :: l)
theorem fLB_eq : ∀ (l : List Bx) (K : List Bx → Om), fLB l K = K l
 | [], _ => rfl
 | x :: l, K => fLB_eq l fun l => K (x :: l)
theorem fSt_eq (s : Vst) (K : Vst → Om) : fSt s K = K s := by unfold fSt; rw [fLV_eq, fLB_eq]
def vOps (C : Comb) (X : Pr) (fn : FuncId → FunT) (cr : CastT) (ops : Array Oper) (nid : Nat → Nat) : List Nat → Vst → List Tr → (Vst → List Tr → Om) → (Nat → V → List Nat → List Tr → Om) → Om
 | [], s, tr, K, _ => K s tr
 | i :: l, s, tr, K, Kp => match ops[i]? with
  | none => vOps C X fn cr ops nid l s tr K Kp
  | some o => vGuard C ops s o
    (fun s => vOpC C X fn cr s (nid i) o.op (fun d ws rs => fSt ((s.lay ws).put o.dst d) fun s => vOps C X fn cr ops nid l s (⟨i, o.dst, .junk, ws.map fun p => (p.1, .dead), rs⟩ :: tr) K Kp) (fun d rs => Kp i d rs tr))
    (fun s => fSt (s.put o.dst (.tuple [])) fun s => vOps C X fn cr ops nid l s (⟨i, o.dst, .junk, [], []⟩ :: tr) K Kp)
def Tr.face (t : Tr) : Nat × Option Tmp × List Nat × List Nat := (t.i, t.dst, t.ids, t.rs)
theorem meets_face {ops : Array Oper} {x y x' y' : Tr} (hx : x.face = x'.face) (hy : y.face = y'.face) : meets ops x y = meets ops x' y' := by
 unfold Tr.face at hx hy
 injection hx with h1 hx; injection hx with h2 hx; injection hx with h3 h4
 injection hy with g1 hy; injection hy with g2 hy; injection hy with g3 g4
 unfold meets
 rw [h1, h2, h3, h4, g1, g2, g3, g4]
theorem regOk_face {ops : Array Oper} : ∀ {a b : List Tr}, a.map Tr.face = b.map Tr.face → regOk ops a = regOk ops b
 | [], [], _ => rfl
 | [], _ :: _, h => by simp at h
 | _ :: _, [], h => by simp at h
 | x :: a, y :: b, h => by
  simp only [List.map_cons, List.cons.injEq] at h
  simp only [regOk]
  rw [regOk_face h.2]
  congr 1
  have : ∀ {a b : List Tr}, a.map Tr.face = b.map Tr.face → (a.all fun z => !meets ops z x || reach ops z.i ops.size x.i) = b.all fun z => !meets ops z y || reach ops z.i ops.size y.i := by
   intro a
   induction a with
   | nil => intro b hab; cases b with
    | nil => rfl
    | cons => simp at hab
   | cons z a ih => intro b hab; cases b with
    | nil => simp at hab
    | cons u b =>
     simp only [List.map_cons, List.cons.injEq] at hab
     simp only [List.all_cons]
     rw [ih hab.2, meets_face hab.1 h.1]
     have e1 : z.i = u.i := congrArg Prod.fst hab.1
     have e2 : x.i = y.i := congrArg Prod.fst h.1
     rw [e1, e2]
  exact this h.2
theorem vOps_some {fn : FuncId → FunT} {cr : CastT} (htab : X.tab = []) (hfn : ∀ g, FnOk X g (fn g)) (hcr : CastOk cr) {ops : Array Oper} {nid : Nat → Nat} : ∀ {l : List Nat} {s : Vst} {tr : List Tr} {K : Vst → List Tr → Om} {Kp : Nat → V → List Nat → List Tr → Om}, vOps CR X fn cr ops nid l s tr K Kp = some r →
  ∀ {tr' : List Tr} {K' : St → List Tr → Prop} {Kp' : Nat → D → List Nat → List Tr → Prop}, tr.map Tr.face = tr'.map Tr.face → (∀ s t t', t.map Tr.face = t'.map Tr.face → K s t = some r → K' (toSt s) t') → (∀ i v rs t t', t.map Tr.face = t'.map Tr.face → Kp i v rs t = some r → Kp' i (toD v) rs t') → vcOps X ops nid l (toSt s) tr' K' Kp'
 | [], s, tr, K, Kp, h, tr', K', Kp', htr, hK, hKp => hK _ _ _ htr h
 | i :: l, s, tr, K, Kp, h, tr', K', Kp', htr, hK, hKp => by
  simp only [vOps] at h
  simp only [vcOps]
  split at h
  ·rename_i ho; rw [ho]; exact vOps_some htab hfn hcr h htr hK hKp
  ·rename_i o ho
   rw [ho]
   refine vGuard_some h (fun s h => ?_) (fun s h => ?_)
   ·refine vOpC_some htab hfn hcr h (fun v ws rs h => ?_) (fun v rs h => hKp _ _ _ _ _ htr h)
    rw [fSt_eq] at h
    rw [← toSt_lay, ← toSt_put]
    refine vOps_some htab hfn hcr h ?_ hK hKp
    simp only [List.map_cons, List.cons.injEq, htr, and_true]
    simp only [Tr.face, Tr.ids, toWs, List.map_map]
    rfl
   ·rw [fSt_eq] at h
    have := toSt_put s o.dst (.tuple [])
    simp only [toD, toDL] at this
    rw [← this]
    refine vOps_some htab hfn hcr h ?_ hK hKp
    simp only [List.map_cons, List.cons.injEq, htr, and_true]
    rfl

def Vst.more (s : Vst) (n : Nat) : Vst := { s with heap := s.heap ++ List.replicate n .free }
theorem toSt_more (s : Vst) (n : Nat) : toSt (s.more n) = (toSt s).more n := by simp only [toSt, Vst.more, St.more, List.map_append, List.map_replicate, toB]
def hasV (C : Comb) (m : MapLit) (c : Int) : Bool := C.bnot (C.band (C.bnot (C.iEq c m.k0)) (C.band (C.bnot (C.iEq c m.k1)) (C.bnot (C.iEq c m.k2))))
def valV (C : Comb) (m : MapLit) (c : Int) : Int := C.isel (C.iEq c m.k0) m.v0 (C.isel (C.iEq c m.k1) m.v1 m.v2)
def putV (m : MapLit) (s : Vst) (c x : Int) : Vst := (((s.put (some m.t0) .junk).put (some m.t1) .junk).put (some m.t2) (.int .u8 c)).put (some m.t3) (.int .i64 x)
theorem hasV_eq (m : MapLit) (c : Int) : hasV CR m c = m.has c := by
 unfold hasV MapLit.has
 simp only [C_bnot, C_band, C_iEq, bnot_eq, band_eq, iEq_eq]
theorem valV_eq (m : MapLit) (c : Int) : valV CR m c = m.val c := by
 unfold valV MapLit.val
 simp only [C_isel, C_iEq, isel_eq, iEq_eq]
theorem toSt_putV (m : MapLit) (s : Vst) (c : Int) : toSt (putV m s c (m.val c)) = m.put (toSt s) c := by
 unfold putV MapLit.put
 simp only [toSt_put, toD]
def vRegion (C : Comb) (X : Pr) (fn : FuncId → FunT) (cr : CastT) (ops : Array Oper) (draw : Bool) (s : Vst) (K : Vst → Om) (Kp : V → Om) : Om :=
 match draw with
 | false => match mapLit ops.toList with
  | none => fSt (s.more (nLay ops.toList)) fun s' => vOps C X fn cr ops (fun i => s.heap.length + rankL ops.toList i) (List.range ops.size) s' [] (fun s _ => K s) (fun _ d _ _ => Kp d)
  | some m => cond (byteMap X.P m.mt && m.ok s.tmps.length) (vI C .u8 (nthV s.tmps m.src) fun c => C.chk (hasV C m c) (C.fI (valV C m c) fun x => fSt (putV m (s.more (nLay ops.toList)) c x) fun s' =>
   vOps C X fn cr ops (fun i => s.heap.length + rankL ops.toList i) (List.range' 7 (ops.size - 7)) s' [] (fun s _ => K s) (fun _ d _ _ => Kp d))) none
 | true => cond (edgesOk ops)
   (fSt (s.more (nLay ops.toList)) fun s' => vOps C X fn cr ops (fun i => s.heap.length + rankL ops.toList i) (List.range ops.size) s' [] (fun s tr => cond (regOk ops tr) (K s) none)
    (fun i d rs tr => cond (regOk ops (⟨i, none, .junk, [], rs⟩ :: tr) && (List.range ops.size).all fun j => Nat.ble j i || reach ops i ops.size j) (Kp d) none)) none
theorem vRegion_some {fn : FuncId → FunT} {cr : CastT} (htab : X.tab = []) (hfn : ∀ g, FnOk X g (fn g)) (hcr : CastOk cr) {ops : Array Oper} {draw : Bool} {s : Vst} {K : Vst → Om} {Kp : V → Om} (h : vRegion CR X fn cr ops draw s K Kp = some r)
  {K' : St → Prop} {Kp' : D → Prop} (hK : ∀ s, K s = some r → K' (toSt s)) (hKp : ∀ v, Kp v = some r → Kp' (toD v)) : vcRegion X ops draw (toSt s) K' Kp' := by
 have el : (toSt s).heap.length = s.heap.length := by simp [toSt]
 unfold vRegion at h
 unfold vcRegion
 rw [el, ← toSt_more]
 split at h
 ·simp only []
  split at h
  ·rename_i hm
   rw [hm]
   rw [fSt_eq] at h
   exact vOps_some htab hfn hcr h rfl (fun s t t' _ h => hK s h) (fun i v rs t t' _ h => hKp v h)
  ·rename_i m hm
   rw [hm]
   have et : (toSt s).tmps.length = s.tmps.length := by simp [toSt]
   simp only [et]
   generalize (byteMap X.P m.mt && m.ok s.tmps.length) = b at h ⊢
   cases b with
   | false => cases h
   | true =>
    simp only [cond_true] at h ⊢
    obtain ⟨c, hc, h⟩ := vI_some h
    obtain ⟨h0, h⟩ := Cchk_some h
    rw [hasV_eq] at h0
    rw [CfI, valV_eq, fSt_eq] at h
    have e1 : (toSt s).tmps.getD m.src .junk = .int .u8 c := by
     have := toSt_eval s (.tmp m.src)
     have e2 : (toSt s).eval (.tmp m.src) = (toSt s).tmps.getD m.src .junk := rfl
     rw [← e2, this]; exact hc
    rw [e1]
    simp only [h0, cond_true]
    rw [← toSt_putV]
    exact vOps_some htab hfn hcr h rfl (fun s t t' _ h => hK s h) (fun i v rs t t' _ h => hKp v h)
 ·simp only []
  cases he : edgesOk ops with
  | false => rw [he] at h; cases h
  | true =>
   rw [he] at h
   simp only [cond_true] at h ⊢
   rw [fSt_eq] at h
   refine vOps_some htab hfn hcr h rfl (fun s t t' ht h => ?_) (fun i v rs t t' ht h => ?_)
   ·rw [← regOk_face ht]
    cases hr : regOk ops t with
    | false => rw [hr] at h; cases h
    | true => rw [hr] at h; exact hK s h
   ·rw [← regOk_face (a := ⟨i, none, .junk, [], rs⟩ :: t) (by simp only [List.map_cons, ht])]
    generalize (regOk ops (⟨i, none, .junk, [], rs⟩ :: t) && (List.range ops.size).all fun j => Nat.ble j i || reach ops i ops.size j) = b at h ⊢
    cases b with
    | false => cases h
    | true => exact hKp v h
end
end
end Go.Abs
namespace Go.Abs
noncomputable section

inductive Sh where
 | int (k : IntKind)
 | bool
 | str
 | slice (n : Nat) (c : Cap)
 | q
 | a (m : Nat)
 | agg (l : List Sh)
 | tuple (l : List Sh)
 | ptr (id off : Nat)
 | cref (m : Nat)
 | bslice (id : Nat)
 | nilp
 | nilIface
 | iface (t : TypeId) (s : Sh)
 | func (fn : Fn) (fs cs : List Sh)
 | any
inductive ShB where
 | cells (l : List Sh)
 | opa (m : Nat)
 | tok (size : Nat)
 | row
 | rowN (n : Nat)
 | any

mutual
def shapeOf : V → Sh
 | .bool _ | .known _ => .bool
 | .int k _ => .int k
 | .str _ _ => .str
 | .slice _ n _ _ c => .slice n c
 | .q _ => .q
 | .a _ m => .a m
 | .agg cs => .agg (shapesOf cs)
 | .tuple cs => .tuple (shapesOf cs)
 | .ptr id off => .ptr id off
 | .cref _ _ m => .cref m
 | .bslice id _ => .bslice id
 | .nilp => .nilp
 | .nilIface => .nilIface
 | .iface t v => .iface t (shapeOf v)
 | .func fn a b => .func fn (shapesOf a) (shapesOf b)
 | .junk => .any
def shapesOf : List V → List Sh
 | [] => []
 | v :: vs => shapeOf v :: shapesOf vs
end
def shapeB : Bx → ShB
 | .cells cs => .cells (shapesOf cs)
 | .opa _ m => .opa m
 | .tok _ z => .tok z
 | .row _ _ => .row
 | .rowN n _ _ => .rowN n
 | _ => .any
def uI (k : IntKind) (v : V) (K : Int → Om) : Om := match v with
 | .int k' n => cond (ikEq k k') (K n) none
 | .q x => cI k x K
 | _ => none
def uB (v : V) (K : Bool → Om) : Om := match v with
 | .bool b => K b
 | .known b => K b
 | .q x => cB x K
 | _ => none
def uS (v : V) (K : Nat → Nat → Om) : Om := match v with
 | .str l c => K l c
 | .q x => cS x K
 | _ => none
def uSl (n cN : Nat) (v : V) (K : Tre Q → Nat → Nat → Om) : Om := match v with
 | .slice t n' off len c => cond (Nat.beq (capN c) cN) (Nat.rec (motive := fun _ => Om) (chk (nEq len 0) (K .nil 0 0)) (fun _ _ => cond (Nat.beq n n') (K t off len) (chk (nEq len 0) (K .nil 0 0))) n') none
 | .q x => cond (Nat.beq cN 0) (cSl n x K) none
 | _ => none
def uQ (v : V) (K : Q → Om) : Om := match toQ0 v with
 | some x => K x
 | none => match v with
  | .slice t n off len .no => K (.slice t n off len)
  | _ => none
def uA (m : Nat) (v : V) (K : Q → Om) : Om := match v with
 | .a x m' => cond (Nat.beq m m') (K x) none
 | .agg cs => cond (Nat.beq cs.length m) (match exQs cs with
  | some qs => K (.agg qs 0)
  | none => none) none
 | _ => none
where
 exQ (v : V) : Option Q := match toQ0 v with
  | some x => some x
  | none => match v with
   | .slice t n off len .no => some (.slice t n off len)
   | _ => none
 exQs : List V → Option (List Q)
  | [] => some []
  | v :: vs => match exQ v, exQs vs with
   | some q, some qs => some (q :: qs)
   | _, _ => none
def uL (v : V) (K : List V → Om) : Om := match v with
 | .agg cs => K cs
 | _ => none
def uTu (v : V) (K : List V → Om) : Om := match v with
 | .tuple cs => K cs
 | _ => none
def uP (id off : Nat) (v : V) (K : Om) : Om := match v with
 | .ptr i o => cond (Nat.beq id i) (cond (Nat.beq off o) K none) none
 | _ => none
def uCref (m : Nat) (v : V) (K : Q → Om) : Om := match v with
 | .cref x off m' => cond (Nat.beq m m') (fQ (subQ x off) K) none
 | _ => none
def uBs (id : Nat) (v : V) (K : Nat → Om) : Om := match v with
 | .bslice i len => cond (Nat.beq id i) (K len) none
 | _ => none
def uNilp (v : V) (K : Om) : Om := match v with
 | .nilp => K
 | .q x => cNilp x K
 | _ => none
def uNilI (v : V) (K : Om) : Om := match v with
 | .nilIface => K
 | _ => none
def uIf (t : TypeId) (v : V) (K : V → Om) : Om := match v with
 | .iface t' v => cond (Nat.beq t t') (K v) none
 | _ => none
def uFn (f : Nat) (v : V) (K : List V → List V → Om) : Om := match v with
 | .func (.func f') fs cs => cond (Nat.beq f f') (K fs cs) none
 | _ => none
def uCons (l : List V) (K : V → List V → Om) : Om := match l with
 | v :: l => K v l
 | [] => none
def uNil (l : List V) (K : Om) : Om := match l with
 | [] => K
 | _ => none
def uConsB (l : List Bx) (K : Bx → List Bx → Om) : Om := match l with
 | v :: l => K v l
 | [] => none
def uNilB (l : List Bx) (K : Om) : Om := match l with
 | [] => K
 | _ => none
def uBc (b : Bx) (K : List V → Om) : Om := match b with
 | .cells cs => K cs
 | .opa x m => K ((upTo 0 m).map fun i => .q (celQ x i))
 | _ => none
def uBo (m : Nat) (b : Bx) (K : Q → Om) : Om := match b with
 | .opa x m' => cond (Nat.beq m m') (K x) none
 | .cells cs => cond (Nat.beq cs.length m) (match uA.exQs cs with
  | some qs => K (.agg qs 0)
  | none => none) none
 | _ => none
def uBt (z : Nat) (b : Bx) (K : Nat → Om) : Om := match b with
 | .tok l z' => cond (Nat.beq z z') (K l) none
 | _ => none
def uBr (b : Bx) (K : Tre Q → Nat → Om) : Om := match b with
 | .row t len => K t len
 | _ => none
def uBn (n : Nat) (b : Bx) (K : Tre Q → Nat → Om) : Om := match b with
 | .rowN n' t len => cond (Nat.beq n n') (K t len) none
 | _ => none
structure CombU extends Comb where
 uI : IntKind → V → (Int → Om) → Om
 uB : V → (Bool → Om) → Om
 uS : V → (Nat → Nat → Om) → Om
 uSl : Nat → Nat → V → (Tre Q → Nat → Nat → Om) → Om
 uQ : V → (Q → Om) → Om
 uA : Nat → V → (Q → Om) → Om
 uL : V → (List V → Om) → Om
 uTu : V → (List V → Om) → Om
 uP : Nat → Nat → V → Om → Om
 uCref : Nat → V → (Q → Om) → Om
 uBs : Nat → V → (Nat → Om) → Om
 uNilp : V → Om → Om
 uNilI : V → Om → Om
 uIf : Nat → V → (V → Om) → Om
 uFn : Nat → V → (List V → List V → Om) → Om
 uCons : List V → (V → List V → Om) → Om
 uNil : List V → Om → Om
 uConsB : List Bx → (Bx → List Bx → Om) → Om
 uNilB : List Bx → Om → Om
 uBc : Bx → (List V → Om) → Om
 uBo : Nat → Bx → (Q → Om) → Om
 uBt : Nat → Bx → (Nat → Om) → Om
 uBr : Bx → (Tre Q → Nat → Om) → Om
 uBn : Nat → Bx → (Tre Q → Nat → Om) → Om
 lp : ((List V → List Bx → Om) → List V → List Bx → Om) → List V → List Bx → Om
 jn : ((List V → List Bx → Om) → Om) → (List V → List Bx → Om) → Om
 same : List Bx → List Bx → Om → Om
def FUEL : Nat := 100000
def lp (body : (List V → List Bx → Om) → List V → List Bx → Om) : List V → List Bx → Om :=
 Nat.rec (motive := fun _ => List V → List Bx → Om) (fun _ _ => none) (fun _ ih => body ih) FUEL
def jn (f : (List V → List Bx → Om) → Om) (g : List V → List Bx → Om) : Om := f g
def CU : CombU := { CR with
 uI := uI, uB := uB, uS := uS, uSl := uSl, uQ := uQ, uA := uA, uL := uL, uTu := uTu, uP := uP, uCref := uCref, uBs := uBs, uNilp := uNilp, uNilI := uNilI, uIf := uIf, uFn := uFn, uCons := uCons, uNil := uNil,
 uConsB := uConsB, uNilB := uNilB, uBc := uBc, uBo := uBo, uBt := uBt, uBr := uBr, uBn := uBn, lp := lp, jn := jn, same := same }
mutual
def cast (U : CombU) : Sh → V → (V → Om) → Om
 | .int k, v, K => U.uI k v fun n => K (.int k n)
 | .bool, v, K => U.uB v fun b => K (.bool b)
 | .str, v, K => U.uS v fun l c => K (.str l c)
 | .slice n c, v, K => U.uSl n (capN c) v fun t off len => K (.slice t n off len c)
 | .q, v, K => U.uQ v fun x => K (.q x)
 | .a m, v, K => U.uA m v fun x => K (.a x m)
 | .agg l, v, K => U.uL v fun cs => castL U l cs fun cs => K (.agg cs)
 | .tuple l, v, K => U.uTu v fun cs => castL U l cs fun cs => K (.tuple cs)
 | .ptr id off, v, K => U.uP id off v (K (.ptr id off))
 | .cref m, v, K => U.uCref m v fun x => K (.cref x 0 m)
 | .bslice id, v, K => U.uBs id v fun len => K (.bslice id len)
 | .nilp, v, K => U.uNilp v (K .nilp)
 | .nilIface, v, K => U.uNilI v (K .nilIface)
 | .iface t s, v, K => U.uIf t v fun v => cast U s v fun v => K (.iface t v)
 | .func (.func f) fs cs, v, K => U.uFn f v fun a b => castL U fs a fun a => castL U cs b fun b => K (.func (.func f) a b)
 | .func _ _ _, _, _ => none
 | .any, v, K => K v
def castL (U : CombU) : List Sh → List V → (List V → Om) → Om
 | [], l, K => U.uNil l (K [])
 | s :: ss, l, K => U.uCons l fun v l => cast U s v fun v => castL U ss l fun l => K (v :: l)
end
def castB (U : CombU) : ShB → Bx → (Bx → Om) → Om
 | .cells l, b, K => U.uBc b fun cs => castL U l cs fun cs => K (.cells cs)
 | .opa m, b, K => U.uBo m b fun x => K (.opa x m)
 | .tok z, b, K => U.uBt z b fun l => K (.tok l z)
 | .row, b, K => U.uBr b fun t len => K (.row t len)
 | .rowN n, b, K => U.uBn n b fun t len => K (.rowN n t len)
 | .any, b, K => K b
def castBs (U : CombU) : List ShB → List Bx → (List Bx → Om) → Om
 | [], l, K => U.uNilB l (K [])
 | s :: ss, l, K => U.uConsB l fun b l => castB U s b fun b => castBs U ss l fun l => K (b :: l)

section
variable {r : R}
theorem uI_some {k : IntKind} {v : V} {K : Int → Om} (h : uI k v K = some r) : ∃ n, toD v = .int k n ∧ K n = some r := vI_some (k := k) (v := v) (by unfold vI; exact h)
theorem uB_some {v : V} {K : Bool → Om} (h : uB v K = some r) : ∃ b, toD v = .bool b ∧ K b = some r := vB_some (v := v) (by unfold vB; exact h)
theorem uS_some {v : V} {K : Nat → Nat → Om} (h : uS v K = some r) : ∃ l c, toD v = .str (dec l c) ∧ K l c = some r := vS_some (v := v) (by unfold vS; exact h)
theorem uSl_some {n : Nat} {c : Cap} {v : V} {K : Tre Q → Nat → Nat → Om} (h : uSl n (capN c) v K = some r) : ∃ t off len, toD v = .slice len (rows (denT t) n off len) c ∧ K t off len = some r := by
 unfold uSl at h
 split at h
 ·rename_i t n' off len c'
  cases hc : Nat.beq (capN c') (capN c) with
  | false => rw [hc] at h; cases h
  | true =>
   rw [hc] at h
   have := capN_inj (Nat.eq_of_beq_eq_true hc)
   subst this
   simp only [cond_true] at h
   cases n' with
   | zero =>
    obtain ⟨h1, h⟩ := chk_some (show chk (nEq len 0) (K .nil 0 0) = some r from h)
    have := Nat.eq_of_beq_eq_true h1
    subst this
    exact ⟨.nil, 0, 0, by simp only [toD, rows], h⟩
   | succ n' =>
    have h : cond (Nat.beq n (n' + 1)) (K t off len) (chk (nEq len 0) (K .nil 0 0)) = some r := h
    cases hn : Nat.beq n (n' + 1) with
    | false =>
     rw [hn] at h
     obtain ⟨h1, h⟩ := chk_some (show chk (nEq len 0) (K .nil 0 0) = some r from h)
     have := Nat.eq_of_beq_eq_true h1
     subst this
     exact ⟨.nil, 0, 0, by simp only [toD, rows], h⟩
    | true => rw [hn] at h; rw [Nat.eq_of_beq_eq_true hn]; exact ⟨t, off, len, by simp only [toD], h⟩
 ·cases hc : Nat.beq (capN c) 0 with
  | false => rw [hc] at h; cases h
  | true =>
   rw [hc] at h
   have : c = .no := capN_inj (Nat.eq_of_beq_eq_true hc)
   subst this
   obtain ⟨t, off, len, hx, h'⟩ := cSl_some h
   exact ⟨t, off, len, by simp only [toD, hx], h'⟩
 ·cases h
theorem exQ_some {v : V} {x : Q} (h : uA.exQ v = some x) : toD v = den x 0 := by
 unfold uA.exQ at h
 split at h
 ·rename_i hx; injection h with h; subst h; exact toQ0_some hx
 ·split at h
  ·injection h with h; subst h; simp only [toD, den]; rfl
  ·cases h
theorem exQs_some : ∀ {vs : List V} {qs : List Q}, uA.exQs vs = some qs → vs.map toD = qs.map (fun x => den x 0)
 | [], qs, h => by simp only [uA.exQs] at h; injection h with h; subst h; rfl
 | v :: vs, qs, h => by
  simp only [uA.exQs] at h
  split at h
  ·rename_i q qs' hq hqs
   injection h with h; subst h
   simp only [List.map_cons, exQ_some hq, exQs_some hqs]
  ·cases h
theorem uQ_some {v : V} {K : Q → Om} (h : uQ v K = some r) : ∃ x, toD v = den x 0 ∧ K x = some r := by
 unfold uQ at h
 split at h
 ·rename_i x hx; exact ⟨x, toQ0_some hx, h⟩
 ·split at h
  ·exact ⟨_, by simp only [toD, den]; rfl, h⟩
  ·cases h
theorem uA_some {m : Nat} {v : V} {K : Q → Om} (h : uA m v K = some r) : ∃ x, toD v = .agg (cellsF (den x) 0 m) ∧ K x = some r := by
 unfold uA at h
 split at h
 ·rename_i x m'
  cases hm : Nat.beq m m' with
  | false => rw [hm] at h; cases h
  | true => rw [hm] at h; rw [Nat.eq_of_beq_eq_true hm]; exact ⟨x, by simp only [toD], h⟩
 ·rename_i cs
  cases hm : Nat.beq cs.length m with
  | false => rw [hm] at h; cases h
  | true =>
   rw [hm] at h
   simp only [cond_true] at h
   split at h
   ·rename_i qs hqs
    have e := exQs_some hqs
    have hl : qs.length = m := by have := congrArg List.length e; simp at this; rw [← this]; exact Nat.eq_of_beq_eq_true hm
    exact ⟨_, by simp only [toD, toDL_eq, e]; rw [← hl, cells_agg], h⟩
   ·cases h
 ·cases h
mutual
theorem cast_some : ∀ {s : Sh} {v : V} {K : V → Om}, cast CU s v K = some r → ∃ v', toD v' = toD v ∧ K v' = some r
 | .int k, v, K, h => by
  obtain ⟨n, hv, h⟩ := uI_some (show uI k v _ = some r from h); exact ⟨_, by rw [hv]; simp only [toD], h⟩
 | .bool, v, K, h => by
  obtain ⟨n, hv, h⟩ := uB_some (show uB v _ = some r from h); exact ⟨_, by rw [hv]; simp only [toD], h⟩
 | .str, v, K, h => by
  obtain ⟨l, c, hv, h⟩ := uS_some (show uS v _ = some r from h); exact ⟨_, by rw [hv]; simp only [toD], h⟩
 | .slice n c, v, K, h => by
  obtain ⟨t, off, len, hv, h⟩ := uSl_some (show uSl n (capN c) v (fun t off len => K (.slice t n off len c)) = some r from h); exact ⟨_, by rw [hv]; simp only [toD], h⟩
 | .q, v, K, h => by
  obtain ⟨x, hv, h⟩ := uQ_some (show uQ v _ = some r from h); exact ⟨_, by rw [hv]; simp only [toD], h⟩
 | .a m, v, K, h => by
  obtain ⟨x, hv, h⟩ := uA_some (show uA m v _ = some r from h); exact ⟨_, by rw [hv]; simp only [toD], h⟩
 | .agg l, v, K, h => by
  replace h : uL v _ = some r := h
  unfold uL at h
  split at h
  ·obtain ⟨cs', e, h⟩ := castL_some h; exact ⟨_, by simp only [toD, toDL_eq, e], h⟩
  ·cases h
 | .tuple l, v, K, h => by
  replace h : uTu v _ = some r := h
  unfold uTu at h
  split at h
  ·obtain ⟨cs', e, h⟩ := castL_some h; exact ⟨_, by simp only [toD, toDL_eq, e], h⟩
  ·cases h
 | .ptr id off, v, K, h => by
  replace h : uP id off v _ = some r := h
  unfold uP at h
  split at h
  ·rename_i i o
   cases h1 : Nat.beq id i with
   | false => rw [h1] at h; cases h
   | true =>
    rw [h1] at h
    cases h2 : Nat.beq off o with
    | false => rw [h2] at h; cases h
    | true => rw [h2] at h; exact ⟨_, by rw [Nat.eq_of_beq_eq_true h1, Nat.eq_of_beq_eq_true h2], h⟩
  ·cases h
 | .cref m, v, K, h => by
  replace h : uCref m v _ = some r := h
  unfold uCref at h
  split at h
  ·rename_i x off m'
   cases h1 : Nat.beq m m' with
   | false => rw [h1] at h; cases h
   | true =>
    rw [h1] at h
    simp only [cond_true, fQ_eq] at h
    exact ⟨_, by rw [Nat.eq_of_beq_eq_true h1]; simp only [toD, subQ_cells, Nat.add_zero], h⟩
  ·cases h
 | .bslice id, v, K, h => by
  replace h : uBs id v _ = some r := h
  unfold uBs at h
  split at h
  ·rename_i i len
   cases h1 : Nat.beq id i with
   | false => rw [h1] at h; cases h
   | true => rw [h1] at h; exact ⟨_, by rw [Nat.eq_of_beq_eq_true h1], h⟩
  ·cases h
 | .nilp, v, K, h => by
  replace h : uNilp v _ = some r := h
  unfold uNilp at h
  split at h
  ·exact ⟨_, rfl, h⟩
  ·obtain ⟨hx, h'⟩ := cNilp_some h; subst hx; exact ⟨_, by simp only [toD, den]; rfl, h'⟩
  ·cases h
 | .nilIface, v, K, h => by
  replace h : uNilI v _ = some r := h
  unfold uNilI at h
  split at h
  ·exact ⟨_, rfl, h⟩
  ·cases h
 | .iface t s, v, K, h => by
  replace h : uIf t v _ = some r := h
  unfold uIf at h
  split at h
  ·rename_i t' v0
   cases h1 : Nat.beq t t' with
   | false => rw [h1] at h; cases h
   | true =>
    rw [h1] at h
    obtain ⟨v', e, h⟩ := cast_some h
    exact ⟨_, by rw [Nat.eq_of_beq_eq_true h1]; simp only [toD, e], h⟩
  ·cases h
 | .func (.func f) fs cs, v, K, h => by
  replace h : uFn f v _ = some r := h
  unfold uFn at h
  split at h
  ·rename_i f' a b
   cases h1 : Nat.beq f f' with
   | false => rw [h1] at h; cases h
   | true =>
    rw [h1] at h
    obtain ⟨a', ea, h⟩ := castL_some h
    obtain ⟨b', eb, h⟩ := castL_some h
    exact ⟨_, by rw [Nat.eq_of_beq_eq_true h1]; simp only [toD, toDL_eq, ea, eb], h⟩
  ·cases h
 | .any, v, K, h => ⟨v, rfl, h⟩
theorem castL_some : ∀ {ss : List Sh} {l : List V} {K : List V → Om}, castL CU ss l K = some r → ∃ l', l'.map toD = l.map toD ∧ K l' = some r
 | [], l, K, h => by
  replace h : uNil l _ = some r := h
  unfold uNil at h
  split at h
  ·exact ⟨[], rfl, h⟩
  ·cases h
 | s :: ss, l, K, h => by
  replace h : uCons l _ = some r := h
  unfold uCons at h
  split at h
  ·obtain ⟨v', e1, h⟩ := cast_some h
   obtain ⟨l', e2, h⟩ := castL_some h
   exact ⟨_, by simp only [List.map_cons, e1, e2], h⟩
  ·cases h
end
theorem castB_some {s : ShB} {b : Bx} {K : Bx → Om} (h : castB CU s b K = some r) : ∃ b', toB b' = toB b ∧ K b' = some r := by
 cases s with
 | cells l =>
  replace h : uBc b _ = some r := h
  unfold uBc at h
  split at h
  ·obtain ⟨cs', e, h⟩ := castL_some h; exact ⟨_, by simp only [toB, e], h⟩
  ·rename_i x m
   obtain ⟨cs', e, h⟩ := castL_some h
   refine ⟨_, ?_, h⟩
   simp only [toB, e, upTo_cells, List.map_map]
   congr 1
   exact List.map_congr_left fun i _ => by simp only [Function.comp, toD]; exact celQ_den x i
  ·cases h
 | opa m =>
  replace h : uBo m b _ = some r := h
  unfold uBo at h
  split at h
  ·rename_i x m'
   cases hm : Nat.beq m m' with
   | false => rw [hm] at h; cases h
   | true => rw [hm] at h; exact ⟨_, by rw [Nat.eq_of_beq_eq_true hm], h⟩
  ·rename_i cs
   cases hm : Nat.beq cs.length m with
   | false => rw [hm] at h; cases h
   | true =>
    rw [hm] at h
    simp only [cond_true] at h
    split at h
    ·rename_i qs hqs
     have e := exQs_some hqs
     have hl : qs.length = m := by have := congrArg List.length e; simp at this; rw [← this]; exact Nat.eq_of_beq_eq_true hm
     exact ⟨_, by simp only [toB, e]; rw [← hl, cells_agg], h⟩
    ·cases h
  ·cases h
 | tok z =>
  replace h : uBt z b _ = some r := h
  unfold uBt at h
  split at h
  ·rename_i l z'
   cases hm : Nat.beq z z' with
   | false => rw [hm] at h; cases h
   | true => rw [hm] at h; exact ⟨_, by rw [Nat.eq_of_beq_eq_true hm], h⟩
  ·cases h
 | row =>
  replace h : uBr b _ = some r := h
  unfold uBr at h
  split at h
  ·exact ⟨_, rfl, h⟩
  ·cases h
 | rowN n =>
  replace h : uBn n b _ = some r := h
  unfold uBn at h
  split at h
  ·rename_i n' t len
   cases hm : Nat.beq n n' with
   | false => rw [hm] at h; cases h
   | true => rw [hm] at h; exact ⟨_, by rw [Nat.eq_of_beq_eq_true hm], h⟩
  ·cases h
 | any => exact ⟨b, rfl, h⟩
theorem castBs_some : ∀ {ss : List ShB} {l : List Bx} {K : List Bx → Om}, castBs CU ss l K = some r → ∃ l', l'.map toB = l.map toB ∧ K l' = some r
 | [], l, K, h => by
  replace h : uNilB l _ = some r := h
  unfold uNilB at h
  split at h
  ·exact ⟨[], rfl, h⟩
  ·cases h
 | s :: ss, l, K, h => by
  replace h : uConsB l _ = some r := h
  unfold uConsB at h
  split at h
  ·obtain ⟨v', e1, h⟩ := castB_some h
   obtain ⟨l', e2, h⟩ := castBs_some h
   exact ⟨_, by simp only [List.map_cons, e1, e2], h⟩
  ·cases h
end

structure Ann where
 ks : List (Nat × Nat)
 vs : List Sh
 bs : List ShB

def ev (U : CombU) (X : Pr) (fn : FuncId → FunT) (cr : CastT) (n0 : Nat) (AL AJ : Nat → Option Ann) : Code → Nat → Nat → Vst → (Vst → Om) → (Nat → Vst → Om) → (Vst → Om) → (V → Om) → Om
 | .skip, _, _, s, K, _, _, _ => K s
 | .region _ ops draw, _, _, s, K, _, _, Kp => vRegion U.toComb X fn cr ops draw s K Kp
 | .seq a b, p, q, s, K, Kx, Kr, Kp => match AJ q with
  | none => ev U X fn cr n0 AL AJ a p (q + 1) s (fun s' => ev U X fn cr n0 AL AJ b (p + nLoops a) (q + 1 + nSeqs a) s' K Kx Kr Kp) Kx Kr Kp
  | some A => U.jn (fun j => ev U X fn cr n0 AL AJ a p (q + 1) s (fun s' => cond (okGcV n0 s.tmps.length A.ks s') (j (gcVV n0 A.ks s').1 (gcVV n0 A.ks s').2) none) Kx Kr Kp)
    (fun vs bs => castL U A.vs vs fun vs => castBs U A.bs bs fun bs => ev U X fn cr n0 AL AJ b (p + nLoops a) (q + 1 + nSeqs a) (stOfV s.tmps.length A.ks vs bs) K Kx Kr Kp)
 | .cond c t e, p, q, s, K, Kx, Kr, Kp => match s.eval c with
  | .known b => cond b (ev U X fn cr n0 AL AJ t p q s K Kx Kr Kp) (ev U X fn cr n0 AL AJ e (p + nLoops t) (q + nSeqs t) s K Kx Kr Kp)
  | v => vB U.toComb v fun b => U.cnd b (ev U X fn cr n0 AL AJ t p q (refV s c true) K Kx Kr Kp) (ev U X fn cr n0 AL AJ e (p + nLoops t) (q + nSeqs t) (refV s c false) K Kx Kr Kp)
 | .block id c, p, q, s, K, Kx, Kr, Kp => ev U X fn cr n0 AL AJ c p q s K (fun j s' => cond (Nat.beq j id) (K s') (Kx j s')) Kr Kp
 | .loop c, p, q, s, _, Kx, Kr, Kp => match AL p with
  | none => none
  | some A => cond (okGcV n0 s.tmps.length A.ks s) (U.lp (fun self vs bs => castL U A.vs vs fun vs => castBs U A.bs bs fun bs =>
    ev U X fn cr n0 AL AJ c (p + 1) q (stOfV s.tmps.length A.ks vs bs) (fun s' => cond (okGcV n0 s.tmps.length A.ks s') (self (gcVV n0 A.ks s').1 (gcVV n0 A.ks s').2) none) Kx Kr Kp) (gcVV n0 A.ks s).1 (gcVV n0 A.ks s).2) none
 | .exit j, _, _, s, _, Kx, _, _ => Kx j s
 | .ret, _, _, s, _, _, Kr, _ => Kr s
 | _, _, _, _, _, _, _, _ => none
where refV (s : Vst) (c : Operand) (b : Bool) : Vst := match c with
 | .tmp t => s.put (some t) (.known b)
 | _ => s

def anyCut (A : Ann) : Cut := { π := List D × List Box → Prop, ι := fun p => { v // p v }, ks := A.ks, V := fun _ ix => ix.val }

section
variable {X : Pr} {r : R}
theorem toSt_ref (s : Vst) (c : Operand) (b : Bool) : toSt (ev.refV s c b) = (toSt s).ref c b := by
 cases c with
 | tmp t => have := toSt_put s (some t) (.known b); simp only [toD] at this; exact this
 | _ => rfl
theorem lp_unroll {body : (List V → List Bx → Om) → List V → List Bx → Om} {vs : List V} {bs : List Bx} (h : CU.lp body vs bs = some r) : ∃ n, Nat.rec (motive := fun _ => List V → List Bx → Om) (fun _ _ => none) (fun _ ih => body ih) n vs bs = some r := ⟨FUEL, h⟩

theorem ev_some {fn : FuncId → FunT} {cr : CastT} (htab : X.tab = []) (hfn : ∀ g, FnOk X g (fn g)) (hcr : CastOk cr) {n0 : Nat} {AL AJ : Nat → Option Ann} : ∀ (c : Code) {p q : Nat} {s : Vst} {K : Vst → Om} {Kx : Nat → Vst → Om} {Kr : Vst → Om} {Kp : V → Om},
  ev CU X fn cr n0 AL AJ c p q s K Kx Kr Kp = some r → ∀ {K' : St → Prop} {Kx' : Nat → St → Prop} {Kr' : St → Prop} {Kp' : D → Prop}, (∀ s, K s = some r → K' (toSt s)) → (∀ j s, Kx j s = some r → Kx' j (toSt s)) → (∀ s, Kr s = some r → Kr' (toSt s)) → (∀ v, Kp v = some r → Kp' (toD v)) →
  vc X n0 (fun _ body s => VLoop n0 body s) (fun q => (AJ q).map anyCut) c p q (toSt s) K' Kx' Kr' Kp'
 | .skip, p, q, s, K, Kx, Kr, Kp, h, K', Kx', Kr', Kp', hK, hx, hr, hp => hK s h
 | .region id ops draw, p, q, s, K, Kx, Kr, Kp, h, K', Kx', Kr', Kp', hK, hx, hr, hp => vRegion_some htab hfn hcr h hK hp
 | .seq a b, p, q, s, K, Kx, Kr, Kp, h, K', Kx', Kr', Kp', hK, hx, hr, hp => by
  simp only [ev] at h
  simp only [vc]
  have el : (toSt s).tmps.length = s.tmps.length := by simp [toSt]
  split at h
  ·rename_i hj
   rw [hj]
   exact ev_some htab hfn hcr a h (fun s' h => ev_some htab hfn hcr b h hK hx hr hp) hx hr hp
  ·rename_i A hj
   rw [hj]
   simp only [Option.map_some, anyCut]
   have h : jn _ _ = some r := h
   unfold jn at h
   refine ⟨fun v => vc X n0 (fun _ body s => VLoop n0 body s) (fun q => (AJ q).map anyCut) b (p + nLoops a) (q + 1 + nSeqs a) (stOf (toSt s).tmps.length A.ks v) K' Kx' Kr' Kp', ?_, fun ix => ix.property⟩
   refine ev_some htab hfn hcr a h (fun s' h => ?_) hx hr hp
   rw [el, ← okGcV_eq]
   cases hok : okGcV n0 s.tmps.length A.ks s' with
   | false => rw [hok] at h; cases h
   | true =>
    rw [hok] at h
    simp only [cond_true] at h ⊢
    obtain ⟨vs', e1, h⟩ := castL_some h
    obtain ⟨bs', e2, h⟩ := castBs_some h
    refine .mk ⟨gcV n0 A.ks (toSt s'), ?_⟩ rfl
    rw [gcVV_eq, ← e1, ← e2, ← stOfV_eq]
    exact ev_some htab hfn hcr b h hK hx hr hp
 | .cond c t e, p, q, s, K, Kx, Kr, Kp, h, K', Kx', Kr', Kp', hK, hx, hr, hp => by
  simp only [ev] at h
  simp only [vc]
  rw [toSt_eval]
  split at h
  ·rename_i b hc
   rw [hc]
   simp only [toD]
   have e0 : (toSt s).eval c = .bool b := by rw [toSt_eval, hc]; simp only [toD]
   cases b
   ·simp only [cond_false] at h ⊢; rw [ref_same e0]; exact ev_some htab hfn hcr e h hK hx hr hp
   ·simp only [cond_true] at h ⊢; rw [ref_same e0]; exact ev_some htab hfn hcr t h hK hx hr hp
  ·obtain ⟨b, hv, h⟩ := vB_some h
   rw [hv]
   simp only []
   have h : cnd b _ _ = some r := h
   rw [cnd_eq] at h
   cases b
   ·simp only [cond_false] at h ⊢; rw [← toSt_ref]; exact ev_some htab hfn hcr e h hK hx hr hp
   ·simp only [cond_true] at h ⊢; rw [← toSt_ref]; exact ev_some htab hfn hcr t h hK hx hr hp
 | .block id c, p, q, s, K, Kx, Kr, Kp, h, K', Kx', Kr', Kp', hK, hx, hr, hp => by
  simp only [ev] at h
  simp only [vc]
  refine ev_some htab hfn hcr c h hK (fun j s h => ?_) hr hp
  cases hj : Nat.beq j id with
  | true => rw [hj] at h; exact hK s h
  | false => rw [hj] at h; exact hx j s h
 | .loop c, p, q, s, K, Kx, Kr, Kp, h, K', Kx', Kr', Kp', hK, hx, hr, hp => by
  simp only [ev] at h
  simp only [vc]
  have el : (toSt s).tmps.length = s.tmps.length := by simp [toSt]
  split at h
  ·cases h
  ·rename_i A hA
   cases hok : okGcV n0 s.tmps.length A.ks s with
   | false => rw [hok] at h; cases h
   | true =>
    rw [hok] at h
    simp only [cond_true] at h
    obtain ⟨n, h⟩ := lp_unroll h
    generalize hbody : (fun (self : List V → List Bx → Om) (vs : List V) (bs : List Bx) => castL CU A.vs vs fun vs => castBs CU A.bs bs fun bs =>
     ev CU X fn cr n0 AL AJ c (p + 1) q (stOfV s.tmps.length A.ks vs bs) (fun s' => cond (okGcV n0 s.tmps.length A.ks s') (self (gcVV n0 A.ks s').1 (gcVV n0 A.ks s').2) none) Kx Kr Kp) = body at h
    refine VLoop.mk { x : (List D × List Box) × Nat // ∃ vs bs, x.1 = (vs.map toD, bs.map toB) ∧ Nat.rec (motive := fun _ => List V → List Bx → Om) (fun _ _ => none) (fun _ ih => body ih) x.2 vs bs = some r } (fun i => i.val.1) (fun i => i.val.2)
     ⟨(gcV n0 A.ks (toSt s), n), _, _, gcVV_eq n0 A.ks s, h⟩ A.ks (by rw [el, ← okGcV_eq]; exact hok) rfl ?_
    rintro ⟨⟨v, m⟩, vs, bs, hv, hrun⟩
    simp only at hv hrun ⊢
    cases m with
    | zero => cases hrun
    | succ m =>
     have hrun : body (Nat.rec (motive := fun _ => List V → List Bx → Om) (fun _ _ => none) (fun _ ih => body ih) m) vs bs = some r := hrun
     rw [← hbody] at hrun
     obtain ⟨vs', e1, hrun⟩ := castL_some hrun
     obtain ⟨bs', e2, hrun⟩ := castBs_some hrun
     subst hv
     rw [el]
     have e3 : toSt (stOfV s.tmps.length A.ks vs' bs') = stOf s.tmps.length A.ks (vs.map toD, bs.map toB) := by rw [stOfV_eq, e1, e2]
     rw [← e3]
     refine ev_some htab hfn hcr c hrun (fun s' h' => ?_) hx hr hp
     rw [← okGcV_eq]
     cases hok' : okGcV n0 s.tmps.length A.ks s' with
     | false => rw [hok'] at h'; cases h'
     | true =>
      rw [hok'] at h'
      simp only [cond_true] at h' ⊢
      rw [hbody] at h'
      exact .mk ⟨(gcV n0 A.ks (toSt s'), m), _, _, gcVV_eq n0 A.ks s', h'⟩ (Nat.lt_succ_self m) rfl
 | .exit j, p, q, s, K, Kx, Kr, Kp, h, K', Kx', Kr', Kp', hK, hx, hr, hp => hx j s h
 | .ret, p, q, s, K, Kx, Kr, Kp, h, K', Kx', Kr', Kp', hK, hx, hr, hp => hr s h
 | .rangeFunc .., _, _, _, _, _, _, _, h, _, _, _, _, _, _, _, _ => by cases h
 | .scope _, _, _, _, _, _, _, _, h, _, _, _, _, _, _, _, _ => by cases h
 | .label _, _, _, _, _, _, _, _, h, _, _, _, _, _, _, _, _ => by cases h
 | .goto _, _, _, _, _, _, _, _, h, _, _, _, _, _, _, _, _ => by cases h
 | .refuse _, _, _, _, _, _, _, _, h, _, _, _, _, _, _, _, _ => by cases h
end
end
end Go.Abs
namespace Go.Abs
noncomputable section

def resLV (C : Comb) (P : Program) (s : Vst) : List ResultVar → (List V → Om) → Om
 | [], K => K []
 | .tmp t :: rs, K => resLV C P s rs fun vs => K (nthV s.tmps t :: vs)
 | .cell x t :: rs, K => match nthV s.tmps x with
  | .ptr id off => match nthB s.heap id with
   | .cells cs => readV C P t cs off fun v => resLV C P s rs fun vs => K (v :: vs)
   | .opa y m => readQ C P t y off m fun v => resLV C P s rs fun vs => K (v :: vs)
   | _ => none
  | _ => none
def oneOrV : List V → V
 | [v] => v
 | vs => .tuple vs
def stripRV (n : Nat) (v : V) : V := stripFV (renIV (below n) v)
theorem stripRV_eq (n : Nat) (v : V) : toD (stripRV n v) = stripR n (toD v) := by unfold stripRV stripR; rw [stripFV_eq, renIV_eq]
def give1V (C : Comb) (n : Nat) (h : List Bx) (g : Option Nat) (v : V) (K : V → Om) : Om := match g, v with
 | some z, .slice t m off len (.tok id) => match nthB h id with
  | .tok l z' => bif Nat.ble n id && (Nat.beq z' z && Nat.beq m z) then C.chk (C.nEq l len) (K (.slice t m off len (.fr z))) else none
  | _ => none
 | some z, .slice t m off len .exact => bif Nat.beq m z then K (.slice t m off len (.fr z)) else bif Nat.beq m 0 then C.chk (C.nEq len 0) (K (.slice .nil z 0 0 (.fr z))) else none
 | _, v => K (stripRV n v)
def giveLV (C : Comb) (n : Nat) (h : List Bx) : List (Option Nat) → List V → (List V → Om) → Om
 | _, [], K => K []
 | [], v :: vs, K => giveLV C n h [] vs fun r => K (stripRV n v :: r)
 | g :: gv, v :: vs, K => give1V C n h g v fun v => giveLV C n h gv vs fun r => K (v :: r)
def finV (C : Comb) (P : Program) (rs : List ResultVar) (n : Nat) (gv : List (Option Nat)) (s : Vst) : Om :=
 resLV C P s rs fun vs => match boxesV s.heap (List.range n) with
  | some bs => giveLV C n s.heap gv vs fun vs => some (.ret (oneOrV vs), bs.map (renB (below n)))
  | none => none
def startV (ntmps : Nat) (vs : List V) (bs : List Bx) : Vst := { tmps := vs ++ List.replicate (ntmps - vs.length) (.tuple []), heap := bs }
def evFn (U : CombU) (X : Pr) (fn : FuncId → FunT) (cr : CastT) (AL AJ : Nat → Option Ann) (gv : List (Option Nat)) (f : Func) : FunT := fun vs bs =>
 ev U X fn cr bs.length AL AJ (f.body.getD .skip) 0 0 (startV f.ntmps vs bs) (finV U.toComb X.P f.results.toList bs.length gv) (fun _ _ => none) (finV U.toComb X.P f.results.toList bs.length gv) (fun v => some (.pan v, bs))

section
variable {X : Pr} {r : R}
theorem resLV_some {P : Program} {s : Vst} : ∀ {rs : List ResultVar} {K : List V → Om}, resLV CR P s rs K = some r → ∃ vs, K vs = some r ∧ resL P (toSt s) rs = some (vs.map toD)
 | [], K, h => ⟨[], h, rfl⟩
 | .tmp t :: rs, K, h => by
  simp only [resLV] at h
  obtain ⟨vs, h, e⟩ := resLV_some h
  exact ⟨_, h, by simp only [resL, e, Option.map_some, List.map_cons, getD_tmps]⟩
 | .cell x t :: rs, K, h => by
  simp only [resLV] at h
  split at h
  ·rename_i id off hx
   split at h
   ·rename_i cs hb
    obtain ⟨v, h, hr⟩ := readV_some h
    obtain ⟨vs, h, e⟩ := resLV_some h
    have hh := heap_of hb (by simp)
    refine ⟨_, h, ?_⟩
    simp only [resL, getD_tmps, hx, toD, hh, toB, hr, Option.bind_some, e, Option.map_some, List.map_cons]
   ·rename_i y m hb
    obtain ⟨v, h, hr⟩ := readQ_some h
    obtain ⟨vs, h, e⟩ := resLV_some h
    have hh := heap_of hb (by simp)
    have := hr 0 (Nat.zero_le _)
    rw [Nat.sub_zero, Nat.sub_zero] at this
    refine ⟨_, h, ?_⟩
    simp only [resL, getD_tmps, hx, toD, hh, toB, this, Option.bind_some, e, Option.map_some, List.map_cons]
   ·cases h
  ·cases h
theorem oneOrV_eq (vs : List V) : toD (oneOrV vs) = oneOr (vs.map toD) := by
 unfold oneOrV
 split
 ·rfl
 ·rename_i h
  match vs, h with
  | [], _ => simp only [toD, toDL, List.map_nil, oneOr]
  | [v], h => exact absurd rfl (h v)
  | v :: w :: vs, _ => simp only [toD, toDL_eq, List.map_cons, oneOr]
theorem give1V_some {n : Nat} {s : Vst} {g : Option Nat} {v : V} {K : V → Om} (h : give1V CR n s.heap g v K = some r) : ∃ v', K v' = some r ∧ give1 n (toSt s).heap g (toD v) = toD v' := by
 unfold give1V at h
 split at h
 ·rename_i z t m off len id
  split at h
  ·rename_i l z' hb
   have hh := heap_of hb (by simp)
   simp only [toB] at hh
   cases hg : Nat.ble n id && (Nat.beq z' z && Nat.beq m z) with
   | false => rw [hg] at h; cases h
   | true =>
    rw [hg] at h
    simp only [cond_true] at h
    obtain ⟨h0, h⟩ := Cchk_some h
    have h0 : Nat.beq l len = true := h0
    simp only [Bool.and_eq_true] at hg
    obtain ⟨g1, g2, g3⟩ := hg
    have := Nat.eq_of_beq_eq_true g3
    subst this
    refine ⟨_, h, ?_⟩
    simp only [toD, give1, hh, g1, g2, h0, rows_length, Nat.beq_refl, Bool.and_self, cond_true]
  ·cases h
 ·rename_i z t m off len
  cases hm : Nat.beq m z with
  | true =>
   rw [hm] at h
   have := Nat.eq_of_beq_eq_true hm
   subst this
   exact ⟨_, h, by simp only [toD, give1, rows_length, Nat.beq_refl, cond_true]⟩
  | false =>
   rw [hm] at h
   simp only [cond_false] at h
   cases h0 : Nat.beq m 0 with
   | false => rw [h0] at h; cases h
   | true =>
    rw [h0] at h
    simp only [cond_true] at h
    obtain ⟨h1, h⟩ := Cchk_some h
    have h1 : Nat.beq len 0 = true := h1
    have := Nat.eq_of_beq_eq_true h1
    subst this
    exact ⟨_, h, by simp only [toD, give1, rows, List.length_nil, Nat.zero_mul, Nat.beq_refl, cond_true]⟩
 ·rename_i hn1 hn2
  refine ⟨_, h, ?_⟩
  rw [stripRV_eq]
  unfold give1
  split
  ·rename_i z len c id hd
   exfalso
   cases v <;> simp only [toD] at hd <;> first | (cases hd; done) | skip
   ·injection hd with _ _ hd; subst hd; exact hn1 _ _ _ _ _ _ rfl rfl
   ·cases den_fr' _ _ _ _ _ hd
  ·rename_i z len c hd
   exfalso
   cases v <;> simp only [toD] at hd <;> first | (cases hd; done) | skip
   ·injection hd with _ _ hd; subst hd; exact hn2 _ _ _ _ _ rfl rfl
   ·cases den_fr' _ _ _ _ _ hd
  ·rfl
theorem giveLV_some {n : Nat} {s : Vst} : ∀ {gv : List (Option Nat)} {vs : List V} {K : List V → Om}, giveLV CR n s.heap gv vs K = some r → ∃ vs', K vs' = some r ∧ giveL n (toSt s).heap gv (vs.map toD) = vs'.map toD
 | gv, [], K, h => by cases gv <;> exact ⟨[], h, by simp [giveL]⟩
 | [], v :: vs, K, h => by
  simp only [giveLV] at h
  obtain ⟨vs', h, e⟩ := giveLV_some h
  exact ⟨_, h, by simp only [List.map_cons, giveL, stripRV_eq, e]⟩
 | g :: gv, v :: vs, K, h => by
  simp only [giveLV] at h
  obtain ⟨v', h, e1⟩ := give1V_some h
  obtain ⟨vs', h, e⟩ := giveLV_some h
  exact ⟨_, h, by simp only [List.map_cons, giveL, e1, e]⟩
theorem finV_some {P : Program} {rs : List ResultVar} {n : Nat} {gv : List (Option Nat)} {s : Vst} {x : VRes} {bs' : List Bx} (h : finV CR P rs n gv s = some (x, bs')) : fin P rs n gv (resD x) (bs'.map boxD) (toSt s) := by
 obtain ⟨vs, h, e⟩ := resLV_some h
 split at h
 ·rename_i bs hb
  obtain ⟨vs', h, eg⟩ := giveLV_some h
  injection h with h
  injection h with h1 h2
  subst h1 h2
  obtain ⟨q1, q2, q3⟩ := boxesV_some hb
  have q1 : boxes (toSt s).heap (List.range n) = some (bs.map boxD) := q1
  unfold fin
  rw [e, q1]
  refine ⟨?_, ?_⟩
  ·simp only [resD, oneOrV_eq, eg]
  ·rw [List.map_map, List.map_map]; exact List.map_congr_left fun b _ => (renB_eq (below n)).symm
 ·cases h
theorem toSt_start (n : Nat) (vs : List V) {bs : List Bx} (h : bs.all boxOk = true) : toSt (startV n vs bs) = start n (vs.map toD) (bs.map boxD) := by
 unfold startV start toSt
 simp only [List.map_append, List.map_replicate, List.length_map, List.map_map, toD, toDL]
 congr 1
 exact List.map_congr_left fun b hb => boxD_eq (List.all_eq_true.1 h b hb)

theorem evFn_ok {fn : FuncId → FunT} {cr : CastT} (htab : X.tab = []) (hfn : ∀ g, FnOk X g (fn g)) (hcr : CastOk cr) {AL AJ : Nat → Option Ann} {gv : List (Option Nat)} {f : FuncId} {F : Func} (hf : X.P.funcs[f]? = some F) (hb : F.body.isSome = true)
  (hcall : ∀ args w, (callFunc f args).run X.P w = .ok (.enter f args) w) : FnOk X f (evFn CU X fn cr AL AJ gv F) := by
 intro vs bs x bs' h hok
 obtain ⟨c, hc⟩ := Option.isSome_iff_exists.1 hb
 unfold evFn at h
 rw [hc] at h
 have := ev_some (X := X) htab hfn hcr c h (K' := fin X.P F.results.toList bs.length gv (resD x) (bs'.map boxD)) (Kx' := fun _ _ => False) (Kr' := fin X.P F.results.toList bs.length gv (resD x) (bs'.map boxD)) (Kp' := fun d => resD x = .pan d)
  (fun s h => finV_some h) (fun _ _ h => by cases h) (fun s h => finV_some h) (fun v h => by injection h with h; injection h with h1 h2; rw [← h1]; rfl)
 rw [toSt_start _ _ hok] at this
 have e : (bs.map boxD).length = bs.length := by simp
 refine contract (X := X) (gv := gv) (L := fun _ body s => VLoop bs.length body s) (J := fun q => (AJ q).map anyCut) hf hc hcall (fun _ _ _ h => by rw [e]; exact h) ?_
 rw [e]
 exact this

end
def evFnD (U : CombU) (X : Pr) (fn : FuncId → FunT) (cr : CastT) (AL AJ : Nat → Option Ann) (gv : List (Option Nat)) (f : Func) : FunT := fun vs bs => match f.body with
 | some (.seq A (.seq R C)) => match deferOf R with
  | some (_, t) => ev U X fn cr bs.length AL AJ A 0 0 (startV f.ntmps vs bs) (fun s => match nthV s.tmps t with
    | .ptr _ _ => ev U X fn cr bs.length AL AJ C (nLoops A) (nSeqs A) s (finV U.toComb X.P f.results.toList bs.length gv) (fun _ _ => none) (finV U.toComb X.P f.results.toList bs.length gv) (fun _ => none)
    | _ => none) (fun _ _ => none) (finV U.toComb X.P f.results.toList bs.length gv) (fun _ => none)
  | none => none
 | _ => none
def defFn (f : Func) : Option FuncId := match f.body with
 | some (.seq _ (.seq R _)) => (deferOf R).map (·.1)
 | _ => none
section
variable {X : Pr} {r : R}
theorem evFnD_ok {fn : FuncId → FunT} {cr : CastT} (htab : X.tab = []) (hfn : ∀ g, FnOk X g (fn g)) (hcr : CastOk cr) {AL AJ : Nat → Option Ann} {gv : List (Option Nat)} {f g : FuncId} {F : Func} (hf : X.P.funcs[f]? = some F) (hd : defFn F = some g)
  (hcall : ∀ args w, (callFunc f args).run X.P w = .ok (.enter f args) w) (hg : ∀ args w, (callFunc g args).run X.P w = .ok (.enter g args) w) (hidle : Idle X.P g) : FnOk X f (evFnD CU X fn cr AL AJ gv F) := by
 intro vs bs x bs' h hok
 unfold evFnD at h
 unfold defFn at hd
 split at h
 ·rename_i A R C hb
  rw [hb] at hd
  simp only [] at hd
  split at h
  ·rename_i g' t hR
   rw [hR] at hd
   injection hd with hd
   subst hd
   have e : (bs.map boxD).length = bs.length := by simp
   refine contract_defer (X := X) (gv := gv) (L := fun _ body s => VLoop bs.length body s) (J := fun q => (AJ q).map anyCut) hf hb hR hcall hg hidle (fun _ _ _ h => by rw [e]; exact h) ?_
   rw [e, ← toSt_start _ _ hok]
   refine ev_some (X := X) htab hfn hcr A h (fun s h => ?_) (fun _ _ h => by cases h) (fun s h => finV_some h) (fun v h => by cases h)
   split at h
   ·rename_i id off hp
    refine ⟨⟨id, off, ?_⟩, ev_some (X := X) htab hfn hcr C h (fun s h => finV_some h) (fun _ _ h => by cases h) (fun s h => finV_some h) (fun v h => by cases h)⟩
    have := toSt_eval s (.tmp t)
    have e2 : (toSt s).eval (.tmp t) = (toSt s).tmps.getD t .junk := rfl
    rw [← e2, this]
    show toD (nthV s.tmps t) = _
    rw [hp]
    simp only [toD]
   ·cases h
  ·cases h
 ·cases h
end
end
end Go.Abs
