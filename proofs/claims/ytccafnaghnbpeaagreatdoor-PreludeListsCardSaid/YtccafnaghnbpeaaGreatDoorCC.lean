/- A tree as a value that lies in memory, and as what is known of it. -/
import Derived.Test.YtccafnaghnbpeaaGreatDoorCRA
import Derived.ChangeArms
import GoSem.ClaimJoined
set_option linter.all false
namespace Go.Proofs.YtccafnaghnbpeaaGreatDoor
open Go.Abs LQ
set_option maxRecDepth 100000
set_option maxHeartbeats 4000000
noncomputable section
/-- A tree of what a function gives. -/
def treF (f : Nat → Q) : Nat → Nat → Nat → Tre Q
 | 0, _, _ => .nil
 | d + 1, a, b => .node (f a) (treF f d (a + b) (2 * b)) (treF f d (a + 2 * b) (2 * b))
theorem treF_get (f : Nat → Q) : ∀ (d a b i : Nat), i + 2 ≤ 2 ^ d → (treF f d a b).get i = some (f (a + b * i))
 | 0, _, _, i, h => by simp at h
 | d + 1, a, b, 0, h => by rw [treF, Tre.get_zero, Nat.mul_zero, Nat.add_zero]
 | d + 1, a, b, j + 1, h => by
  rw [Nat.pow_succ] at h
  have hj : j / 2 + 2 ≤ 2 ^ d := by omega
  rw [treF, Tre.get_succ]
  rcases Nat.mod_two_eq_zero_or_one j with h0 | h0
  ·obtain ⟨m, rfl⟩ : ∃ m, j = 2 * m := ⟨j / 2, by omega⟩
   rw [h0]
   show (treF f d (a + b) (2 * b)).get (2 * m / 2) = _
   rw [treF_get f d _ _ _ hj, show 2 * m / 2 = m by omega]
   congr 2
   rw [Nat.mul_add, Nat.mul_one, ← Nat.mul_assoc, Nat.mul_comm b 2]
   omega
  ·obtain ⟨m, rfl⟩ : ∃ m, j = 2 * m + 1 := ⟨j / 2, by omega⟩
   rw [h0]
   show (treF f d (a + 2 * b) (2 * b)).get ((2 * m + 1) / 2) = _
   rw [treF_get f d _ _ _ hj, show (2 * m + 1) / 2 = m by omega]
   congr 2
   rw [show 2 * m + 1 + 1 = 2 * m + 2 by omega, Nat.mul_add, ← Nat.mul_assoc, Nat.mul_comm b 2]
   omega
/-- Rows of cells, as a tree. -/
def treL (rows : List (List Q)) : Tre Q := treF (fun i => .agg (rows.getD i []) 0) 48 0 1
theorem treL_get {rows : List (List Q)} {i : Nat} (h : i < 140737488355328) : (treL rows).get i = some (.agg (rows.getD i []) 0) := by
 unfold treL
 rw [treF_get _ 48 0 1 i (by omega), Nat.zero_add, Nat.one_mul]
theorem treL_at {rows : List (List Q)} {i : Nat} (h : i < 140737488355328) : tQ (treL rows) i = .agg (rows.getD i []) 0 := by
 unfold tQ
 rw [treL_get h]
mutual
/-- A tree's cells. -/
def qc : Raw → List Q
 | .mk k n s l => [.int .i64 k, .int .i64 n, .str s.length (code s), .slice (treL (qs l)) 4 0 l.length]
def qs : List Raw → List (List Q)
 | [] => []
 | x :: xs => qc x :: qs xs
end
theorem qs_eq : ∀ l : List Raw, qs l = l.map qc
 | [] => rfl
 | x :: xs => by rw [qs, qs_eq xs]; rfl
theorem qc_len (r : Raw) : (qc r).length = 4 := by cases r; rfl
mutual
/-- No list is longer than memory. -/
def wide : Raw → Prop
 | .mk _ _ _ l => l.length < 140737488355328 ∧ wideL l
def wideL : List Raw → Prop
 | [] => True
 | x :: xs => wide x ∧ wideL xs
end
theorem wideL_iff : ∀ {l : List Raw}, wideL l ↔ ∀ x ∈ l, wide x
 | [] => ⟨fun _ x h => absurd h (by simp), fun _ => trivial⟩
 | y :: l => by
  show wide y ∧ wideL l ↔ _
  rw [wideL_iff]
  simp
theorem rws_of {l : List Raw} (h : l.length < 140737488355328) (hx : ∀ x ∈ l, CelL x.g (qc x)) : Rws 4 (l.map Raw.g) (treL (qs l)) 0 := .of fun j r e => by
 rw [List.getElem?_map] at e
 cases hj : l[j]? with
 | none => rw [hj] at e; cases e
 | some x =>
  rw [hj] at e
  injection e with e
  subst e
  have hlt : j < l.length := (List.getElem?_eq_some_iff.1 hj).1
  have hx2 := hx x (List.mem_of_getElem? hj)
  refine ⟨x.g_len, ?_⟩
  rw [Nat.zero_add, treL_at (by omega), qs_eq]
  rw [show (l.map qc).getD j [] = qc x by simp [List.getD, hj]]
  exact rowN (by rw [Raw.g_len]; decide) hx2.cel
theorem celL4 {g0 g1 g2 g3 : G} {q0 q1 q2 q3 : Q} (h0 : RG g0 q0) (h1 : RG g1 q1) (h2 : RG g2 q2) (h3 : RG g3 q3) : CelL [g0, g1, g2, g3] [q0, q1, q2, q3] := by
 repeat' first | assumption | constructor
mutual
theorem qc_rg : ∀ {r : Raw}, wide r → CelL r.g (qc r)
 | .mk k n s l, h => by
  have hr := rws_of h.1 (qs_rg h.2)
  rw [← Raw.gs_eq] at hr
  exact celL4 (.i _ _) (.i _ _) (.s _ _ _ rfl rfl) (.l _ _ _ _ _ (by rw [Raw.gs_eq, List.length_map]) hr)
theorem qs_rg : ∀ {l : List Raw}, wideL l → ∀ x ∈ l, CelL x.g (qc x)
 | [], _, x, h => absurd h (by simp)
 | y :: l, h, x, hx => by
  cases hx with
  | head => exact qc_rg h.1
  | tail _ hx => exact qs_rg h.2 x hx
end
/-- A tree's cells, as they lie. -/
def dc (r : Raw) : List D := (qc r).map fun q => den q 0
theorem dc_cells {cs : List Q} : ∀ {n i : Nat}, i + n = cs.length → cellsF (den (.agg cs 0)) i n = (cs.drop i).map fun q => den q 0
 | 0, i, h => by rw [List.drop_of_length_le (by omega)]; rfl
 | n + 1, i, h => by
  have hi : i < cs.length := by omega
  rw [cellsF, dc_cells (by omega), List.drop_eq_getElem_cons hi, List.map_cons]
  congr 1
  simp only [den]
  rw [Nat.zero_add, atL_den, List.getElem?_eq_getElem hi]
  rfl
theorem dc_eq (r : Raw) : cellsF (den (.agg (qc r) 0)) 0 4 = dc r := by
 rw [dc_cells (by rw [qc_len])]
 rfl
/-- The rows of a list of trees. -/
theorem rows_cons {l : List Raw} {k m : Nat} (h : k + (m + 1) = l.length) (hl : l.length < 140737488355328) : rows (denT (treL (qs l))) 4 k (m + 1) = dc (l[k]'(by omega)) ++ rows (denT (treL (qs l))) 4 (k + 1) m := by
 have hk : k < l.length := by omega
 rw [rows, atT_den, treL_get (by omega), qs_eq, show (l.map qc).getD k [] = qc l[k] by simp [List.getD, List.getElem?_eq_getElem hk]]
 show cellsF (den (.agg (qc l[k]) 0)) 0 4 ++ _ = _
 rw [dc_eq]
end
end Go.Proofs.YtccafnaghnbpeaaGreatDoor
namespace Go.Proofs.YtccafnaghnbpeaaGreatDoor
open Go.Abs LQ
set_option maxRecDepth 100000
set_option maxHeartbeats 4000000
noncomputable section
variable {H : Type} {enc : TypeId × Value → H} {w : World} {sp : Nat → Bool} {held : Bool}
/-- All that stands there. -/
def allS (w : World) : Cells := fun b _ => b < w.heap.size
def okW (t : TypeId) (d : DataW H) : Prop := (d.weights Tryz.prog t).all (· ≤ reachBytes) = true
theorem cellsRaw : Tryz.prog.cellsOf 24 = 4 := by kernel_rfl
theorem bytesRaw : Tryz.prog.bytesOf 24 = 56 := by kernel_rfl
theorem cellsInt : Tryz.prog.cellsOf 3 = 1 := by kernel_rfl
theorem cellsStr : Tryz.prog.cellsOf 9 = 1 := by kernel_rfl
theorem cellsSl : Tryz.prog.cellsOf 22 = 1 := by kernel_rfl
theorem four_cells {a : Addr} {cs : List Value} (h : w.cells? 0 a 4 = some cs) : ∃ c0 c1 c2 c3, cs = [c0, c1, c2, c3] ∧ w.cell? a = some c0 ∧ w.cell? (a.add 1) = some c1 ∧ w.cell? (a.add 2) = some c2 ∧ w.cell? (a.add 3) = some c3 := by
 unfold World.cells? at h
 rw [if_pos (Nat.zero_le _), show List.range 4 = [0, 1, 2, 3] from rfl] at h
 simp only [List.mapM_cons, List.mapM_nil, Option.bind_eq_bind, Option.bind_eq_some_iff, Option.pure_def, Option.some.injEq] at h
 obtain ⟨c0, h0, l0, ⟨c1, h1, l1, ⟨c2, h2, l2, ⟨c3, h3, l3, rfl, rfl⟩, rfl⟩, rfl⟩, rfl⟩ := h
 exact ⟨c0, c1, c2, c3, rfl, h0, h1, h2, h3⟩
theorem cell_lt {a : Addr} {v : Value} (h : w.cell? a = some v) : a.block < w.heap.size := by
 unfold World.cell? at h
 cases e : w.heap[a.block]? with
 | none => rw [e] at h; cases h
 | some o => exact (Array.getElem?_eq_some_iff.1 e).1
theorem cell_spot {a : Addr} {v : Value} (h : w.cell? a = some v) : a.spot = none := by
 unfold World.cell? at h
 split at h
 ·split at h
  ·cases h
  ·rename_i hs
   cases e : a.spot with
   | none => rfl
   | some x => rw [e] at hs; exact absurd rfl hs
 ·cases h
theorem add_none {b o n : Nat} : (⟨b, o, none⟩ : Addr).add n = ⟨b, o + n, none⟩ := by
 unfold Addr.add
 split
 ·rename_i h; rw [h]; rfl
 ·rfl
/-- What lies from a place on. -/
def cellsV (w : World) (b : Nat) : Nat → Nat → List Value
 | _, 0 => []
 | o, n + 1 => (w.cell? ⟨b, o, none⟩).getD .nilIface :: cellsV w b (o + 1) n
theorem cellsV_get {b : Nat} : ∀ {n o i : Nat} {v : Value}, (cellsV w b o n)[i]? = some v → i < n ∧ v = (w.cell? ⟨b, o + i, none⟩).getD .nilIface
 | 0, o, i, v, h => by simp [cellsV] at h
 | n + 1, o, 0, v, h => by
  simp only [cellsV, List.getElem?_cons_zero, Option.some.injEq] at h
  exact ⟨by omega, h.symm⟩
 | n + 1, o, i + 1, v, h => by
  simp only [cellsV, List.getElem?_cons_succ] at h
  have := cellsV_get h
  exact ⟨by omega, by rw [this.2]; congr 3; omega⟩
theorem weightsAll_mem {t : TypeId} : ∀ {l : List (DataW H)}, (DataW.weightsAll Tryz.prog t l).all (· ≤ reachBytes) = true → ∀ d ∈ l, okW t d
 | [], _, d, hd => absurd hd (by simp)
 | x :: l, h, d, hd => by
  rw [DataW.weightsAll, List.all_append, Bool.and_eq_true] at h
  cases hd with
  | head => exact h.1
  | tail _ hd => exact weightsAll_mem h.2 d hd
theorem list_choose {P : Nat → Raw → Prop} {n : Nat} (h : ∀ i, i < n → ∃ r, P i r) : ∃ l : List Raw, ∃ hl : l.length = n, ∀ i (hi : i < n), P i (l[i]'(by omega)) := by
 induction n with
 | zero => exact ⟨[], rfl, fun i hi => absurd hi (Nat.not_lt_zero _)⟩
 | succ n ih =>
  obtain ⟨l, hl, k⟩ := ih fun i hi => h i (by omega)
  obtain ⟨r, hr⟩ := h n (by omega)
  refine ⟨l ++ [r], by simp [hl], fun i hi => ?_⟩
  by_cases hin : i < n
  ·rw [List.getElem_append_left (by omega)]; exact k i hin
  ·have : i = n := by omega
   subst this
   rw [List.getElem_append_right (by omega)]
   simpa [hl] using hr
theorem sl_of {n : Nat} (IH : ∀ cs x, DataW.trod enc Tryz.prog w 0 sp held n 24 cs = some x → okW 24 x.1 → ∃ r, wide r ∧ Rds (allS w) noMap w cs (dc r)) {cs : List Value} {x : DataW H × List MemPlace}
  (h : DataW.trod enc Tryz.prog w 0 sp held (n + 1) 22 cs = some x) (hw : okW 22 x.1) :
  ∃ v l, cs = [v] ∧ l.length < 140737488355328 ∧ wideL l ∧ Rd (allS w) noMap w v (.slice l.length (rows (denT (treL (qs l))) 4 0 l.length) .no) := by
 rcases DataW.trod_slice Tryz.underlying22 h with ⟨rfl, hx⟩ | ⟨a, len, cap, elems, rest, n', e1, rfl, hx, _, hlc, hcap, hel, hget, _, _⟩
 ·exact ⟨_, [], rfl, by decide, trivial, .slice none 0 0 [] [] .no (.inl rfl) .nil trivial (Nat.le_refl _) (fun _ => rfl)⟩
 ·have e1 : n' = n := by omega
  subst e1
  rw [hx] at hw
  unfold okW at hw
  simp only [DataW.weights, Tryz.underlying22, bytesRaw, List.all_cons, List.all_append, Bool.and_eq_true, decide_eq_true_eq, List.length_map] at hw
  obtain ⟨hw1, hw2, _⟩ := hw
  have hlen : len < 140737488355328 := by
   have : reachBytes = 140737488351232 := rfl
   omega
  have key : ∀ i, i < len → ∃ r, wide r ∧ ∃ cs, w.cells? 0 (a.add (i * 4)) 4 = some cs ∧ Rds (allS w) noMap w cs (dc r) := fun i hi => by
   have hg := hget i hi
   rw [List.getElem?_eq_getElem (by omega), cellsRaw, Option.bind_eq_some_iff] at hg
   obtain ⟨cs, h1, h2⟩ := hg
   obtain ⟨r, h3, h4⟩ := IH cs _ h2 (weightsAll_mem hw2 _ (List.mem_map_of_mem (List.getElem_mem _)))
   exact ⟨r, h3, cs, h1, h4⟩
  obtain ⟨l, hl, hP⟩ := list_choose key
  have hwl : wideL l := wideL_iff.2 fun x hx => by
   obtain ⟨i, hi, rfl⟩ := List.getElem_of_mem hx
   exact (hP i (by omega)).1
  by_cases h0 : len = 0
  ·have : l = [] := List.eq_nil_of_length_eq_zero (by omega)
   subst this
   subst h0
   exact ⟨_, [], rfl, by decide, trivial, .slice (some a) 0 cap [] [] .no (.inl rfl) .nil trivial hlc (fun h => by cases h)⟩
  ·have ha : a = ⟨a.block, a.off, none⟩ := by
    obtain ⟨_, cs, h1, _⟩ := hP 0 (by omega)
    obtain ⟨c0, _, _, _, _, h2, _⟩ := four_cells h1
    have hs := cell_spot h2
    rw [Nat.zero_mul] at hs
    have e : a.add 0 = a := if_pos rfl
    rw [e] at hs
    cases a
    simp only at hs
    rw [hs]
   generalize a.block = b at ha
   generalize a.off = o at ha
   subst ha
   have hblk : ∀ i, i < len → ∃ c0 c1 c2 c3, w.cell? ⟨b, o + 4 * i, none⟩ = some c0 ∧ w.cell? ⟨b, o + 4 * i + 1, none⟩ = some c1 ∧ w.cell? ⟨b, o + 4 * i + 2, none⟩ = some c2 ∧ w.cell? ⟨b, o + 4 * i + 3, none⟩ = some c3 ∧ ∀ hi : i < l.length, Rds (allS w) noMap w [c0, c1, c2, c3] (dc l[i]) := fun i hi => by
    obtain ⟨_, cs, h1, h2⟩ := hP i hi
    obtain ⟨c0, c1, c2, c3, rfl, k0, k1, k2, k3⟩ := four_cells h1
    rw [add_none, Nat.mul_comm] at k0 k1 k2 k3
    rw [add_none] at k1 k2 k3
    exact ⟨c0, c1, c2, c3, k0, k1, k2, k3, fun _ => h2⟩
   have hrds : ∀ m k, k + m = len → Rds (allS w) noMap w (cellsV w b (o + 4 * k) (4 * m)) (rows (denT (treL (qs l))) 4 k m) := by
    intro m
    induction m with
    | zero => intro k _; exact .nil
    | succ m ih =>
     intro k hk
     obtain ⟨c0, c1, c2, c3, k0, k1, k2, k3, kr⟩ := hblk k (by omega)
     have h2 := ih (k + 1) (by omega)
     rw [rows_cons (by omega) (by omega)]
     have e : cellsV w b (o + 4 * k) (4 * (m + 1)) = [c0, c1, c2, c3] ++ cellsV w b (o + 4 * (k + 1)) (4 * m) := by
      rw [show 4 * (m + 1) = 4 * m + 1 + 1 + 1 + 1 by omega]
      simp only [cellsV]
      rw [k0, k1, show o + 4 * k + 1 + 1 = o + 4 * k + 2 by omega, k2, show o + 4 * k + 2 + 1 = o + 4 * k + 3 by omega, k3, show o + 4 * k + 3 + 1 = o + 4 * (k + 1) by omega]
      rfl
     rw [e]
     exact (kr (by omega)).append h2
   refine ⟨_, l, rfl, by omega, hwl, ?_⟩
   have h3 := hrds len 0 (by omega)
   rw [hl]
   refine .slice (some ⟨b, o, none⟩) len cap _ _ .no (.inr ⟨b, o, rfl, fun i v hi => ?_⟩) h3 trivial hlc (fun h => by cases h)
   obtain ⟨hi4, hv⟩ := cellsV_get hi
   rw [Nat.mul_zero, Nat.add_zero] at hv
   obtain ⟨c0, c1, c2, c3, k0, k1, k2, k3, _⟩ := hblk (i / 4) (by omega)
   have hc : w.cell? ⟨b, o + i, none⟩ = some v := by
    have : i % 4 = 0 ∨ i % 4 = 1 ∨ i % 4 = 2 ∨ i % 4 = 3 := by omega
    rcases this with e | e | e | e
    ·rw [show o + i = o + 4 * (i / 4) by omega] at hv ⊢; rw [k0] at hv ⊢; rw [hv]; rfl
    ·rw [show o + i = o + 4 * (i / 4) + 1 by omega] at hv ⊢; rw [k1] at hv ⊢; rw [hv]; rfl
    ·rw [show o + i = o + 4 * (i / 4) + 2 by omega] at hv ⊢; rw [k2] at hv ⊢; rw [hv]; rfl
    ·rw [show o + i = o + 4 * (i / 4) + 3 by omega] at hv ⊢; rw [k3] at hv ⊢; rw [hv]; rfl
   exact ⟨cell_lt hc, hc⟩
theorem raw_of : ∀ (n : Nat) (cs : List Value) (x : DataW H × List MemPlace), DataW.trod enc Tryz.prog w 0 sp held n 24 cs = some x → okW 24 x.1 → ∃ r, wide r ∧ Rds (allS w) noMap w cs (dc r) := by
 intro n
 induction n using Nat.strongRecOn with
 | _ n ih =>
 intro cs x h hw
 obtain ⟨xs, m, rfl, hx, hlen, hxl, hf⟩ := DataW.trod_struct Tryz.underlying24 h
 rw [cellsRaw] at hlen
 obtain ⟨c0, c1, c2, c3, rfl⟩ : ∃ c0 c1 c2 c3, cs = [c0, c1, c2, c3] := by
  match cs, hlen with
  | [c0, c1, c2, c3], _ => exact ⟨c0, c1, c2, c3, rfl⟩
 obtain ⟨x0, x1, x2, x3, rfl⟩ : ∃ x0 x1 x2 x3, xs = [x0, x1, x2, x3] := by
  match xs, hxl with
  | [x0, x1, x2, x3], _ => exact ⟨x0, x1, x2, x3, rfl⟩
 have f0 : DataW.trod enc Tryz.prog w 0 sp held m 3 (([c0, c1, c2, c3].drop 0).take (Tryz.prog.cellsOf 3)) = some x0 := hf 0 _ rfl
 rw [cellsInt] at f0
 change DataW.trod enc Tryz.prog w 0 sp held m 3 [c0] = some x0 at f0
 have f1 : DataW.trod enc Tryz.prog w 0 sp held m 3 (([c0, c1, c2, c3].drop 1).take (Tryz.prog.cellsOf 3)) = some x1 := hf 1 _ rfl
 rw [cellsInt] at f1
 change DataW.trod enc Tryz.prog w 0 sp held m 3 [c1] = some x1 at f1
 have f2 : DataW.trod enc Tryz.prog w 0 sp held m 9 (([c0, c1, c2, c3].drop 2).take (Tryz.prog.cellsOf 9)) = some x2 := hf 2 _ rfl
 rw [cellsStr] at f2
 change DataW.trod enc Tryz.prog w 0 sp held m 9 [c2] = some x2 at f2
 have f3 : DataW.trod enc Tryz.prog w 0 sp held m 22 (([c0, c1, c2, c3].drop 3).take (Tryz.prog.cellsOf 22)) = some x3 := hf 3 _ rfl
 rw [cellsSl] at f3
 change DataW.trod enc Tryz.prog w 0 sp held m 22 [c3] = some x3 at f3
 obtain ⟨k, e0, _, _⟩ := DataW.trod_int Tryz.underlying3 f0
 obtain ⟨nn, e1, _, _⟩ := DataW.trod_int Tryz.underlying3 f1
 obtain ⟨s, e2, _, _⟩ := DataW.trod_string Tryz.underlying9 f2
 injection e0 with e0
 injection e1 with e1
 injection e2 with e2
 subst e0 e1 e2
 rw [hx] at hw
 unfold okW at hw
 simp only [DataW.weights, Tryz.underlying24, List.map_cons, List.map_nil, DataW.weightsEach, List.all_append, Bool.and_eq_true] at hw
 obtain ⟨_, _, _, hw3, _⟩ := hw
 cases m with
 | zero => simp [DataW.trod] at f3
 | succ m =>
  obtain ⟨v, l, e3, hl, hwl, hr⟩ := sl_of (n := m) (fun cs x h1 h2 => ih m (by omega) cs x h1 h2) f3 hw3
  injection e3 with e3
  subst e3
  refine ⟨.mk k nn s.data.toList l, ⟨hl, hwl⟩, ?_⟩
  refine .cons _ _ _ _ (.int _ _) (.cons _ _ _ _ (.int _ _) (.cons _ _ _ _ (.str _ _ ?_) (.cons _ _ _ _ ?_ .nil)))
  ·exact (dec_code _).symm
  ·exact hr
end
end Go.Proofs.YtccafnaghnbpeaaGreatDoor
