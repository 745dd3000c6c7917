/- 'lispproverlaw13.PreludeBegins': its contract. -/
import Derived.Test.YtdkfnkilkndmgaaGreatDoorCYg0
import Derived.Test.YtdkfnkilkndmgaaGreatDoorCYg1
namespace Go.Proofs.YtdkfnkilkndmgaaGreatDoor
open Go.Abs
set_option maxRecDepth 100000
set_option maxHeartbeats 4000000
noncomputable section
def gM : Int → Om := fun n7 => CU.jn (fun j8 => CU.fB (CU.iLt n7 0) fun b9 => CU.cnd b9 (CU.fI (CU.wr .i64 (CU.iAdd n7 29)) fun n10 => j8 [(.int .i64 n10)] []) (j8 [(.int .i64 n7)] [])) (fun l11 w12 => CU.uCons l11 fun v13 l14 => CU.uI .i64 v13 fun n15 => CU.uNil l14 (CU.uNilB w12 (some (.ret (.int .i64 n15), []))))
theorem g_mod (fn : FF) (n : Int) : r12 CU fn [.int .i64 n, .int .i64 29] [] = Abs.fI (Abs.iRem n 29) gM := by kernel_rfl
def gC (o : Om) : Bool := match o with
  | some (.ret (.int .i64 m), []) => decide (0 ≤ m) && decide (m < 29)
  | _ => false
theorem gC_spec {o : Om} (h : gC o = true) : ∃ m : Int, 0 ≤ m ∧ m < 29 ∧ o = some (.ret (.int .i64 m), []) := by
  unfold gC at h
  split at h
  · rename_i m
    simp only [Bool.and_eq_true, decide_eq_true_eq] at h
    exact ⟨m, h.1, h.2, rfl⟩
  · cases h
theorem g_all : (List.range 57).all (fun i => gC (gM ((i : Int) - 28))) = true := by kernel_rfl
theorem g_modlook : lookF 12 ftW = some (fun fn => r12 CU fn) := by kernel_rfl
theorem g_num (n : Int) : ∃ m : Int, 0 ≤ m ∧ m < 29 ∧ RW 12 [.int .i64 n, .int .i64 29] [] = some (.ret (.int .i64 m), []) := by
  have h1 : -29 < n.tmod 29 := by have := Int.lt_tmod_of_pos n (show (0 : Int) < 29 by decide); omega
  have h2 : n.tmod 29 < 29 := Int.tmod_lt_of_pos n (by decide)
  have h3 := List.all_eq_true.1 g_all (n.tmod 29 + 28).toNat (List.mem_range.2 (by omega))
  have h4 : (((n.tmod 29 + 28).toNat : Nat) : Int) - 28 = n.tmod 29 := by omega
  rw [h4] at h3
  obtain ⟨m, m1, m2, hm⟩ := gC_spec h3
  refine ⟨m, m1, m2, ?_⟩
  show appW (runW ftW 4000 12) [.int .i64 n, .int .i64 29] [] = _
  rw [runW_succ (n := 3999) g_modlook, g_mod, fI_eq]
  rw [iRem_eq]
  exact hm
theorem g_runs (n m : Int) (h1 : 0 ≤ m) (h2 : m < 29) : ∃ v, toD v = .bool true ∧ gK RW n (.int .i64 m) [] = some (.ret v, []) := by
  by_cases c : m < 14
  · by_cases c : m < 7
    · by_cases c : m < 3
      · by_cases c : m < 1
        · obtain rfl : m = 0 := by omega
          exact ⟨_, by simp only [toD], g_r0 n⟩
        · by_cases c : m < 2
          · obtain rfl : m = 1 := by omega
            exact ⟨_, by simp only [toD], g_r1 n⟩
          · obtain rfl : m = 2 := by omega
            exact ⟨_, by simp only [toD], g_r2 n⟩
      · by_cases c : m < 5
        · by_cases c : m < 4
          · obtain rfl : m = 3 := by omega
            exact ⟨_, by simp only [toD], g_r3 n⟩
          · obtain rfl : m = 4 := by omega
            exact ⟨_, by simp only [toD], g_r4 n⟩
        · by_cases c : m < 6
          · obtain rfl : m = 5 := by omega
            exact ⟨_, by simp only [toD], g_r5 n⟩
          · obtain rfl : m = 6 := by omega
            exact ⟨_, by simp only [toD], g_r6 n⟩
    · by_cases c : m < 10
      · by_cases c : m < 8
        · obtain rfl : m = 7 := by omega
          exact ⟨_, by simp only [toD], g_r7 n⟩
        · by_cases c : m < 9
          · obtain rfl : m = 8 := by omega
            exact ⟨_, by simp only [toD], g_r8 n⟩
          · obtain rfl : m = 9 := by omega
            exact ⟨_, by simp only [toD], g_r9 n⟩
      · by_cases c : m < 12
        · by_cases c : m < 11
          · obtain rfl : m = 10 := by omega
            exact ⟨_, by simp only [toD], g_r10 n⟩
          · obtain rfl : m = 11 := by omega
            exact ⟨_, by simp only [toD], g_r11 n⟩
        · by_cases c : m < 13
          · obtain rfl : m = 12 := by omega
            exact ⟨_, by simp only [toD], g_r12 n⟩
          · obtain rfl : m = 13 := by omega
            exact ⟨_, by simp only [toD], g_r13 n⟩
  · by_cases c : m < 21
    · by_cases c : m < 17
      · by_cases c : m < 15
        · obtain rfl : m = 14 := by omega
          exact ⟨_, by simp only [toD], g_r14 n⟩
        · by_cases c : m < 16
          · obtain rfl : m = 15 := by omega
            exact ⟨_, by simp only [toD], g_r15 n⟩
          · obtain rfl : m = 16 := by omega
            exact ⟨_, by simp only [toD], g_r16 n⟩
      · by_cases c : m < 19
        · by_cases c : m < 18
          · obtain rfl : m = 17 := by omega
            exact ⟨_, by simp only [toD], g_r17 n⟩
          · obtain rfl : m = 18 := by omega
            exact ⟨_, by simp only [toD], g_r18 n⟩
        · by_cases c : m < 20
          · obtain rfl : m = 19 := by omega
            exact ⟨_, by simp only [toD], g_r19 n⟩
          · obtain rfl : m = 20 := by omega
            exact ⟨_, by simp only [toD], g_r20 n⟩
    · by_cases c : m < 25
      · by_cases c : m < 23
        · by_cases c : m < 22
          · obtain rfl : m = 21 := by omega
            exact ⟨_, by simp only [toD], g_r21 n⟩
          · obtain rfl : m = 22 := by omega
            exact ⟨_, by simp only [toD], g_r22 n⟩
        · by_cases c : m < 24
          · obtain rfl : m = 23 := by omega
            exact ⟨_, by simp only [toD], g_r23 n⟩
          · obtain rfl : m = 24 := by omega
            exact ⟨_, by simp only [toD], g_r24 n⟩
      · by_cases c : m < 27
        · by_cases c : m < 26
          · obtain rfl : m = 25 := by omega
            exact ⟨_, by simp only [toD], g_r25 n⟩
          · obtain rfl : m = 26 := by omega
            exact ⟨_, by simp only [toD], g_r26 n⟩
        · by_cases c : m < 28
          · obtain rfl : m = 27 := by omega
            exact ⟨_, by simp only [toD], g_r27 n⟩
          · obtain rfl : m = 28 := by omega
            exact ⟨_, by simp only [toD], g_r28 n⟩
theorem g_run (n : Int) : ∃ v, toD v = .bool true ∧ appW (runW ftW 4001 5) [.int .i64 n] [] = some (.ret v, []) := by
  obtain ⟨m, m1, m2, hm⟩ := g_num n
  obtain ⟨v, hv, hr⟩ := g_runs n m m1 m2
  rw [runW_succ (n := 4000) g_look]
  exact ⟨v, hv, (g_pre n).trans ((congrArg (fun o => Abs.bind o _ _) hm).trans ((bind_ret _ _ _ _).trans hr))⟩
/-- The law's contract. -/
theorem preludeBegins_contract (n : Int) (_ : (Lit.int .i64 n).wf = true) : CM Tryz.prog GG 5 [.int .i64 n] [] (.ret (.bool true)) [] := by
  obtain ⟨v, hv, hr⟩ := g_run n
  have h := runW_ok ftW_ok 4001 5 _ _ _ _ hr rfl
  simp only [List.map_cons, List.map_nil, toD, resD, hv] at h
  exact h
end
end Go.Proofs.YtdkfnkilkndmgaaGreatDoor
