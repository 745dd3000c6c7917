/- 'lispproverlaw12.TranslateNested': its contract. -/
import Derived.Test.YtpjpeojfddbdoaaGreatDoorCYN0
import Derived.Test.YtpjpeojfddbdoaaGreatDoorCYN1
import Derived.Test.YtpjpeojfddbdoaaGreatDoorCYN2
import Derived.Test.YtpjpeojfddbdoaaGreatDoorCYN3
import Derived.Test.YtpjpeojfddbdoaaGreatDoorCYN4
import Derived.Test.YtpjpeojfddbdoaaGreatDoorCYN5
import Derived.Test.YtpjpeojfddbdoaaGreatDoorCYN6
import Derived.Test.YtpjpeojfddbdoaaGreatDoorCYN7
import Derived.Test.YtpjpeojfddbdoaaGreatDoorCYN8
import Derived.Test.YtpjpeojfddbdoaaGreatDoorCYN9
import Derived.Test.YtpjpeojfddbdoaaGreatDoorCYN10
import Derived.Test.YtpjpeojfddbdoaaGreatDoorCYN11
import Derived.Test.YtpjpeojfddbdoaaGreatDoorCYN12
import Derived.Test.YtpjpeojfddbdoaaGreatDoorCYNC
namespace Go.Proofs.YtpjpeojfddbdoaaGreatDoor
open Go.Abs
set_option maxRecDepth 100000
noncomputable section
def nstM : Int → Om := fun n7 => CU.jn (fun j8 => CU.fB (CU.iLt n7 0) fun b9 => CU.cnd b9 (CU.fI (CU.wr .i64 (CU.iAdd n7 30)) fun n10 => j8 [(.int .i64 n10)] []) (j8 [(.int .i64 n7)] [])) (fun l11 w12 => CU.uCons l11 fun v13 l14 => CU.uI .i64 v13 fun n15 => CU.uNil l14 (CU.uNilB w12 (some (.ret (.int .i64 n15), []))))
theorem nst_mod (fn : FF) (n : Int) : r6 CU fn [.int .i64 n, .int .i64 30] [] = Abs.fI (Abs.iRem n 30) nstM := by kernel_rfl
def nstC (o : Om) : Bool := match o with
  | some (.ret (.int .i64 m), []) => decide (0 ≤ m) && decide (m < 30)
  | _ => false
theorem nstC_spec {o : Om} (h : nstC o = true) : ∃ m : Int, 0 ≤ m ∧ m < 30 ∧ o = some (.ret (.int .i64 m), []) := by
  unfold nstC at h
  split at h
  · rename_i m
    simp only [Bool.and_eq_true, decide_eq_true_eq] at h
    exact ⟨m, h.1, h.2, rfl⟩
  · cases h
theorem nst_all : (List.range 59).all (fun i => nstC (nstM ((i : Int) - 29))) = true := by kernel_rfl
theorem nst_modlook : lookF 6 ftW = some (fun fn => r6 CU fn) := by kernel_rfl
theorem nst_num (n : Int) : ∃ m : Int, 0 ≤ m ∧ m < 30 ∧ RW 6 [.int .i64 n, .int .i64 30] [] = some (.ret (.int .i64 m), []) := by
  have h1 : -30 < n.tmod 30 := by have := Int.lt_tmod_of_pos n (show (0 : Int) < 30 by decide); omega
  have h2 : n.tmod 30 < 30 := Int.tmod_lt_of_pos n (by decide)
  have h3 := List.all_eq_true.1 nst_all (n.tmod 30 + 29).toNat (List.mem_range.2 (by omega))
  have h4 : (((n.tmod 30 + 29).toNat : Nat) : Int) - 29 = n.tmod 30 := by omega
  rw [h4] at h3
  obtain ⟨m, m1, m2, hm⟩ := nstC_spec h3
  refine ⟨m, m1, m2, ?_⟩
  show appW (runW ftW 4000 6) [.int .i64 n, .int .i64 30] [] = _
  rw [runW_succ (n := 3999) nst_modlook, nst_mod, fI_eq]
  rw [iRem_eq]
  exact hm
theorem bind_ret (v : V) (bs : LB) (K : V → LB → Om) (Kp : V → Om) : Abs.bind (some (.ret v, bs)) K Kp = K v bs := rfl
theorem nst_runs (m : Int) (h1 : 0 ≤ m) (h2 : m < 30) (b : Bool) : nstK RW b (.int .i64 m) [] = some (.ret (.bool true), []) := by
  have h : m = 0 ∨ m = 1 ∨ m = 2 ∨ m = 3 ∨ m = 4 ∨ m = 5 ∨ m = 6 ∨ m = 7 ∨ m = 8 ∨ m = 9 ∨ m = 10 ∨ m = 11 ∨ m = 12 ∨ m = 13 ∨ m = 14 ∨ m = 15 ∨ m = 16 ∨ m = 17 ∨ m = 18 ∨ m = 19 ∨ m = 20 ∨ m = 21 ∨ m = 22 ∨ m = 23 ∨ m = 24 ∨ m = 25 ∨ m = 26 ∨ m = 27 ∨ m = 28 ∨ m = 29 := by omega
  rcases h with rfl | rfl | rfl | rfl | rfl | rfl | rfl | rfl | rfl | rfl | rfl | rfl | rfl | rfl | rfl | rfl | rfl | rfl | rfl | rfl | rfl | rfl | rfl | rfl | rfl | rfl | rfl | rfl | rfl | rfl
  · cases b
    · exact nst_0_f
    · exact nst_0_t
  · cases b
    · exact nst_1_f
    · exact nst_1_t
  · cases b
    · exact nst_2_f
    · exact nst_2_t
  · cases b
    · exact nst_3_f
    · exact nst_3_t
  · cases b
    · exact nst_4_f
    · exact nst_4_t
  · cases b
    · exact nst_5_f
    · exact nst_5_t
  · cases b
    · exact nst_6_f
    · exact nst_6_t
  · cases b
    · exact nst_7_f
    · exact nst_7_t
  · cases b
    · exact nst_8_f
    · exact nst_8_t
  · cases b
    · exact nst_9_f
    · exact nst_9_t
  · cases b
    · exact nst_10_f
    · exact nst_10_t
  · cases b
    · exact nst_11_f
    · exact nst_11_t
  · cases b
    · exact nst_12_f
    · exact nst_12_t
  · cases b
    · exact nst_13_f
    · exact nst_13_t
  · cases b
    · exact nst_14_f
    · exact nst_14_t
  · cases b
    · exact nst_15_f
    · exact nst_15_t
  · cases b
    · exact nst_16_f
    · exact nst_16_t
  · cases b
    · exact nst_17_f
    · exact nst_17_t
  · cases b
    · exact nst_18_f
    · exact nst_18_t
  · cases b
    · exact nst_19_f
    · exact nst_19_t
  · cases b
    · exact nst_20_f
    · exact nst_20_t
  · cases b
    · exact nst_21_f
    · exact nst_21_t
  · cases b
    · exact nst_22_f
    · exact nst_22_t
  · cases b
    · exact nst_23_f
    · exact nst_23_t
  · cases b
    · exact nst_24_f
    · exact nst_24_t
  · cases b
    · exact nst_25_f
    · exact nst_25_t
  · cases b
    · exact nst_26_f
    · exact nst_26_t
  · cases b
    · exact nst_27_f
    · exact nst_27_t
  · cases b
    · exact nst_28_f
    · exact nst_28_t
  · cases b
    · exact nst_29_f
    · exact nst_29_t
theorem nst_run (n : Int) (b : Bool) : appW (runW ftW 4001 3) [.int .i64 n, .bool b] [] = some (.ret (.bool true), []) := by
  obtain ⟨m, m1, m2, hm⟩ := nst_num n
  rw [runW_succ (n := 4000) nst_look]
  exact (nst_a RW n b).trans ((congrArg (fun o => Abs.bind o _ _) first_eq).trans ((nst_b RW n b).trans ((congrArg (fun o => Abs.bind o _ _) hm).trans ((bind_ret _ _ _ _).trans (nst_runs m m1 m2 b)))))
/-- The law's contract. -/
theorem translateNested_contract (n : Int) (b : Bool) (_ : (Lit.int .i64 n).wf = true) : CM Tryz.prog GG 3 [.int .i64 n, .bool b] [] (.ret (.bool true)) [] := by
  have h := runW_ok ftW_ok 4001 3 _ _ _ _ (nst_run n b) rfl
  simp only [List.map_cons, List.map_nil, toD, resD] at h
  exact h
end
end Go.Proofs.YtpjpeojfddbdoaaGreatDoor
