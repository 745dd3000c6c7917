/- 'lispproverlaw12.TranslateLimit': its contract. -/
import Derived.Test.YtpjpeojfddbdoaaGreatDoorCYL0
import Derived.Test.YtpjpeojfddbdoaaGreatDoorCYL1
import Derived.Test.YtpjpeojfddbdoaaGreatDoorCYL2
import Derived.Test.YtpjpeojfddbdoaaGreatDoorCYL3
import Derived.Test.YtpjpeojfddbdoaaGreatDoorCYL4
namespace Go.Proofs.YtpjpeojfddbdoaaGreatDoor
open Go.Abs
set_option maxRecDepth 100000
noncomputable section
def limM : Int → Om := fun n7 => CU.jn (fun j8 => CU.fB (CU.iLt n7 0) fun b9 => CU.cnd b9 (CU.fI (CU.wr .i64 (CU.iAdd n7 4)) fun n10 => j8 [(.int .i64 n10)] []) (j8 [(.int .i64 n7)] [])) (fun l11 w12 => CU.uCons l11 fun v13 l14 => CU.uI .i64 v13 fun n15 => CU.uNil l14 (CU.uNilB w12 (some (.ret (.int .i64 n15), []))))
theorem lim_mod (fn : FF) (n : Int) : r6 CU fn [.int .i64 n, .int .i64 4] [] = Abs.fI (Abs.iRem n 4) limM := by kernel_rfl
def limC (o : Om) : Bool := match o with
  | some (.ret (.int .i64 m), []) => decide (0 ≤ m) && decide (m < 4)
  | _ => false
theorem limC_spec {o : Om} (h : limC o = true) : ∃ m : Int, 0 ≤ m ∧ m < 4 ∧ o = some (.ret (.int .i64 m), []) := by
  unfold limC at h
  split at h
  · rename_i m
    simp only [Bool.and_eq_true, decide_eq_true_eq] at h
    exact ⟨m, h.1, h.2, rfl⟩
  · cases h
theorem lim_all : (List.range 7).all (fun i => limC (limM ((i : Int) - 3))) = true := by kernel_rfl
theorem lim_modlook : lookF 6 ftW = some (fun fn => r6 CU fn) := by kernel_rfl
theorem lim_num (n : Int) : ∃ m : Int, 0 ≤ m ∧ m < 4 ∧ RW 6 [.int .i64 n, .int .i64 4] [] = some (.ret (.int .i64 m), []) := by
  have h1 : -4 < n.tmod 4 := by have := Int.lt_tmod_of_pos n (show (0 : Int) < 4 by decide); omega
  have h2 : n.tmod 4 < 4 := Int.tmod_lt_of_pos n (by decide)
  have h3 := List.all_eq_true.1 lim_all (n.tmod 4 + 3).toNat (List.mem_range.2 (by omega))
  have h4 : (((n.tmod 4 + 3).toNat : Nat) : Int) - 3 = n.tmod 4 := by omega
  rw [h4] at h3
  obtain ⟨m, m1, m2, hm⟩ := limC_spec h3
  refine ⟨m, m1, m2, ?_⟩
  show appW (runW ftW 4000 6) [.int .i64 n, .int .i64 4] [] = _
  rw [runW_succ (n := 3999) lim_modlook, lim_mod, fI_eq]
  rw [iRem_eq]
  exact hm
theorem bind_ret (v : V) (bs : LB) (K : V → LB → Om) (Kp : V → Om) : Abs.bind (some (.ret v, bs)) K Kp = K v bs := rfl
theorem lim_runs (m : Int) (h1 : 0 ≤ m) (h2 : m < 4) (b : Bool) : limK RW b (.int .i64 m) [] = some (.ret (.bool true), []) := by
  have h : m = 0 ∨ m = 1 ∨ m = 2 ∨ m = 3 := by omega
  rcases h with rfl | rfl | rfl | rfl
  · cases b
    · exact lim_0_f
    · exact lim_0_t
  · cases b
    · exact lim_1_f
    · exact lim_1_t
  · cases b
    · exact lim_2_f
    · exact lim_2_t
  · cases b
    · exact lim_3_f
    · exact lim_3_t
theorem lim_run (n : Int) (b : Bool) : appW (runW ftW 4001 4) [.int .i64 n, .bool b] [] = some (.ret (.bool true), []) := by
  obtain ⟨m, m1, m2, hm⟩ := lim_num n
  rw [runW_succ (n := 4000) lim_look]
  exact (lim_a RW n b).trans ((congrArg (fun o => Abs.bind o _ _) first_eq).trans ((lim_b RW n b).trans ((congrArg (fun o => Abs.bind o _ _) hm).trans ((bind_ret _ _ _ _).trans (lim_runs m m1 m2 b)))))
/-- The law's contract. -/
theorem translateLimit_contract (n : Int) (b : Bool) (_ : (Lit.int .i64 n).wf = true) : CM Tryz.prog GG 4 [.int .i64 n, .bool b] [] (.ret (.bool true)) [] := by
  have h := runW_ok ftW_ok 4001 4 _ _ _ _ (lim_run n b) rfl
  simp only [List.map_cons, List.map_nil, toD, resD] at h
  exact h
end
end Go.Proofs.YtpjpeojfddbdoaaGreatDoor
