/- 'lispproverlaw13.PreludeText': its contract. -/
import Derived.Test.YtdkfnkilkndmgaaGreatDoorCYt0
import Derived.Test.YtdkfnkilkndmgaaGreatDoorCYt1
import Derived.Test.YtdkfnkilkndmgaaGreatDoorCYt2
import Derived.Test.YtdkfnkilkndmgaaGreatDoorCYt3
namespace Go.Proofs.YtdkfnkilkndmgaaGreatDoor
open Go.Abs
set_option maxRecDepth 100000
set_option maxHeartbeats 4000000
noncomputable section
def tM : Int → Om := fun n7 => CU.jn (fun j8 => CU.fB (CU.iLt n7 0) fun b9 => CU.cnd b9 (CU.fI (CU.wr .i64 (CU.iAdd n7 114)) fun n10 => j8 [(.int .i64 n10)] []) (j8 [(.int .i64 n7)] [])) (fun l11 w12 => CU.uCons l11 fun v13 l14 => CU.uI .i64 v13 fun n15 => CU.uNil l14 (CU.uNilB w12 (some (.ret (.int .i64 n15), []))))
theorem t_mod (fn : FF) (n : Int) : r12 CU fn [.int .i64 n, .int .i64 114] [] = Abs.fI (Abs.iRem n 114) tM := by kernel_rfl
def tC (o : Om) : Bool := match o with
  | some (.ret (.int .i64 m), []) => decide (0 ≤ m) && decide (m < 114)
  | _ => false
theorem tC_spec {o : Om} (h : tC o = true) : ∃ m : Int, 0 ≤ m ∧ m < 114 ∧ o = some (.ret (.int .i64 m), []) := by
  unfold tC at h
  split at h
  · rename_i m
    simp only [Bool.and_eq_true, decide_eq_true_eq] at h
    exact ⟨m, h.1, h.2, rfl⟩
  · cases h
theorem t_all : (List.range 227).all (fun i => tC (tM ((i : Int) - 113))) = true := by kernel_rfl
theorem t_modlook : lookF 12 ftW = some (fun fn => r12 CU fn) := by kernel_rfl
theorem t_num (n : Int) : ∃ m : Int, 0 ≤ m ∧ m < 114 ∧ RW 12 [.int .i64 n, .int .i64 114] [] = some (.ret (.int .i64 m), []) := by
  have h1 : -114 < n.tmod 114 := by have := Int.lt_tmod_of_pos n (show (0 : Int) < 114 by decide); omega
  have h2 : n.tmod 114 < 114 := Int.tmod_lt_of_pos n (by decide)
  have h3 := List.all_eq_true.1 t_all (n.tmod 114 + 113).toNat (List.mem_range.2 (by omega))
  have h4 : (((n.tmod 114 + 113).toNat : Nat) : Int) - 113 = n.tmod 114 := by omega
  rw [h4] at h3
  obtain ⟨m, m1, m2, hm⟩ := tC_spec h3
  refine ⟨m, m1, m2, ?_⟩
  show appW (runW ftW 4000 12) [.int .i64 n, .int .i64 114] [] = _
  rw [runW_succ (n := 3999) t_modlook, t_mod, fI_eq]
  rw [iRem_eq]
  exact hm
theorem t_runs (n m : Int) (h1 : 0 ≤ m) (h2 : m < 114) : tK RW n (.int .i64 m) [] = some (.ret (.bool true), []) := by
  by_cases c : m < 57
  · by_cases c : m < 28
    · by_cases c : m < 14
      · by_cases c : m < 7
        · by_cases c : m < 3
          · by_cases c : m < 1
            · obtain rfl : m = 0 := by omega
              exact t_r0 n
            · by_cases c : m < 2
              · obtain rfl : m = 1 := by omega
                exact t_r1 n
              · obtain rfl : m = 2 := by omega
                exact t_r2 n
          · by_cases c : m < 5
            · by_cases c : m < 4
              · obtain rfl : m = 3 := by omega
                exact t_r3 n
              · obtain rfl : m = 4 := by omega
                exact t_r4 n
            · by_cases c : m < 6
              · obtain rfl : m = 5 := by omega
                exact t_r5 n
              · obtain rfl : m = 6 := by omega
                exact t_r6 n
        · by_cases c : m < 10
          · by_cases c : m < 8
            · obtain rfl : m = 7 := by omega
              exact t_r7 n
            · by_cases c : m < 9
              · obtain rfl : m = 8 := by omega
                exact t_r8 n
              · obtain rfl : m = 9 := by omega
                exact t_r9 n
          · by_cases c : m < 12
            · by_cases c : m < 11
              · obtain rfl : m = 10 := by omega
                exact t_r10 n
              · obtain rfl : m = 11 := by omega
                exact t_r11 n
            · by_cases c : m < 13
              · obtain rfl : m = 12 := by omega
                exact t_r12 n
              · obtain rfl : m = 13 := by omega
                exact t_r13 n
      · by_cases c : m < 21
        · by_cases c : m < 17
          · by_cases c : m < 15
            · obtain rfl : m = 14 := by omega
              exact t_r14 n
            · by_cases c : m < 16
              · obtain rfl : m = 15 := by omega
                exact t_r15 n
              · obtain rfl : m = 16 := by omega
                exact t_r16 n
          · by_cases c : m < 19
            · by_cases c : m < 18
              · obtain rfl : m = 17 := by omega
                exact t_r17 n
              · obtain rfl : m = 18 := by omega
                exact t_r18 n
            · by_cases c : m < 20
              · obtain rfl : m = 19 := by omega
                exact t_r19 n
              · obtain rfl : m = 20 := by omega
                exact t_r20 n
        · by_cases c : m < 24
          · by_cases c : m < 22
            · obtain rfl : m = 21 := by omega
              exact t_r21 n
            · by_cases c : m < 23
              · obtain rfl : m = 22 := by omega
                exact t_r22 n
              · obtain rfl : m = 23 := by omega
                exact t_r23 n
          · by_cases c : m < 26
            · by_cases c : m < 25
              · obtain rfl : m = 24 := by omega
                exact t_r24 n
              · obtain rfl : m = 25 := by omega
                exact t_r25 n
            · by_cases c : m < 27
              · obtain rfl : m = 26 := by omega
                exact t_r26 n
              · obtain rfl : m = 27 := by omega
                exact t_r27 n
    · by_cases c : m < 42
      · by_cases c : m < 35
        · by_cases c : m < 31
          · by_cases c : m < 29
            · obtain rfl : m = 28 := by omega
              exact t_r28 n
            · by_cases c : m < 30
              · obtain rfl : m = 29 := by omega
                exact t_r29 n
              · obtain rfl : m = 30 := by omega
                exact t_r30 n
          · by_cases c : m < 33
            · by_cases c : m < 32
              · obtain rfl : m = 31 := by omega
                exact t_r31 n
              · obtain rfl : m = 32 := by omega
                exact t_r32 n
            · by_cases c : m < 34
              · obtain rfl : m = 33 := by omega
                exact t_r33 n
              · obtain rfl : m = 34 := by omega
                exact t_r34 n
        · by_cases c : m < 38
          · by_cases c : m < 36
            · obtain rfl : m = 35 := by omega
              exact t_r35 n
            · by_cases c : m < 37
              · obtain rfl : m = 36 := by omega
                exact t_r36 n
              · obtain rfl : m = 37 := by omega
                exact t_r37 n
          · by_cases c : m < 40
            · by_cases c : m < 39
              · obtain rfl : m = 38 := by omega
                exact t_r38 n
              · obtain rfl : m = 39 := by omega
                exact t_r39 n
            · by_cases c : m < 41
              · obtain rfl : m = 40 := by omega
                exact t_r40 n
              · obtain rfl : m = 41 := by omega
                exact t_r41 n
      · by_cases c : m < 49
        · by_cases c : m < 45
          · by_cases c : m < 43
            · obtain rfl : m = 42 := by omega
              exact t_r42 n
            · by_cases c : m < 44
              · obtain rfl : m = 43 := by omega
                exact t_r43 n
              · obtain rfl : m = 44 := by omega
                exact t_r44 n
          · by_cases c : m < 47
            · by_cases c : m < 46
              · obtain rfl : m = 45 := by omega
                exact t_r45 n
              · obtain rfl : m = 46 := by omega
                exact t_r46 n
            · by_cases c : m < 48
              · obtain rfl : m = 47 := by omega
                exact t_r47 n
              · obtain rfl : m = 48 := by omega
                exact t_r48 n
        · by_cases c : m < 53
          · by_cases c : m < 51
            · by_cases c : m < 50
              · obtain rfl : m = 49 := by omega
                exact t_r49 n
              · obtain rfl : m = 50 := by omega
                exact t_r50 n
            · by_cases c : m < 52
              · obtain rfl : m = 51 := by omega
                exact t_r51 n
              · obtain rfl : m = 52 := by omega
                exact t_r52 n
          · by_cases c : m < 55
            · by_cases c : m < 54
              · obtain rfl : m = 53 := by omega
                exact t_r53 n
              · obtain rfl : m = 54 := by omega
                exact t_r54 n
            · by_cases c : m < 56
              · obtain rfl : m = 55 := by omega
                exact t_r55 n
              · obtain rfl : m = 56 := by omega
                exact t_r56 n
  · by_cases c : m < 85
    · by_cases c : m < 71
      · by_cases c : m < 64
        · by_cases c : m < 60
          · by_cases c : m < 58
            · obtain rfl : m = 57 := by omega
              exact t_r57 n
            · by_cases c : m < 59
              · obtain rfl : m = 58 := by omega
                exact t_r58 n
              · obtain rfl : m = 59 := by omega
                exact t_r59 n
          · by_cases c : m < 62
            · by_cases c : m < 61
              · obtain rfl : m = 60 := by omega
                exact t_r60 n
              · obtain rfl : m = 61 := by omega
                exact t_r61 n
            · by_cases c : m < 63
              · obtain rfl : m = 62 := by omega
                exact t_r62 n
              · obtain rfl : m = 63 := by omega
                exact t_r63 n
        · by_cases c : m < 67
          · by_cases c : m < 65
            · obtain rfl : m = 64 := by omega
              exact t_r64 n
            · by_cases c : m < 66
              · obtain rfl : m = 65 := by omega
                exact t_r65 n
              · obtain rfl : m = 66 := by omega
                exact t_r66 n
          · by_cases c : m < 69
            · by_cases c : m < 68
              · obtain rfl : m = 67 := by omega
                exact t_r67 n
              · obtain rfl : m = 68 := by omega
                exact t_r68 n
            · by_cases c : m < 70
              · obtain rfl : m = 69 := by omega
                exact t_r69 n
              · obtain rfl : m = 70 := by omega
                exact t_r70 n
      · by_cases c : m < 78
        · by_cases c : m < 74
          · by_cases c : m < 72
            · obtain rfl : m = 71 := by omega
              exact t_r71 n
            · by_cases c : m < 73
              · obtain rfl : m = 72 := by omega
                exact t_r72 n
              · obtain rfl : m = 73 := by omega
                exact t_r73 n
          · by_cases c : m < 76
            · by_cases c : m < 75
              · obtain rfl : m = 74 := by omega
                exact t_r74 n
              · obtain rfl : m = 75 := by omega
                exact t_r75 n
            · by_cases c : m < 77
              · obtain rfl : m = 76 := by omega
                exact t_r76 n
              · obtain rfl : m = 77 := by omega
                exact t_r77 n
        · by_cases c : m < 81
          · by_cases c : m < 79
            · obtain rfl : m = 78 := by omega
              exact t_r78 n
            · by_cases c : m < 80
              · obtain rfl : m = 79 := by omega
                exact t_r79 n
              · obtain rfl : m = 80 := by omega
                exact t_r80 n
          · by_cases c : m < 83
            · by_cases c : m < 82
              · obtain rfl : m = 81 := by omega
                exact t_r81 n
              · obtain rfl : m = 82 := by omega
                exact t_r82 n
            · by_cases c : m < 84
              · obtain rfl : m = 83 := by omega
                exact t_r83 n
              · obtain rfl : m = 84 := by omega
                exact t_r84 n
    · by_cases c : m < 99
      · by_cases c : m < 92
        · by_cases c : m < 88
          · by_cases c : m < 86
            · obtain rfl : m = 85 := by omega
              exact t_r85 n
            · by_cases c : m < 87
              · obtain rfl : m = 86 := by omega
                exact t_r86 n
              · obtain rfl : m = 87 := by omega
                exact t_r87 n
          · by_cases c : m < 90
            · by_cases c : m < 89
              · obtain rfl : m = 88 := by omega
                exact t_r88 n
              · obtain rfl : m = 89 := by omega
                exact t_r89 n
            · by_cases c : m < 91
              · obtain rfl : m = 90 := by omega
                exact t_r90 n
              · obtain rfl : m = 91 := by omega
                exact t_r91 n
        · by_cases c : m < 95
          · by_cases c : m < 93
            · obtain rfl : m = 92 := by omega
              exact t_r92 n
            · by_cases c : m < 94
              · obtain rfl : m = 93 := by omega
                exact t_r93 n
              · obtain rfl : m = 94 := by omega
                exact t_r94 n
          · by_cases c : m < 97
            · by_cases c : m < 96
              · obtain rfl : m = 95 := by omega
                exact t_r95 n
              · obtain rfl : m = 96 := by omega
                exact t_r96 n
            · by_cases c : m < 98
              · obtain rfl : m = 97 := by omega
                exact t_r97 n
              · obtain rfl : m = 98 := by omega
                exact t_r98 n
      · by_cases c : m < 106
        · by_cases c : m < 102
          · by_cases c : m < 100
            · obtain rfl : m = 99 := by omega
              exact t_r99 n
            · by_cases c : m < 101
              · obtain rfl : m = 100 := by omega
                exact t_r100 n
              · obtain rfl : m = 101 := by omega
                exact t_r101 n
          · by_cases c : m < 104
            · by_cases c : m < 103
              · obtain rfl : m = 102 := by omega
                exact t_r102 n
              · obtain rfl : m = 103 := by omega
                exact t_r103 n
            · by_cases c : m < 105
              · obtain rfl : m = 104 := by omega
                exact t_r104 n
              · obtain rfl : m = 105 := by omega
                exact t_r105 n
        · by_cases c : m < 110
          · by_cases c : m < 108
            · by_cases c : m < 107
              · obtain rfl : m = 106 := by omega
                exact t_r106 n
              · obtain rfl : m = 107 := by omega
                exact t_r107 n
            · by_cases c : m < 109
              · obtain rfl : m = 108 := by omega
                exact t_r108 n
              · obtain rfl : m = 109 := by omega
                exact t_r109 n
          · by_cases c : m < 112
            · by_cases c : m < 111
              · obtain rfl : m = 110 := by omega
                exact t_r110 n
              · obtain rfl : m = 111 := by omega
                exact t_r111 n
            · by_cases c : m < 113
              · obtain rfl : m = 112 := by omega
                exact t_r112 n
              · obtain rfl : m = 113 := by omega
                exact t_r113 n
theorem t_run (n : Int) : appW (runW ftW 4001 3) [.int .i64 n] [] = some (.ret (.bool true), []) := by
  obtain ⟨m, m1, m2, hm⟩ := t_num n
  rw [runW_succ (n := 4000) t_look]
  exact (t_pre n).trans ((congrArg (fun o => Abs.bind o _ _) hm).trans ((bind_ret _ _ _ _).trans (t_runs n m m1 m2)))
/-- The law's contract. -/
theorem preludeText_contract (n : Int) (_ : (Lit.int .i64 n).wf = true) : CM Tryz.prog GG 3 [.int .i64 n] [] (.ret (.bool true)) [] := by
  have h := runW_ok ftW_ok 4001 3 _ _ _ _ (t_run n) rfl
  simp only [List.map_cons, List.map_nil, toD, resD] at h
  exact h
end
end Go.Proofs.YtdkfnkilkndmgaaGreatDoor
