/- Nine and ten, joined. -/
import Derived.Test.YtpjpeojfddbdoaaGreatDoorCYNB1
import Derived.Test.YtpjpeojfddbdoaaGreatDoorCYNB2
import Derived.Test.YtpjpeojfddbdoaaGreatDoorCYNB3
import Derived.Test.YtpjpeojfddbdoaaGreatDoorCYNB4
namespace Go.Proofs.YtpjpeojfddbdoaaGreatDoor
open Go.Abs
theorem h12_10f : RW 12 [(.slice wt29 32 0 29 .no), .slice .nil 0 0 0 .no, .a o10f 7] [] = some (.ret (.tuple [.a tw10 11, .int .i64 0]), []) := (congrFun (congrFun RW12 _) _).trans ((t12_a10f RW1).trans ((congrArg (fun o => Abs.bind o _ _) h27_10f).trans ((t12_b10f RW1).trans ((congrArg (fun o => Abs.bind o _ _) h28_10).trans t12_c))))
theorem h12_10t : RW 12 [(.slice wt29 32 0 29 .no), .slice .nil 0 0 0 .no, .a o10t 7] [] = some (.ret (.tuple [.a tw10 11, .int .i64 0]), []) := (congrFun (congrFun RW12 _) _).trans ((t12_a10t RW1).trans ((congrArg (fun o => Abs.bind o _ _) h27_10t).trans ((t12_b10t RW1).trans ((congrArg (fun o => Abs.bind o _ _) h28_10).trans t12_c))))
theorem h13_10f : RW 13 [(.slice wt29 32 0 29 .no), .slice .nil 0 0 0 .no, .a o10f 7] [] = some (.ret (.tuple [.a tw10 11, .int .i64 0]), []) := (congrFun (congrFun RW13 _) _).trans ((t13_a10f RW1).trans ((congrArg (fun o => Abs.bind o _ _) h29_10f).trans ((t13_b10f RW1).trans ((congrArg (fun o => Abs.bind o _ _) h30_10).trans t13_c))))
theorem h13_10t : RW 13 [(.slice wt29 32 0 29 .no), .slice .nil 0 0 0 .no, .a o10t 7] [] = some (.ret (.tuple [.a tw10 11, .int .i64 0]), []) := (congrFun (congrFun RW13 _) _).trans ((t13_a10t RW1).trans ((congrArg (fun o => Abs.bind o _ _) h29_10t).trans ((t13_b10t RW1).trans ((congrArg (fun o => Abs.bind o _ _) h30_10).trans t13_c))))
theorem nst_9_f : nstK RW false (.int .i64 9) [] = some (.ret (.bool true), []) := by
  have h := (nc_a9f (RW 12) (RW 13) (RW 14)).trans ((congrArg (fun o => Abs.bind o _ _) h12_9f).trans ((nc_b9f (RW 12) (RW 13) (RW 14)).trans ((congrArg (fun o => Abs.bind o _ _) h13_9f).trans ((nc_c9f (RW 14)).trans ((congrArg (fun o => Abs.bind o _ _) h14_9).trans nc_d9f)))))
  rw [fnA_eq] at h
  exact h
theorem nst_9_t : nstK RW true (.int .i64 9) [] = some (.ret (.bool true), []) := by
  have h := (nc_a9t (RW 12) (RW 13) (RW 14)).trans ((congrArg (fun o => Abs.bind o _ _) h12_9t).trans ((nc_b9t (RW 12) (RW 13) (RW 14)).trans ((congrArg (fun o => Abs.bind o _ _) h13_9t).trans ((nc_c9t (RW 14)).trans ((congrArg (fun o => Abs.bind o _ _) h14_9).trans nc_d9t)))))
  rw [fnA_eq] at h
  exact h
theorem nst_10_f : nstK RW false (.int .i64 10) [] = some (.ret (.bool true), []) := by
  have h := (nc_a10f (RW 12) (RW 13) (RW 14)).trans ((congrArg (fun o => Abs.bind o _ _) h12_10f).trans ((nc_b10f (RW 12) (RW 13) (RW 14)).trans ((congrArg (fun o => Abs.bind o _ _) h13_10f).trans ((nc_c10f (RW 14)).trans ((congrArg (fun o => Abs.bind o _ _) h14_10).trans nc_d10f)))))
  rw [fnA_eq] at h
  exact h
theorem nst_10_t : nstK RW true (.int .i64 10) [] = some (.ret (.bool true), []) := by
  have h := (nc_a10t (RW 12) (RW 13) (RW 14)).trans ((congrArg (fun o => Abs.bind o _ _) h12_10t).trans ((nc_b10t (RW 12) (RW 13) (RW 14)).trans ((congrArg (fun o => Abs.bind o _ _) h13_10t).trans ((nc_c10t (RW 14)).trans ((congrArg (fun o => Abs.bind o _ _) h14_10).trans nc_d10t)))))
  rw [fnA_eq] at h
  exact h
end Go.Proofs.YtpjpeojfddbdoaaGreatDoor
