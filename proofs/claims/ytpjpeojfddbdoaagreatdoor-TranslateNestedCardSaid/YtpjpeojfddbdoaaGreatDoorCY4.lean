/- Each entry is what the reference makes of its definition. -/
import Derived.Test.YtpjpeojfddbdoaaGreatDoorCY3
namespace Go.Proofs.YtpjpeojfddbdoaaGreatDoor
open Go.Abs
set_option maxRecDepth 100000
theorem ent0 : RL 23 [.slice wt0 32 0 0 .no, .a (tQ (slT D70) 0) 7] [] = some (.ret ev0, []) := by kernel_rfl
theorem ent1 : RL 23 [.slice wt1 32 0 1 .no, .a (tQ (slT D70) 1) 7] [] = some (.ret ev1, []) := by kernel_rfl
theorem ent2 : RL 23 [.slice wt2 32 0 2 .no, .a (tQ (slT D70) 2) 7] [] = some (.ret ev2, []) := by kernel_rfl
theorem ent3 : RL 23 [.slice wt3 32 0 3 .no, .a (tQ (slT D70) 3) 7] [] = some (.ret ev3, []) := by kernel_rfl
theorem ent4 : RL 23 [.slice wt4 32 0 4 .no, .a (tQ (slT D70) 4) 7] [] = some (.ret ev4, []) := by kernel_rfl
theorem ent5 : RL 23 [.slice wt5 32 0 5 .no, .a (tQ (slT D70) 5) 7] [] = some (.ret ev5, []) := by kernel_rfl
theorem ent6 : RL 23 [.slice wt6 32 0 6 .no, .a (tQ (slT D70) 6) 7] [] = some (.ret ev6, []) := by kernel_rfl
theorem ent7 : RL 23 [.slice wt7 32 0 7 .no, .a (tQ (slT D70) 7) 7] [] = some (.ret ev7, []) := by kernel_rfl
theorem ent8 : RL 23 [.slice wt8 32 0 8 .no, .a (tQ (slT D70) 8) 7] [] = some (.ret ev8, []) := by kernel_rfl
theorem ent9 : RL 23 [.slice wt9 32 0 9 .no, .a (tQ (slT D70) 9) 7] [] = some (.ret ev9, []) := by kernel_rfl
theorem ent10 : RL 23 [.slice wt10 32 0 10 .no, .a (tQ (slT D70) 10) 7] [] = some (.ret ev10, []) := by kernel_rfl
theorem ent11 : RL 23 [.slice wt11 32 0 11 .no, .a (tQ (slT D70) 11) 7] [] = some (.ret ev11, []) := by kernel_rfl
theorem ent12 : RL 23 [.slice wt12 32 0 12 .no, .a (tQ (slT D70) 12) 7] [] = some (.ret ev12, []) := by kernel_rfl
theorem ent13 : RL 23 [.slice wt13 32 0 13 .no, .a (tQ (slT D70) 13) 7] [] = some (.ret ev13, []) := by kernel_rfl
theorem ent14 : RL 23 [.slice wt14 32 0 14 .no, .a (tQ (slT D70) 14) 7] [] = some (.ret ev14, []) := by kernel_rfl
theorem ent15 : RL 23 [.slice wt15 32 0 15 .no, .a (tQ (slT D70) 15) 7] [] = some (.ret ev15, []) := by kernel_rfl
theorem ent16 : RL 23 [.slice wt16 32 0 16 .no, .a (tQ (slT D70) 16) 7] [] = some (.ret ev16, []) := by kernel_rfl
theorem ent17 : RL 23 [.slice wt17 32 0 17 .no, .a (tQ (slT D70) 17) 7] [] = some (.ret ev17, []) := by kernel_rfl
theorem ent18 : RL 23 [.slice wt18 32 0 18 .no, .a (tQ (slT D70) 18) 7] [] = some (.ret ev18, []) := by kernel_rfl
theorem ent19 : RL 23 [.slice wt19 32 0 19 .no, .a (tQ (slT D70) 19) 7] [] = some (.ret ev19, []) := by kernel_rfl
theorem ent20 : RL 23 [.slice wt20 32 0 20 .no, .a (tQ (slT D70) 20) 7] [] = some (.ret ev20, []) := by kernel_rfl
theorem ent21 : RL 23 [.slice wt21 32 0 21 .no, .a (tQ (slT D70) 21) 7] [] = some (.ret ev21, []) := by kernel_rfl
theorem ent22 : RL 23 [.slice wt22 32 0 22 .no, .a (tQ (slT D70) 22) 7] [] = some (.ret ev22, []) := by kernel_rfl
theorem ent23 : RL 23 [.slice wt23 32 0 23 .no, .a (tQ (slT D70) 23) 7] [] = some (.ret ev23, []) := by kernel_rfl
theorem ent24 : RL 23 [.slice wt24 32 0 24 .no, .a (tQ (slT D70) 24) 7] [] = some (.ret ev24, []) := by kernel_rfl
theorem ent25 : RL 23 [.slice wt25 32 0 25 .no, .a (tQ (slT D70) 25) 7] [] = some (.ret ev25, []) := by kernel_rfl
theorem ent26 : RL 23 [.slice wt26 32 0 26 .no, .a (tQ (slT D70) 26) 7] [] = some (.ret ev26, []) := by kernel_rfl
theorem ent27 : RL 23 [.slice wt27 32 0 27 .no, .a (tQ (slT D70) 27) 7] [] = some (.ret ev27, []) := by kernel_rfl
end Go.Proofs.YtpjpeojfddbdoaaGreatDoor
