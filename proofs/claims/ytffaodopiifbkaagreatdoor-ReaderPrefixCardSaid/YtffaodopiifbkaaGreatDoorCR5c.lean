/- The reference's objects: what is formed, lists. -/
import Derived.Test.YtffaodopiifbkaaGreatDoorCR5b
set_option linter.all false
namespace Go.Proofs.YtffaodopiifbkaaGreatDoor
open Go.Abs LQ
set_option maxRecDepth 100000
set_option maxHeartbeats 4000000
noncomputable section
theorem pkg_in {s : Str} {i : Nat} (h : i < s.length) (hb : pkgByte (bt s i) = true) : pkgFrom s i = pkgFrom s (i + 1) := by rw [pkgFrom, if_pos h, if_pos hb]
theorem pkg_out {s : Str} {i : Nat} (h : i < s.length) (hb : ¬ pkgByte (bt s i) = true) : pkgFrom s i = false := by rw [pkgFrom, if_pos h, if_neg hb]
theorem pkg_end {s : Str} {i : Nat} (h : ¬ i < s.length) : pkgFrom s i = true := by rw [pkgFrom, if_neg h]
theorem pb_t {c : Int} : pkgByte c = true ↔ (97 ≤ c ∧ c ≤ 122) ∨ (48 ≤ c ∧ c ≤ 57) ∨ c = 45 := by simp [pkgByte]
def named (s : Sy) : Bool := validPkg s.1 && decide (1 ≤ s.2.length ∧ s.2.length ≤ 40)
def spSy' (g : Sy → GV) : Sp where
 ι := { s : Sy // s.1.length < 90000 ∧ s.2.length < 90000 }
 A s := [.a (sg s.1)]
 B _ := []
 R s := .ret (g s.1)
 B' _ := []
 inj i j vs bs h k _ _ := by
  obtain ⟨_, _, h1, k1, h, k⟩ := h.two k
  rw [sg_inj (h1.a_inj k1)]; exact ⟨rfl, rfl⟩
end
end Go.Proofs.YtffaodopiifbkaaGreatDoor
