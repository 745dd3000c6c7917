/- What the definitions of the prelude are, read by the program and by the reference. -/
import Derived.Test.YtccafnaghnbpeaaGreatDoorCLT
set_option linter.all false
namespace Go.Proofs.YtccafnaghnbpeaaGreatDoor
open Go.Abs
set_option maxRecDepth 100000
set_option maxHeartbeats 4000000
def uL : Q := .str 4 1886611820
def uE : Q := .str 0 0
def uZ : Q := .slice .nil 0 0 0
def uO : Q := .int .i64 0
def uX : Q := .str 1 120
def dPk0 (x0 x1 : Q) : Q := (.agg [(.int .i64 2), uE, uE, x0, x1, uE, uZ] 0)
def dPq1 : Q := (dPk0 uL (.str 5 474416047460))
def dPq2 : Q := (dPk0 uL (.str 3 7630702))
def dPq3 : Q := (dPk0 uL (.str 2 26217))
def dPq4 : Q := (dPk0 uL (.str 1 112))
def dPq5 : Q := (dPk0 uL (.str 3 7104878))
def dPq6 : Q := (dPk0 uL (.str 1 116))
def dPk1 (x0 x1 : Q) : Q := (.agg [(.int .i64 4), uE, uE, uE, uE, uE, (.slice (.node x0 (.node x1 .nil .nil) .nil) 7 0 2)] 0)
def dPq8 : Q := (dPk1 dPq6 dPq5)
def dPq9 : Q := (dPk1 dPq5 dPq8)
def dPq14 : Q := (dPk0 uL (.str 1 113))
def dPq15 : Q := (dPk1 dPq5 dPq5)
def dPq18 : Q := (dPk1 dPq3 (dPk1 dPq14 (dPk1 dPq6 dPq15)))
def dPq23 : Q := (dPk1 dPq4 (dPk1 dPq14 dPq5))
def dPq25 : Q := (dPk0 uL (.str 5 465491554661))
def dPq26 : Q := (dPk0 uL uX)
def dPq31 : Q := (dPk1 (dPk1 dPq25 (dPk1 dPq26 dPq15)) dPq5)
def dPq35 : Q := (dPk1 dPq26 dPq5)
def dPk2 (x0 x1 : Q) : Q := (.agg [(.int .i64 1), x0, x1, uE, uE, uE, uZ] 0)
def dPq40 : Q := (dPk2 (.str 1 48) (.str 1 49))
def dPq41 : Q := (dPk1 dPq40 dPq5)
def dPq42 : Q := (dPk1 dPq26 dPq41)
def dPq45 : Q := (dPk0 uL (.str 16 154763657438445722016110534213293714799))
def dPq46 : Q := (dPk0 uL (.str 5 482972954467))
def dPq47 : Q := (dPk1 dPq46 dPq35)
def dPq48 : Q := (dPk0 uL (.str 3 7496035))
def dPq49 : Q := (dPk1 dPq48 dPq35)
def dPq50 : Q := (dPk1 dPq49 dPq5)
def dPq55 : Q := (dPk0 uL (.str 3 7759218))
def dPq56 : Q := (dPk0 uL (.str 7 28554821420279149))
def dPq57 : Q := (dPk0 uL (.str 5 500069396323))
def dPq60 : Q := (dPk1 dPq56 (dPk1 (dPk1 dPq57 dPq35) dPq5))
def dPq62 : Q := (dPk0 uL (.str 3 7496803))
def dPq63 : Q := (dPk1 dPq62 dPq35)
def dPq64 : Q := (dPk1 dPq63 dPq5)
def dPq74 : Q := (dPk0 uL (.str 4 2020173422))
def dPq75 : Q := (dPk0 uL (.str 4 1886675310))
def dPq76 : Q := (dPk1 dPq75 dPq35)
def dPq79 : Q := (dPk0 uL (.str 3 7351663))
def dPq80 : Q := (dPk0 uL (.str 6 123619517017455))
def dPq81 : Q := (dPk1 dPq80 dPq35)
def dPq82 : Q := (dPk0 uL (.str 3 6581857))
def dPq84 : Q := (dPk1 dPq45 dPq35)
def dPq85 : Q := (dPk1 dPq84 dPq5)
def dPq91 : Q := (dPk0 uL (.str 4 1886613360))
def dPq92 : Q := (dPk0 uL (.str 19 2596503303086219638716254741629954753688907119))
def dPq93 : Q := (dPk1 dPq92 dPq35)
def dPq96 : Q := (dPk0 uL (.str 6 128038972042607))
def dPq97 : Q := (dPk1 dPq96 dPq35)
def dPq98 : Q := (dPk1 dPq97 dPq5)
def dPq100 : Q := (dPk0 uL (.str 2 15471))
def dPq115 : Q := (dPk0 uL (.str 10 493273875644262058848373))
def dPq116 : Q := (dPk0 uL (.str 5 431415719271))
def dPq117 : Q := (dPk0 uL (.str 1 110))
def dPq118 : Q := (dPk1 dPq117 dPq5)
def dPq120 : Q := (dPk0 uL (.str 10 531053184691079719776884))
def dPq122 : Q := (dPk1 (dPk1 dPq120 dPq35) dPq5)
def dPq126 : Q := (dPk1 dPq116 (dPk1 (dPk1 dPq82 (dPk1 (dPk1 dPq75 dPq118) dPq122)) dPq5))
def dPq127 : Q := (dPk0 uL (.str 2 28794))
def dPq128 : Q := (dPk1 dPq127 dPq118)
def dPq129 : Q := (dPk0 uL (.str 4 1936617315))
def dPq130 : Q := (dPk0 uL (.str 1 118))
def dPq131 : Q := (dPk1 dPq130 dPq64)
def dPq133 : Q := (dPk0 uL (.str 1 43))
def dPq136 : Q := (dPk1 dPq133 (dPk1 (dPk2 (.str 2 12589) (.str 1 49)) dPq118))
def dPq150 : Q := (dPk1 dPq56 (dPk1 (dPk1 dPq74 dPq118) dPq5))
def dPq153 : Q := (dPk1 dPq2 (dPk1 dPq47 dPq5))
def dPq155 : Q := (dPk1 (dPk0 uL (.str 8 8102650174351109737)) dPq35)
def dPq156 : Q := (dPk0 uL (.str 1 60))
def dPq166 : Q := (dPk0 uL (.str 11 131024224507261934500016993))
def dPq168 : Q := (dPk1 (dPk0 uL (.str 1 97)) dPq5)
def dPq172 : Q := (dPk0 uL (.str 1 107))
def dPq174 : Q := (dPk0 uL (.str 4 1684959075))
def dPq180 : Q := (dPk1 (dPk1 dPq48 dPq168) dPq5)
def dPq200 : Q := (dPk2 (.str 1 49) (.str 1 49))
def dPq229 : Q := (dPk0 uL (.str 12 33542201473859071681443489133))
def dPq230 : Q := (dPk1 dPq116 dPq122)
def dPq231 : Q := (dPk0 uL (.str 1 101))
def dPq247 : Q := (dPk1 dPq156 (dPk1 dPq40 dPq35))
def dPq253 : Q := (dPk0 uL (.str 3 7234924))
def dPq271 : Q := (dPk1 (dPk0 uL (.str 1 121)) dPq5)
def dPq272 : Q := (dPk1 dPq26 dPq271)
def dPq285 : Q := (dPk1 dPq84 (dPk1 (dPk1 dPq45 dPq271) dPq5))
def dPq294 : Q := (dPk1 dPq93 (dPk1 (dPk1 dPq92 dPq271) dPq5))
def dPq313 : Q := (dPk0 uL (.str 3 6845550))
def dPq321 : Q := (dPk0 uL (.str 13 7956982234992646598644298836322))
def DP : V := (.slice (.node (.slice (.node dPq1 (.node dPq2 (.node (dPk1 dPq3 (dPk1 dPq4 dPq9)) .nil .nil) .nil) (.node (dPk1 dPq4 dPq5) .nil .nil)) 7 1 3) (.node (.slice (.node dPq1 (.node (dPk0 uL (.str 7 32481125787004265)) (.node (dPk1 dPq3 (dPk1 dPq4 (dPk1 dPq18 dPq8))) .nil .nil) .nil) (.node dPq23 .nil .nil)) 7 1 3) (.node (.slice (.node dPq1 (.node (dPk0 uL (.str 8 8101519867924934498)) (.node (dPk1 dPq3 (dPk1 (dPk1 dPq25 (dPk1 dPq26 dPq8)) (dPk1 dPq6 dPq31))) .nil .nil) .nil) (.node dPq35 .nil .nil)) 7 1 3) (.node (.slice (.node dPq1 (.node (dPk0 uL (.str 3 7891302)) (.node (dPk1 dPq3 (dPk1 (dPk1 (dPk0 uL (.str 9 2073844980909096591730)) dPq35) dPq42)) .nil .nil) .nil) (.node dPq35 .nil .nil)) 7 1 3) (.node (.slice (.node dPq1 (.node dPq45 (.node (dPk1 dPq3 (dPk1 dPq47 (dPk1 (dPk1 dPq48 dPq50) dPq41))) .nil .nil) .nil) (.node dPq35 .nil .nil)) 7 1 3) .nil .nil) (.node (.slice (.node dPq1 (.node dPq55 (.node dPq60 .nil .nil) .nil) (.node dPq35 (.node (dPk1 dPq3 (dPk1 dPq47 (dPk1 (dPk1 (dPk0 uL (.str 6 110425311047777)) (dPk1 (dPk1 dPq55 dPq64) (dPk1 (dPk1 (dPk0 uL (.str 4 1953720684)) dPq50) dPq5))) dPq15))) .nil .nil) .nil)) 7 1 4) .nil .nil)) (.node (.slice (.node dPq1 (.node dPq74 (.node (dPk1 dPq3 (dPk1 dPq76 dPq42)) .nil .nil) .nil) (.node dPq35 .nil .nil)) 7 1 3) (.node (.slice (.node dPq1 (.node dPq79 (.node dPq60 .nil .nil) .nil) (.node dPq35 (.node (dPk1 dPq3 (dPk1 dPq81 (dPk1 dPq76 (dPk1 (dPk1 dPq82 (dPk1 (dPk1 dPq46 dPq50) (dPk1 (dPk1 dPq79 dPq85) (dPk1 (dPk1 dPq2 (dPk1 (dPk1 dPq25 (dPk1 dPq84 dPq41)) dPq5)) (dPk1 (dPk1 dPq91 (dPk1 dPq93 dPq5)) (dPk1 (dPk1 dPq79 dPq98) (dPk1 (dPk1 dPq100 (dPk1 (dPk1 dPq45 dPq98) dPq85)) dPq5))))))) dPq5)))) .nil .nil) .nil)) 7 1 4) .nil .nil) (.node (.slice (.node dPq1 (.node dPq115 (.node dPq126 .nil .nil) (.node (dPk1 dPq3 (dPk1 dPq128 (dPk1 (dPk1 dPq129 dPq131) (dPk1 (dPk1 dPq129 (dPk1 dPq49 (dPk1 (dPk1 dPq115 (dPk1 dPq136 dPq131)) dPq5))) dPq5)))) .nil .nil)) (.node (dPk1 dPq117 (dPk1 dPq130 dPq35)) (.node dPq150 .nil .nil) .nil)) 7 1 5) .nil .nil))) (.node (.slice (.node dPq1 (.node (dPk0 uL (.str 4 1836020833)) (.node dPq153 .nil .nil) .nil) (.node dPq35 .nil .nil)) 7 1 3) (.node (.slice (.node dPq1 (.node dPq75 (.node (dPk1 dPq3 (dPk1 dPq155 (dPk1 (dPk1 dPq2 (dPk1 (dPk1 dPq156 dPq42) dPq5)) dPq15))) .nil .nil) .nil) (.node dPq35 .nil .nil)) 7 1 3) (.node (.slice (.node dPq1 (.node dPq96 (.node (dPk1 dPq3 (dPk1 dPq47 (dPk1 dPq63 dPq41))) .nil .nil) .nil) (.node dPq35 .nil .nil)) 7 1 3) .nil .nil) (.node (.slice (.node dPq1 (.node dPq166 (.node (dPk1 dPq56 (dPk1 (dPk1 dPq57 dPq168) dPq5)) .nil .nil) .nil) (.node (dPk1 dPq172 dPq168) (.node (dPk1 dPq174 (dPk1 (dPk1 (dPk1 dPq2 (dPk1 (dPk1 dPq46 dPq168) dPq5)) dPq15) (dPk1 (dPk1 (dPk1 dPq82 (dPk1 (dPk1 dPq46 dPq180) (dPk1 (dPk1 dPq25 (dPk1 dPq172 (dPk1 (dPk1 dPq48 dPq180) dPq5))) dPq5))) dPq180) (dPk1 (dPk1 dPq6 (dPk1 (dPk1 dPq166 (dPk1 dPq172 (dPk1 (dPk1 dPq62 dPq168) dPq5))) dPq5)) dPq5)))) .nil .nil) .nil)) 7 1 4) .nil .nil)) (.node (.slice (.node dPq1 (.node dPq57 (.node dPq60 .nil .nil) .nil) (.node dPq35 (.node (dPk1 dPq3 (dPk1 dPq47 (dPk1 (dPk1 dPq133 (dPk1 dPq200 (dPk1 (dPk1 dPq57 dPq50) (dPk1 (dPk1 dPq57 dPq64) dPq5)))) dPq41))) .nil .nil) .nil)) 7 1 4) (.node (.slice (.node dPq1 (.node dPq120 (.node dPq60 .nil .nil) .nil) (.node dPq35 (.node (dPk1 dPq3 (dPk1 dPq47 (dPk1 (dPk1 dPq120 dPq64) dPq31))) .nil .nil) .nil)) 7 1 4) .nil .nil) .nil))) (.node (.slice (.node dPq1 (.node (dPk0 uL (.str 3 6710889)) (.node (dPk1 dPq3 (dPk1 dPq4 (dPk1 dPq18 (dPk1 (dPk1 dPq3 (dPk1 dPq14 dPq9)) dPq5)))) .nil .nil) .nil) (.node dPq23 .nil .nil)) 7 1 3) (.node (.slice (.node dPq1 (.node (dPk0 uL (.str 7 31657557352151411)) (.node dPq6 .nil .nil) .nil) (.node dPq35 .nil .nil)) 7 1 3) (.node (.slice (.node dPq1 (.node (dPk0 uL (.str 4 2020173417)) (.node (dPk1 dPq3 (dPk1 dPq155 dPq42)) .nil .nil) .nil) (.node dPq35 .nil .nil)) 7 1 3) (.node (.slice (.node dPq1 (.node dPq92 (.node (dPk1 dPq3 (dPk1 dPq47 (dPk1 (dPk1 dPq62 dPq50) dPq35))) .nil .nil) .nil) (.node dPq35 .nil .nil)) 7 1 3) .nil .nil) (.node (.slice (.node dPq1 (.node dPq229 (.node dPq230 .nil .nil) (.node (dPk1 dPq3 (dPk1 dPq47 (dPk1 (dPk1 dPq3 (dPk1 (dPk1 dPq25 (dPk1 dPq231 dPq50)) (dPk1 dPq26 (dPk1 (dPk1 dPq229 (dPk1 dPq231 dPq64)) dPq5)))) dPq15))) .nil .nil)) (.node (dPk1 dPq231 dPq35) (.node dPq60 .nil .nil) .nil)) 7 1 5) .nil .nil)) (.node (.slice (.node dPq1 (.node dPq127 (.node (dPk1 dPq116 (dPk1 dPq76 dPq5)) .nil .nil) .nil) (.node dPq35 (.node (dPk1 dPq3 (dPk1 dPq155 (dPk1 (dPk1 dPq2 (dPk1 dPq247 dPq5)) dPq8))) .nil .nil) .nil)) 7 1 4) (.node (.slice (.node dPq1 (.node dPq253 (.node dPq60 .nil .nil) .nil) (.node dPq35 (.node (dPk1 dPq3 (dPk1 dPq47 (dPk1 (dPk1 dPq133 (dPk1 dPq200 (dPk1 (dPk1 dPq253 dPq64) dPq5))) dPq41))) .nil .nil) .nil)) 7 1 4) .nil .nil) .nil)) (.node (.slice (.node dPq1 (.node (dPk0 uL (.str 4 1885630053)) (.node (dPk1 dPq116 (dPk1 (dPk1 (dPk0 uL (.str 2 29295)) (dPk1 dPq47 dPq31)) dPq5)) .nil .nil) .nil) (.node dPq35 (.node dPq153 .nil .nil) .nil)) 7 1 4) (.node (.slice (.node dPq1 (.node dPq91 (.node (dPk1 dPq3 (dPk1 dPq155 (dPk1 dPq247 dPq15))) .nil .nil) .nil) (.node dPq35 .nil .nil)) 7 1 3) (.node (.slice (.node dPq1 (.node dPq100 (.node dPq60 .nil .nil) .nil) (.node dPq272 (.node (dPk1 dPq174 (dPk1 (dPk1 dPq81 (dPk1 (dPk1 dPq3 (dPk1 (dPk1 dPq46 dPq271) (dPk1 dPq6 (dPk1 (dPk1 dPq156 dPq272) dPq5)))) dPq5)) (dPk1 (dPk1 (dPk1 dPq80 dPq271) dPq15) (dPk1 (dPk1 (dPk1 dPq2 (dPk1 (dPk1 dPq25 dPq285) dPq5)) (dPk1 (dPk1 dPq100 dPq285) dPq5)) (dPk1 (dPk1 (dPk1 dPq2 (dPk1 (dPk1 dPq25 dPq294) dPq5)) (dPk1 (dPk1 dPq156 dPq294) dPq5)) (dPk1 (dPk1 dPq6 (dPk1 (dPk1 dPq100 (dPk1 dPq97 (dPk1 (dPk1 dPq96 dPq271) dPq5))) dPq5)) dPq5)))))) .nil .nil) .nil)) 7 1 4) .nil .nil) (.node (.slice (.node dPq1 (.node dPq313 (.node dPq126 .nil .nil) (.node (dPk1 dPq3 (dPk1 dPq128 (dPk1 dPq49 (dPk1 (dPk1 dPq313 (dPk1 dPq136 dPq64)) dPq5)))) .nil .nil)) (.node (dPk1 dPq117 dPq35) (.node dPq150 .nil .nil) .nil)) 7 1 5) .nil .nil)) (.node (.slice (.node dPq1 (.node dPq80 (.node dPq153 .nil .nil) .nil) (.node dPq35 .nil .nil)) 7 1 3) (.node (.slice (.node dPq1 (.node dPq321 (.node dPq230 .nil .nil) (.node (dPk1 dPq3 (dPk1 dPq47 (dPk1 (dPk1 dPq129 (dPk1 dPq49 (dPk1 (dPk1 dPq321 (dPk1 dPq63 dPq271)) dPq5))) dPq271))) .nil .nil)) (.node dPq272 (.node dPq60 .nil .nil) .nil)) 7 1 5) .nil .nil) .nil)))) 1 0 28 .no)
def slT : V → TQ
 | .slice t _ _ _ _ => t
 | _ => .nil
end Go.Proofs.YtccafnaghnbpeaaGreatDoor
namespace Go.Proofs.YtccafnaghnbpeaaGreatDoor
open Go.Abs
set_option maxRecDepth 100000
set_option maxHeartbeats 4000000
theorem dP_eq : RL 30 [] [] = some (.ret DP, []) := by kernel_rfl
end Go.Proofs.YtccafnaghnbpeaaGreatDoor
namespace Go.Proofs.YtccafnaghnbpeaaGreatDoor
open Go.Abs
set_option maxRecDepth 100000
set_option maxHeartbeats 4000000
noncomputable section
def ft1 : FTab := (30, fun _ => litF (.ret DP, [])) :: ftU
theorem ft1_ok : ∀ g F, (g, F) ∈ ft1 → ∀ fn, (∀ g, FnOk X0 g (fn g)) → FnOk X0 g (F fn) := litF_tab ftU_ok (RL_ok 30) dP_eq
def RL1 (g : FuncId) : FunT := appW (runW ft1 300 g)
theorem RL1_ok (g : FuncId) : FnOk X0 g (RL1 g) := runW_ok ft1_ok 300 g
def CUv (lpv : ((LV → LB → Om) → LV → LB → Om) → LV → LB → Om) : CombU := { CU with lp := lpv }
theorem CUv_lp : CUv lp = CU := rfl
def lpN (n : Nat) (body : (LV → LB → Om) → LV → LB → Om) : LV → LB → Om := Nat.rec (motive := fun _ => LV → LB → Om) (fun _ _ => none) (fun _ ih => body ih) n
theorem lp_eq (body : (LV → LB → Om) → LV → LB → Om) : lp body = lpN 100000 body := by kernel_rfl
theorem runW_succ {T : FTab} {n : Nat} {g : FuncId} {F : FF → FunT} (h : lookF g T = some F) : appW (runW T (n + 1) g) = F fun g => appW (runW T n g) := by
 show appW (match lookF g T with
  | some F => ⟨F fun g => appW (runW T n g)⟩
  | none => ⟨fun _ _ => none⟩) = _
 rw [h]
 rfl
theorem dP_eq1 : RL1 30 [] [] = some (.ret DP, []) := by kernel_rfl
def tellF : KJ := fun vs bs => some (.pan (.tuple vs), bs)
end
end Go.Proofs.YtccafnaghnbpeaaGreatDoor
