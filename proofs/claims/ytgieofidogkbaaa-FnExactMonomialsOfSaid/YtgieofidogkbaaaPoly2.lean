/- The walks of the tests on monomials; no condition. -/
import Derived.Test.YtgieofidogkbaaaPoly1
import Derived.LoopN
set_option linter.unusedVariables false
namespace Go.Proofs.Ytgieofidogkbaaa
open Go.RowKit Go.Proofs.YtgieofidogkbaaaW.PrintWords
attribute [local go_sem] Later.cell Later.frozen Later.lt Later.lt_add Later.le Later.le_add Later.ne Later.ne' add_at

def zerosB (d : Int) (e : E3) : Bool := (decide (2 ≤ d) || e.b == 0) && (decide (3 ≤ d) || e.c == 0)
def expsB (d : Int) (e : E3) : Bool := zerosB d e && decide (degE e ≤ 12)

theorem u8_zero (x : UInt8) : ((x.toNat : Int) != 0) = !(x == 0) := by
  rw [Bool.eq_iff_iff]
  simp [bne_iff_ne, ← UInt8.toNat_inj]

set_option maxRecDepth 100000 in
theorem l01Exps_c (d : Int) (e : E3) (h1 : 1 ≤ d) (h3 : d ≤ 3) (w : World) :
    Calls Try.prog 218 #[.int .i64 d, .agg #[.int .u8 (e.a.toNat : Int), .int .u8 (e.b.toNat : Int), .int .u8 (e.c.toNat : Int)]] w (Gives (.bool (expsB d e)) w) := by
  have ha := e.a.toNat_lt
  have hb := e.b.toNat_lt
  have hc := e.c.toNat_lt
  obtain ⟨d1, d2⟩ := degE_bd e
  have hd : d = 1 ∨ d = 2 ∨ d = 3 := by omega
  have ub := u8_zero e.b
  have uc := u8_zero e.c
  rcases hd with rfl | rfl | rfl
  all_goals
    go_enter Try.func218, Try.ntmps218
    go_wp2
    refine wp_loop_rounds 3 ?_
    rw [rounds_succ]
    go_wp2_with ((go_at_call 223; (first | (with_reducible refine call_later2 (l01Sum_c _ _) ?_) | (with_reducible refine call_later (l01Sum_c _ _) ?_)); intro x))
    all_goals try (rw [rounds_succ]; go_wp2_with ((go_at_call 223; (first | (with_reducible refine call_later2 (l01Sum_c _ _) ?_) | (with_reducible refine call_later (l01Sum_c _ _) ?_)); intro x)))
    all_goals try (rw [rounds_succ]; go_wp2_with ((go_at_call 223; (first | (with_reducible refine call_later2 (l01Sum_c _ _) ?_) | (with_reducible refine call_later (l01Sum_c _ _) ?_)); intro x)))
    all_goals go_ret
    all_goals first | refine .mk ?_ ((Below.refl _ _).alloc (Nat.le_refl _) _) | refine .mk ?_ (bel_later x ((Below.refl _ _).alloc (Nat.le_refl _) _) (by simp))
    all_goals simp_all [expsB, zerosB]
end Go.Proofs.Ytgieofidogkbaaa
