/- The walk of the law FnExactInverseMatrix; no condition. -/
import Derived.Test.YtafdakamibpjaaaInvR
set_option linter.unusedVariables false
set_option linter.unusedSimpArgs false
namespace Go.Proofs.Ytafdakamibpjaaa
open Go.RowKit Go.Proofs.YtafdakamibpjaaaW.PrintWords
attribute [local go_sem] Later.cell Later.frozen Later.lt Later.lt_add Later.le Later.le_add Later.ne Later.ne' add_at

set_option maxRecDepth 100000 in
set_option maxHeartbeats 2000000 in
theorem lawInverseMatrix_c (p n : Int) (m : M9) (w : World) (hp : -9223372036854775808 ≤ p ∧ p ≤ 9223372036854775807) (hn : -9223372036854775808 ≤ n ∧ n ≤ 9223372036854775807) : Calls Try.prog 10 #[.int .i64 p, .int .i64 n, .agg #[.int .u8 (m.r0.a.toNat : Int), .int .u8 (m.r0.b.toNat : Int), .int .u8 (m.r0.c.toNat : Int), .int .u8 (m.r1.a.toNat : Int), .int .u8 (m.r1.b.toNat : Int), .int .u8 (m.r1.c.toNat : Int), .int .u8 (m.r2.a.toNat : Int), .int .u8 (m.r2.b.toNat : Int), .int .u8 (m.r2.c.toNat : Int)]] w (Gives (.bool true) w) := by
  have hS := fun W => specInverse_c p n m W
  have hI := fun W => implInverse_c p n m W
  generalize (invR p n m).1 = r1 at *
  generalize (invR p n m).2 = r2 at *
  have hE := fun W => eqMatrix_same r1 W
  have hTm := fun W => toMatrix_c m W
  go_enter Try.func10, Try.ntmps10
  go_wp2_with (first | (go_at_call 18; (first | (with_reducible refine call_later3 (hTm _) ?_) | (with_reducible refine call_later4 (hTm _) ?_)); intro x1 hb1; (have hz := Below.size hb1; try (simp at hz))) | (go_at_call 38; (first | (with_reducible refine call_later3 (hS _) ?_) | (with_reducible refine call_later4 (hS _) ?_)); intro x2 hb2; (have hz := Below.size hb2; try (simp at hz))) | (go_at_call 39; (first | (with_reducible refine call_later3 (hI _) ?_) | (with_reducible refine call_later4 (hI _) ?_)); intro x3 hb3; (have hz := Below.size hb3; try (simp at hz))) | (go_at_call 24; (first | (with_reducible refine call_later3 (hE _) ?_) | (with_reducible refine call_later4 (hE _) ?_)); intro x4 hb4; (have hz := Below.size hb4; try (simp at hz))))
  all_goals go_ret
  all_goals exact .mk (by first | rfl | simp) (by repeat (first | (with_reducible assumption) | (with_reducible exact Below.refl _ _) | ((with_reducible refine Below.alloc ?_ ?_ _); rotate_left; (focus (first | omega | (simp; done) | (simp; omega) | (simp [Later.le, Later.le_add, Later.lt, Later.lt_add]; done) | (simp [Later.le, Later.le_add, Later.lt, Later.lt_add]; omega)))) | (with_reducible refine Below.drew ?_) | (with_reducible refine pw_below_drewN ?_ _) | ((with_reducible refine Below.setCell ?_ ?_ _); rotate_left; (focus (first | omega | (simp; done) | (simp; omega) | (simp [Later.le, Later.le_add, Later.lt, Later.lt_add]; done) | (simp [Later.le, Later.le_add, Later.lt, Later.lt_add]; omega)))) | ((with_reducible refine below_hop (by assumption) ?_ ?_); rotate_left; (focus (first | omega | (simp; done) | (simp; omega) | (simp [Later.le, Later.le_add, Later.lt, Later.lt_add]; done) | (simp [Later.le, Later.le_add, Later.lt, Later.lt_add]; omega)))) | ((with_reducible refine bel_later _ ?_ ?_); rotate_left; (focus (first | omega | (simp; done) | (simp; omega) | (simp [Later.le, Later.le_add, Later.lt, Later.lt_add]; done) | (simp [Later.le, Later.le_add, Later.lt, Later.lt_add]; omega))))))
end Go.Proofs.Ytafdakamibpjaaa
