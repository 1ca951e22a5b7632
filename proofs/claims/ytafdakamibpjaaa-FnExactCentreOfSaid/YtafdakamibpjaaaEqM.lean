/- Equality of matrices; no condition. -/
import Derived.Test.YtafdakamibpjaaaMat
import Derived.Stop.BytesEq
import Derived.BigQuiet
set_option linter.unusedVariables false
set_option linter.unusedSimpArgs false
namespace Go.Proofs.Ytafdakamibpjaaa
open Go.RowKit Go.Proofs.YtafdakamibpjaaaW.PrintWords
attribute [local go_sem] Later.cell Later.frozen Later.lt Later.lt_add Later.le Later.le_add Later.ne Later.ne' add_at

theorem guardM : Try.prog.eqGuardType Try.prog.depth 25 = false := by kernel_rfl
theorem eqRow (a b : E3) (w : World) : (Op.equalIn 9999 22 (.agg #[.int .u8 (a.a.toNat : Int), .int .u8 (a.b.toNat : Int), .int .u8 (a.c.toNat : Int)]) (.agg #[.int .u8 (b.a.toNat : Int), .int .u8 (b.b.toNat : Int), .int .u8 (b.c.toNat : Int)])).run Try.prog w = .ok (a == b) w := by
  have h := run_equalIn_bytes (P := Try.prog) w 9997 22 5 3 Try.underlying22 Try.underlying5 Try.sizeOf5 [a.a, a.b, a.c] [b.a, b.b, b.c] rfl rfl
  have e0 : ([a.a, a.b, a.c] == [b.a, b.b, b.c]) = (a == b) := by
    obtain ⟨a, a1, a2⟩ := a
    obtain ⟨b, b1, b2⟩ := b
    rw [Bool.eq_iff_iff]
    simp
  rw [e0] at h
  exact h
theorem rowsOf (cs : Array Value) (n : Nat) (w : World) : (part 22 cs n).run Try.prog w = .ok (.agg (cs.extract n (n + 3))) w := by
  simp [part, isAgg, run_underlying Try.underlying22, Try.sizeOf22]
theorem eqMat (a b : M9) (w : World) : (Op.equalIn 10000 25 (.agg #[.int .u8 (a.r0.a.toNat : Int), .int .u8 (a.r0.b.toNat : Int), .int .u8 (a.r0.c.toNat : Int), .int .u8 (a.r1.a.toNat : Int), .int .u8 (a.r1.b.toNat : Int), .int .u8 (a.r1.c.toNat : Int), .int .u8 (a.r2.a.toNat : Int), .int .u8 (a.r2.b.toNat : Int), .int .u8 (a.r2.c.toNat : Int)]) (.agg #[.int .u8 (b.r0.a.toNat : Int), .int .u8 (b.r0.b.toNat : Int), .int .u8 (b.r0.c.toNat : Int), .int .u8 (b.r1.a.toNat : Int), .int .u8 (b.r1.b.toNat : Int), .int .u8 (b.r1.c.toNat : Int), .int .u8 (b.r2.a.toNat : Int), .int .u8 (b.r2.b.toNat : Int), .int .u8 (b.r2.c.toNat : Int)])).run Try.prog w = .ok (a == b) w := by
  have e0 : (a == b) = (a.r0 == b.r0 && (a.r1 == b.r1 && a.r2 == b.r2)) := by
    obtain ⟨a, a1, a2⟩ := a
    obtain ⟨b, b1, b2⟩ := b
    rw [Bool.eq_iff_iff]
    simp
  have h0 := eqRow a.r0 b.r0 w
  have h1 := eqRow a.r1 b.r1 w
  have h2 := eqRow a.r2 b.r2 w
  rw [e0, Op.equalIn]
  simp only [Sem.run_bind, run_underlying Try.underlying25, Result.andThen_ok, Try.sizeOf22, Std.Legacy.Range.forIn_eq_forIn_range', Std.Legacy.Range.size, Nat.sub_zero, Nat.add_sub_cancel, Nat.div_one]
  rw [show List.range' 0 3 = [0, 1, 2] by rfl]
  simp only [List.forIn_cons, List.forIn_nil, Sem.run_bind, rowsOf, Result.andThen_ok]
  have h0' : (Op.equalIn 9999 22 (.agg ((#[Value.int .u8 (a.r0.a.toNat : Int), .int .u8 (a.r0.b.toNat : Int), .int .u8 (a.r0.c.toNat : Int), .int .u8 (a.r1.a.toNat : Int), .int .u8 (a.r1.b.toNat : Int), .int .u8 (a.r1.c.toNat : Int), .int .u8 (a.r2.a.toNat : Int), .int .u8 (a.r2.b.toNat : Int), .int .u8 (a.r2.c.toNat : Int)] : Array Value).extract (0 * 3) (0 * 3 + 3))) (.agg ((#[Value.int .u8 (b.r0.a.toNat : Int), .int .u8 (b.r0.b.toNat : Int), .int .u8 (b.r0.c.toNat : Int), .int .u8 (b.r1.a.toNat : Int), .int .u8 (b.r1.b.toNat : Int), .int .u8 (b.r1.c.toNat : Int), .int .u8 (b.r2.a.toNat : Int), .int .u8 (b.r2.b.toNat : Int), .int .u8 (b.r2.c.toNat : Int)] : Array Value).extract (0 * 3) (0 * 3 + 3)))).run Try.prog w = .ok (a.r0 == b.r0) w := h0
  have h1' : (Op.equalIn 9999 22 (.agg ((#[Value.int .u8 (a.r0.a.toNat : Int), .int .u8 (a.r0.b.toNat : Int), .int .u8 (a.r0.c.toNat : Int), .int .u8 (a.r1.a.toNat : Int), .int .u8 (a.r1.b.toNat : Int), .int .u8 (a.r1.c.toNat : Int), .int .u8 (a.r2.a.toNat : Int), .int .u8 (a.r2.b.toNat : Int), .int .u8 (a.r2.c.toNat : Int)] : Array Value).extract (1 * 3) (1 * 3 + 3))) (.agg ((#[Value.int .u8 (b.r0.a.toNat : Int), .int .u8 (b.r0.b.toNat : Int), .int .u8 (b.r0.c.toNat : Int), .int .u8 (b.r1.a.toNat : Int), .int .u8 (b.r1.b.toNat : Int), .int .u8 (b.r1.c.toNat : Int), .int .u8 (b.r2.a.toNat : Int), .int .u8 (b.r2.b.toNat : Int), .int .u8 (b.r2.c.toNat : Int)] : Array Value).extract (1 * 3) (1 * 3 + 3)))).run Try.prog w = .ok (a.r1 == b.r1) w := h1
  have h2' : (Op.equalIn 9999 22 (.agg ((#[Value.int .u8 (a.r0.a.toNat : Int), .int .u8 (a.r0.b.toNat : Int), .int .u8 (a.r0.c.toNat : Int), .int .u8 (a.r1.a.toNat : Int), .int .u8 (a.r1.b.toNat : Int), .int .u8 (a.r1.c.toNat : Int), .int .u8 (a.r2.a.toNat : Int), .int .u8 (a.r2.b.toNat : Int), .int .u8 (a.r2.c.toNat : Int)] : Array Value).extract (2 * 3) (2 * 3 + 3))) (.agg ((#[Value.int .u8 (b.r0.a.toNat : Int), .int .u8 (b.r0.b.toNat : Int), .int .u8 (b.r0.c.toNat : Int), .int .u8 (b.r1.a.toNat : Int), .int .u8 (b.r1.b.toNat : Int), .int .u8 (b.r1.c.toNat : Int), .int .u8 (b.r2.a.toNat : Int), .int .u8 (b.r2.b.toNat : Int), .int .u8 (b.r2.c.toNat : Int)] : Array Value).extract (2 * 3) (2 * 3 + 3)))).run Try.prog w = .ok (a.r2 == b.r2) w := h2
  simp only [h0', h1', h2', Result.andThen_ok]
  cases hb0 : (a.r0 == b.r0)
  · simp
  · cases hb1 : (a.r1 == b.r1)
    · simp [rowsOf, h1, h2, hb1]
    · cases hb2 : (a.r2 == b.r2)
      · simp [rowsOf, h1, h2, hb1, hb2]
      · simp [rowsOf, h1, h2, hb1, hb2]
theorem run_eqM (a b : M9) (w : World) : (binOp .eql 25 (.agg #[.int .u8 (a.r0.a.toNat : Int), .int .u8 (a.r0.b.toNat : Int), .int .u8 (a.r0.c.toNat : Int), .int .u8 (a.r1.a.toNat : Int), .int .u8 (a.r1.b.toNat : Int), .int .u8 (a.r1.c.toNat : Int), .int .u8 (a.r2.a.toNat : Int), .int .u8 (a.r2.b.toNat : Int), .int .u8 (a.r2.c.toNat : Int)]) (.agg #[.int .u8 (b.r0.a.toNat : Int), .int .u8 (b.r0.b.toNat : Int), .int .u8 (b.r0.c.toNat : Int), .int .u8 (b.r1.a.toNat : Int), .int .u8 (b.r1.b.toNat : Int), .int .u8 (b.r1.c.toNat : Int), .int .u8 (b.r2.a.toNat : Int), .int .u8 (b.r2.b.toNat : Int), .int .u8 (b.r2.c.toNat : Int)])).run Try.prog w = .ok (.bool (a == b)) w := by
  rw [run_eql_struct, eqMat]
  rfl

set_option maxRecDepth 100000 in
theorem eqByteA3_same (a b c : UInt8) (w : World) : Calls Try.prog 74 #[.agg #[.int .u8 (a.toNat : Int), .int .u8 (b.toNat : Int), .int .u8 (c.toNat : Int)], .agg #[.int .u8 (a.toNat : Int), .int .u8 (b.toNat : Int), .int .u8 (c.toNat : Int)]] w (Gives (.bool true) w) := by
  go_enter Try.func74, Try.ntmps74
  go_wp2
  refine wp_loop_rounds 4 ?_
  rw [rounds_succ]; go_wp2; ((first | refine wp_region_later2 (by kernel_rfl) (by kernel_rfl) ?_ | refine wp_region_later (by kernel_rfl) (by kernel_rfl) ?_); (repeat (go_big_quiet_step (fail))); refine wpQuiet_nil ?_; intro x); go_wp2
  rw [rounds_succ]; go_wp2; ((first | refine wp_region_later2 (by kernel_rfl) (by kernel_rfl) ?_ | refine wp_region_later (by kernel_rfl) (by kernel_rfl) ?_); (repeat (go_big_quiet_step (fail))); refine wpQuiet_nil ?_; intro x); go_wp2
  rw [rounds_succ]; go_wp2; ((first | refine wp_region_later2 (by kernel_rfl) (by kernel_rfl) ?_ | refine wp_region_later (by kernel_rfl) (by kernel_rfl) ?_); (repeat (go_big_quiet_step (fail))); refine wpQuiet_nil ?_; intro x); go_wp2
  rw [rounds_succ]
  go_wp2
  exact bodyPost_ret (v := .bool true) (by simp [results, Try.results74, go_sem]) rfl (.mk rfl (by repeat (first | (with_reducible assumption) | (with_reducible exact Below.refl _ _) | ((with_reducible refine Below.alloc ?_ ?_ _); rotate_left; (focus (first | omega | (simp; done) | (simp; omega) | (simp [Later.le, Later.le_add, Later.lt, Later.lt_add]; done) | (simp [Later.le, Later.le_add, Later.lt, Later.lt_add]; omega)))) | (with_reducible refine Below.drew ?_) | (with_reducible refine pw_below_drewN ?_ _) | ((with_reducible refine Below.setCell ?_ ?_ _); rotate_left; (focus (first | omega | (simp; done) | (simp; omega) | (simp [Later.le, Later.le_add, Later.lt, Later.lt_add]; done) | (simp [Later.le, Later.le_add, Later.lt, Later.lt_add]; omega)))) | ((with_reducible refine below_hop (by assumption) ?_ ?_); rotate_left; (focus (first | omega | (simp; done) | (simp; omega) | (simp [Later.le, Later.le_add, Later.lt, Later.lt_add]; done) | (simp [Later.le, Later.le_add, Later.lt, Later.lt_add]; omega)))) | ((with_reducible refine bel_later _ ?_ ?_); rotate_left; (focus (first | omega | (simp; done) | (simp; omega) | (simp [Later.le, Later.le_add, Later.lt, Later.lt_add]; done) | (simp [Later.le, Later.le_add, Later.lt, Later.lt_add]; omega)))))))
set_option maxRecDepth 100000 in
set_option maxHeartbeats 1000000 in
theorem eqMatrix_same (m : M9) (w : World) : Calls Try.prog 24 #[.agg #[.int .u8 (m.r0.a.toNat : Int), .int .u8 (m.r0.b.toNat : Int), .int .u8 (m.r0.c.toNat : Int), .int .u8 (m.r1.a.toNat : Int), .int .u8 (m.r1.b.toNat : Int), .int .u8 (m.r1.c.toNat : Int), .int .u8 (m.r2.a.toNat : Int), .int .u8 (m.r2.b.toNat : Int), .int .u8 (m.r2.c.toNat : Int)], .agg #[.int .u8 (m.r0.a.toNat : Int), .int .u8 (m.r0.b.toNat : Int), .int .u8 (m.r0.c.toNat : Int), .int .u8 (m.r1.a.toNat : Int), .int .u8 (m.r1.b.toNat : Int), .int .u8 (m.r1.c.toNat : Int), .int .u8 (m.r2.a.toNat : Int), .int .u8 (m.r2.b.toNat : Int), .int .u8 (m.r2.c.toNat : Int)]] w (Gives (.bool true) w) := by
  go_enter Try.func24, Try.ntmps24
  go_wp2
  refine wp_loop_rounds 4 ?_
  rw [rounds_succ]; go_wp2; ((first | refine wp_region_later2 (by kernel_rfl) (by kernel_rfl) ?_ | refine wp_region_later (by kernel_rfl) (by kernel_rfl) ?_); (repeat (go_big_quiet_step ((go_at_call 74; exact quiet_later (eqByteA3_same _ _ _ _))))); refine wpQuiet_nil ?_; intro x); go_wp2
  rw [rounds_succ]; go_wp2; ((first | refine wp_region_later2 (by kernel_rfl) (by kernel_rfl) ?_ | refine wp_region_later (by kernel_rfl) (by kernel_rfl) ?_); (repeat (go_big_quiet_step ((go_at_call 74; exact quiet_later (eqByteA3_same _ _ _ _))))); refine wpQuiet_nil ?_; intro x); go_wp2
  rw [rounds_succ]; go_wp2; ((first | refine wp_region_later2 (by kernel_rfl) (by kernel_rfl) ?_ | refine wp_region_later (by kernel_rfl) (by kernel_rfl) ?_); (repeat (go_big_quiet_step ((go_at_call 74; exact quiet_later (eqByteA3_same _ _ _ _))))); refine wpQuiet_nil ?_; intro x); go_wp2
  rw [rounds_succ]
  go_wp2
  exact bodyPost_ret (v := .bool true) (by simp [results, Try.results24, go_sem]) rfl (.mk rfl (by repeat (first | (with_reducible assumption) | (with_reducible exact Below.refl _ _) | ((with_reducible refine Below.alloc ?_ ?_ _); rotate_left; (focus (first | omega | (simp; done) | (simp; omega) | (simp [Later.le, Later.le_add, Later.lt, Later.lt_add]; done) | (simp [Later.le, Later.le_add, Later.lt, Later.lt_add]; omega)))) | (with_reducible refine Below.drew ?_) | (with_reducible refine pw_below_drewN ?_ _) | ((with_reducible refine Below.setCell ?_ ?_ _); rotate_left; (focus (first | omega | (simp; done) | (simp; omega) | (simp [Later.le, Later.le_add, Later.lt, Later.lt_add]; done) | (simp [Later.le, Later.le_add, Later.lt, Later.lt_add]; omega)))) | ((with_reducible refine below_hop (by assumption) ?_ ?_); rotate_left; (focus (first | omega | (simp; done) | (simp; omega) | (simp [Later.le, Later.le_add, Later.lt, Later.lt_add]; done) | (simp [Later.le, Later.le_add, Later.lt, Later.lt_add]; omega)))) | ((with_reducible refine bel_later _ ?_ ?_); rotate_left; (focus (first | omega | (simp; done) | (simp; omega) | (simp [Later.le, Later.le_add, Later.lt, Later.lt_add]; done) | (simp [Later.le, Later.le_add, Later.lt, Later.lt_add]; omega)))))))
end Go.Proofs.Ytafdakamibpjaaa
