/- Walks of the functions on polynomials, numbers and rows, of both sides; no condition. -/
import Derived.Test.YtimjhehagimcaaaYKitA
import Derived.Stop.BytesEq
import Derived.BigQuiet
/- The walks of the functions on matrices; no condition. -/
set_option linter.unusedVariables false
set_option linter.unusedSimpArgs false
namespace Go.Proofs.Ytimjhehagimcaaa
open Go.RowKit Go.Proofs.YtimjhehagimcaaaW.PrintWords
attribute [local go_sem] Later.cell Later.frozen Later.lt Later.lt_add Later.le Later.le_add Later.ne Later.ne' add_at
/-- A matrix. -/
structure M9 where
  r0 : E3
  r1 : E3
  r2 : E3
  deriving DecidableEq
def M9.cs (m : M9) : List Value := m.r0.cs ++ m.r1.cs ++ m.r2.cs
def kM : Kd M9 := flat 9 M9.cs (fun _ => rfl) (fun x u hu => by simp [M9.cs, E3.cs] at hu; rcases hu with rfl | rfl | rfl | rfl | rfl | rfl | rfl | rfl | rfl <;> rfl)
end Go.Proofs.Ytimjhehagimcaaa
/- The walk of the program's determinant; no condition. -/
set_option linter.unusedVariables false
set_option linter.unusedSimpArgs false
namespace Go.Proofs.Ytimjhehagimcaaa
open Go.RowKit Go.Proofs.YtimjhehagimcaaaW.PrintWords
attribute [local go_sem] Later.cell Later.frozen Later.lt Later.lt_add Later.le Later.le_add Later.ne Later.ne' add_at
/-- Numbers modulo p in the nine places. -/
def M9.le (m : M9) (p : Int) : Prop := ((m.r0.a.toNat : Int) < p ∧ (m.r0.b.toNat : Int) < p ∧ (m.r0.c.toNat : Int) < p) ∧ ((m.r1.a.toNat : Int) < p ∧ (m.r1.b.toNat : Int) < p ∧ (m.r1.c.toNat : Int) < p) ∧ ((m.r2.a.toNat : Int) < p ∧ (m.r2.b.toNat : Int) < p ∧ (m.r2.c.toNat : Int) < p)
theorem mul_bd3 {x y : Int} (hx : 0 ≤ x) (hx' : x ≤ 12) (hy : 0 ≤ y) (hy' : y ≤ 12) : 0 ≤ x * y ∧ x * y ≤ 144 := by
  refine ⟨Int.mul_nonneg hx hy, ?_⟩
  have h1 := Int.mul_le_mul (a := x) (b := y) (c := 12) (d := 12) (by omega) (by omega) hy (by omega)
  omega
theorem tmod_fix {x p : Int} (hp : 2 ≤ p) (hp' : p ≤ 13) : (wrap64 (x.tmod p + p)).tmod p = x % p := by
  have h1 : x.tmod p < p := Int.tmod_lt_of_pos _ (by omega)
  have h2 : -p < x.tmod p := by
    have := Int.tmod_lt_of_pos (-x) (show 0 < p by omega)
    rw [Int.neg_tmod] at this
    omega
  have h3 : wrap64 (x.tmod p + p) = x.tmod p + p := by unfold wrap64; omega
  rw [h3, Int.tmod_eq_emod_of_nonneg (by omega), Int.add_emod_right, Int.tmod_def, Int.sub_mul_emod_self_left]
end Go.Proofs.Ytimjhehagimcaaa
/- The walks of the unit matrices; no condition. -/
set_option linter.unusedVariables false
set_option linter.unusedSimpArgs false
namespace Go.Proofs.Ytimjhehagimcaaa
open Go.RowKit Go.Proofs.YtimjhehagimcaaaW.PrintWords
attribute [local go_sem] Later.cell Later.frozen Later.lt Later.lt_add Later.le Later.le_add Later.ne Later.ne' add_at
end Go.Proofs.Ytimjhehagimcaaa
/- The walks of the products of matrices; no condition. -/
set_option linter.unusedVariables false
set_option linter.unusedSimpArgs false
namespace Go.Proofs.Ytimjhehagimcaaa
open Go.RowKit Go.Proofs.YtimjhehagimcaaaW.PrintWords
attribute [local go_sem] Later.cell Later.frozen Later.lt Later.lt_add Later.le Later.le_add Later.ne Later.ne' add_at
def M9.row (m : M9) (i : Nat) : E3 := if i = 0 then m.r0 else if i = 1 then m.r1 else m.r2
def M9.at (m : M9) (i j : Nat) : UInt8 := (m.row i).at j
end Go.Proofs.Ytimjhehagimcaaa
/- The walk of the reference's product of matrices; no condition. -/
set_option linter.unusedVariables false
set_option linter.unusedSimpArgs false
namespace Go.Proofs.Ytimjhehagimcaaa
open Go.RowKit Go.Proofs.YtimjhehagimcaaaW.PrintWords
attribute [local go_sem] Later.cell Later.frozen Later.lt Later.lt_add Later.le Later.le_add Later.ne Later.ne' add_at
end Go.Proofs.Ytimjhehagimcaaa
/- The walk of the program's product of matrices; no condition. -/
set_option linter.unusedVariables false
set_option linter.unusedSimpArgs false
namespace Go.Proofs.Ytimjhehagimcaaa
open Go.RowKit Go.Proofs.YtimjhehagimcaaaW.PrintWords
attribute [local go_sem] Later.cell Later.frozen Later.lt Later.lt_add Later.le Later.le_add Later.ne Later.ne' add_at
end Go.Proofs.Ytimjhehagimcaaa
/- Equality of matrices; no condition. -/
set_option linter.unusedVariables false
set_option linter.unusedSimpArgs false
namespace Go.Proofs.Ytimjhehagimcaaa
open Go.RowKit Go.Proofs.YtimjhehagimcaaaW.PrintWords
attribute [local go_sem] Later.cell Later.frozen Later.lt Later.lt_add Later.le Later.le_add Later.ne Later.ne' add_at
theorem guardM : Try.prog.eqGuardType Try.prog.depth 41 = false := by kernel_rfl
theorem eqRow (a b : E3) (w : World) : (Op.equalIn 9999 39 (.agg #[.int .u8 (a.a.toNat : Int), .int .u8 (a.b.toNat : Int), .int .u8 (a.c.toNat : Int)]) (.agg #[.int .u8 (b.a.toNat : Int), .int .u8 (b.b.toNat : Int), .int .u8 (b.c.toNat : Int)])).run Try.prog w = .ok (a == b) w := by
  have h := run_equalIn_bytes (P := Try.prog) w 9997 39 5 3 Try.underlying39 Try.underlying5 Try.sizeOf5 [a.a, a.b, a.c] [b.a, b.b, b.c] rfl rfl
  have e0 : ([a.a, a.b, a.c] == [b.a, b.b, b.c]) = (a == b) := by
    obtain ⟨a, a1, a2⟩ := a
    obtain ⟨b, b1, b2⟩ := b
    rw [Bool.eq_iff_iff]
    simp
  rw [e0] at h
  exact h
theorem rowsOf (cs : Array Value) (n : Nat) (w : World) : (part 39 cs n).run Try.prog w = .ok (.agg (cs.extract n (n + 3))) w := by
  simp [part, isAgg, run_underlying Try.underlying39, Try.sizeOf39]
theorem eqMat (a b : M9) (w : World) : (Op.equalIn 10000 41 (.agg #[.int .u8 (a.r0.a.toNat : Int), .int .u8 (a.r0.b.toNat : Int), .int .u8 (a.r0.c.toNat : Int), .int .u8 (a.r1.a.toNat : Int), .int .u8 (a.r1.b.toNat : Int), .int .u8 (a.r1.c.toNat : Int), .int .u8 (a.r2.a.toNat : Int), .int .u8 (a.r2.b.toNat : Int), .int .u8 (a.r2.c.toNat : Int)]) (.agg #[.int .u8 (b.r0.a.toNat : Int), .int .u8 (b.r0.b.toNat : Int), .int .u8 (b.r0.c.toNat : Int), .int .u8 (b.r1.a.toNat : Int), .int .u8 (b.r1.b.toNat : Int), .int .u8 (b.r1.c.toNat : Int), .int .u8 (b.r2.a.toNat : Int), .int .u8 (b.r2.b.toNat : Int), .int .u8 (b.r2.c.toNat : Int)])).run Try.prog w = .ok (a == b) w := by
  have e0 : (a == b) = (a.r0 == b.r0 && (a.r1 == b.r1 && a.r2 == b.r2)) := by
    obtain ⟨a, a1, a2⟩ := a
    obtain ⟨b, b1, b2⟩ := b
    rw [Bool.eq_iff_iff]
    simp
  have h0 := eqRow a.r0 b.r0 w
  have h1 := eqRow a.r1 b.r1 w
  have h2 := eqRow a.r2 b.r2 w
  rw [e0, Op.equalIn]
  simp only [Sem.run_bind, run_underlying Try.underlying41, Result.andThen_ok, Try.sizeOf39, Std.Legacy.Range.forIn_eq_forIn_range', Std.Legacy.Range.size, Nat.sub_zero, Nat.add_sub_cancel, Nat.div_one]
  rw [show List.range' 0 3 = [0, 1, 2] by rfl]
  simp only [List.forIn_cons, List.forIn_nil, Sem.run_bind, rowsOf, Result.andThen_ok]
  have h0' : (Op.equalIn 9999 39 (.agg ((#[Value.int .u8 (a.r0.a.toNat : Int), .int .u8 (a.r0.b.toNat : Int), .int .u8 (a.r0.c.toNat : Int), .int .u8 (a.r1.a.toNat : Int), .int .u8 (a.r1.b.toNat : Int), .int .u8 (a.r1.c.toNat : Int), .int .u8 (a.r2.a.toNat : Int), .int .u8 (a.r2.b.toNat : Int), .int .u8 (a.r2.c.toNat : Int)] : Array Value).extract (0 * 3) (0 * 3 + 3))) (.agg ((#[Value.int .u8 (b.r0.a.toNat : Int), .int .u8 (b.r0.b.toNat : Int), .int .u8 (b.r0.c.toNat : Int), .int .u8 (b.r1.a.toNat : Int), .int .u8 (b.r1.b.toNat : Int), .int .u8 (b.r1.c.toNat : Int), .int .u8 (b.r2.a.toNat : Int), .int .u8 (b.r2.b.toNat : Int), .int .u8 (b.r2.c.toNat : Int)] : Array Value).extract (0 * 3) (0 * 3 + 3)))).run Try.prog w = .ok (a.r0 == b.r0) w := h0
  have h1' : (Op.equalIn 9999 39 (.agg ((#[Value.int .u8 (a.r0.a.toNat : Int), .int .u8 (a.r0.b.toNat : Int), .int .u8 (a.r0.c.toNat : Int), .int .u8 (a.r1.a.toNat : Int), .int .u8 (a.r1.b.toNat : Int), .int .u8 (a.r1.c.toNat : Int), .int .u8 (a.r2.a.toNat : Int), .int .u8 (a.r2.b.toNat : Int), .int .u8 (a.r2.c.toNat : Int)] : Array Value).extract (1 * 3) (1 * 3 + 3))) (.agg ((#[Value.int .u8 (b.r0.a.toNat : Int), .int .u8 (b.r0.b.toNat : Int), .int .u8 (b.r0.c.toNat : Int), .int .u8 (b.r1.a.toNat : Int), .int .u8 (b.r1.b.toNat : Int), .int .u8 (b.r1.c.toNat : Int), .int .u8 (b.r2.a.toNat : Int), .int .u8 (b.r2.b.toNat : Int), .int .u8 (b.r2.c.toNat : Int)] : Array Value).extract (1 * 3) (1 * 3 + 3)))).run Try.prog w = .ok (a.r1 == b.r1) w := h1
  have h2' : (Op.equalIn 9999 39 (.agg ((#[Value.int .u8 (a.r0.a.toNat : Int), .int .u8 (a.r0.b.toNat : Int), .int .u8 (a.r0.c.toNat : Int), .int .u8 (a.r1.a.toNat : Int), .int .u8 (a.r1.b.toNat : Int), .int .u8 (a.r1.c.toNat : Int), .int .u8 (a.r2.a.toNat : Int), .int .u8 (a.r2.b.toNat : Int), .int .u8 (a.r2.c.toNat : Int)] : Array Value).extract (2 * 3) (2 * 3 + 3))) (.agg ((#[Value.int .u8 (b.r0.a.toNat : Int), .int .u8 (b.r0.b.toNat : Int), .int .u8 (b.r0.c.toNat : Int), .int .u8 (b.r1.a.toNat : Int), .int .u8 (b.r1.b.toNat : Int), .int .u8 (b.r1.c.toNat : Int), .int .u8 (b.r2.a.toNat : Int), .int .u8 (b.r2.b.toNat : Int), .int .u8 (b.r2.c.toNat : Int)] : Array Value).extract (2 * 3) (2 * 3 + 3)))).run Try.prog w = .ok (a.r2 == b.r2) w := h2
  simp only [h0', h1', h2', Result.andThen_ok]
  cases hb0 : (a.r0 == b.r0)
  · simp
  · cases hb1 : (a.r1 == b.r1)
    · simp [rowsOf, h1, h2, hb1]
    · cases hb2 : (a.r2 == b.r2)
      · simp [rowsOf, h1, h2, hb1, hb2]
      · simp [rowsOf, h1, h2, hb1, hb2]
theorem run_eqM (a b : M9) (w : World) : (binOp .eql 41 (.agg #[.int .u8 (a.r0.a.toNat : Int), .int .u8 (a.r0.b.toNat : Int), .int .u8 (a.r0.c.toNat : Int), .int .u8 (a.r1.a.toNat : Int), .int .u8 (a.r1.b.toNat : Int), .int .u8 (a.r1.c.toNat : Int), .int .u8 (a.r2.a.toNat : Int), .int .u8 (a.r2.b.toNat : Int), .int .u8 (a.r2.c.toNat : Int)]) (.agg #[.int .u8 (b.r0.a.toNat : Int), .int .u8 (b.r0.b.toNat : Int), .int .u8 (b.r0.c.toNat : Int), .int .u8 (b.r1.a.toNat : Int), .int .u8 (b.r1.b.toNat : Int), .int .u8 (b.r1.c.toNat : Int), .int .u8 (b.r2.a.toNat : Int), .int .u8 (b.r2.b.toNat : Int), .int .u8 (b.r2.c.toNat : Int)])).run Try.prog w = .ok (.bool (a == b)) w := by
  rw [run_eql_struct, eqMat]
  rfl
end Go.Proofs.Ytimjhehagimcaaa
