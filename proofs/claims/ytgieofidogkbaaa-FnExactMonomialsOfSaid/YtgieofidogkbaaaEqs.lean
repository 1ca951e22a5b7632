/- Equality of monomials, terms and matrices, as the walk meets it; no condition. -/
import Derived.Test.YtgieofidogkbaaaCoef2
import Derived.Stop.BytesEq
set_option linter.unusedVariables false
set_option linter.unusedSimpArgs false
namespace Go.Proofs.Ytgieofidogkbaaa
open Go.RowKit Go.Proofs.YtgieofidogkbaaaW.PrintWords
attribute [local go_sem] Later.cell Later.frozen Later.lt Later.lt_add Later.le Later.le_add Later.ne Later.ne' add_at

theorem guardE : Try.prog.eqGuardType Try.prog.depth 121 = false := by kernel_rfl
theorem run_eqE (t e : E3) (w : World) : (binOp .eql 121 (.agg #[.int .u8 (t.a.toNat : Int), .int .u8 (t.b.toNat : Int), .int .u8 (t.c.toNat : Int)]) (.agg #[.int .u8 (e.a.toNat : Int), .int .u8 (e.b.toNat : Int), .int .u8 (e.c.toNat : Int)])).run Try.prog w = .ok (.bool (t == e)) w := by
  have h := run_eql_bytes (P := Try.prog) w 121 5 3 Try.underlying121 Try.underlying5 Try.sizeOf5 [t.a, t.b, t.c] [e.a, e.b, e.c] rfl rfl
  have e0 : ([t.a, t.b, t.c] == [e.a, e.b, e.c]) = (t == e) := by
    obtain ⟨a, b, c⟩ := t
    obtain ⟨a', b', c'⟩ := e
    rw [Bool.eq_iff_iff]
    simp
  rw [e0] at h
  exact h
theorem run_neE (t e : E3) (w : World) : (binOp .neq 121 (.agg #[.int .u8 (t.a.toNat : Int), .int .u8 (t.b.toNat : Int), .int .u8 (t.c.toNat : Int)]) (.agg #[.int .u8 (e.a.toNat : Int), .int .u8 (e.b.toNat : Int), .int .u8 (e.c.toNat : Int)])).run Try.prog w = .ok (.bool (t != e)) w := by
  have h := run_equalIn_bytes (P := Try.prog) w 9998 121 5 3 Try.underlying121 Try.underlying5 Try.sizeOf5 [t.a, t.b, t.c] [e.a, e.b, e.c] rfl rfl
  have e0 : ([t.a, t.b, t.c] == [e.a, e.b, e.c]) = (t == e) := by
    obtain ⟨a, b, c⟩ := t
    obtain ⟨a', b', c'⟩ := e
    rw [Bool.eq_iff_iff]
    simp
  rw [e0] at h
  rw [run_neq_struct]
  have h' : (Op.equalIn 10000 121 (.agg #[.int .u8 (t.a.toNat : Int), .int .u8 (t.b.toNat : Int), .int .u8 (t.c.toNat : Int)]) (.agg #[.int .u8 (e.a.toNat : Int), .int .u8 (e.b.toNat : Int), .int .u8 (e.c.toNat : Int)])).run Try.prog w = .ok (t == e) w := h
  rw [h']
  rfl
end Go.Proofs.Ytgieofidogkbaaa
