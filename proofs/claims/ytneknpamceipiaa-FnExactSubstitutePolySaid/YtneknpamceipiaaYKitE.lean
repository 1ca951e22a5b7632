/- Walks of the functions on polynomials, numbers and rows, of both sides; no condition. -/
import Derived.Test.YtneknpamceipiaaYKitA
import Derived.Test.YtneknpamceipiaaYKitM
import Derived.Test.YtneknpamceipiaaYPFnExactClassesOfx2
/- The reduced list of rows, and the reduced rows of a matrix beside the unit matrix: a plain law with no program in sight; no condition. -/
set_option linter.unusedVariables false
namespace Go.Proofs.Ytneknpamceipiaa
/-! ### rows of numbers modulo p -/
/-- The place of the first number other than 0: the length if there is none. -/
def leadN (r : List Int) : Nat := r.findIdx (fun x => x != 0)
theorem leadN_le (r : List Int) : leadN r ≤ r.length := List.findIdx_le_length
theorem leadN_zero {r : List Int} {i : Nat} (h : i < leadN r) : r.getD i 0 = 0 := by
  have := List.not_of_lt_findIdx h
  have hl := leadN_le r
  simp at this
  rw [List.getD_eq_getElem?_getD, List.getElem?_eq_getElem (by omega)]
  simpa using this
/-- A row of L numbers modulo p. -/
structure RowOk (p : Int) (L : Nat) (r : List Int) : Prop where
  len : r.length = L
  nums : ∀ i, 0 ≤ r.getD i 0 ∧ r.getD i 0 < p
/-! ### what is left of a row -/
/-- A reduced row. -/
structure Led (p : Int) (L : Nat) (r : List Int) : Prop where
  ok : RowOk p L r
  lt : leadN r < L
  one : r.getD (leadN r) 0 = 1
def Apart0 (a b : List Int) : Prop := a.getD (leadN b) 0 = 0 ∧ b.getD (leadN a) 0 = 0
/-! ### a row is put in its place -/
/-- A reduced list. -/
structure Red (p : Int) (L : Nat) (out : List (List Int)) : Prop where
  led : ∀ r ∈ out, Led p L r
  up : out.Pairwise fun a b => leadN a < leadN b ∧ a.getD (leadN b) 0 = 0
theorem Red.apart {p : Int} {L : Nat} {out : List (List Int)} (h : Red p L out) : out.Pairwise Apart0 := h.up.imp fun ⟨h1, h2⟩ => ⟨h2, leadN_zero h1⟩
/-! ### the reduced rows of a matrix beside the unit matrix -/
end Go.Proofs.Ytneknpamceipiaa
/- The functions on rows of numbers that a program has printed, by the plain words of the reduced list; no condition. -/
set_option linter.unusedVariables false
set_option linter.unusedSimpArgs false
namespace Go.Proofs.Ytneknpamceipiaa
open Go.RowKit Go.Proofs.YtneknpamceipiaaW.PrintWords
attribute [local go_sem] Later.cell Later.frozen Later.lt Later.lt_add Later.le Later.le_add Later.ne Later.ne' add_at
open PFnExactClassesOf
end Go.Proofs.Ytneknpamceipiaa
/- The walk of the reduced list of rows; no condition. -/
set_option linter.unusedVariables false
set_option linter.unusedSimpArgs false
namespace Go.Proofs.Ytneknpamceipiaa
open Go.RowKit Go.Proofs.YtneknpamceipiaaW.PrintWords
attribute [local go_sem] Later.cell Later.frozen Later.lt Later.lt_add Later.le Later.le_add Later.ne Later.ne' add_at
open PFnExactClassesOf
end Go.Proofs.Ytneknpamceipiaa
/- The walk of the reduced list of rows, whole; no condition. -/
set_option linter.unusedVariables false
set_option linter.unusedSimpArgs false
namespace Go.Proofs.Ytneknpamceipiaa
open Go.RowKit Go.Proofs.YtneknpamceipiaaW.PrintWords
attribute [local go_sem] Later.cell Later.frozen Later.lt Later.lt_add Later.le Later.le_add Later.ne Later.ne' add_at
end Go.Proofs.Ytneknpamceipiaa
