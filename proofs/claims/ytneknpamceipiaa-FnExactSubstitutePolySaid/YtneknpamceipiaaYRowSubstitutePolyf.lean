/- Closed facts of the row of FnExactSubstitutePoly that are dear to the kernel; no condition. -/
import Derived.Test.YtneknpamceipiaaYPFacts
namespace Go.Proofs.Ytneknpamceipiaa
open Go.ChangeShapes Go.WideShapes Go.ChangeAt Go.RowKit
theorem substitutePoly_inPlace : (Rows.fnExactSubstitutePolyRow.inPlace == Try.prog.inPlace 5) = true := by as_aux_lemma => kernel_rfl
theorem substitutePoly_unfollowed : (Rows.fnExactSubstitutePolyRow.unfollowed == Try.prog.unfollowed 5) = true := by as_aux_lemma => kernel_rfl
theorem substitutePoly_recurses : (Rows.fnExactSubstitutePolyRow.recurses == Try.prog.recurses 5) = true := by as_aux_lemma => kernel_rfl
theorem substitutePoly_named : (Rows.fnExactSubstitutePolyRow.named == Try.prog.varsNamed 5) = true := by as_aux_lemma => kernel_rfl
end Go.Proofs.Ytneknpamceipiaa
