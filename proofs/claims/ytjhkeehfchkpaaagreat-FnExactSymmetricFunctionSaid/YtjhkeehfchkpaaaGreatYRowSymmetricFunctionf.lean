/- Closed facts of the row of FnExactSymmetricFunction that are dear to the kernel; no condition. -/
import Derived.Test.YtjhkeehfchkpaaaGreatYE1
import Derived.Test.YtjhkeehfchkpaaaGreatYPFacts
namespace Go.Proofs.YtjhkeehfchkpaaaGreat
open Go.ChangeShapes Go.WideShapes Go.ChangeAt Go.RowKit
theorem symmetricFunction_inPlace : (Rows.fnExactSymmetricFunctionRow.inPlace == Tryz.prog.inPlace 11) = true := by as_aux_lemma => kernel_rfl
theorem symmetricFunction_unfollowed : (Rows.fnExactSymmetricFunctionRow.unfollowed == Tryz.prog.unfollowed 11) = true := by as_aux_lemma => kernel_rfl
theorem symmetricFunction_recurses : (Rows.fnExactSymmetricFunctionRow.recurses == Tryz.prog.recurses 11) = true := by as_aux_lemma => kernel_rfl
theorem symmetricFunction_named : (Rows.fnExactSymmetricFunctionRow.named == Tryz.prog.varsNamed 11) = true := by as_aux_lemma => kernel_rfl
end Go.Proofs.YtjhkeehfchkpaaaGreat
