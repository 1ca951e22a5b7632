/- Closed facts of the row of FnExactOrbitSum that are dear to the kernel; no condition. -/
import Derived.Test.YtjhkeehfchkpaaaGreatYPFacts
namespace Go.Proofs.YtjhkeehfchkpaaaGreat
open Go.ChangeShapes Go.WideShapes Go.ChangeAt Go.RowKit
theorem orbitSum_inPlace : (Rows.fnExactOrbitSumRow.inPlace == Tryz.prog.inPlace 7) = true := by as_aux_lemma => kernel_rfl
theorem orbitSum_unfollowed : (Rows.fnExactOrbitSumRow.unfollowed == Tryz.prog.unfollowed 7) = true := by as_aux_lemma => kernel_rfl
theorem orbitSum_recurses : (Rows.fnExactOrbitSumRow.recurses == Tryz.prog.recurses 7) = true := by as_aux_lemma => kernel_rfl
theorem orbitSum_named : (Rows.fnExactOrbitSumRow.named == Tryz.prog.varsNamed 7) = true := by as_aux_lemma => kernel_rfl
end Go.Proofs.YtjhkeehfchkpaaaGreat
