/- Closed facts of the row of FnExactOrbitProduct that are dear to the kernel; no condition. -/
import Derived.Test.YtjhkeehfchkpaaaGreatYE1
import Derived.Test.YtjhkeehfchkpaaaGreatYPFacts
namespace Go.Proofs.YtjhkeehfchkpaaaGreat
open Go.ChangeShapes Go.WideShapes Go.ChangeAt Go.RowKit
theorem orbitProduct_inPlace : (Rows.fnExactOrbitProductRow.inPlace == Tryz.prog.inPlace 10) = true := by as_aux_lemma => kernel_rfl
theorem orbitProduct_unfollowed : (Rows.fnExactOrbitProductRow.unfollowed == Tryz.prog.unfollowed 10) = true := by as_aux_lemma => kernel_rfl
theorem orbitProduct_recurses : (Rows.fnExactOrbitProductRow.recurses == Tryz.prog.recurses 10) = true := by as_aux_lemma => kernel_rfl
theorem orbitProduct_named : (Rows.fnExactOrbitProductRow.named == Tryz.prog.varsNamed 10) = true := by as_aux_lemma => kernel_rfl
end Go.Proofs.YtjhkeehfchkpaaaGreat
