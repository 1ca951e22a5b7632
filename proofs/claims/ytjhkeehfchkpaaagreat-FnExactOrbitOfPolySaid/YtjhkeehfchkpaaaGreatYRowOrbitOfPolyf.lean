/- Closed facts of the row of FnExactOrbitOfPoly that are dear to the kernel; no condition. -/
import Derived.Test.YtjhkeehfchkpaaaGreatYE1
import Derived.Test.YtjhkeehfchkpaaaGreatYPFacts
namespace Go.Proofs.YtjhkeehfchkpaaaGreat
open Go.ChangeShapes Go.WideShapes Go.ChangeAt Go.RowKit
theorem orbitOfPoly_inPlace : (Rows.fnExactOrbitOfPolyRow.inPlace == Tryz.prog.inPlace 9) = true := by as_aux_lemma => kernel_rfl
theorem orbitOfPoly_unfollowed : (Rows.fnExactOrbitOfPolyRow.unfollowed == Tryz.prog.unfollowed 9) = true := by as_aux_lemma => kernel_rfl
theorem orbitOfPoly_recurses : (Rows.fnExactOrbitOfPolyRow.recurses == Tryz.prog.recurses 9) = true := by as_aux_lemma => kernel_rfl
theorem orbitOfPoly_named : (Rows.fnExactOrbitOfPolyRow.named == Tryz.prog.varsNamed 9) = true := by as_aux_lemma => kernel_rfl
end Go.Proofs.YtjhkeehfchkpaaaGreat
