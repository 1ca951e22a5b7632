/- Closed facts of the row of FnExactStabiliserOfPoly that are dear to the kernel; no condition. -/
import Derived.Test.YtjhkeehfchkpaaaGreatYPFacts
namespace Go.Proofs.YtjhkeehfchkpaaaGreat
open Go.ChangeShapes Go.WideShapes Go.ChangeAt Go.RowKit
theorem stabiliserOfPoly_inPlace : (Rows.fnExactStabiliserOfPolyRow.inPlace == Tryz.prog.inPlace 6) = true := by as_aux_lemma => kernel_rfl
theorem stabiliserOfPoly_unfollowed : (Rows.fnExactStabiliserOfPolyRow.unfollowed == Tryz.prog.unfollowed 6) = true := by as_aux_lemma => kernel_rfl
theorem stabiliserOfPoly_recurses : (Rows.fnExactStabiliserOfPolyRow.recurses == Tryz.prog.recurses 6) = true := by as_aux_lemma => kernel_rfl
theorem stabiliserOfPoly_named : (Rows.fnExactStabiliserOfPolyRow.named == Tryz.prog.varsNamed 6) = true := by as_aux_lemma => kernel_rfl
end Go.Proofs.YtjhkeehfchkpaaaGreat
