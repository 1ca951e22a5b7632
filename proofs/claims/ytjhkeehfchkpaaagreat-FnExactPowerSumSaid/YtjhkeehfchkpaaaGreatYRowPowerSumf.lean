/- Closed facts of the row of FnExactPowerSum that are dear to the kernel; no condition. -/
import Derived.Test.YtjhkeehfchkpaaaGreatYPFacts
namespace Go.Proofs.YtjhkeehfchkpaaaGreat
open Go.ChangeShapes Go.WideShapes Go.ChangeAt Go.RowKit
theorem powerSum_inPlace : (Rows.fnExactPowerSumRow.inPlace == Tryz.prog.inPlace 12) = true := by as_aux_lemma => kernel_rfl
theorem powerSum_unfollowed : (Rows.fnExactPowerSumRow.unfollowed == Tryz.prog.unfollowed 12) = true := by as_aux_lemma => kernel_rfl
theorem powerSum_recurses : (Rows.fnExactPowerSumRow.recurses == Tryz.prog.recurses 12) = true := by as_aux_lemma => kernel_rfl
theorem powerSum_named : (Rows.fnExactPowerSumRow.named == Tryz.prog.varsNamed 12) = true := by as_aux_lemma => kernel_rfl
end Go.Proofs.YtjhkeehfchkpaaaGreat
