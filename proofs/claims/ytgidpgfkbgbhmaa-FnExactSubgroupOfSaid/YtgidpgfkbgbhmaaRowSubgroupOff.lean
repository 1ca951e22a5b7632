/- Closed facts of the row of FnExactSubgroupOf that are dear to the kernel; no condition. -/
import Derived.Test.YtgidpgfkbgbhmaaPFacts
namespace Go.Proofs.Ytgidpgfkbgbhmaa
open Go.ChangeShapes Go.WideShapes Go.ChangeAt Go.RowKit
theorem subgroupOf_inPlace : (Rows.fnExactSubgroupOfRow.inPlace == Try.prog.inPlace 8) = true := by as_aux_lemma => kernel_rfl
theorem subgroupOf_unfollowed : (Rows.fnExactSubgroupOfRow.unfollowed == Try.prog.unfollowed 8) = true := by as_aux_lemma => kernel_rfl
theorem subgroupOf_recurses : (Rows.fnExactSubgroupOfRow.recurses == Try.prog.recurses 8) = true := by as_aux_lemma => kernel_rfl
theorem subgroupOf_named : (Rows.fnExactSubgroupOfRow.named == Try.prog.varsNamed 8) = true := by as_aux_lemma => kernel_rfl
end Go.Proofs.Ytgidpgfkbgbhmaa
