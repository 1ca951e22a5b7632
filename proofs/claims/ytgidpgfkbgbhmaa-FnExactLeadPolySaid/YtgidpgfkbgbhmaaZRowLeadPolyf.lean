/- Closed facts of the row of FnExactLeadPoly that are dear to the kernel; no condition. -/
import Derived.Test.YtgidpgfkbgbhmaaZPFacts
namespace Go.Proofs.Ytgidpgfkbgbhmaa
open Go.ChangeShapes Go.WideShapes Go.ChangeAt Go.RowKit
theorem leadPoly_inPlace : (Rows.fnExactLeadPolyRow.inPlace == Try.prog.inPlace 10) = true := by as_aux_lemma => kernel_rfl
theorem leadPoly_unfollowed : (Rows.fnExactLeadPolyRow.unfollowed == Try.prog.unfollowed 10) = true := by as_aux_lemma => kernel_rfl
theorem leadPoly_recurses : (Rows.fnExactLeadPolyRow.recurses == Try.prog.recurses 10) = true := by as_aux_lemma => kernel_rfl
theorem leadPoly_named : (Rows.fnExactLeadPolyRow.named == Try.prog.varsNamed 10) = true := by as_aux_lemma => kernel_rfl
end Go.Proofs.Ytgidpgfkbgbhmaa
