/- Proves that the law FnExactConstants answers true; no condition. -/
import Derived.Test.YtcagkcecpofekaaPFnExactConstantsx1
namespace Go.Proofs.Ytcagkcecpofekaa.Pure
open Go.RowKit Go.Proofs.Ytcagkcecpofekaa.PFnExactConstants Go.Proofs.YtcagkcecpofekaaW.PrintWords Go.Proofs.YtcagkcecpofekaaW.PrintLast

theorem FnExactConstants : laws_FnExactConstants.Pure := by
  unfold laws_FnExactConstants.Pure laws_FnExactConstants.f
  rfl

end Go.Proofs.Ytcagkcecpofekaa.Pure
