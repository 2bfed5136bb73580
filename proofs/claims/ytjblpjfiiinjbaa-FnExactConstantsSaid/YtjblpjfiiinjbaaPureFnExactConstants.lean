/- FnExactConstants: the law answers true; no conditions. -/
import Derived.Test.YtjblpjfiiinjbaaPFnExactConstantsx1
namespace Go.Proofs.Ytjblpjfiiinjbaa.Pure
open Go.RowKit Go.Proofs.Ytjblpjfiiinjbaa.PFnExactConstants Go.Proofs.YtjblpjfiiinjbaaW.PrintWords Go.Proofs.YtjblpjfiiinjbaaW.PrintLast

theorem FnExactConstants : laws_FnExactConstants.Pure := rfl

end Go.Proofs.Ytjblpjfiiinjbaa.Pure
