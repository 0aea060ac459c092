/- For every input the law FnExactConstants of the Go program returns true. No condition. -/
import Derived.Test.YtcbgagohjjdfeaaPFnExactConstantsx1
namespace Go.Proofs.Ytcbgagohjjdfeaa.Pure
open Go.RowKit Go.Proofs.Ytcbgagohjjdfeaa.PFnExactConstants Go.Proofs.YtcbgagohjjdfeaaW.PrintWords Go.Proofs.YtcbgagohjjdfeaaW.PrintLast

theorem FnExactConstants : laws_FnExactConstants.Pure := rfl

end Go.Proofs.Ytcbgagohjjdfeaa.Pure
