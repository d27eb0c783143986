/-
The law FnExactConstants answers true.
Conditions: It takes no argument; each constant that it asks for has the value that it names.
-/
import Derived.Test.YtfekocllfmajkaaPFnExactConstantsx1
namespace Go.Proofs.Ytfekocllfmajkaa.Pure
open Go.RowKit Go.Proofs.Ytfekocllfmajkaa.PFnExactConstants Go.Proofs.YtfekocllfmajkaaW.PrintWords Go.Proofs.YtfekocllfmajkaaW.PrintLast Go.Proofs.YtfekocllfmajkaaW.PrintMore
theorem FnExactConstants : laws_FnExactConstants.Pure := rfl
end Go.Proofs.Ytfekocllfmajkaa.Pure
