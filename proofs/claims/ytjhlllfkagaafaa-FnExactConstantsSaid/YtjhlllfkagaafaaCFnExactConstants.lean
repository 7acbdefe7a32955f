/- What each function that the law FnExactConstants calls comes to. -/
import Derived.Test.YtjhlllfkagaafaaPFnExactConstantsx1
import Derived.Test.YtjhlllfkagaafaaMath
namespace Go.Proofs.Ytjhlllfkagaafaa.CFnExactConstants
open Go Go.RowKit Go.Proofs.Ytjhlllfkagaafaa.PFnExactConstants Go.Proofs.YtjhlllfkagaafaaW.PrintWords Go.Proofs.YtjhlllfkagaafaaW.PrintLast Go.Proofs.Ytjhlllfkagaafaa.Pl


end Go.Proofs.Ytjhlllfkagaafaa.CFnExactConstants
