/- slices.IndexFunc and slices.ContainsFunc of bytes, at whatever function value that answers as a plain function and writes nothing. -/
import Derived.Test.YthbdbgjggoobnaaDoorWWords
import Derived.Test.YthbdbgjggoobnaaDoorWLast
import Derived.Test.YthbdbgjggoobnaaDoorXMore
import Derived.Test.YthbdbgjggoobnaaDoorHandStr
import Derived.Shelf.Abstract
namespace Go.Proofs.YthbdbgjggoobnaaDoorX
open Go.RowKit Go.Proofs.YthbdbgjggoobnaaDoorW.PrintWords Go.Proofs.YthbdbgjggoobnaaDoorW.PrintLast Go.Proofs.YthbdbgjggoobnaaDoorW.PrintMore
set_option linter.unusedVariables false
end Go.Proofs.YthbdbgjggoobnaaDoorX
