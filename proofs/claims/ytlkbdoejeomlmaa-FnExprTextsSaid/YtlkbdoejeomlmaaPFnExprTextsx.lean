/- Written by a program of this session out of Lean's print of the translation: what the calls of these Go functions come to, in plain Lean. No condition. -/
import Derived.Test.YtlkbdoejeomlmaaPFnExprTextsx0
import Derived.Test.YtlkbdoejeomlmaaPFnExprTextsx1
import Derived.Test.YtlkbdoejeomlmaaPFnExprTextsx2
import Derived.Test.YtlkbdoejeomlmaaPFnExprTextsx3
import Derived.Test.YtlkbdoejeomlmaaPFnExprTextsx4
import Derived.Test.YtlkbdoejeomlmaaPFnExprTextsx5
import Derived.Test.YtlkbdoejeomlmaaPFnExprTextsx6
import Derived.Test.YtlkbdoejeomlmaaPFnExprTextsx7
import Derived.Test.YtlkbdoejeomlmaaPFnExprTextsx8
import Derived.Test.YtlkbdoejeomlmaaPFnExprTextsx9
import Derived.Test.YtlkbdoejeomlmaaPFnExprTextsx10
namespace Go.Proofs.Ytlkbdoejeomlmaa.PFnExprTexts
open Go.RowKit Go.Proofs.YtlkbdoejeomlmaaW.PrintWords Go.Proofs.YtlkbdoejeomlmaaW.PrintLast Go.Proofs.YtlkbdoejeomlmaaW.PrintMore
attribute [local go_sem] max2_int min2_int max_two min_two max_three min_three max_four min_four   -- for this text's walks alone
set_option linter.unusedVariables false
set_option linter.unusedSimpArgs false

end Go.Proofs.Ytlkbdoejeomlmaa.PFnExprTexts
