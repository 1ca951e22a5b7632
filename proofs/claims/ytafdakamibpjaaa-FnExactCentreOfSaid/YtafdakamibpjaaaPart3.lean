/- The walk of PartOfDegree of the program; no condition. -/
import Derived.Test.YtafdakamibpjaaaPart2
set_option linter.unusedVariables false
set_option linter.unusedSimpArgs false
namespace Go.Proofs.Ytafdakamibpjaaa
open Go.RowKit Go.Proofs.YtafdakamibpjaaaW.PrintWords
attribute [local go_sem] Later.cell Later.frozen Later.lt Later.lt_add Later.le Later.le_add Later.ne Later.ne' add_at

end Go.Proofs.Ytafdakamibpjaaa
