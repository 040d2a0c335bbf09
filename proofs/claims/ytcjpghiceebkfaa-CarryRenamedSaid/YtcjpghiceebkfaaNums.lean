/- Plain laws of the printed parts. -/
import Derived.Test.YtcjpghiceebkfaaP5
import Derived.Test.YtcjpghiceebkfaaPerm
namespace Go.Proofs.Ytcjpghiceebkfaa.P
open Go.RowKit Go.Proofs.YtcjpghiceebkfaaW.PrintWords Go.Proofs.YtcjpghiceebkfaaW.PrintLast Go.Proofs.YtcjpghiceebkfaaW.PrintMore
open XW
set_option linter.unusedSimpArgs false
set_option linter.unusedVariables false

theorem sane_at : fastilaw22_sane.f 20 = some true := by decide +kernel
end Go.Proofs.Ytcjpghiceebkfaa.P
