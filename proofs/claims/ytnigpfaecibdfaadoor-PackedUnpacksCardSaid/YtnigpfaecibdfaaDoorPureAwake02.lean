/-
  The law's own example answers.
-/
import Derived.Test.YtnigpfaecibdfaaDoorPxPk
namespace Go.Proofs.YtnigpfaecibdfaaDoor.Pure
open Go.RowKit Go.Proofs.YtnigpfaecibdfaaDoor.P Go.Proofs.YtnigpfaecibdfaaDoorW.PrintWords Go.Proofs.YtnigpfaecibdfaaDoorW.PrintLast Go.Proofs.YtnigpfaecibdfaaDoorW.PrintErr Go.Proofs.YtnigpfaecibdfaaDoorW.PrintMore
set_option linter.unusedVariables false
set_option linter.unusedSimpArgs false

theorem awake02_ev : Ev (fun k => geyserlaw02_awake.f k) true := by
  refine Ev.of (fun k => geyserlaw02_awake.mono k) (k := 200) ?_
  decide +kernel
end Go.Proofs.YtnigpfaecibdfaaDoor.Pure
