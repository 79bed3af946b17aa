/- The rest of a law over one list without a slice among its results. -/
import Derived.Test.YtlkgojgmgdeieaaBase
import Derived.Test.YtlkgojgmgdeieaaGx3
import Derived.Test.YtlkgojgmgdeieaaGx5
namespace Go.Proofs.Ytlkgojgmgdeieaa.Pure
open Go.RowKit Go.Proofs.Ytlkgojgmgdeieaa.G Go.Proofs.YtlkgojgmgdeieaaW.PrintWords Go.Proofs.YtlkgojgmgdeieaaW.PrintLast

theorem same_end (l : List Int) (hl : l.length ≤ 35184372088832) : Ev (fun k => (laws_toIntS.f k l).bind fun t => (laws_eqIntS.f k l t).bind fun u => if u = true then some true else some false) true :=
  Ev.bind (toIntS_ev l hl) (Ev.bind (eqIntS_self l hl) (Ev.if_pos' rfl (Ev.now _)))

end Go.Proofs.Ytlkgojgmgdeieaa.Pure
