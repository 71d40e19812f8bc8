/- Layer 5's examples hold. -/
import Derived.Test.YtjbpljcfogekhaaCoreC
import Derived.Test.YtjbpljcfogekhaaQxF15
namespace Go.Proofs.Ytjbpljcfogekhaa.Core
open Go.RowKit Go.Proofs.Ytjbpljcfogekhaa.Q Go.Proofs.YtjbpljcfogekhaaW.PrintWords Go.Proofs.YtjbpljcfogekhaaW.PrintLast Go.Proofs.YtjbpljcfogekhaaW.PrintMore

theorem awake05 : Ev (fun k => januslaw05_awake.f k) true :=
  Ev.of januslaw05_awake.mono (k := 30) (by decide +kernel)

end Go.Proofs.Ytjbpljcfogekhaa.Core
