/- The pure statement of the law ExprKinds, proved. No conditions. -/
import Derived.Test.YtpmecpmankpcbaaPKdExprKinds
import Derived.Test.YtpmecpmankpcbaaEK8
namespace Go.Proofs.Ytpmecpmankpcbaa.Pure
open Go.RowKit Go.Proofs.YtpmecpmankpcbaaW.PrintWords Go.Proofs.YtpmecpmankpcbaaW.PrintLast Go.Proofs.Ytpmecpmankpcbaa.PK

theorem ExprKinds : antipodelaw19_ExprKinds.Pure := Go.Proofs.Ytpmecpmankpcbaa.EK.exprKinds

end Go.Proofs.Ytpmecpmankpcbaa.Pure
