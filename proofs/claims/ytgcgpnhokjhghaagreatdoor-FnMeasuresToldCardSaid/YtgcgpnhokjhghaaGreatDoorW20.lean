import Derived.Test.YtgcgpnhokjhghaaGreatDoorW18
import Derived.Test.YtgcgpnhokjhghaaGreatDoorW19
set_option linter.unusedVariables false
set_option linter.unusedSimpArgs false
set_option linter.unusedVariables false
set_option linter.unusedSimpArgs false
set_option maxHeartbeats 8000000
set_option maxRecDepth 100000
namespace Go.Proofs.T
open Go.OM
section
attribute [local irreducible] Hg O St.wps aQ iB Lv Ct Lp VL Option.bind bD sAt gB bC cE mkI gK iZ bO aJ ite Dr
instance e37_:Ent E 37:=aZ Tryz.func37
instance c37_ (c1:Gl01Cur) {r0:GProgram} {q0:Gl01Cur}:Con E 37 (iK c1=some (r0,q0)) [.ptr [.sl false 1 (List.map (vk .u8) c1.b),vi c1.i,vi c1.h]] [GProgram.enc true r0] [[.sl false 1 (List.map (vk .u8) q0.b),vi q0.i,vi q0.h]]:=by
 refine iA Tryz.func37 fun C q=>?_
 unfold iK
 repeat' first | refine And.intro ?_ ?_ | refine Prod.forall.2 ?_ | (intro _;try dsimp only) | refine gW ?_ | exact Z | refine S ?_
end
end Go.Proofs.T
