import Derived.Test.YtgcgpnhokjhghaaGreatDoorW22
set_option linter.unusedVariables false
set_option linter.unusedSimpArgs false
set_option linter.unusedVariables false
set_option linter.unusedSimpArgs false
set_option maxHeartbeats 8000000
set_option maxRecDepth 100000
namespace Go.Proofs.T
open Go.OM
section
attribute [local irreducible] Hg O St.wps aQ iB Lv Ct Lp VL Option.bind bD sAt gB bC cE mkI gK iZ bO aJ ite Dr
instance e6_:Ent E 6:=aZ Tryz.func6
instance c6_ (a0:List Int) {r0:GProgram} {r1:Int}:Con E 6 (gU a0=some (r0,r1)) [.val (.sl false 1 (List.map (vk .u8) a0))] [GProgram.enc true r0,vi r1] []:=by
 refine iA Tryz.func6 fun C q=>?_
 unfold gU
 repeat' first | refine And.intro ?_ ?_ | refine Prod.forall.2 ?_ | (intro _;try dsimp only) | refine gW ?_ | exact Z | refine S ?_
end
end Go.Proofs.T
