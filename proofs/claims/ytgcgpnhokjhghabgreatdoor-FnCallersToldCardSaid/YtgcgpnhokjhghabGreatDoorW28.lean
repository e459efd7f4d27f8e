import Derived.Test.YtgcgpnhokjhghabGreatDoorW27
set_option linter.unusedVariables false
set_option linter.unusedSimpArgs false
set_option linter.unusedVariables false
set_option linter.unusedSimpArgs false
set_option maxHeartbeats 8000000
set_option maxRecDepth 100000
namespace Go.Proofs.T
open Go.OM
section
attribute [local irreducible] Hg O St.wps aO iB Lv Ct Lp VL Option.bind aP sAt eK bN bO mkI eS fO bF aI ite Dr
instance e5_:Ent E 5:=aY Tryz.func5
instance c5_ (a0:List Int) {r0:GProgram} {r1:Int}:Con E 5 (jV a0=some (r0,r1)) [.val (.sl false 1 (List.map (vk .u8) a0))] [GProgram.enc true r0,vi r1] []:=by
 refine eZ Tryz.func5 fun C q=>?_;unfold jV;repeat' first | refine And.intro ?_ ?_ | refine Prod.forall.2 ?_ | (intro _;try dsimp only) | refine eY ?_ | exact Z | refine S ?_
end
end Go.Proofs.T
