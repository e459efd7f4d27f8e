import Derived.Test.YteibeahceppedaaGreatDoorW25
set_option linter.unusedVariables false
set_option linter.unusedSimpArgs false
set_option linter.unusedVariables false
set_option linter.unusedSimpArgs false
set_option maxHeartbeats 8000000
set_option maxRecDepth 100000
namespace Go.Proofs.T
open Go.OM
section
attribute [local irreducible] Hg O St.wps aO iB Lv Ct Lp VL Option.bind aY sAt fD bK bW mkI fE gO bF aJ ite Dr
instance e5_:Ent E 5:=aX Tryz.func5
instance c5_ (a0:List Int) {r0:GProgram} {r1:Int}:Con E 5 (iC a0=some (r0,r1)) [.val (.sl false 1 (List.map (vk .u8) a0))] [GProgram.enc false r0,vi r1] []:=by
 refine fW Tryz.func5 fun C q=>?_
 unfold iC
 repeat' first | refine And.intro ?_ ?_ | refine Prod.forall.2 ?_ | (intro _;try dsimp only) | refine fS ?_ | exact Z | refine S ?_
end
end Go.Proofs.T
