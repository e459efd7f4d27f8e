import Derived.Test.YteibeahceppedaaGreatDoorW22
import Derived.Test.YteibeahceppedaaGreatDoorW23
import Derived.Test.YteibeahceppedaaGreatDoorW8
set_option linter.unusedVariables false
set_option linter.unusedSimpArgs false
set_option linter.unusedVariables false
set_option linter.unusedSimpArgs false
set_option maxHeartbeats 8000000
set_option maxRecDepth 100000
namespace Go.Proofs.T
open Go.OM
section
attribute [local irreducible] Hg O St.wps aO iB Lv Ct Lp VL Option.bind aY sAt fD bK bW mkI fE gO bF aJ ite Dr
instance e21_:Ent E 21:=aX Tryz.func21
instance c21_ (c1:Gl01Cur) {r0:GProgram} {q0:Gl01Cur}:Con E 21 (lX c1=some (r0,q0)) [.ptr [.sl false 1 (List.map (vk .u8) c1.b),vi c1.i,vi c1.h]] [GProgram.enc true r0] [[.sl false 1 (List.map (vk .u8) q0.b),vi q0.i,vi q0.h]]:=by
 refine fW Tryz.func21 fun C q=>?_
 unfold lX
 repeat' first | refine And.intro ?_ ?_ | refine Prod.forall.2 ?_ | (intro _;try dsimp only) | refine fS ?_ | exact Z | refine S ?_
end
end Go.Proofs.T
