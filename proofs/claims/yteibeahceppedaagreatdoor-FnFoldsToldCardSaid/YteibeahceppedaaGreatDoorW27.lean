import Derived.Test.YteibeahceppedaaGreatDoorW1
import Derived.Test.YteibeahceppedaaGreatDoorW14
import Derived.Test.YteibeahceppedaaGreatDoorW17
import Derived.Test.YteibeahceppedaaGreatDoorW18
import Derived.Test.YteibeahceppedaaGreatDoorW20
import Derived.Test.YteibeahceppedaaGreatDoorW25
import Derived.Test.YteibeahceppedaaGreatDoorW26
import Derived.Test.YteibeahceppedaaGreatDoorW7
set_option linter.unusedVariables false
set_option linter.unusedSimpArgs false
set_option linter.unusedVariables false
set_option linter.unusedSimpArgs false
set_option maxHeartbeats 8000000
set_option maxRecDepth 100000
namespace Go.Proofs.T
open Go.OM
section
attribute [local irreducible] Hg O St.wps aO iB Lv Ct Lp VL Option.bind aY sAt fD bK bW mkI fE gO bF aJ ite Dr
instance e3_:Ent E 3:=aX Tryz.func3
instance c3_ (a0:List Int) {r0:Bool}:Con E 3 (iD a0=some r0) [.val (.sl false 1 (List.map (vk .u8) a0))] [vb r0] []:=by
 refine fW Tryz.func3 fun C q=>?_
 unfold iD
 repeat' first | refine And.intro ?_ ?_ | refine Prod.forall.2 ?_ | (intro _;try dsimp only) | refine fS ?_ | exact Z | refine dP 7001 [2] [] (fun v=>[(2,.t (vb v))]) (fun _=>[]) ?_ | refine S ?_
theorem tY (a0:List Int) {r0:Bool} (h:iD a0=some r0):Ok E 3 [.val (.sl false 1 (List.map (vk .u8) a0))] [vb r0] []:=Con.ok h
end
end Go.Proofs.T
