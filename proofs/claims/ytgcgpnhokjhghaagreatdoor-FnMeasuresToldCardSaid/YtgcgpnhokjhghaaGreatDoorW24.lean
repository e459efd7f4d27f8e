import Derived.Test.YtgcgpnhokjhghaaGreatDoorW1
import Derived.Test.YtgcgpnhokjhghaaGreatDoorW11
import Derived.Test.YtgcgpnhokjhghaaGreatDoorW15
import Derived.Test.YtgcgpnhokjhghaaGreatDoorW18
import Derived.Test.YtgcgpnhokjhghaaGreatDoorW2
import Derived.Test.YtgcgpnhokjhghaaGreatDoorW22
import Derived.Test.YtgcgpnhokjhghaaGreatDoorW23
import Derived.Test.YtgcgpnhokjhghaaGreatDoorW5
import Derived.Test.YtgcgpnhokjhghaaGreatDoorW6
set_option linter.unusedVariables false
set_option linter.unusedSimpArgs false
set_option linter.unusedVariables false
set_option linter.unusedSimpArgs false
set_option maxHeartbeats 8000000
set_option maxRecDepth 100000
namespace Go.Proofs.T
open Go.OM
section
attribute [local irreducible] Hg O St.wps aQ iB Lv Ct Lp VL Option.bind bD sAt gB bC cE mkI gK iZ bO aJ ite Dr
instance e3_:Ent E 3:=aZ Tryz.func3
instance c3_ (a0:List Int) {r0:Bool}:Con E 3 (eQ a0=some r0) [.val (.sl false 1 (List.map (vk .u8) a0))] [vb r0] []:=by
 refine iA Tryz.func3 fun C q=>?_
 unfold eQ
 repeat' first | refine And.intro ?_ ?_ | refine Prod.forall.2 ?_ | (intro _;try dsimp only) | refine gW ?_ | exact Z | refine eJ 7001 [2] [] (fun v=>[(2,.t (vb v))]) (fun _=>[]) ?_ | refine S ?_
theorem rC (a0:List Int) {r0:Bool} (h:eQ a0=some r0):Ok E 3 [.val (.sl false 1 (List.map (vk .u8) a0))] [vb r0] []:=Con.ok h
end
end Go.Proofs.T
